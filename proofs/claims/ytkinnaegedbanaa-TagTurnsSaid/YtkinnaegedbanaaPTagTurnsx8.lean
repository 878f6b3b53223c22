-- out of a turned copy of the print, by a program of this session; Lean checks it
import Derived.Test.YtkinnaegedbanaaPTagTurnsx0
import Derived.Test.YtkinnaegedbanaaPTagTurnsx3
import Derived.Test.YtkinnaegedbanaaPTagTurnsx4
import Derived.Test.YtkinnaegedbanaaPTagTurnsx5
import Derived.Test.YtkinnaegedbanaaPTagTurnsx6
import Derived.Test.YtkinnaegedbanaaPTagTurnsx7
namespace Go.Proofs.Ytkinnaegedbanaa.PTagTurns
open Go.RowKit Go.Proofs.YtkinnaegedbanaaW.PrintWords Go.Proofs.YtkinnaegedbanaaW.PrintLast Go.Proofs.YtkinnaegedbanaaW.PrintMore
attribute [local go_sem] max2_int min2_int max_two min_two max_three min_three max_four min_four   -- for this text's walks alone
set_option linter.unusedVariables false
set_option linter.unusedSimpArgs false

attribute [local go_sem] isSome_put_
/-! ### standstilllaw07_TagTurns: function 5 (by hand) -/
def standstilllaw07_TagTurns.tail (k : Nat) (words : List (List Int)) (at_ : Int) (q : List Int) (n : Int) (b : Int × List Int × Int × Int) : Option Bool :=
  if n < 0 ∨ 1000000 < n then (if b.2.2.2 = 2 ∧ b.2.2.1 = 0 then (standstillref07_SameWheel.f k b.1 b.2.1 0 []).bind fun s => if s = true then standstilllaw07_awake.f k else none else none)
  else (standstillref07_Roll.f k words at_ q n).bind fun x => if b.2.2.2 = (if x.2.2.2 = true then 0 else 4) ∧ b.2.2.1 = x.2.2.1 then (standstillref07_SameWheel.f k b.1 b.2.1 x.1 x.2.1).bind fun s => if s = true then standstilllaw07_awake.f k else none else none
def standstilllaw07_TagTurns.body (k : Nat) (words : List (List Int)) (at_ : Int) (q : List Int) (n : Int) (a : Int × List Int × Int) (b : Int × List Int × Int × Int) (v : Bool) : Option Bool :=
  if v = true then
    (if (q.length : Int) = 0 then (if a.2.2 = 5 then (standstillref07_SameWheel.f k a.1 a.2.1 0 []).bind fun s => if s = true then standstilllaw07_TagTurns.tail k words at_ q n b else none else none)
    else (standstillref07_Turn.f words at_ q).bind fun x => if a.2.2 = (if x.2.2 = true then 0 else 4) then (standstillref07_SameWheel.f k a.1 a.2.1 x.1 x.2.1).bind fun s => if s = true then standstilllaw07_TagTurns.tail k words at_ q n b else none else none)
  else (if a.2.2 = 1 ∧ b.2.2.2 = 1 ∧ b.2.2.1 = 0 then (standstillref07_SameWheel.f k a.1 a.2.1 0 []).bind fun s1 => (standstillref07_SameWheel.f k b.1 b.2.1 0 []).bind fun s2 => if s1 = true ∧ s2 = true then standstilllaw07_awake.f k else none else none)
def standstilllaw07_TagTurns.f (k : Nat) (words : List (List Int)) (at_ : Int) (q : List Int) (n : Int) : Option Bool :=
  (standstilllaw07_wideCyclic.f k words at_ q).bind fun wd => if wd = true ∨ (200 < n ∧ n ≤ 1000000) then standstilllaw07_awake.f k else
    (tag_ValidCyclic.f k words).bind fun v1 => (standstillref07_ValidCyclic.f k words).bind fun v2 => if v1 = v2 then
      (tag_FitsCyclic.f k words at_ q).bind fun f1 => (standstillref07_FitsCyclic.f k words at_ q).bind fun f2 => if f1 = f2 then
        (tag_Turn.f k words at_ q).bind fun a => (tag_Roll.f k words at_ q n).bind fun b => standstilllaw07_TagTurns.body k words at_ q n a b f2
      else none
    else none
theorem standstilllaw07_TagTurns.mono : ∀ a0 a1 a2 a3 k, LeO (standstilllaw07_TagTurns.f k a0 a1 a2 a3) (standstilllaw07_TagTurns.f (k + 1) a0 a1 a2 a3) := by
  intro a0 a1 a2 a3 k
  unfold standstilllaw07_TagTurns.f standstilllaw07_TagTurns.body standstilllaw07_TagTurns.tail
  repeat' first
    | (with_reducible exact standstilllaw07_awake.mono _)
    | (with_reducible exact standstilllaw07_wideCyclic.mono _ _ _ _)
    | (with_reducible exact tag_ValidCyclic.mono _ _)
    | (with_reducible exact standstillref07_ValidCyclic.mono _ _)
    | (with_reducible exact tag_FitsCyclic.mono _ _ _ _)
    | (with_reducible exact standstillref07_FitsCyclic.mono _ _ _ _)
    | (with_reducible exact tag_Turn.mono _ _ _ _)
    | (with_reducible exact tag_Roll.mono _ _ _ _ _)
    | (with_reducible exact standstillref07_SameWheel.mono _ _ _ _ _)
    | (with_reducible exact standstillref07_Roll.mono _ _ _ _ _)
    | (with_reducible exact LeO.refl _)
    | (with_reducible refine LeO.ite ?_ ?_)
    | (with_reducible refine LeO.bind ?_ (fun _ => ?_))
theorem size_two_ (b : Bool) : standstilllaw07_size.f b = some (if b = true then 0 else 4) := by cases b <;> rfl
set_option maxHeartbeats 8000000 in
set_option maxRecDepth 100000 in
theorem standstilllaw07_TagTurns.calls (k : Nat) (A0_0 : Option Addr) (c0_0 : Nat) (l0_0 : List (List Int)) (a1_0 : Int) (A1_1 : Option Addr) (c1_1 : Nat) (l1_1 : List Int) (a2 : Int) (r : Bool) (w : World) (hr0_0 : Kd.C (Kd.slice 3 (Kd.int .i64)) w A0_0 l0_0.length l0_0) (hc0_0 : l0_0.length ≤ c0_0) (hr1_1 : Kd.C (Kd.int .i64) w A1_1 l1_1.length l1_1) (hc1_1 : l1_1.length ≤ c1_1) (h : standstilllaw07_TagTurns.f k l0_0 a1_0 l1_1 a2 = some r) :
    Calls Try.prog 5 #[.agg #[.slice A0_0 l0_0.length c0_0], .agg #[.int .i64 a1_0, .slice A1_1 l1_1.length c1_1], .int .i64 a2] w fun e w' => e = .returned (.bool r) ∧ Below w.heap.size w w' := by
  unfold standstilllaw07_TagTurns.f at h
  obtain ⟨wd, hwd, h1⟩ := Option.bind_eq_some_iff.1 h
  have HC := Aside0.mk hc0_0
  have HD := Aside0.mk hc1_1
  have HWD := Aside0.mk (fun W hW hV => standstilllaw07_wideCyclic.calls k A0_0 c0_0 l0_0 a1_0 A1_1 c1_1 l1_1 wd W hW HC.out hV HD.out hwd)
  have HAW := Aside0.mk (fun W hW => standstilllaw07_awake.calls k r W hW)
  have H := Aside0.mk h1
  have HR0 := Aside0.mk (Kd.C_alloc (Kd.C_alloc hr0_0 (.cells #[.slice A0_0 l0_0.length c0_0] 45)) (.cells #[.int .i64 a1_0, .slice A1_1 l1_1.length c1_1] 47))
  have HQ0 := Aside0.mk (Kd.C_alloc (Kd.C_alloc hr1_1 (.cells #[.slice A0_0 l0_0.length c0_0] 45)) (.cells #[.int .i64 a1_0, .slice A1_1 l1_1.length c1_1] 47))
  have HB0 := Aside0.mk (below_alloc (below_alloc (Below.refl w.heap.size w) (.cells #[.slice A0_0 l0_0.length c0_0] 45)) (.cells #[.int .i64 a1_0, .slice A1_1 l1_1.length c1_1] 47))
  have HC0 := Aside0.mk (blk_below (blk_new w (.cells #[.slice A0_0 l0_0.length c0_0] 45)) (below_alloc (Below.refl (w.alloc (.cells #[.slice A0_0 l0_0.length c0_0] 45)).heap.size (w.alloc (.cells #[.slice A0_0 l0_0.length c0_0] 45))) (.cells #[.int .i64 a1_0, .slice A1_1 l1_1.length c1_1] 47)))
  have HW0 := Aside0.mk (blk_new (w.alloc (.cells #[.slice A0_0 l0_0.length c0_0] 45)) (.cells #[.int .i64 a1_0, .slice A1_1 l1_1.length c1_1] 47))
  clear h h1 hwd hr0_0 hc0_0 hr1_1 hc1_1
  go_enter Try.func5, Try.ntmps5
  go_wp2_with fail
  obtain ⟨w0, hW0⟩ : ∃ W : World, (w.alloc (.cells #[.slice A0_0 l0_0.length c0_0] 45)).alloc (.cells #[.int .i64 a1_0, .slice A1_1 l1_1.length c1_1] 47) = W := ⟨_, rfl⟩
  have hsz : (w.alloc (.cells #[.slice A0_0 l0_0.length c0_0] 45)).heap.size = w.heap.size + 1 := by simp
  rw [hsz] at HW0
  rw [hW0] at HR0 HQ0 HB0 HC0 HW0 ⊢
  obtain ⟨z0, hz0⟩ : ∃ z, w.heap.size = z := ⟨_, rfl⟩
  obtain ⟨z1, hz1⟩ : ∃ z, w.heap.size + 1 = z := ⟨_, rfl⟩
  rw [hz1] at HW0 ⊢
  rw [hz0] at HC0 ⊢
  clear hsz hz0 hz1 hW0
  refine (HWD.out w0 HR0.out HQ0.out).mono ?_
  rintro e w1 ⟨rfl, hB1⟩
  clear HWD
  have HB1 := Aside0.mk (below_step HB0.out hB1)
  have HR1 := Aside0.mk (Kd.C_below HR0.out hB1)
  have HQ1 := Aside0.mk (Kd.C_below HQ0.out hB1)
  have HC1 := Aside0.mk (blk_below HC0.out hB1)
  have HW1 := Aside0.mk (blk_below HW0.out hB1)
  clear HB0 HR0 HQ0 HC0 HW0
  clear hB1
  by_cases kw : wd = true ∨ (200 < a2 ∧ a2 ≤ 1000000)
  · have h := H.out
    clear H
    rw [if_pos kw] at h
    have H := Aside0.mk h
    clear h
    cases wd with
    | true =>
      clear kw
      go_wp2_with fail
      refine (HAW.out _ H.out).mono ?_
      rintro e w9 ⟨rfl, hB9⟩
      go_wp2
      go_ret
      exact ⟨rfl, below_step HB1.out hB9⟩
    | false =>
      have k1 : 200 < a2 := (kw.resolve_left (by simp)).1
      have k2 : a2 ≤ 1000000 := (kw.resolve_left (by simp)).2
      have k1a : decide (200 < a2) = true := decide_eq_true k1
      have k2a : decide (a2 ≤ 1000000) = true := decide_eq_true k2
      clear kw
      replace k1 := eq_true k1
      replace k2 := eq_true k2
      go_wp2_with fail
      refine (HAW.out _ H.out).mono ?_
      rintro e w9 ⟨rfl, hB9⟩
      go_wp2
      go_ret
      exact ⟨rfl, below_step HB1.out hB9⟩
  have h := H.out
  clear H
  rw [if_neg kw] at h
  obtain rfl : wd = false := by cases wd; rfl; exact absurd (Or.inl rfl) kw
  have KW := Aside0.mk (show ¬ (200 < a2 ∧ a2 ≤ 1000000) from fun h => kw (Or.inr h))
  obtain ⟨v1, hv1, h2⟩ := Option.bind_eq_some_iff.1 h
  obtain ⟨v2, hv2, h3⟩ := Option.bind_eq_some_iff.1 h2
  by_cases kv : v1 = v2
  rotate_left
  · rw [if_neg kv] at h3
    cases h3
  rw [if_pos kv] at h3
  subst kv
  obtain ⟨f1, hf1, h4⟩ := Option.bind_eq_some_iff.1 h3
  obtain ⟨f2, hf2, h5⟩ := Option.bind_eq_some_iff.1 h4
  by_cases kf : f1 = f2
  rotate_left
  · rw [if_neg kf] at h5
    cases h5
  rw [if_pos kf] at h5
  subst kf
  obtain ⟨⟨ra1, ra2, ra3⟩, ha, h6⟩ := Option.bind_eq_some_iff.1 h5
  obtain ⟨⟨rb1, rb2, rb3, rb4⟩, hb, h7⟩ := Option.bind_eq_some_iff.1 h6
  have HV1 := Aside0.mk (fun W hW => tag_ValidCyclic.calls k A0_0 c0_0 l0_0 v1 W hW HC.out hv1)
  have HV2 := Aside0.mk (fun W hW => standstillref07_ValidCyclic.calls k A0_0 c0_0 l0_0 v1 W hW HC.out hv2)
  have HF1 := Aside0.mk (fun W hW hV => tag_FitsCyclic.calls k A0_0 c0_0 l0_0 a1_0 A1_1 c1_1 l1_1 f1 W hW HC.out hV HD.out hf1)
  have HF2 := Aside0.mk (fun W hW hV => standstillref07_FitsCyclic.calls k A0_0 c0_0 l0_0 a1_0 A1_1 c1_1 l1_1 f1 W hW HC.out hV HD.out hf2)
  have HTA := Aside0.mk (fun W hW hV => tag_Turn.calls k A0_0 c0_0 l0_0 a1_0 A1_1 c1_1 l1_1 ra1 ra2 ra3 W hW HC.out hV HD.out ha)
  have HTB := Aside0.mk (fun W hW hV => tag_Roll.calls k A0_0 c0_0 l0_0 a1_0 A1_1 c1_1 l1_1 a2 rb1 rb2 rb3 rb4 W hW HC.out hV HD.out hb)
  have H := Aside0.mk h7
  clear h h2 h3 h4 h5 h6 h7 hv1 hv2 hf1 hf2 ha hb kw
  by_cases kA : a2 ≤ 200
  · skip
    have kAb : (200 < a2) = False := eq_false (by omega)
    have kAc : decide (200 < a2) = false := decide_eq_false (by omega)
    have KA := Aside0.mk kA
    clear kA
    go_wp2_with fail
    have hs0 := (blk_cell HC1.out 0).trans rfl
    have hs1 := (blk_cell HW1.out 0).trans rfl
    have hs2 := (blk_cell HW1.out 1).trans rfl
    have HR1d := Aside0.mk (Kd.C_below HR1.out (show Below w1.heap.size w1 w1.drew from bk_ (Below.refl _ _)))
    have hvv : (v1 != v1) = false := by simp
    have hff : (f1 != f1) = false := by simp
    refine start_ (n := 14) (S := fun w' => w'.cell? ⟨z0, 0, none⟩ = some (.slice A0_0 l0_0.length c0_0) ∧ w'.cell? ⟨z1, 0, none⟩ = some (.int .i64 a1_0) ∧ w'.cell? ⟨z1, 1, none⟩ = some (.slice A1_1 l1_1.length c1_1)) (ds := []) #[false, false, false, false, false, false, false, false, false, false, false, false, false, false] (by kernel_rfl) rfl rfl ⟨hs0, hs1, hs2⟩ (fun hHeld => ?_)
    refine take_ (i := 0) (N := some 30) (v := ?_) (a' := ?_) #[true, false, false, false, false, false, false, false, false, false, false, false, false, false] rfl rfl (by kernel_rfl) (fun _ _ _ h => h) (Or.inl ⟨by rfl, ?_⟩) hHeld ?_ ?_
    rotate_left
    · rintro w' ⟨s0, s1, s2⟩
      go_simp
      with_reducible rfl
    rotate_left
    · simp only [Act.put, List.setIfInBounds_toArray, List.set_cons_zero, List.set_cons_succ, i64_w, i32_w]
      rfl
    refine take_ (i := 2) (N := some 32) (v := ?_) (a' := ?_) #[true, false, true, false, false, false, false, false, false, false, false, false, false, false] rfl rfl (by kernel_rfl) (fun _ _ _ h => h) (Or.inl ⟨by rfl, ?_⟩) hHeld ?_ ?_
    rotate_left
    · rintro w' ⟨s0, s1, s2⟩
      go_simp
      with_reducible rfl
    rotate_left
    · simp only [Act.put, List.setIfInBounds_toArray, List.set_cons_zero, List.set_cons_succ, i64_w, i32_w]
      rfl
    refine one_ (i := 1) (N := some 31) #[true, true, true, false, false, false, false, false, false, false, false, false, false, false] rfl rfl (by kernel_rfl) (by decide) (fun K hK => ?_)
    refine goes_ Try.func24 (by kernel_rfl) rfl #[.agg #[.slice A0_0 l0_0.length c0_0]] (by rfl) rfl rfl (by simp only [List.map_toArray, List.map_cons, List.map_nil]; rfl) ?_
    with_reducible refine (HV1.out _ HR1d.out).mono ?_
    rintro e w2 ⟨rfl, hB2⟩
    refine ⟨_, rfl, ?_⟩
    have HE2 := Aside0.mk (below_step (bk_ (Below.refl w1.heap.size w1)) hB2)
    clear hB2
    have HR2 := Aside0.mk (Kd.C_below HR1.out HE2.out)
    have HQ2 := Aside0.mk (Kd.C_below HQ1.out HE2.out)
    refine hK.out _ _ ⟨(lf_ HE2.out hs0), (lf_ HE2.out hs1), (lf_ HE2.out hs2)⟩ (fun hHeld => ?_)
    clear hK K
    refine norm_ (a' := ?_) ?_ ?_
    rotate_left
    · show Act.put _ (some 31) _ = _
      simp only [Act.put, List.setIfInBounds_toArray, List.set_cons_zero, List.set_cons_succ, i64_w, i32_w]
      rfl
    refine one_ (i := 3) (N := some 33) #[true, true, true, true, false, false, false, false, false, false, false, false, false, false] rfl rfl (by kernel_rfl) (by decide) (fun K hK => ?_)
    refine goes_ Try.func25 (by kernel_rfl) rfl #[.agg #[.slice A0_0 l0_0.length c0_0]] (by rfl) rfl rfl (by simp only [List.map_toArray, List.map_cons, List.map_nil]; rfl) ?_
    with_reducible refine (HV2.out _ HR2.out).mono ?_
    rintro e w3 ⟨rfl, hB3⟩
    refine ⟨_, rfl, ?_⟩
    have HE3 := Aside0.mk (below_step HE2.out hB3)
    clear hB3
    have HR3 := Aside0.mk (Kd.C_below HR1.out HE3.out)
    have HQ3 := Aside0.mk (Kd.C_below HQ1.out HE3.out)
    refine hK.out _ _ ⟨(lf_ HE3.out hs0), (lf_ HE3.out hs1), (lf_ HE3.out hs2)⟩ (fun hHeld => ?_)
    clear hK K
    refine norm_ (a' := ?_) ?_ ?_
    rotate_left
    · show Act.put _ (some 33) _ = _
      simp only [Act.put, List.setIfInBounds_toArray, List.set_cons_zero, List.set_cons_succ, i64_w, i32_w]
      rfl
    refine pure_ (i := 4) (N := some 34) (v := ?_) (a' := ?_) #[true, true, true, true, true, false, false, false, false, false, false, false, false, false] rfl rfl (by kernel_rfl) (fun _ _ _ h => h) (Or.inl ⟨by rfl, ?_⟩) ?_ ?_
    rotate_left
    · intro w'
      go_simp
      with_reducible rfl
    rotate_left
    · simp only [Act.put, List.setIfInBounds_toArray, List.set_cons_zero, List.set_cons_succ, i64_w, i32_w]
      rfl
    refine pure_ (i := 5) (N := some 35) (v := ?_) (a' := ?_) #[true, true, true, true, true, true, false, false, false, false, false, false, false, false] rfl rfl (by kernel_rfl) (fun _ _ _ h => h) (Or.inl ⟨by rfl, ?_⟩) ?_ ?_
    rotate_left
    · intro w'
      go_simp
      with_reducible rfl
    rotate_left
    · simp only [Act.put, List.setIfInBounds_toArray, List.set_cons_zero, List.set_cons_succ, i64_w, i32_w]
      rfl
    refine take_ (i := 6) (N := some 36) (v := ?_) (a' := ?_) #[true, true, true, true, true, true, true, false, false, false, false, false, false, false] rfl rfl (by kernel_rfl) (fun _ _ _ h => h) (Or.inl ⟨by rfl, ?_⟩) hHeld ?_ ?_
    rotate_left
    · rintro w' ⟨s0, s1, s2⟩
      go_simp
      with_reducible rfl
    rotate_left
    · simp only [Act.put, List.setIfInBounds_toArray, List.set_cons_zero, List.set_cons_succ, i64_w, i32_w]
      rfl
    refine take_ (i := 7) (N := some 37) (v := ?_) (a' := ?_) #[true, true, true, true, true, true, true, true, false, false, false, false, false, false] rfl rfl (by kernel_rfl) (fun _ _ _ h => h) (Or.inl ⟨by rfl, ?_⟩) hHeld ?_ ?_
    rotate_left
    · rintro w' ⟨s0, s1, s2⟩
      go_simp
      with_reducible rfl
    rotate_left
    · simp only [Act.put, List.setIfInBounds_toArray, List.set_cons_zero, List.set_cons_succ, i64_w, i32_w]
      rfl
    refine take_ (i := 9) (N := some 39) (v := ?_) (a' := ?_) #[true, true, true, true, true, true, true, true, false, true, false, false, false, false] rfl rfl (by kernel_rfl) (fun _ _ _ h => h) (Or.inl ⟨by rfl, ?_⟩) hHeld ?_ ?_
    rotate_left
    · rintro w' ⟨s0, s1, s2⟩
      go_simp
      with_reducible rfl
    rotate_left
    · simp only [Act.put, List.setIfInBounds_toArray, List.set_cons_zero, List.set_cons_succ, i64_w, i32_w]
      rfl
    refine take_ (i := 10) (N := some 40) (v := ?_) (a' := ?_) #[true, true, true, true, true, true, true, true, false, true, true, false, false, false] rfl rfl (by kernel_rfl) (fun _ _ _ h => h) (Or.inl ⟨by rfl, ?_⟩) hHeld ?_ ?_
    rotate_left
    · rintro w' ⟨s0, s1, s2⟩
      go_simp
      with_reducible rfl
    rotate_left
    · simp only [Act.put, List.setIfInBounds_toArray, List.set_cons_zero, List.set_cons_succ, i64_w, i32_w]
      rfl
    refine one_ (i := 8) (N := some 38) #[true, true, true, true, true, true, true, true, true, true, true, false, false, false] rfl rfl (by kernel_rfl) (by decide) (fun K hK => ?_)
    refine goes_ Try.func26 (by kernel_rfl) rfl #[.agg #[.slice A0_0 l0_0.length c0_0], .agg #[.int .i64 a1_0, .slice A1_1 l1_1.length c1_1]] (by rfl) rfl rfl (by simp only [List.map_toArray, List.map_cons, List.map_nil]; rfl) ?_
    with_reducible refine (HF1.out _ HR3.out HQ3.out).mono ?_
    rintro e w4 ⟨rfl, hB4⟩
    refine ⟨_, rfl, ?_⟩
    have HE4 := Aside0.mk (below_step HE3.out hB4)
    clear hB4
    have HR4 := Aside0.mk (Kd.C_below HR1.out HE4.out)
    have HQ4 := Aside0.mk (Kd.C_below HQ1.out HE4.out)
    refine hK.out _ _ ⟨(lf_ HE4.out hs0), (lf_ HE4.out hs1), (lf_ HE4.out hs2)⟩ (fun hHeld => ?_)
    clear hK K
    refine norm_ (a' := ?_) ?_ ?_
    rotate_left
    · show Act.put _ (some 38) _ = _
      simp only [Act.put, List.setIfInBounds_toArray, List.set_cons_zero, List.set_cons_succ, i64_w, i32_w]
      rfl
    refine one_ (i := 11) (N := some 41) #[true, true, true, true, true, true, true, true, true, true, true, true, false, false] rfl rfl (by kernel_rfl) (by decide) (fun K hK => ?_)
    refine goes_ Try.func27 (by kernel_rfl) rfl #[.agg #[.slice A0_0 l0_0.length c0_0], .agg #[.int .i64 a1_0, .slice A1_1 l1_1.length c1_1]] (by rfl) rfl rfl (by simp only [List.map_toArray, List.map_cons, List.map_nil]; rfl) ?_
    with_reducible refine (HF2.out _ HR4.out HQ4.out).mono ?_
    rintro e w5 ⟨rfl, hB5⟩
    refine ⟨_, rfl, ?_⟩
    have HE5 := Aside0.mk (below_step HE4.out hB5)
    clear hB5
    have HR5 := Aside0.mk (Kd.C_below HR1.out HE5.out)
    have HQ5 := Aside0.mk (Kd.C_below HQ1.out HE5.out)
    refine hK.out _ _ ⟨(lf_ HE5.out hs0), (lf_ HE5.out hs1), (lf_ HE5.out hs2)⟩ (fun hHeld => ?_)
    clear hK K
    refine norm_ (a' := ?_) ?_ ?_
    rotate_left
    · show Act.put _ (some 41) _ = _
      simp only [Act.put, List.setIfInBounds_toArray, List.set_cons_zero, List.set_cons_succ, i64_w, i32_w]
      rfl
    refine pure_ (i := 12) (N := some 42) (v := ?_) (a' := ?_) #[true, true, true, true, true, true, true, true, true, true, true, true, true, false] rfl rfl (by kernel_rfl) (fun _ _ _ h => h) (Or.inl ⟨by rfl, ?_⟩) ?_ ?_
    rotate_left
    · intro w'
      go_simp
      with_reducible rfl
    rotate_left
    · simp only [Act.put, List.setIfInBounds_toArray, List.set_cons_zero, List.set_cons_succ, i64_w, i32_w]
      rfl
    refine pure_ (i := 13) (N := some 43) (v := ?_) (a' := ?_) #[true, true, true, true, true, true, true, true, true, true, true, true, true, true] rfl rfl (by kernel_rfl) (fun _ _ _ h => h) (Or.inl ⟨by rfl, ?_⟩) ?_ ?_
    rotate_left
    · intro w'
      go_simp
      with_reducible rfl
    rotate_left
    · simp only [Act.put, List.setIfInBounds_toArray, List.set_cons_zero, List.set_cons_succ, i64_w, i32_w]
      rfl
    refine done_ (by kernel_rfl) ?_
    have HB5 := Aside0.mk (below_step HB1.out HE5.out)
    have HC5 := Aside0.mk (blk_below HC1.out HE5.out)
    have HW5 := Aside0.mk (blk_below HW1.out HE5.out)
    clear hvv hff hs0 hs1 hs2 HB1 HC1 HW1 HR1 HQ1 HR1d HE2 HE3 HE4 HE5 HR2 HR3 HR4 HQ2 HQ3 HQ4 HV1 HV2 HF1 kAb kAc
    have hzHC5_0 := (blk_cell HC5.out 0).trans rfl
    have hzHW5_0 := (blk_cell HW5.out 0).trans rfl
    have hzHW5_1 := (blk_cell HW5.out 1).trans rfl
    go_wp2_with fail
    refine (HTA.out _ HR5.out HQ5.out).mono ?_
    rintro e w6 ⟨v6, rfl, ho6, hB6⟩
    obtain ⟨A6, c6, rfl⟩ := Kd.R_slice ho6
    have HAq6 := Aside0.mk (Kd.R_reads' ho6).2.2
    have HAc := Aside0.mk (Kd.R_reads' ho6).2.1
    clear ho6
    clear hzHC5_0 hzHW5_0 hzHW5_1
    have HB6 := Aside0.mk (below_step HB5.out hB6)
    have HR6 := Aside0.mk (Kd.C_below HR5.out hB6)
    have HQ6 := Aside0.mk (Kd.C_below HQ5.out hB6)
    have HC6 := Aside0.mk (blk_below HC5.out hB6)
    have HW6 := Aside0.mk (blk_below HW5.out hB6)
    clear HB5 HR5 HQ5 HC5 HW5
    clear hB6
    have hzHC6_0 := (blk_cell HC6.out 0).trans rfl
    have hzHW6_0 := (blk_cell HW6.out 0).trans rfl
    have hzHW6_1 := (blk_cell HW6.out 1).trans rfl
    clear hzHC6_0 hzHW6_0 hzHW6_1
    have hB7 := (below_alloc (Below.refl w6.heap.size w6) (.cells #[.int .i64 ra1, .slice A6 ra2.length c6] 47))
    have HA7 := Aside0.mk (blk_new w6 (.cells #[.int .i64 ra1, .slice A6 ra2.length c6] 47))
    have HB7 := Aside0.mk (below_step HB6.out hB7)
    have HR7 := Aside0.mk (Kd.C_below HR6.out hB7)
    have HQ7 := Aside0.mk (Kd.C_below HQ6.out hB7)
    have HC7 := Aside0.mk (blk_below HC6.out hB7)
    have HW7 := Aside0.mk (blk_below HW6.out hB7)
    have HAq7 := Aside0.mk (Kd.C_below HAq6.out hB7)
    clear hB7 HB6 HR6 HQ6 HC6 HW6 HAq6
    have hzHC7_0 := (blk_cell HC7.out 0).trans rfl
    have hzHW7_0 := (blk_cell HW7.out 0).trans rfl
    have hzHW7_1 := (blk_cell HW7.out 1).trans rfl
    go_wp2_with fail
    clear hzHC7_0 hzHW7_0 hzHW7_1
    obtain ⟨w7, hW7⟩ : ∃ W : World, (w6.alloc (.cells #[.int .i64 ra1, .slice A6 ra2.length c6] 47)) = W := ⟨_, rfl⟩
    rw [hW7] at HB7 HR7 HQ7 HC7 HW7 HAq7 HA7 ⊢
    obtain ⟨za, hza⟩ : ∃ z, w6.heap.size = z := ⟨_, rfl⟩
    rw [hza] at HA7 ⊢
    clear hW7 hza 
    refine (HTB.out _ HR7.out HQ7.out).mono ?_
    rintro e w8 ⟨v8, rfl, ho8, hB8⟩

    obtain ⟨A8, c8, rfl⟩ := Kd.R_slice ho8
    have HBq8 := Aside0.mk (Kd.R_reads' ho8).2.2
    have HBc := Aside0.mk (Kd.R_reads' ho8).2.1
    clear ho8
    have HB8 := Aside0.mk (below_step HB7.out hB8)
    have HR8 := Aside0.mk (Kd.C_below HR7.out hB8)
    have HQ8 := Aside0.mk (Kd.C_below HQ7.out hB8)
    have HC8 := Aside0.mk (blk_below HC7.out hB8)
    have HW8 := Aside0.mk (blk_below HW7.out hB8)
    have HAq8 := Aside0.mk (Kd.C_below HAq7.out hB8)
    have HA8 := Aside0.mk (blk_below HA7.out hB8)
    clear HB7 HR7 HQ7 HC7 HW7 HAq7 HA7
    clear hB8
    have hB10 := (below_alloc (below_alloc (Below.refl w8.heap.size w8) (.cells #[.int .i64 rb1, .slice A8 rb2.length c8] 47)) (.cells #[.int .i64 0, .slice none 0 0] 47))
    have HBb10 := Aside0.mk (blk_below (blk_new w8 (.cells #[.int .i64 rb1, .slice A8 rb2.length c8] 47)) (below_alloc (Below.refl (w8.alloc (.cells #[.int .i64 rb1, .slice A8 rb2.length c8] 47)).heap.size (w8.alloc (.cells #[.int .i64 rb1, .slice A8 rb2.length c8] 47))) (.cells #[.int .i64 0, .slice none 0 0] 47)))
    have HN10 := Aside0.mk (blk_new (w8.alloc (.cells #[.int .i64 rb1, .slice A8 rb2.length c8] 47)) (.cells #[.int .i64 0, .slice none 0 0] 47))
    have HB10 := Aside0.mk (below_step HB8.out hB10)
    have HR10 := Aside0.mk (Kd.C_below HR8.out hB10)
    have HQ10 := Aside0.mk (Kd.C_below HQ8.out hB10)
    have HC10 := Aside0.mk (blk_below HC8.out hB10)
    have HW10 := Aside0.mk (blk_below HW8.out hB10)
    have HAq10 := Aside0.mk (Kd.C_below HAq8.out hB10)
    have HA10 := Aside0.mk (blk_below HA8.out hB10)
    have HBq10 := Aside0.mk (Kd.C_below HBq8.out hB10)
    clear hB10 HB8 HR8 HQ8 HC8 HW8 HAq8 HA8 HBq8
    have hsz : (w8.alloc (.cells #[.int .i64 rb1, .slice A8 rb2.length c8] 47)).heap.size = w8.heap.size + 1 := by simp
    rw [hsz] at HN10
    have hzHC10_0 := (blk_cell HC10.out 0).trans rfl
    have hzHW10_0 := (blk_cell HW10.out 0).trans rfl
    have hzHW10_1 := (blk_cell HW10.out 1).trans rfl
    have hzHA10_0 := (blk_cell HA10.out 0).trans rfl
    have hzHA10_1 := (blk_cell HA10.out 1).trans rfl
    go_wp2_with fail
    clear hzHC10_0 hzHW10_0 hzHW10_1 hzHA10_0 hzHA10_1
    obtain ⟨w10, hW10⟩ : ∃ W : World, ((w8.alloc (.cells #[.int .i64 rb1, .slice A8 rb2.length c8] 47)).alloc (.cells #[.int .i64 0, .slice none 0 0] 47)) = W := ⟨_, rfl⟩
    rw [hW10] at HB10 HR10 HQ10 HC10 HW10 HAq10 HA10 HBq10 HBb10 HN10 ⊢
    obtain ⟨zb, hzb⟩ : ∃ z, w8.heap.size = z := ⟨_, rfl⟩
    obtain ⟨zn, hzn⟩ : ∃ z, w8.heap.size + 1 = z := ⟨_, rfl⟩
    rw [hzn] at HN10 ⊢
    rw [hzb] at HBb10 ⊢
    clear hW10 hzb hzn hsz
    refine (HF2.out _ HR10.out HQ10.out).mono ?_
    rintro e w11 ⟨rfl, hB11⟩


    have HB11 := Aside0.mk (below_step HB10.out hB11)
    have HR11 := Aside0.mk (Kd.C_below HR10.out hB11)
    have HQ11 := Aside0.mk (Kd.C_below HQ10.out hB11)
    have HC11 := Aside0.mk (blk_below HC10.out hB11)
    have HW11 := Aside0.mk (blk_below HW10.out hB11)
    have HAq11 := Aside0.mk (Kd.C_below HAq10.out hB11)
    have HA11 := Aside0.mk (blk_below HA10.out hB11)
    have HBq11 := Aside0.mk (Kd.C_below HBq10.out hB11)
    have HBb11 := Aside0.mk (blk_below HBb10.out hB11)
    have HN11 := Aside0.mk (blk_below HN10.out hB11)
    clear HB10 HR10 HQ10 HC10 HW10 HAq10 HA10 HBq10 HBb10 HN10
    clear hB11
    clear HF2 HTA HTB
    have hzHC11_0 := (blk_cell HC11.out 0).trans rfl
    have hzHW11_0 := (blk_cell HW11.out 0).trans rfl
    have hzHW11_1 := (blk_cell HW11.out 1).trans rfl
    have hzHA11_0 := (blk_cell HA11.out 0).trans rfl
    have hzHA11_1 := (blk_cell HA11.out 1).trans rfl
    have hzHBb11_0 := (blk_cell HBb11.out 0).trans rfl
    have hzHBb11_1 := (blk_cell HBb11.out 1).trans rfl
    have hzHN11_0 := (blk_cell HN11.out 0).trans rfl
    have hzHN11_1 := (blk_cell HN11.out 1).trans rfl
    cases f1 with
    | false =>
      have h := H.out
      clear H
      unfold standstilllaw07_TagTurns.body at h
      simp only [Bool.false_eq_true, if_false] at h
      by_cases kc : ra3 = 1 ∧ rb4 = 1 ∧ rb3 = 0
      rotate_left
      · rw [if_neg kc] at h
        cases h
      rw [if_pos kc] at h
      obtain ⟨rfl, rfl, rfl⟩ := kc
      obtain ⟨s1, hs1, h1⟩ := Option.bind_eq_some_iff.1 h
      obtain ⟨s2, hs2, h2⟩ := Option.bind_eq_some_iff.1 h1
      by_cases ks : s1 = true ∧ s2 = true
      rotate_left
      · rw [if_neg ks] at h2
        cases h2
      rw [if_pos ks] at h2
      obtain ⟨rfl, rfl⟩ := ks
      have HS1 := Aside0.mk (fun W hA => standstillref07_SameWheel.calls k ra1 A6 c6 ra2 0 none 0 ([] : List Int) true W hA HAc.out (Kd.C_nil _ _) (Nat.le_refl _) hs1)
      have HS2 := Aside0.mk (fun W hA => standstillref07_SameWheel.calls k rb1 A8 c8 rb2 0 none 0 ([] : List Int) true W hA HBc.out (Kd.C_nil _ _) (Nat.le_refl _) hs2)
      have H := Aside0.mk h2
      clear h h1 h2 hs1 hs2
      go_wp2_with fail
      refine (HS1.out _ HAq11.out).mono ?_
      rintro e w12 ⟨rfl, hB12⟩

      clear hzHC11_0 hzHW11_0 hzHW11_1 hzHA11_0 hzHA11_1 hzHBb11_0 hzHBb11_1 hzHN11_0 hzHN11_1
      have HB12 := Aside0.mk (below_step HB11.out hB12)
      have HR12 := Aside0.mk (Kd.C_below HR11.out hB12)
      have HQ12 := Aside0.mk (Kd.C_below HQ11.out hB12)
      have HC12 := Aside0.mk (blk_below HC11.out hB12)
      have HW12 := Aside0.mk (blk_below HW11.out hB12)
      have HAq12 := Aside0.mk (Kd.C_below HAq11.out hB12)
      have HA12 := Aside0.mk (blk_below HA11.out hB12)
      have HBq12 := Aside0.mk (Kd.C_below HBq11.out hB12)
      have HBb12 := Aside0.mk (blk_below HBb11.out hB12)
      have HN12 := Aside0.mk (blk_below HN11.out hB12)
      clear HB11 HR11 HQ11 HC11 HW11 HAq11 HA11 HBq11 HBb11 HN11
      clear hB12
      have hzHC12_0 := (blk_cell HC12.out 0).trans rfl
      have hzHW12_0 := (blk_cell HW12.out 0).trans rfl
      have hzHW12_1 := (blk_cell HW12.out 1).trans rfl
      have hzHA12_0 := (blk_cell HA12.out 0).trans rfl
      have hzHA12_1 := (blk_cell HA12.out 1).trans rfl
      have hzHBb12_0 := (blk_cell HBb12.out 0).trans rfl
      have hzHBb12_1 := (blk_cell HBb12.out 1).trans rfl
      have hzHN12_0 := (blk_cell HN12.out 0).trans rfl
      have hzHN12_1 := (blk_cell HN12.out 1).trans rfl
      go_wp2_with fail
      refine (HS2.out _ HBq12.out).mono ?_
      rintro e w13 ⟨rfl, hB13⟩

      clear hzHC12_0 hzHW12_0 hzHW12_1 hzHA12_0 hzHA12_1 hzHBb12_0 hzHBb12_1 hzHN12_0 hzHN12_1
      have HB13 := Aside0.mk (below_step HB12.out hB13)
      have HR13 := Aside0.mk (Kd.C_below HR12.out hB13)
      have HQ13 := Aside0.mk (Kd.C_below HQ12.out hB13)
      have HC13 := Aside0.mk (blk_below HC12.out hB13)
      have HW13 := Aside0.mk (blk_below HW12.out hB13)
      have HAq13 := Aside0.mk (Kd.C_below HAq12.out hB13)
      have HA13 := Aside0.mk (blk_below HA12.out hB13)
      have HBq13 := Aside0.mk (Kd.C_below HBq12.out hB13)
      have HBb13 := Aside0.mk (blk_below HBb12.out hB13)
      have HN13 := Aside0.mk (blk_below HN12.out hB13)
      clear HB12 HR12 HQ12 HC12 HW12 HAq12 HA12 HBq12 HBb12 HN12
      clear hB13
      have hzHC13_0 := (blk_cell HC13.out 0).trans rfl
      have hzHW13_0 := (blk_cell HW13.out 0).trans rfl
      have hzHW13_1 := (blk_cell HW13.out 1).trans rfl
      have hzHA13_0 := (blk_cell HA13.out 0).trans rfl
      have hzHA13_1 := (blk_cell HA13.out 1).trans rfl
      have hzHBb13_0 := (blk_cell HBb13.out 0).trans rfl
      have hzHBb13_1 := (blk_cell HBb13.out 1).trans rfl
      have hzHN13_0 := (blk_cell HN13.out 0).trans rfl
      have hzHN13_1 := (blk_cell HN13.out 1).trans rfl
      go_wp2_with fail
      refine (HAW.out _ H.out).mono ?_
      rintro e w9 ⟨rfl, hB9⟩
      go_wp2
      go_ret
      exact ⟨rfl, below_step HB13.out hB9⟩
    | true =>
    have h := H.out
    clear H
    unfold standstilllaw07_TagTurns.body at h
    simp only [if_true] at h
    by_cases kq : (l1_1.length : Int) = 0
    · skip
      rw [if_pos kq] at h
      by_cases kc : ra3 = 5
      rotate_left
      · rw [if_neg kc] at h
        cases h
      rw [if_pos kc] at h
      subst kc
      obtain ⟨s1, hs1, h1⟩ := Option.bind_eq_some_iff.1 h
      by_cases ks : s1 = true
      rotate_left
      · rw [if_neg ks] at h1
        cases h1
      rw [if_pos ks] at h1
      subst ks
      have HS1 := Aside0.mk (fun W hA => standstillref07_SameWheel.calls k ra1 A6 c6 ra2 0 none 0 ([] : List Int) true W hA HAc.out (Kd.C_nil _ _) (Nat.le_refl _) hs1)
      have H := Aside0.mk h1
      clear h h1 hs1
      have kq1 : ((l1_1.length : Int) == 0) = true := by simpa using kq
      clear kq
      go_wp2_with fail
      refine (HS1.out _ HAq11.out).mono ?_
      rintro e w12 ⟨rfl, hB12⟩

      clear hzHC11_0 hzHW11_0 hzHW11_1 hzHA11_0 hzHA11_1 hzHBb11_0 hzHBb11_1 hzHN11_0 hzHN11_1
      have HB12 := Aside0.mk (below_step HB11.out hB12)
      have HR12 := Aside0.mk (Kd.C_below HR11.out hB12)
      have HQ12 := Aside0.mk (Kd.C_below HQ11.out hB12)
      have HC12 := Aside0.mk (blk_below HC11.out hB12)
      have HW12 := Aside0.mk (blk_below HW11.out hB12)
      have HAq12 := Aside0.mk (Kd.C_below HAq11.out hB12)
      have HA12 := Aside0.mk (blk_below HA11.out hB12)
      have HBq12 := Aside0.mk (Kd.C_below HBq11.out hB12)
      have HBb12 := Aside0.mk (blk_below HBb11.out hB12)
      have HN12 := Aside0.mk (blk_below HN11.out hB12)
      clear HB11 HR11 HQ11 HC11 HW11 HAq11 HA11 HBq11 HBb11 HN11
      clear hB12
      have hzHC12_0 := (blk_cell HC12.out 0).trans rfl
      have hzHW12_0 := (blk_cell HW12.out 0).trans rfl
      have hzHW12_1 := (blk_cell HW12.out 1).trans rfl
      have hzHA12_0 := (blk_cell HA12.out 0).trans rfl
      have hzHA12_1 := (blk_cell HA12.out 1).trans rfl
      have hzHBb12_0 := (blk_cell HBb12.out 0).trans rfl
      have hzHBb12_1 := (blk_cell HBb12.out 1).trans rfl
      have hzHN12_0 := (blk_cell HN12.out 0).trans rfl
      have hzHN12_1 := (blk_cell HN12.out 1).trans rfl
      clear HS1 kq1
      have h := H.out
      clear H
      unfold standstilllaw07_TagTurns.tail at h
      by_cases n0 : a2 < 0
      · skip
        rw [if_pos (Or.inl n0)] at h
        have n0a : decide (a2 < 0) = true := decide_eq_true n0
        replace n0 := eq_true n0
        by_cases kc : rb4 = 2 ∧ rb3 = 0
        rotate_left
        · rw [if_neg kc] at h
          cases h
        rw [if_pos kc] at h
        obtain ⟨rfl, rfl⟩ := kc
        obtain ⟨s2, hs2, h2⟩ := Option.bind_eq_some_iff.1 h
        by_cases ks : s2 = true
        rotate_left
        · rw [if_neg ks] at h2
          cases h2
        rw [if_pos ks] at h2
        subst ks
        have HS2 := Aside0.mk (fun W hA => standstillref07_SameWheel.calls k rb1 A8 c8 rb2 0 none 0 ([] : List Int) true W hA HBc.out (Kd.C_nil _ _) (Nat.le_refl _) hs2)
        have H := Aside0.mk h2
        clear h h2 hs2
        go_wp2_with fail
        refine (HS2.out _ HBq12.out).mono ?_
        rintro e w13 ⟨rfl, hB13⟩

        clear hzHC12_0 hzHW12_0 hzHW12_1 hzHA12_0 hzHA12_1 hzHBb12_0 hzHBb12_1 hzHN12_0 hzHN12_1
        have HB13 := Aside0.mk (below_step HB12.out hB13)
        have HR13 := Aside0.mk (Kd.C_below HR12.out hB13)
        have HQ13 := Aside0.mk (Kd.C_below HQ12.out hB13)
        have HC13 := Aside0.mk (blk_below HC12.out hB13)
        have HW13 := Aside0.mk (blk_below HW12.out hB13)
        have HAq13 := Aside0.mk (Kd.C_below HAq12.out hB13)
        have HA13 := Aside0.mk (blk_below HA12.out hB13)
        have HBq13 := Aside0.mk (Kd.C_below HBq12.out hB13)
        have HBb13 := Aside0.mk (blk_below HBb12.out hB13)
        have HN13 := Aside0.mk (blk_below HN12.out hB13)
        clear HB12 HR12 HQ12 HC12 HW12 HAq12 HA12 HBq12 HBb12 HN12
        clear hB13
        have hzHC13_0 := (blk_cell HC13.out 0).trans rfl
        have hzHW13_0 := (blk_cell HW13.out 0).trans rfl
        have hzHW13_1 := (blk_cell HW13.out 1).trans rfl
        have hzHA13_0 := (blk_cell HA13.out 0).trans rfl
        have hzHA13_1 := (blk_cell HA13.out 1).trans rfl
        have hzHBb13_0 := (blk_cell HBb13.out 0).trans rfl
        have hzHBb13_1 := (blk_cell HBb13.out 1).trans rfl
        have hzHN13_0 := (blk_cell HN13.out 0).trans rfl
        have hzHN13_1 := (blk_cell HN13.out 1).trans rfl
        go_wp2_with fail
        refine (HAW.out _ H.out).mono ?_
        rintro e w9 ⟨rfl, hB9⟩
        go_wp2
        go_ret
        exact ⟨rfl, below_step HB13.out hB9⟩
      have n1 : ¬ 1000000 < a2 := by have := KA.out; omega
      rw [if_neg (fun hh => hh.elim n0 n1)] at h
      have n0a : decide (a2 < 0) = false := decide_eq_false n0
      have n1a : decide (1000000 < a2) = false := decide_eq_false n1
      replace n0 := eq_false n0
      replace n1 := eq_false n1
      obtain ⟨⟨ry1, ry2, ry3, ry4⟩, hy, h0⟩ := Option.bind_eq_some_iff.1 h
      simp only at h0
      obtain ⟨sy, hsy⟩ : ∃ z : Int, (if ry4 = true then (0 : Int) else 4) = z := ⟨_, rfl⟩
      rw [hsy] at h0
      by_cases kc : rb4 = sy ∧ rb3 = ry3
      rotate_left
      · rw [if_neg kc] at h0
        cases h0
      rw [if_pos kc] at h0
      obtain ⟨rfl, rfl⟩ := kc
      obtain ⟨s2, hs2, h2⟩ := Option.bind_eq_some_iff.1 h0
      by_cases ks : s2 = true
      rotate_left
      · rw [if_neg ks] at h2
        cases h2
      rw [if_pos ks] at h2
      subst ks
      have HY := Aside0.mk (fun W hW hV => standstillref07_Roll.calls k A0_0 c0_0 l0_0 a1_0 A1_1 c1_1 l1_1 a2 ry1 ry2 rb3 ry4 W hW HC.out hV HD.out hy)
      have HSY := Aside0.mk (fun W => standstilllaw07_size.calls ry4 rb4 W ((size_two_ ry4).trans (congrArg some hsy)))
      have HS2 := Aside0.mk hs2
      have H := Aside0.mk h2
      clear h h0 h2 hs2 hy hsy
      go_wp2_with fail
      refine (HY.out _ HR12.out HQ12.out).mono ?_
      rintro e w22 ⟨v22, rfl, ho22, hB22⟩
      obtain ⟨A22, c22, rfl⟩ := Kd.R_slice ho22
      have HYq22 := Aside0.mk (Kd.R_reads' ho22).2.2
      have HYc := Aside0.mk (Kd.R_reads' ho22).2.1
      clear ho22 HY n0 n1 n0a n1a
      clear hzHC12_0 hzHW12_0 hzHW12_1 hzHA12_0 hzHA12_1 hzHBb12_0 hzHBb12_1 hzHN12_0 hzHN12_1
      have HB22 := Aside0.mk (below_step HB12.out hB22)
      have HR22 := Aside0.mk (Kd.C_below HR12.out hB22)
      have HQ22 := Aside0.mk (Kd.C_below HQ12.out hB22)
      have HC22 := Aside0.mk (blk_below HC12.out hB22)
      have HW22 := Aside0.mk (blk_below HW12.out hB22)
      have HAq22 := Aside0.mk (Kd.C_below HAq12.out hB22)
      have HA22 := Aside0.mk (blk_below HA12.out hB22)
      have HBq22 := Aside0.mk (Kd.C_below HBq12.out hB22)
      have HBb22 := Aside0.mk (blk_below HBb12.out hB22)
      have HN22 := Aside0.mk (blk_below HN12.out hB22)
      clear HB12 HR12 HQ12 HC12 HW12 HAq12 HA12 HBq12 HBb12 HN12
      clear hB22
      have hzHC22_0 := (blk_cell HC22.out 0).trans rfl
      have hzHW22_0 := (blk_cell HW22.out 0).trans rfl
      have hzHW22_1 := (blk_cell HW22.out 1).trans rfl
      have hzHA22_0 := (blk_cell HA22.out 0).trans rfl
      have hzHA22_1 := (blk_cell HA22.out 1).trans rfl
      have hzHBb22_0 := (blk_cell HBb22.out 0).trans rfl
      have hzHBb22_1 := (blk_cell HBb22.out 1).trans rfl
      have hzHN22_0 := (blk_cell HN22.out 0).trans rfl
      have hzHN22_1 := (blk_cell HN22.out 1).trans rfl
      clear hzHC22_0 hzHW22_0 hzHW22_1 hzHA22_0 hzHA22_1 hzHBb22_0 hzHBb22_1 hzHN22_0 hzHN22_1
      have hB23 := (below_alloc (Below.refl w22.heap.size w22) (.cells #[.int .i64 ry1, .slice A22 ry2.length c22] 47))
      have HY23 := Aside0.mk (blk_new w22 (.cells #[.int .i64 ry1, .slice A22 ry2.length c22] 47))
      have HB23 := Aside0.mk (below_step HB22.out hB23)
      have HR23 := Aside0.mk (Kd.C_below HR22.out hB23)
      have HQ23 := Aside0.mk (Kd.C_below HQ22.out hB23)
      have HC23 := Aside0.mk (blk_below HC22.out hB23)
      have HW23 := Aside0.mk (blk_below HW22.out hB23)
      have HAq23 := Aside0.mk (Kd.C_below HAq22.out hB23)
      have HA23 := Aside0.mk (blk_below HA22.out hB23)
      have HBq23 := Aside0.mk (Kd.C_below HBq22.out hB23)
      have HBb23 := Aside0.mk (blk_below HBb22.out hB23)
      have HN23 := Aside0.mk (blk_below HN22.out hB23)
      have HYq23 := Aside0.mk (Kd.C_below HYq22.out hB23)
      clear hB23 HB22 HR22 HQ22 HC22 HW22 HAq22 HA22 HBq22 HBb22 HN22 HYq22
      have hzHC23_0 := (blk_cell HC23.out 0).trans rfl
      have hzHW23_0 := (blk_cell HW23.out 0).trans rfl
      have hzHW23_1 := (blk_cell HW23.out 1).trans rfl
      have hzHA23_0 := (blk_cell HA23.out 0).trans rfl
      have hzHA23_1 := (blk_cell HA23.out 1).trans rfl
      have hzHBb23_0 := (blk_cell HBb23.out 0).trans rfl
      have hzHBb23_1 := (blk_cell HBb23.out 1).trans rfl
      have hzHN23_0 := (blk_cell HN23.out 0).trans rfl
      have hzHN23_1 := (blk_cell HN23.out 1).trans rfl
      go_wp2_with fail
      clear hzHC23_0 hzHW23_0 hzHW23_1 hzHA23_0 hzHA23_1 hzHBb23_0 hzHBb23_1 hzHN23_0 hzHN23_1
      obtain ⟨w23, hW23⟩ : ∃ W : World, (w22.alloc (.cells #[.int .i64 ry1, .slice A22 ry2.length c22] 47)) = W := ⟨_, rfl⟩
      rw [hW23] at HB23 HR23 HQ23 HC23 HW23 HAq23 HA23 HBq23 HBb23 HN23 HYq23 HY23 ⊢
      obtain ⟨zy, hzy⟩ : ∃ z, w22.heap.size = z := ⟨_, rfl⟩
      rw [hzy] at HY23 ⊢
      clear hW23 hzy 
      refine (HSY.out _).mono ?_
      rintro e w24 ⟨rfl, hD24⟩
      have hB24 := hD24.below

      have HB24 := Aside0.mk (below_step HB23.out hB24)
      have HR24 := Aside0.mk (Kd.C_below HR23.out hB24)
      have HQ24 := Aside0.mk (Kd.C_below HQ23.out hB24)
      have HC24 := Aside0.mk (blk_below HC23.out hB24)
      have HW24 := Aside0.mk (blk_below HW23.out hB24)
      have HAq24 := Aside0.mk (Kd.C_below HAq23.out hB24)
      have HA24 := Aside0.mk (blk_below HA23.out hB24)
      have HBq24 := Aside0.mk (Kd.C_below HBq23.out hB24)
      have HBb24 := Aside0.mk (blk_below HBb23.out hB24)
      have HN24 := Aside0.mk (blk_below HN23.out hB24)
      have HYq24 := Aside0.mk (Kd.C_below HYq23.out hB24)
      have HY24 := Aside0.mk (blk_below HY23.out hB24)
      clear HB23 HR23 HQ23 HC23 HW23 HAq23 HA23 HBq23 HBb23 HN23 HYq23 HY23
      clear hB24
      have hzHC24_0 := (blk_cell HC24.out 0).trans rfl
      have hzHW24_0 := (blk_cell HW24.out 0).trans rfl
      have hzHW24_1 := (blk_cell HW24.out 1).trans rfl
      have hzHA24_0 := (blk_cell HA24.out 0).trans rfl
      have hzHA24_1 := (blk_cell HA24.out 1).trans rfl
      have hzHBb24_0 := (blk_cell HBb24.out 0).trans rfl
      have hzHBb24_1 := (blk_cell HBb24.out 1).trans rfl
      have hzHN24_0 := (blk_cell HN24.out 0).trans rfl
      have hzHN24_1 := (blk_cell HN24.out 1).trans rfl
      have hzHY24_0 := (blk_cell HY24.out 0).trans rfl
      have hzHY24_1 := (blk_cell HY24.out 1).trans rfl
      go_wp2_with fail
      refine (standstillref07_SameWheel.calls k rb1 A8 c8 rb2 ry1 A22 c22 ry2 true _ HBq24.out HBc.out HYq24.out HYc.out HS2.out).mono ?_
      rintro e w25 ⟨rfl, hB25⟩

      clear hzHC24_0 hzHW24_0 hzHW24_1 hzHA24_0 hzHA24_1 hzHBb24_0 hzHBb24_1 hzHN24_0 hzHN24_1 hzHY24_0 hzHY24_1
      have HB25 := Aside0.mk (below_step HB24.out hB25)
      have HR25 := Aside0.mk (Kd.C_below HR24.out hB25)
      have HQ25 := Aside0.mk (Kd.C_below HQ24.out hB25)
      have HC25 := Aside0.mk (blk_below HC24.out hB25)
      have HW25 := Aside0.mk (blk_below HW24.out hB25)
      have HAq25 := Aside0.mk (Kd.C_below HAq24.out hB25)
      have HA25 := Aside0.mk (blk_below HA24.out hB25)
      have HBq25 := Aside0.mk (Kd.C_below HBq24.out hB25)
      have HBb25 := Aside0.mk (blk_below HBb24.out hB25)
      have HN25 := Aside0.mk (blk_below HN24.out hB25)
      have HYq25 := Aside0.mk (Kd.C_below HYq24.out hB25)
      have HY25 := Aside0.mk (blk_below HY24.out hB25)
      clear HB24 HR24 HQ24 HC24 HW24 HAq24 HA24 HBq24 HBb24 HN24 HYq24 HY24
      clear hB25
      have hzHC25_0 := (blk_cell HC25.out 0).trans rfl
      have hzHW25_0 := (blk_cell HW25.out 0).trans rfl
      have hzHW25_1 := (blk_cell HW25.out 1).trans rfl
      have hzHA25_0 := (blk_cell HA25.out 0).trans rfl
      have hzHA25_1 := (blk_cell HA25.out 1).trans rfl
      have hzHBb25_0 := (blk_cell HBb25.out 0).trans rfl
      have hzHBb25_1 := (blk_cell HBb25.out 1).trans rfl
      have hzHN25_0 := (blk_cell HN25.out 0).trans rfl
      have hzHN25_1 := (blk_cell HN25.out 1).trans rfl
      have hzHY25_0 := (blk_cell HY25.out 0).trans rfl
      have hzHY25_1 := (blk_cell HY25.out 1).trans rfl
      go_wp2_with fail
      refine (HAW.out _ H.out).mono ?_
      rintro e w9 ⟨rfl, hB9⟩
      go_wp2
      go_ret
      exact ⟨rfl, below_step HB25.out hB9⟩
    rw [if_neg kq] at h
    obtain ⟨⟨rx1, rx2, rx3⟩, hx, h0⟩ := Option.bind_eq_some_iff.1 h
    simp only at h0
    obtain ⟨sz, hsz⟩ : ∃ z : Int, (if rx3 = true then (0 : Int) else 4) = z := ⟨_, rfl⟩
    rw [hsz] at h0
    by_cases kc : ra3 = sz
    rotate_left
    · rw [if_neg kc] at h0
      cases h0
    rw [if_pos kc] at h0
    subst kc
    obtain ⟨s1, hs1, h1⟩ := Option.bind_eq_some_iff.1 h0
    by_cases ks : s1 = true
    rotate_left
    · rw [if_neg ks] at h1
      cases h1
    rw [if_pos ks] at h1
    subst ks
    have HX := Aside0.mk (fun W hW hV => standstillref07_Turn.calls A0_0 c0_0 l0_0 a1_0 A1_1 c1_1 l1_1 rx1 rx2 rx3 W hW HC.out hV HD.out hx)
    have HSZ := Aside0.mk (fun W => standstilllaw07_size.calls rx3 ra3 W ((size_two_ rx3).trans (congrArg some hsz)))
    have HS1 := Aside0.mk hs1
    have H := Aside0.mk h1
    clear h h0 h1 hs1 hx hsz
    have kq1 : ((l1_1.length : Int) == 0) = false := by simpa using kq
    clear kq
    go_wp2_with fail
    refine (HX.out _ HR11.out HQ11.out).mono ?_
    rintro e w12 ⟨v12, rfl, ho12, hB12⟩
    obtain ⟨A12, c12, rfl⟩ := Kd.R_slice ho12
    have HXq12 := Aside0.mk (Kd.R_reads' ho12).2.2
    have HXc := Aside0.mk (Kd.R_reads' ho12).2.1
    clear ho12 HX kq1
    clear hzHC11_0 hzHW11_0 hzHW11_1 hzHA11_0 hzHA11_1 hzHBb11_0 hzHBb11_1 hzHN11_0 hzHN11_1
    have HB12 := Aside0.mk (below_step HB11.out hB12)
    have HR12 := Aside0.mk (Kd.C_below HR11.out hB12)
    have HQ12 := Aside0.mk (Kd.C_below HQ11.out hB12)
    have HC12 := Aside0.mk (blk_below HC11.out hB12)
    have HW12 := Aside0.mk (blk_below HW11.out hB12)
    have HAq12 := Aside0.mk (Kd.C_below HAq11.out hB12)
    have HA12 := Aside0.mk (blk_below HA11.out hB12)
    have HBq12 := Aside0.mk (Kd.C_below HBq11.out hB12)
    have HBb12 := Aside0.mk (blk_below HBb11.out hB12)
    have HN12 := Aside0.mk (blk_below HN11.out hB12)
    clear HB11 HR11 HQ11 HC11 HW11 HAq11 HA11 HBq11 HBb11 HN11
    clear hB12
    have hzHC12_0 := (blk_cell HC12.out 0).trans rfl
    have hzHW12_0 := (blk_cell HW12.out 0).trans rfl
    have hzHW12_1 := (blk_cell HW12.out 1).trans rfl
    have hzHA12_0 := (blk_cell HA12.out 0).trans rfl
    have hzHA12_1 := (blk_cell HA12.out 1).trans rfl
    have hzHBb12_0 := (blk_cell HBb12.out 0).trans rfl
    have hzHBb12_1 := (blk_cell HBb12.out 1).trans rfl
    have hzHN12_0 := (blk_cell HN12.out 0).trans rfl
    have hzHN12_1 := (blk_cell HN12.out 1).trans rfl
    clear hzHC12_0 hzHW12_0 hzHW12_1 hzHA12_0 hzHA12_1 hzHBb12_0 hzHBb12_1 hzHN12_0 hzHN12_1
    have hB13 := (below_alloc (Below.refl w12.heap.size w12) (.cells #[.int .i64 rx1, .slice A12 rx2.length c12] 47))
    have HX13 := Aside0.mk (blk_new w12 (.cells #[.int .i64 rx1, .slice A12 rx2.length c12] 47))
    have HB13 := Aside0.mk (below_step HB12.out hB13)
    have HR13 := Aside0.mk (Kd.C_below HR12.out hB13)
    have HQ13 := Aside0.mk (Kd.C_below HQ12.out hB13)
    have HC13 := Aside0.mk (blk_below HC12.out hB13)
    have HW13 := Aside0.mk (blk_below HW12.out hB13)
    have HAq13 := Aside0.mk (Kd.C_below HAq12.out hB13)
    have HA13 := Aside0.mk (blk_below HA12.out hB13)
    have HBq13 := Aside0.mk (Kd.C_below HBq12.out hB13)
    have HBb13 := Aside0.mk (blk_below HBb12.out hB13)
    have HN13 := Aside0.mk (blk_below HN12.out hB13)
    have HXq13 := Aside0.mk (Kd.C_below HXq12.out hB13)
    clear hB13 HB12 HR12 HQ12 HC12 HW12 HAq12 HA12 HBq12 HBb12 HN12 HXq12
    have hzHC13_0 := (blk_cell HC13.out 0).trans rfl
    have hzHW13_0 := (blk_cell HW13.out 0).trans rfl
    have hzHW13_1 := (blk_cell HW13.out 1).trans rfl
    have hzHA13_0 := (blk_cell HA13.out 0).trans rfl
    have hzHA13_1 := (blk_cell HA13.out 1).trans rfl
    have hzHBb13_0 := (blk_cell HBb13.out 0).trans rfl
    have hzHBb13_1 := (blk_cell HBb13.out 1).trans rfl
    have hzHN13_0 := (blk_cell HN13.out 0).trans rfl
    have hzHN13_1 := (blk_cell HN13.out 1).trans rfl
    go_wp2_with fail
    clear hzHC13_0 hzHW13_0 hzHW13_1 hzHA13_0 hzHA13_1 hzHBb13_0 hzHBb13_1 hzHN13_0 hzHN13_1
    obtain ⟨w13, hW13⟩ : ∃ W : World, (w12.alloc (.cells #[.int .i64 rx1, .slice A12 rx2.length c12] 47)) = W := ⟨_, rfl⟩
    rw [hW13] at HB13 HR13 HQ13 HC13 HW13 HAq13 HA13 HBq13 HBb13 HN13 HXq13 HX13 ⊢
    obtain ⟨zx, hzx⟩ : ∃ z, w12.heap.size = z := ⟨_, rfl⟩
    rw [hzx] at HX13 ⊢
    clear hW13 hzx 
    refine (HSZ.out _).mono ?_
    rintro e w14 ⟨rfl, hD14⟩
    have hB14 := hD14.below

    have HB14 := Aside0.mk (below_step HB13.out hB14)
    have HR14 := Aside0.mk (Kd.C_below HR13.out hB14)
    have HQ14 := Aside0.mk (Kd.C_below HQ13.out hB14)
    have HC14 := Aside0.mk (blk_below HC13.out hB14)
    have HW14 := Aside0.mk (blk_below HW13.out hB14)
    have HAq14 := Aside0.mk (Kd.C_below HAq13.out hB14)
    have HA14 := Aside0.mk (blk_below HA13.out hB14)
    have HBq14 := Aside0.mk (Kd.C_below HBq13.out hB14)
    have HBb14 := Aside0.mk (blk_below HBb13.out hB14)
    have HN14 := Aside0.mk (blk_below HN13.out hB14)
    have HXq14 := Aside0.mk (Kd.C_below HXq13.out hB14)
    have HX14 := Aside0.mk (blk_below HX13.out hB14)
    clear HB13 HR13 HQ13 HC13 HW13 HAq13 HA13 HBq13 HBb13 HN13 HXq13 HX13
    clear hB14
    have hzHC14_0 := (blk_cell HC14.out 0).trans rfl
    have hzHW14_0 := (blk_cell HW14.out 0).trans rfl
    have hzHW14_1 := (blk_cell HW14.out 1).trans rfl
    have hzHA14_0 := (blk_cell HA14.out 0).trans rfl
    have hzHA14_1 := (blk_cell HA14.out 1).trans rfl
    have hzHBb14_0 := (blk_cell HBb14.out 0).trans rfl
    have hzHBb14_1 := (blk_cell HBb14.out 1).trans rfl
    have hzHN14_0 := (blk_cell HN14.out 0).trans rfl
    have hzHN14_1 := (blk_cell HN14.out 1).trans rfl
    have hzHX14_0 := (blk_cell HX14.out 0).trans rfl
    have hzHX14_1 := (blk_cell HX14.out 1).trans rfl
    go_wp2_with fail
    refine (standstillref07_SameWheel.calls k ra1 A6 c6 ra2 rx1 A12 c12 rx2 true _ HAq14.out HAc.out HXq14.out HXc.out HS1.out).mono ?_
    rintro e w15 ⟨rfl, hB15⟩

    clear hzHC14_0 hzHW14_0 hzHW14_1 hzHA14_0 hzHA14_1 hzHBb14_0 hzHBb14_1 hzHN14_0 hzHN14_1 hzHX14_0 hzHX14_1
    have HB15 := Aside0.mk (below_step HB14.out hB15)
    have HR15 := Aside0.mk (Kd.C_below HR14.out hB15)
    have HQ15 := Aside0.mk (Kd.C_below HQ14.out hB15)
    have HC15 := Aside0.mk (blk_below HC14.out hB15)
    have HW15 := Aside0.mk (blk_below HW14.out hB15)
    have HAq15 := Aside0.mk (Kd.C_below HAq14.out hB15)
    have HA15 := Aside0.mk (blk_below HA14.out hB15)
    have HBq15 := Aside0.mk (Kd.C_below HBq14.out hB15)
    have HBb15 := Aside0.mk (blk_below HBb14.out hB15)
    have HN15 := Aside0.mk (blk_below HN14.out hB15)
    have HXq15 := Aside0.mk (Kd.C_below HXq14.out hB15)
    have HX15 := Aside0.mk (blk_below HX14.out hB15)
    clear HB14 HR14 HQ14 HC14 HW14 HAq14 HA14 HBq14 HBb14 HN14 HXq14 HX14
    clear hB15
    have hzHC15_0 := (blk_cell HC15.out 0).trans rfl
    have hzHW15_0 := (blk_cell HW15.out 0).trans rfl
    have hzHW15_1 := (blk_cell HW15.out 1).trans rfl
    have hzHA15_0 := (blk_cell HA15.out 0).trans rfl
    have hzHA15_1 := (blk_cell HA15.out 1).trans rfl
    have hzHBb15_0 := (blk_cell HBb15.out 0).trans rfl
    have hzHBb15_1 := (blk_cell HBb15.out 1).trans rfl
    have hzHN15_0 := (blk_cell HN15.out 0).trans rfl
    have hzHN15_1 := (blk_cell HN15.out 1).trans rfl
    have hzHX15_0 := (blk_cell HX15.out 0).trans rfl
    have hzHX15_1 := (blk_cell HX15.out 1).trans rfl
    clear HS1 HSZ
    have h := H.out
    clear H
    unfold standstilllaw07_TagTurns.tail at h
    by_cases n0 : a2 < 0
    · skip
      rw [if_pos (Or.inl n0)] at h
      have n0a : decide (a2 < 0) = true := decide_eq_true n0
      replace n0 := eq_true n0
      by_cases kc : rb4 = 2 ∧ rb3 = 0
      rotate_left
      · rw [if_neg kc] at h
        cases h
      rw [if_pos kc] at h
      obtain ⟨rfl, rfl⟩ := kc
      obtain ⟨s2, hs2, h2⟩ := Option.bind_eq_some_iff.1 h
      by_cases ks : s2 = true
      rotate_left
      · rw [if_neg ks] at h2
        cases h2
      rw [if_pos ks] at h2
      subst ks
      have HS2 := Aside0.mk (fun W hA => standstillref07_SameWheel.calls k rb1 A8 c8 rb2 0 none 0 ([] : List Int) true W hA HBc.out (Kd.C_nil _ _) (Nat.le_refl _) hs2)
      have H := Aside0.mk h2
      clear h h2 hs2
      go_wp2_with fail
      refine (HS2.out _ HBq15.out).mono ?_
      rintro e w16 ⟨rfl, hB16⟩

      clear hzHC15_0 hzHW15_0 hzHW15_1 hzHA15_0 hzHA15_1 hzHBb15_0 hzHBb15_1 hzHN15_0 hzHN15_1 hzHX15_0 hzHX15_1
      have HB16 := Aside0.mk (below_step HB15.out hB16)
      have HR16 := Aside0.mk (Kd.C_below HR15.out hB16)
      have HQ16 := Aside0.mk (Kd.C_below HQ15.out hB16)
      have HC16 := Aside0.mk (blk_below HC15.out hB16)
      have HW16 := Aside0.mk (blk_below HW15.out hB16)
      have HAq16 := Aside0.mk (Kd.C_below HAq15.out hB16)
      have HA16 := Aside0.mk (blk_below HA15.out hB16)
      have HBq16 := Aside0.mk (Kd.C_below HBq15.out hB16)
      have HBb16 := Aside0.mk (blk_below HBb15.out hB16)
      have HN16 := Aside0.mk (blk_below HN15.out hB16)
      have HXq16 := Aside0.mk (Kd.C_below HXq15.out hB16)
      have HX16 := Aside0.mk (blk_below HX15.out hB16)
      clear HB15 HR15 HQ15 HC15 HW15 HAq15 HA15 HBq15 HBb15 HN15 HXq15 HX15
      clear hB16
      have hzHC16_0 := (blk_cell HC16.out 0).trans rfl
      have hzHW16_0 := (blk_cell HW16.out 0).trans rfl
      have hzHW16_1 := (blk_cell HW16.out 1).trans rfl
      have hzHA16_0 := (blk_cell HA16.out 0).trans rfl
      have hzHA16_1 := (blk_cell HA16.out 1).trans rfl
      have hzHBb16_0 := (blk_cell HBb16.out 0).trans rfl
      have hzHBb16_1 := (blk_cell HBb16.out 1).trans rfl
      have hzHN16_0 := (blk_cell HN16.out 0).trans rfl
      have hzHN16_1 := (blk_cell HN16.out 1).trans rfl
      have hzHX16_0 := (blk_cell HX16.out 0).trans rfl
      have hzHX16_1 := (blk_cell HX16.out 1).trans rfl
      go_wp2_with fail
      refine (HAW.out _ H.out).mono ?_
      rintro e w9 ⟨rfl, hB9⟩
      go_wp2
      go_ret
      exact ⟨rfl, below_step HB16.out hB9⟩
    have n1 : ¬ 1000000 < a2 := by have := KA.out; omega
    rw [if_neg (fun hh => hh.elim n0 n1)] at h
    have n0a : decide (a2 < 0) = false := decide_eq_false n0
    have n1a : decide (1000000 < a2) = false := decide_eq_false n1
    replace n0 := eq_false n0
    replace n1 := eq_false n1
    obtain ⟨⟨ry1, ry2, ry3, ry4⟩, hy, h0⟩ := Option.bind_eq_some_iff.1 h
    simp only at h0
    obtain ⟨sy, hsy⟩ : ∃ z : Int, (if ry4 = true then (0 : Int) else 4) = z := ⟨_, rfl⟩
    rw [hsy] at h0
    by_cases kc : rb4 = sy ∧ rb3 = ry3
    rotate_left
    · rw [if_neg kc] at h0
      cases h0
    rw [if_pos kc] at h0
    obtain ⟨rfl, rfl⟩ := kc
    obtain ⟨s2, hs2, h2⟩ := Option.bind_eq_some_iff.1 h0
    by_cases ks : s2 = true
    rotate_left
    · rw [if_neg ks] at h2
      cases h2
    rw [if_pos ks] at h2
    subst ks
    have HY := Aside0.mk (fun W hW hV => standstillref07_Roll.calls k A0_0 c0_0 l0_0 a1_0 A1_1 c1_1 l1_1 a2 ry1 ry2 rb3 ry4 W hW HC.out hV HD.out hy)
    have HSY := Aside0.mk (fun W => standstilllaw07_size.calls ry4 rb4 W ((size_two_ ry4).trans (congrArg some hsy)))
    have HS2 := Aside0.mk hs2
    have H := Aside0.mk h2
    clear h h0 h2 hs2 hy hsy
    go_wp2_with fail
    refine (HY.out _ HR15.out HQ15.out).mono ?_
    rintro e w22 ⟨v22, rfl, ho22, hB22⟩
    obtain ⟨A22, c22, rfl⟩ := Kd.R_slice ho22
    have HYq22 := Aside0.mk (Kd.R_reads' ho22).2.2
    have HYc := Aside0.mk (Kd.R_reads' ho22).2.1
    clear ho22 HY n0 n1 n0a n1a
    clear hzHC15_0 hzHW15_0 hzHW15_1 hzHA15_0 hzHA15_1 hzHBb15_0 hzHBb15_1 hzHN15_0 hzHN15_1 hzHX15_0 hzHX15_1
    have HB22 := Aside0.mk (below_step HB15.out hB22)
    have HR22 := Aside0.mk (Kd.C_below HR15.out hB22)
    have HQ22 := Aside0.mk (Kd.C_below HQ15.out hB22)
    have HC22 := Aside0.mk (blk_below HC15.out hB22)
    have HW22 := Aside0.mk (blk_below HW15.out hB22)
    have HAq22 := Aside0.mk (Kd.C_below HAq15.out hB22)
    have HA22 := Aside0.mk (blk_below HA15.out hB22)
    have HBq22 := Aside0.mk (Kd.C_below HBq15.out hB22)
    have HBb22 := Aside0.mk (blk_below HBb15.out hB22)
    have HN22 := Aside0.mk (blk_below HN15.out hB22)
    have HXq22 := Aside0.mk (Kd.C_below HXq15.out hB22)
    have HX22 := Aside0.mk (blk_below HX15.out hB22)
    clear HB15 HR15 HQ15 HC15 HW15 HAq15 HA15 HBq15 HBb15 HN15 HXq15 HX15
    clear hB22
    have hzHC22_0 := (blk_cell HC22.out 0).trans rfl
    have hzHW22_0 := (blk_cell HW22.out 0).trans rfl
    have hzHW22_1 := (blk_cell HW22.out 1).trans rfl
    have hzHA22_0 := (blk_cell HA22.out 0).trans rfl
    have hzHA22_1 := (blk_cell HA22.out 1).trans rfl
    have hzHBb22_0 := (blk_cell HBb22.out 0).trans rfl
    have hzHBb22_1 := (blk_cell HBb22.out 1).trans rfl
    have hzHN22_0 := (blk_cell HN22.out 0).trans rfl
    have hzHN22_1 := (blk_cell HN22.out 1).trans rfl
    have hzHX22_0 := (blk_cell HX22.out 0).trans rfl
    have hzHX22_1 := (blk_cell HX22.out 1).trans rfl
    clear hzHC22_0 hzHW22_0 hzHW22_1 hzHA22_0 hzHA22_1 hzHBb22_0 hzHBb22_1 hzHN22_0 hzHN22_1 hzHX22_0 hzHX22_1
    have hB23 := (below_alloc (Below.refl w22.heap.size w22) (.cells #[.int .i64 ry1, .slice A22 ry2.length c22] 47))
    have HY23 := Aside0.mk (blk_new w22 (.cells #[.int .i64 ry1, .slice A22 ry2.length c22] 47))
    have HB23 := Aside0.mk (below_step HB22.out hB23)
    have HR23 := Aside0.mk (Kd.C_below HR22.out hB23)
    have HQ23 := Aside0.mk (Kd.C_below HQ22.out hB23)
    have HC23 := Aside0.mk (blk_below HC22.out hB23)
    have HW23 := Aside0.mk (blk_below HW22.out hB23)
    have HAq23 := Aside0.mk (Kd.C_below HAq22.out hB23)
    have HA23 := Aside0.mk (blk_below HA22.out hB23)
    have HBq23 := Aside0.mk (Kd.C_below HBq22.out hB23)
    have HBb23 := Aside0.mk (blk_below HBb22.out hB23)
    have HN23 := Aside0.mk (blk_below HN22.out hB23)
    have HXq23 := Aside0.mk (Kd.C_below HXq22.out hB23)
    have HX23 := Aside0.mk (blk_below HX22.out hB23)
    have HYq23 := Aside0.mk (Kd.C_below HYq22.out hB23)
    clear hB23 HB22 HR22 HQ22 HC22 HW22 HAq22 HA22 HBq22 HBb22 HN22 HXq22 HX22 HYq22
    have hzHC23_0 := (blk_cell HC23.out 0).trans rfl
    have hzHW23_0 := (blk_cell HW23.out 0).trans rfl
    have hzHW23_1 := (blk_cell HW23.out 1).trans rfl
    have hzHA23_0 := (blk_cell HA23.out 0).trans rfl
    have hzHA23_1 := (blk_cell HA23.out 1).trans rfl
    have hzHBb23_0 := (blk_cell HBb23.out 0).trans rfl
    have hzHBb23_1 := (blk_cell HBb23.out 1).trans rfl
    have hzHN23_0 := (blk_cell HN23.out 0).trans rfl
    have hzHN23_1 := (blk_cell HN23.out 1).trans rfl
    have hzHX23_0 := (blk_cell HX23.out 0).trans rfl
    have hzHX23_1 := (blk_cell HX23.out 1).trans rfl
    go_wp2_with fail
    clear hzHC23_0 hzHW23_0 hzHW23_1 hzHA23_0 hzHA23_1 hzHBb23_0 hzHBb23_1 hzHN23_0 hzHN23_1 hzHX23_0 hzHX23_1
    obtain ⟨w23, hW23⟩ : ∃ W : World, (w22.alloc (.cells #[.int .i64 ry1, .slice A22 ry2.length c22] 47)) = W := ⟨_, rfl⟩
    rw [hW23] at HB23 HR23 HQ23 HC23 HW23 HAq23 HA23 HBq23 HBb23 HN23 HXq23 HX23 HYq23 HY23 ⊢
    obtain ⟨zy, hzy⟩ : ∃ z, w22.heap.size = z := ⟨_, rfl⟩
    rw [hzy] at HY23 ⊢
    clear hW23 hzy 
    refine (HSY.out _).mono ?_
    rintro e w24 ⟨rfl, hD24⟩
    have hB24 := hD24.below

    have HB24 := Aside0.mk (below_step HB23.out hB24)
    have HR24 := Aside0.mk (Kd.C_below HR23.out hB24)
    have HQ24 := Aside0.mk (Kd.C_below HQ23.out hB24)
    have HC24 := Aside0.mk (blk_below HC23.out hB24)
    have HW24 := Aside0.mk (blk_below HW23.out hB24)
    have HAq24 := Aside0.mk (Kd.C_below HAq23.out hB24)
    have HA24 := Aside0.mk (blk_below HA23.out hB24)
    have HBq24 := Aside0.mk (Kd.C_below HBq23.out hB24)
    have HBb24 := Aside0.mk (blk_below HBb23.out hB24)
    have HN24 := Aside0.mk (blk_below HN23.out hB24)
    have HXq24 := Aside0.mk (Kd.C_below HXq23.out hB24)
    have HX24 := Aside0.mk (blk_below HX23.out hB24)
    have HYq24 := Aside0.mk (Kd.C_below HYq23.out hB24)
    have HY24 := Aside0.mk (blk_below HY23.out hB24)
    clear HB23 HR23 HQ23 HC23 HW23 HAq23 HA23 HBq23 HBb23 HN23 HXq23 HX23 HYq23 HY23
    clear hB24
    have hzHC24_0 := (blk_cell HC24.out 0).trans rfl
    have hzHW24_0 := (blk_cell HW24.out 0).trans rfl
    have hzHW24_1 := (blk_cell HW24.out 1).trans rfl
    have hzHA24_0 := (blk_cell HA24.out 0).trans rfl
    have hzHA24_1 := (blk_cell HA24.out 1).trans rfl
    have hzHBb24_0 := (blk_cell HBb24.out 0).trans rfl
    have hzHBb24_1 := (blk_cell HBb24.out 1).trans rfl
    have hzHN24_0 := (blk_cell HN24.out 0).trans rfl
    have hzHN24_1 := (blk_cell HN24.out 1).trans rfl
    have hzHX24_0 := (blk_cell HX24.out 0).trans rfl
    have hzHX24_1 := (blk_cell HX24.out 1).trans rfl
    have hzHY24_0 := (blk_cell HY24.out 0).trans rfl
    have hzHY24_1 := (blk_cell HY24.out 1).trans rfl
    go_wp2_with fail
    refine (standstillref07_SameWheel.calls k rb1 A8 c8 rb2 ry1 A22 c22 ry2 true _ HBq24.out HBc.out HYq24.out HYc.out HS2.out).mono ?_
    rintro e w25 ⟨rfl, hB25⟩

    clear hzHC24_0 hzHW24_0 hzHW24_1 hzHA24_0 hzHA24_1 hzHBb24_0 hzHBb24_1 hzHN24_0 hzHN24_1 hzHX24_0 hzHX24_1 hzHY24_0 hzHY24_1
    have HB25 := Aside0.mk (below_step HB24.out hB25)
    have HR25 := Aside0.mk (Kd.C_below HR24.out hB25)
    have HQ25 := Aside0.mk (Kd.C_below HQ24.out hB25)
    have HC25 := Aside0.mk (blk_below HC24.out hB25)
    have HW25 := Aside0.mk (blk_below HW24.out hB25)
    have HAq25 := Aside0.mk (Kd.C_below HAq24.out hB25)
    have HA25 := Aside0.mk (blk_below HA24.out hB25)
    have HBq25 := Aside0.mk (Kd.C_below HBq24.out hB25)
    have HBb25 := Aside0.mk (blk_below HBb24.out hB25)
    have HN25 := Aside0.mk (blk_below HN24.out hB25)
    have HXq25 := Aside0.mk (Kd.C_below HXq24.out hB25)
    have HX25 := Aside0.mk (blk_below HX24.out hB25)
    have HYq25 := Aside0.mk (Kd.C_below HYq24.out hB25)
    have HY25 := Aside0.mk (blk_below HY24.out hB25)
    clear HB24 HR24 HQ24 HC24 HW24 HAq24 HA24 HBq24 HBb24 HN24 HXq24 HX24 HYq24 HY24
    clear hB25
    have hzHC25_0 := (blk_cell HC25.out 0).trans rfl
    have hzHW25_0 := (blk_cell HW25.out 0).trans rfl
    have hzHW25_1 := (blk_cell HW25.out 1).trans rfl
    have hzHA25_0 := (blk_cell HA25.out 0).trans rfl
    have hzHA25_1 := (blk_cell HA25.out 1).trans rfl
    have hzHBb25_0 := (blk_cell HBb25.out 0).trans rfl
    have hzHBb25_1 := (blk_cell HBb25.out 1).trans rfl
    have hzHN25_0 := (blk_cell HN25.out 0).trans rfl
    have hzHN25_1 := (blk_cell HN25.out 1).trans rfl
    have hzHX25_0 := (blk_cell HX25.out 0).trans rfl
    have hzHX25_1 := (blk_cell HX25.out 1).trans rfl
    have hzHY25_0 := (blk_cell HY25.out 0).trans rfl
    have hzHY25_1 := (blk_cell HY25.out 1).trans rfl
    go_wp2_with fail
    refine (HAW.out _ H.out).mono ?_
    rintro e w9 ⟨rfl, hB9⟩
    go_wp2
    go_ret
    exact ⟨rfl, below_step HB25.out hB9⟩
  have kAb : (200 < a2) = True := eq_true (by omega)
  have kAc : decide (200 < a2) = true := decide_eq_true (by omega)
  have kAd : (a2 ≤ 1000000) = False := eq_false (by have := KW.out; omega)
  have kAe : decide (a2 ≤ 1000000) = false := decide_eq_false (by have := KW.out; omega)
  have KA := Aside0.mk kA
  clear kA
  go_wp2_with fail
  have hs0 := (blk_cell HC1.out 0).trans rfl
  have hs1 := (blk_cell HW1.out 0).trans rfl
  have hs2 := (blk_cell HW1.out 1).trans rfl
  have HR1d := Aside0.mk (Kd.C_below HR1.out (show Below w1.heap.size w1 w1.drew from bk_ (Below.refl _ _)))
  have hvv : (v1 != v1) = false := by simp
  have hff : (f1 != f1) = false := by simp
  refine start_ (n := 14) (S := fun w' => w'.cell? ⟨z0, 0, none⟩ = some (.slice A0_0 l0_0.length c0_0) ∧ w'.cell? ⟨z1, 0, none⟩ = some (.int .i64 a1_0) ∧ w'.cell? ⟨z1, 1, none⟩ = some (.slice A1_1 l1_1.length c1_1)) (ds := []) #[false, false, false, false, false, false, false, false, false, false, false, false, false, false] (by kernel_rfl) rfl rfl ⟨hs0, hs1, hs2⟩ (fun hHeld => ?_)
  refine take_ (i := 0) (N := some 30) (v := ?_) (a' := ?_) #[true, false, false, false, false, false, false, false, false, false, false, false, false, false] rfl rfl (by kernel_rfl) (fun _ _ _ h => h) (Or.inl ⟨by rfl, ?_⟩) hHeld ?_ ?_
  rotate_left
  · rintro w' ⟨s0, s1, s2⟩
    go_simp
    with_reducible rfl
  rotate_left
  · simp only [Act.put, List.setIfInBounds_toArray, List.set_cons_zero, List.set_cons_succ, i64_w, i32_w]
    rfl
  refine take_ (i := 2) (N := some 32) (v := ?_) (a' := ?_) #[true, false, true, false, false, false, false, false, false, false, false, false, false, false] rfl rfl (by kernel_rfl) (fun _ _ _ h => h) (Or.inl ⟨by rfl, ?_⟩) hHeld ?_ ?_
  rotate_left
  · rintro w' ⟨s0, s1, s2⟩
    go_simp
    with_reducible rfl
  rotate_left
  · simp only [Act.put, List.setIfInBounds_toArray, List.set_cons_zero, List.set_cons_succ, i64_w, i32_w]
    rfl
  refine one_ (i := 1) (N := some 31) #[true, true, true, false, false, false, false, false, false, false, false, false, false, false] rfl rfl (by kernel_rfl) (by decide) (fun K hK => ?_)
  refine goes_ Try.func24 (by kernel_rfl) rfl #[.agg #[.slice A0_0 l0_0.length c0_0]] (by rfl) rfl rfl (by simp only [List.map_toArray, List.map_cons, List.map_nil]; rfl) ?_
  with_reducible refine (HV1.out _ HR1d.out).mono ?_
  rintro e w2 ⟨rfl, hB2⟩
  refine ⟨_, rfl, ?_⟩
  have HE2 := Aside0.mk (below_step (bk_ (Below.refl w1.heap.size w1)) hB2)
  clear hB2
  have HR2 := Aside0.mk (Kd.C_below HR1.out HE2.out)
  have HQ2 := Aside0.mk (Kd.C_below HQ1.out HE2.out)
  refine hK.out _ _ ⟨(lf_ HE2.out hs0), (lf_ HE2.out hs1), (lf_ HE2.out hs2)⟩ (fun hHeld => ?_)
  clear hK K
  refine norm_ (a' := ?_) ?_ ?_
  rotate_left
  · show Act.put _ (some 31) _ = _
    simp only [Act.put, List.setIfInBounds_toArray, List.set_cons_zero, List.set_cons_succ, i64_w, i32_w]
    rfl
  refine one_ (i := 3) (N := some 33) #[true, true, true, true, false, false, false, false, false, false, false, false, false, false] rfl rfl (by kernel_rfl) (by decide) (fun K hK => ?_)
  refine goes_ Try.func25 (by kernel_rfl) rfl #[.agg #[.slice A0_0 l0_0.length c0_0]] (by rfl) rfl rfl (by simp only [List.map_toArray, List.map_cons, List.map_nil]; rfl) ?_
  with_reducible refine (HV2.out _ HR2.out).mono ?_
  rintro e w3 ⟨rfl, hB3⟩
  refine ⟨_, rfl, ?_⟩
  have HE3 := Aside0.mk (below_step HE2.out hB3)
  clear hB3
  have HR3 := Aside0.mk (Kd.C_below HR1.out HE3.out)
  have HQ3 := Aside0.mk (Kd.C_below HQ1.out HE3.out)
  refine hK.out _ _ ⟨(lf_ HE3.out hs0), (lf_ HE3.out hs1), (lf_ HE3.out hs2)⟩ (fun hHeld => ?_)
  clear hK K
  refine norm_ (a' := ?_) ?_ ?_
  rotate_left
  · show Act.put _ (some 33) _ = _
    simp only [Act.put, List.setIfInBounds_toArray, List.set_cons_zero, List.set_cons_succ, i64_w, i32_w]
    rfl
  refine pure_ (i := 4) (N := some 34) (v := ?_) (a' := ?_) #[true, true, true, true, true, false, false, false, false, false, false, false, false, false] rfl rfl (by kernel_rfl) (fun _ _ _ h => h) (Or.inl ⟨by rfl, ?_⟩) ?_ ?_
  rotate_left
  · intro w'
    go_simp
    with_reducible rfl
  rotate_left
  · simp only [Act.put, List.setIfInBounds_toArray, List.set_cons_zero, List.set_cons_succ, i64_w, i32_w]
    rfl
  refine pure_ (i := 5) (N := some 35) (v := ?_) (a' := ?_) #[true, true, true, true, true, true, false, false, false, false, false, false, false, false] rfl rfl (by kernel_rfl) (fun _ _ _ h => h) (Or.inl ⟨by rfl, ?_⟩) ?_ ?_
  rotate_left
  · intro w'
    go_simp
    with_reducible rfl
  rotate_left
  · simp only [Act.put, List.setIfInBounds_toArray, List.set_cons_zero, List.set_cons_succ, i64_w, i32_w]
    rfl
  refine take_ (i := 6) (N := some 36) (v := ?_) (a' := ?_) #[true, true, true, true, true, true, true, false, false, false, false, false, false, false] rfl rfl (by kernel_rfl) (fun _ _ _ h => h) (Or.inl ⟨by rfl, ?_⟩) hHeld ?_ ?_
  rotate_left
  · rintro w' ⟨s0, s1, s2⟩
    go_simp
    with_reducible rfl
  rotate_left
  · simp only [Act.put, List.setIfInBounds_toArray, List.set_cons_zero, List.set_cons_succ, i64_w, i32_w]
    rfl
  refine take_ (i := 7) (N := some 37) (v := ?_) (a' := ?_) #[true, true, true, true, true, true, true, true, false, false, false, false, false, false] rfl rfl (by kernel_rfl) (fun _ _ _ h => h) (Or.inl ⟨by rfl, ?_⟩) hHeld ?_ ?_
  rotate_left
  · rintro w' ⟨s0, s1, s2⟩
    go_simp
    with_reducible rfl
  rotate_left
  · simp only [Act.put, List.setIfInBounds_toArray, List.set_cons_zero, List.set_cons_succ, i64_w, i32_w]
    rfl
  refine take_ (i := 9) (N := some 39) (v := ?_) (a' := ?_) #[true, true, true, true, true, true, true, true, false, true, false, false, false, false] rfl rfl (by kernel_rfl) (fun _ _ _ h => h) (Or.inl ⟨by rfl, ?_⟩) hHeld ?_ ?_
  rotate_left
  · rintro w' ⟨s0, s1, s2⟩
    go_simp
    with_reducible rfl
  rotate_left
  · simp only [Act.put, List.setIfInBounds_toArray, List.set_cons_zero, List.set_cons_succ, i64_w, i32_w]
    rfl
  refine take_ (i := 10) (N := some 40) (v := ?_) (a' := ?_) #[true, true, true, true, true, true, true, true, false, true, true, false, false, false] rfl rfl (by kernel_rfl) (fun _ _ _ h => h) (Or.inl ⟨by rfl, ?_⟩) hHeld ?_ ?_
  rotate_left
  · rintro w' ⟨s0, s1, s2⟩
    go_simp
    with_reducible rfl
  rotate_left
  · simp only [Act.put, List.setIfInBounds_toArray, List.set_cons_zero, List.set_cons_succ, i64_w, i32_w]
    rfl
  refine one_ (i := 8) (N := some 38) #[true, true, true, true, true, true, true, true, true, true, true, false, false, false] rfl rfl (by kernel_rfl) (by decide) (fun K hK => ?_)
  refine goes_ Try.func26 (by kernel_rfl) rfl #[.agg #[.slice A0_0 l0_0.length c0_0], .agg #[.int .i64 a1_0, .slice A1_1 l1_1.length c1_1]] (by rfl) rfl rfl (by simp only [List.map_toArray, List.map_cons, List.map_nil]; rfl) ?_
  with_reducible refine (HF1.out _ HR3.out HQ3.out).mono ?_
  rintro e w4 ⟨rfl, hB4⟩
  refine ⟨_, rfl, ?_⟩
  have HE4 := Aside0.mk (below_step HE3.out hB4)
  clear hB4
  have HR4 := Aside0.mk (Kd.C_below HR1.out HE4.out)
  have HQ4 := Aside0.mk (Kd.C_below HQ1.out HE4.out)
  refine hK.out _ _ ⟨(lf_ HE4.out hs0), (lf_ HE4.out hs1), (lf_ HE4.out hs2)⟩ (fun hHeld => ?_)
  clear hK K
  refine norm_ (a' := ?_) ?_ ?_
  rotate_left
  · show Act.put _ (some 38) _ = _
    simp only [Act.put, List.setIfInBounds_toArray, List.set_cons_zero, List.set_cons_succ, i64_w, i32_w]
    rfl
  refine one_ (i := 11) (N := some 41) #[true, true, true, true, true, true, true, true, true, true, true, true, false, false] rfl rfl (by kernel_rfl) (by decide) (fun K hK => ?_)
  refine goes_ Try.func27 (by kernel_rfl) rfl #[.agg #[.slice A0_0 l0_0.length c0_0], .agg #[.int .i64 a1_0, .slice A1_1 l1_1.length c1_1]] (by rfl) rfl rfl (by simp only [List.map_toArray, List.map_cons, List.map_nil]; rfl) ?_
  with_reducible refine (HF2.out _ HR4.out HQ4.out).mono ?_
  rintro e w5 ⟨rfl, hB5⟩
  refine ⟨_, rfl, ?_⟩
  have HE5 := Aside0.mk (below_step HE4.out hB5)
  clear hB5
  have HR5 := Aside0.mk (Kd.C_below HR1.out HE5.out)
  have HQ5 := Aside0.mk (Kd.C_below HQ1.out HE5.out)
  refine hK.out _ _ ⟨(lf_ HE5.out hs0), (lf_ HE5.out hs1), (lf_ HE5.out hs2)⟩ (fun hHeld => ?_)
  clear hK K
  refine norm_ (a' := ?_) ?_ ?_
  rotate_left
  · show Act.put _ (some 41) _ = _
    simp only [Act.put, List.setIfInBounds_toArray, List.set_cons_zero, List.set_cons_succ, i64_w, i32_w]
    rfl
  refine pure_ (i := 12) (N := some 42) (v := ?_) (a' := ?_) #[true, true, true, true, true, true, true, true, true, true, true, true, true, false] rfl rfl (by kernel_rfl) (fun _ _ _ h => h) (Or.inl ⟨by rfl, ?_⟩) ?_ ?_
  rotate_left
  · intro w'
    go_simp
    with_reducible rfl
  rotate_left
  · simp only [Act.put, List.setIfInBounds_toArray, List.set_cons_zero, List.set_cons_succ, i64_w, i32_w]
    rfl
  refine pure_ (i := 13) (N := some 43) (v := ?_) (a' := ?_) #[true, true, true, true, true, true, true, true, true, true, true, true, true, true] rfl rfl (by kernel_rfl) (fun _ _ _ h => h) (Or.inl ⟨by rfl, ?_⟩) ?_ ?_
  rotate_left
  · intro w'
    go_simp
    with_reducible rfl
  rotate_left
  · simp only [Act.put, List.setIfInBounds_toArray, List.set_cons_zero, List.set_cons_succ, i64_w, i32_w]
    rfl
  refine done_ (by kernel_rfl) ?_
  have HB5 := Aside0.mk (below_step HB1.out HE5.out)
  have HC5 := Aside0.mk (blk_below HC1.out HE5.out)
  have HW5 := Aside0.mk (blk_below HW1.out HE5.out)
  clear hvv hff hs0 hs1 hs2 HB1 HC1 HW1 HR1 HQ1 HR1d HE2 HE3 HE4 HE5 HR2 HR3 HR4 HQ2 HQ3 HQ4 HV1 HV2 HF1 kAb kAc kAd kAe
  have hzHC5_0 := (blk_cell HC5.out 0).trans rfl
  have hzHW5_0 := (blk_cell HW5.out 0).trans rfl
  have hzHW5_1 := (blk_cell HW5.out 1).trans rfl
  go_wp2_with fail
  refine (HTA.out _ HR5.out HQ5.out).mono ?_
  rintro e w6 ⟨v6, rfl, ho6, hB6⟩
  obtain ⟨A6, c6, rfl⟩ := Kd.R_slice ho6
  have HAq6 := Aside0.mk (Kd.R_reads' ho6).2.2
  have HAc := Aside0.mk (Kd.R_reads' ho6).2.1
  clear ho6
  clear hzHC5_0 hzHW5_0 hzHW5_1
  have HB6 := Aside0.mk (below_step HB5.out hB6)
  have HR6 := Aside0.mk (Kd.C_below HR5.out hB6)
  have HQ6 := Aside0.mk (Kd.C_below HQ5.out hB6)
  have HC6 := Aside0.mk (blk_below HC5.out hB6)
  have HW6 := Aside0.mk (blk_below HW5.out hB6)
  clear HB5 HR5 HQ5 HC5 HW5
  clear hB6
  have hzHC6_0 := (blk_cell HC6.out 0).trans rfl
  have hzHW6_0 := (blk_cell HW6.out 0).trans rfl
  have hzHW6_1 := (blk_cell HW6.out 1).trans rfl
  clear hzHC6_0 hzHW6_0 hzHW6_1
  have hB7 := (below_alloc (Below.refl w6.heap.size w6) (.cells #[.int .i64 ra1, .slice A6 ra2.length c6] 47))
  have HA7 := Aside0.mk (blk_new w6 (.cells #[.int .i64 ra1, .slice A6 ra2.length c6] 47))
  have HB7 := Aside0.mk (below_step HB6.out hB7)
  have HR7 := Aside0.mk (Kd.C_below HR6.out hB7)
  have HQ7 := Aside0.mk (Kd.C_below HQ6.out hB7)
  have HC7 := Aside0.mk (blk_below HC6.out hB7)
  have HW7 := Aside0.mk (blk_below HW6.out hB7)
  have HAq7 := Aside0.mk (Kd.C_below HAq6.out hB7)
  clear hB7 HB6 HR6 HQ6 HC6 HW6 HAq6
  have hzHC7_0 := (blk_cell HC7.out 0).trans rfl
  have hzHW7_0 := (blk_cell HW7.out 0).trans rfl
  have hzHW7_1 := (blk_cell HW7.out 1).trans rfl
  go_wp2_with fail
  clear hzHC7_0 hzHW7_0 hzHW7_1
  obtain ⟨w7, hW7⟩ : ∃ W : World, (w6.alloc (.cells #[.int .i64 ra1, .slice A6 ra2.length c6] 47)) = W := ⟨_, rfl⟩
  rw [hW7] at HB7 HR7 HQ7 HC7 HW7 HAq7 HA7 ⊢
  obtain ⟨za, hza⟩ : ∃ z, w6.heap.size = z := ⟨_, rfl⟩
  rw [hza] at HA7 ⊢
  clear hW7 hza 
  refine (HTB.out _ HR7.out HQ7.out).mono ?_
  rintro e w8 ⟨v8, rfl, ho8, hB8⟩

  obtain ⟨A8, c8, rfl⟩ := Kd.R_slice ho8
  have HBq8 := Aside0.mk (Kd.R_reads' ho8).2.2
  have HBc := Aside0.mk (Kd.R_reads' ho8).2.1
  clear ho8
  have HB8 := Aside0.mk (below_step HB7.out hB8)
  have HR8 := Aside0.mk (Kd.C_below HR7.out hB8)
  have HQ8 := Aside0.mk (Kd.C_below HQ7.out hB8)
  have HC8 := Aside0.mk (blk_below HC7.out hB8)
  have HW8 := Aside0.mk (blk_below HW7.out hB8)
  have HAq8 := Aside0.mk (Kd.C_below HAq7.out hB8)
  have HA8 := Aside0.mk (blk_below HA7.out hB8)
  clear HB7 HR7 HQ7 HC7 HW7 HAq7 HA7
  clear hB8
  have hB10 := (below_alloc (below_alloc (Below.refl w8.heap.size w8) (.cells #[.int .i64 rb1, .slice A8 rb2.length c8] 47)) (.cells #[.int .i64 0, .slice none 0 0] 47))
  have HBb10 := Aside0.mk (blk_below (blk_new w8 (.cells #[.int .i64 rb1, .slice A8 rb2.length c8] 47)) (below_alloc (Below.refl (w8.alloc (.cells #[.int .i64 rb1, .slice A8 rb2.length c8] 47)).heap.size (w8.alloc (.cells #[.int .i64 rb1, .slice A8 rb2.length c8] 47))) (.cells #[.int .i64 0, .slice none 0 0] 47)))
  have HN10 := Aside0.mk (blk_new (w8.alloc (.cells #[.int .i64 rb1, .slice A8 rb2.length c8] 47)) (.cells #[.int .i64 0, .slice none 0 0] 47))
  have HB10 := Aside0.mk (below_step HB8.out hB10)
  have HR10 := Aside0.mk (Kd.C_below HR8.out hB10)
  have HQ10 := Aside0.mk (Kd.C_below HQ8.out hB10)
  have HC10 := Aside0.mk (blk_below HC8.out hB10)
  have HW10 := Aside0.mk (blk_below HW8.out hB10)
  have HAq10 := Aside0.mk (Kd.C_below HAq8.out hB10)
  have HA10 := Aside0.mk (blk_below HA8.out hB10)
  have HBq10 := Aside0.mk (Kd.C_below HBq8.out hB10)
  clear hB10 HB8 HR8 HQ8 HC8 HW8 HAq8 HA8 HBq8
  have hsz : (w8.alloc (.cells #[.int .i64 rb1, .slice A8 rb2.length c8] 47)).heap.size = w8.heap.size + 1 := by simp
  rw [hsz] at HN10
  have hzHC10_0 := (blk_cell HC10.out 0).trans rfl
  have hzHW10_0 := (blk_cell HW10.out 0).trans rfl
  have hzHW10_1 := (blk_cell HW10.out 1).trans rfl
  have hzHA10_0 := (blk_cell HA10.out 0).trans rfl
  have hzHA10_1 := (blk_cell HA10.out 1).trans rfl
  go_wp2_with fail
  clear hzHC10_0 hzHW10_0 hzHW10_1 hzHA10_0 hzHA10_1
  obtain ⟨w10, hW10⟩ : ∃ W : World, ((w8.alloc (.cells #[.int .i64 rb1, .slice A8 rb2.length c8] 47)).alloc (.cells #[.int .i64 0, .slice none 0 0] 47)) = W := ⟨_, rfl⟩
  rw [hW10] at HB10 HR10 HQ10 HC10 HW10 HAq10 HA10 HBq10 HBb10 HN10 ⊢
  obtain ⟨zb, hzb⟩ : ∃ z, w8.heap.size = z := ⟨_, rfl⟩
  obtain ⟨zn, hzn⟩ : ∃ z, w8.heap.size + 1 = z := ⟨_, rfl⟩
  rw [hzn] at HN10 ⊢
  rw [hzb] at HBb10 ⊢
  clear hW10 hzb hzn hsz
  refine (HF2.out _ HR10.out HQ10.out).mono ?_
  rintro e w11 ⟨rfl, hB11⟩


  have HB11 := Aside0.mk (below_step HB10.out hB11)
  have HR11 := Aside0.mk (Kd.C_below HR10.out hB11)
  have HQ11 := Aside0.mk (Kd.C_below HQ10.out hB11)
  have HC11 := Aside0.mk (blk_below HC10.out hB11)
  have HW11 := Aside0.mk (blk_below HW10.out hB11)
  have HAq11 := Aside0.mk (Kd.C_below HAq10.out hB11)
  have HA11 := Aside0.mk (blk_below HA10.out hB11)
  have HBq11 := Aside0.mk (Kd.C_below HBq10.out hB11)
  have HBb11 := Aside0.mk (blk_below HBb10.out hB11)
  have HN11 := Aside0.mk (blk_below HN10.out hB11)
  clear HB10 HR10 HQ10 HC10 HW10 HAq10 HA10 HBq10 HBb10 HN10
  clear hB11
  clear HF2 HTA HTB
  have hzHC11_0 := (blk_cell HC11.out 0).trans rfl
  have hzHW11_0 := (blk_cell HW11.out 0).trans rfl
  have hzHW11_1 := (blk_cell HW11.out 1).trans rfl
  have hzHA11_0 := (blk_cell HA11.out 0).trans rfl
  have hzHA11_1 := (blk_cell HA11.out 1).trans rfl
  have hzHBb11_0 := (blk_cell HBb11.out 0).trans rfl
  have hzHBb11_1 := (blk_cell HBb11.out 1).trans rfl
  have hzHN11_0 := (blk_cell HN11.out 0).trans rfl
  have hzHN11_1 := (blk_cell HN11.out 1).trans rfl
  cases f1 with
  | false =>
    have h := H.out
    clear H
    unfold standstilllaw07_TagTurns.body at h
    simp only [Bool.false_eq_true, if_false] at h
    by_cases kc : ra3 = 1 ∧ rb4 = 1 ∧ rb3 = 0
    rotate_left
    · rw [if_neg kc] at h
      cases h
    rw [if_pos kc] at h
    obtain ⟨rfl, rfl, rfl⟩ := kc
    obtain ⟨s1, hs1, h1⟩ := Option.bind_eq_some_iff.1 h
    obtain ⟨s2, hs2, h2⟩ := Option.bind_eq_some_iff.1 h1
    by_cases ks : s1 = true ∧ s2 = true
    rotate_left
    · rw [if_neg ks] at h2
      cases h2
    rw [if_pos ks] at h2
    obtain ⟨rfl, rfl⟩ := ks
    have HS1 := Aside0.mk (fun W hA => standstillref07_SameWheel.calls k ra1 A6 c6 ra2 0 none 0 ([] : List Int) true W hA HAc.out (Kd.C_nil _ _) (Nat.le_refl _) hs1)
    have HS2 := Aside0.mk (fun W hA => standstillref07_SameWheel.calls k rb1 A8 c8 rb2 0 none 0 ([] : List Int) true W hA HBc.out (Kd.C_nil _ _) (Nat.le_refl _) hs2)
    have H := Aside0.mk h2
    clear h h1 h2 hs1 hs2
    go_wp2_with fail
    refine (HS1.out _ HAq11.out).mono ?_
    rintro e w12 ⟨rfl, hB12⟩

    clear hzHC11_0 hzHW11_0 hzHW11_1 hzHA11_0 hzHA11_1 hzHBb11_0 hzHBb11_1 hzHN11_0 hzHN11_1
    have HB12 := Aside0.mk (below_step HB11.out hB12)
    have HR12 := Aside0.mk (Kd.C_below HR11.out hB12)
    have HQ12 := Aside0.mk (Kd.C_below HQ11.out hB12)
    have HC12 := Aside0.mk (blk_below HC11.out hB12)
    have HW12 := Aside0.mk (blk_below HW11.out hB12)
    have HAq12 := Aside0.mk (Kd.C_below HAq11.out hB12)
    have HA12 := Aside0.mk (blk_below HA11.out hB12)
    have HBq12 := Aside0.mk (Kd.C_below HBq11.out hB12)
    have HBb12 := Aside0.mk (blk_below HBb11.out hB12)
    have HN12 := Aside0.mk (blk_below HN11.out hB12)
    clear HB11 HR11 HQ11 HC11 HW11 HAq11 HA11 HBq11 HBb11 HN11
    clear hB12
    have hzHC12_0 := (blk_cell HC12.out 0).trans rfl
    have hzHW12_0 := (blk_cell HW12.out 0).trans rfl
    have hzHW12_1 := (blk_cell HW12.out 1).trans rfl
    have hzHA12_0 := (blk_cell HA12.out 0).trans rfl
    have hzHA12_1 := (blk_cell HA12.out 1).trans rfl
    have hzHBb12_0 := (blk_cell HBb12.out 0).trans rfl
    have hzHBb12_1 := (blk_cell HBb12.out 1).trans rfl
    have hzHN12_0 := (blk_cell HN12.out 0).trans rfl
    have hzHN12_1 := (blk_cell HN12.out 1).trans rfl
    go_wp2_with fail
    refine (HS2.out _ HBq12.out).mono ?_
    rintro e w13 ⟨rfl, hB13⟩

    clear hzHC12_0 hzHW12_0 hzHW12_1 hzHA12_0 hzHA12_1 hzHBb12_0 hzHBb12_1 hzHN12_0 hzHN12_1
    have HB13 := Aside0.mk (below_step HB12.out hB13)
    have HR13 := Aside0.mk (Kd.C_below HR12.out hB13)
    have HQ13 := Aside0.mk (Kd.C_below HQ12.out hB13)
    have HC13 := Aside0.mk (blk_below HC12.out hB13)
    have HW13 := Aside0.mk (blk_below HW12.out hB13)
    have HAq13 := Aside0.mk (Kd.C_below HAq12.out hB13)
    have HA13 := Aside0.mk (blk_below HA12.out hB13)
    have HBq13 := Aside0.mk (Kd.C_below HBq12.out hB13)
    have HBb13 := Aside0.mk (blk_below HBb12.out hB13)
    have HN13 := Aside0.mk (blk_below HN12.out hB13)
    clear HB12 HR12 HQ12 HC12 HW12 HAq12 HA12 HBq12 HBb12 HN12
    clear hB13
    have hzHC13_0 := (blk_cell HC13.out 0).trans rfl
    have hzHW13_0 := (blk_cell HW13.out 0).trans rfl
    have hzHW13_1 := (blk_cell HW13.out 1).trans rfl
    have hzHA13_0 := (blk_cell HA13.out 0).trans rfl
    have hzHA13_1 := (blk_cell HA13.out 1).trans rfl
    have hzHBb13_0 := (blk_cell HBb13.out 0).trans rfl
    have hzHBb13_1 := (blk_cell HBb13.out 1).trans rfl
    have hzHN13_0 := (blk_cell HN13.out 0).trans rfl
    have hzHN13_1 := (blk_cell HN13.out 1).trans rfl
    go_wp2_with fail
    refine (HAW.out _ H.out).mono ?_
    rintro e w9 ⟨rfl, hB9⟩
    go_wp2
    go_ret
    exact ⟨rfl, below_step HB13.out hB9⟩
  | true =>
  have h := H.out
  clear H
  unfold standstilllaw07_TagTurns.body at h
  simp only [if_true] at h
  by_cases kq : (l1_1.length : Int) = 0
  · skip
    rw [if_pos kq] at h
    by_cases kc : ra3 = 5
    rotate_left
    · rw [if_neg kc] at h
      cases h
    rw [if_pos kc] at h
    subst kc
    obtain ⟨s1, hs1, h1⟩ := Option.bind_eq_some_iff.1 h
    by_cases ks : s1 = true
    rotate_left
    · rw [if_neg ks] at h1
      cases h1
    rw [if_pos ks] at h1
    subst ks
    have HS1 := Aside0.mk (fun W hA => standstillref07_SameWheel.calls k ra1 A6 c6 ra2 0 none 0 ([] : List Int) true W hA HAc.out (Kd.C_nil _ _) (Nat.le_refl _) hs1)
    have H := Aside0.mk h1
    clear h h1 hs1
    have kq1 : ((l1_1.length : Int) == 0) = true := by simpa using kq
    clear kq
    go_wp2_with fail
    refine (HS1.out _ HAq11.out).mono ?_
    rintro e w12 ⟨rfl, hB12⟩

    clear hzHC11_0 hzHW11_0 hzHW11_1 hzHA11_0 hzHA11_1 hzHBb11_0 hzHBb11_1 hzHN11_0 hzHN11_1
    have HB12 := Aside0.mk (below_step HB11.out hB12)
    have HR12 := Aside0.mk (Kd.C_below HR11.out hB12)
    have HQ12 := Aside0.mk (Kd.C_below HQ11.out hB12)
    have HC12 := Aside0.mk (blk_below HC11.out hB12)
    have HW12 := Aside0.mk (blk_below HW11.out hB12)
    have HAq12 := Aside0.mk (Kd.C_below HAq11.out hB12)
    have HA12 := Aside0.mk (blk_below HA11.out hB12)
    have HBq12 := Aside0.mk (Kd.C_below HBq11.out hB12)
    have HBb12 := Aside0.mk (blk_below HBb11.out hB12)
    have HN12 := Aside0.mk (blk_below HN11.out hB12)
    clear HB11 HR11 HQ11 HC11 HW11 HAq11 HA11 HBq11 HBb11 HN11
    clear hB12
    have hzHC12_0 := (blk_cell HC12.out 0).trans rfl
    have hzHW12_0 := (blk_cell HW12.out 0).trans rfl
    have hzHW12_1 := (blk_cell HW12.out 1).trans rfl
    have hzHA12_0 := (blk_cell HA12.out 0).trans rfl
    have hzHA12_1 := (blk_cell HA12.out 1).trans rfl
    have hzHBb12_0 := (blk_cell HBb12.out 0).trans rfl
    have hzHBb12_1 := (blk_cell HBb12.out 1).trans rfl
    have hzHN12_0 := (blk_cell HN12.out 0).trans rfl
    have hzHN12_1 := (blk_cell HN12.out 1).trans rfl
    clear HS1 kq1
    have h := H.out
    clear H
    unfold standstilllaw07_TagTurns.tail at h
    have n0 : ¬ a2 < 0 := by have := KA.out; omega
    have n1 : 1000000 < a2 := by have := KA.out; have := KW.out; omega
    rw [if_pos (Or.inr n1)] at h
    have n0a : decide (a2 < 0) = false := decide_eq_false n0
    have n1a : decide (1000000 < a2) = true := decide_eq_true n1
    replace n0 := eq_false n0
    replace n1 := eq_true n1
    by_cases kc : rb4 = 2 ∧ rb3 = 0
    rotate_left
    · rw [if_neg kc] at h
      cases h
    rw [if_pos kc] at h
    obtain ⟨rfl, rfl⟩ := kc
    obtain ⟨s2, hs2, h2⟩ := Option.bind_eq_some_iff.1 h
    by_cases ks : s2 = true
    rotate_left
    · rw [if_neg ks] at h2
      cases h2
    rw [if_pos ks] at h2
    subst ks
    have HS2 := Aside0.mk (fun W hA => standstillref07_SameWheel.calls k rb1 A8 c8 rb2 0 none 0 ([] : List Int) true W hA HBc.out (Kd.C_nil _ _) (Nat.le_refl _) hs2)
    have H := Aside0.mk h2
    clear h h2 hs2
    go_wp2_with fail
    refine (HS2.out _ HBq12.out).mono ?_
    rintro e w13 ⟨rfl, hB13⟩

    clear hzHC12_0 hzHW12_0 hzHW12_1 hzHA12_0 hzHA12_1 hzHBb12_0 hzHBb12_1 hzHN12_0 hzHN12_1
    have HB13 := Aside0.mk (below_step HB12.out hB13)
    have HR13 := Aside0.mk (Kd.C_below HR12.out hB13)
    have HQ13 := Aside0.mk (Kd.C_below HQ12.out hB13)
    have HC13 := Aside0.mk (blk_below HC12.out hB13)
    have HW13 := Aside0.mk (blk_below HW12.out hB13)
    have HAq13 := Aside0.mk (Kd.C_below HAq12.out hB13)
    have HA13 := Aside0.mk (blk_below HA12.out hB13)
    have HBq13 := Aside0.mk (Kd.C_below HBq12.out hB13)
    have HBb13 := Aside0.mk (blk_below HBb12.out hB13)
    have HN13 := Aside0.mk (blk_below HN12.out hB13)
    clear HB12 HR12 HQ12 HC12 HW12 HAq12 HA12 HBq12 HBb12 HN12
    clear hB13
    have hzHC13_0 := (blk_cell HC13.out 0).trans rfl
    have hzHW13_0 := (blk_cell HW13.out 0).trans rfl
    have hzHW13_1 := (blk_cell HW13.out 1).trans rfl
    have hzHA13_0 := (blk_cell HA13.out 0).trans rfl
    have hzHA13_1 := (blk_cell HA13.out 1).trans rfl
    have hzHBb13_0 := (blk_cell HBb13.out 0).trans rfl
    have hzHBb13_1 := (blk_cell HBb13.out 1).trans rfl
    have hzHN13_0 := (blk_cell HN13.out 0).trans rfl
    have hzHN13_1 := (blk_cell HN13.out 1).trans rfl
    go_wp2_with fail
    refine (HAW.out _ H.out).mono ?_
    rintro e w9 ⟨rfl, hB9⟩
    go_wp2
    go_ret
    exact ⟨rfl, below_step HB13.out hB9⟩
  rw [if_neg kq] at h
  obtain ⟨⟨rx1, rx2, rx3⟩, hx, h0⟩ := Option.bind_eq_some_iff.1 h
  simp only at h0
  obtain ⟨sz, hsz⟩ : ∃ z : Int, (if rx3 = true then (0 : Int) else 4) = z := ⟨_, rfl⟩
  rw [hsz] at h0
  by_cases kc : ra3 = sz
  rotate_left
  · rw [if_neg kc] at h0
    cases h0
  rw [if_pos kc] at h0
  subst kc
  obtain ⟨s1, hs1, h1⟩ := Option.bind_eq_some_iff.1 h0
  by_cases ks : s1 = true
  rotate_left
  · rw [if_neg ks] at h1
    cases h1
  rw [if_pos ks] at h1
  subst ks
  have HX := Aside0.mk (fun W hW hV => standstillref07_Turn.calls A0_0 c0_0 l0_0 a1_0 A1_1 c1_1 l1_1 rx1 rx2 rx3 W hW HC.out hV HD.out hx)
  have HSZ := Aside0.mk (fun W => standstilllaw07_size.calls rx3 ra3 W ((size_two_ rx3).trans (congrArg some hsz)))
  have HS1 := Aside0.mk hs1
  have H := Aside0.mk h1
  clear h h0 h1 hs1 hx hsz
  have kq1 : ((l1_1.length : Int) == 0) = false := by simpa using kq
  clear kq
  go_wp2_with fail
  refine (HX.out _ HR11.out HQ11.out).mono ?_
  rintro e w12 ⟨v12, rfl, ho12, hB12⟩
  obtain ⟨A12, c12, rfl⟩ := Kd.R_slice ho12
  have HXq12 := Aside0.mk (Kd.R_reads' ho12).2.2
  have HXc := Aside0.mk (Kd.R_reads' ho12).2.1
  clear ho12 HX kq1
  clear hzHC11_0 hzHW11_0 hzHW11_1 hzHA11_0 hzHA11_1 hzHBb11_0 hzHBb11_1 hzHN11_0 hzHN11_1
  have HB12 := Aside0.mk (below_step HB11.out hB12)
  have HR12 := Aside0.mk (Kd.C_below HR11.out hB12)
  have HQ12 := Aside0.mk (Kd.C_below HQ11.out hB12)
  have HC12 := Aside0.mk (blk_below HC11.out hB12)
  have HW12 := Aside0.mk (blk_below HW11.out hB12)
  have HAq12 := Aside0.mk (Kd.C_below HAq11.out hB12)
  have HA12 := Aside0.mk (blk_below HA11.out hB12)
  have HBq12 := Aside0.mk (Kd.C_below HBq11.out hB12)
  have HBb12 := Aside0.mk (blk_below HBb11.out hB12)
  have HN12 := Aside0.mk (blk_below HN11.out hB12)
  clear HB11 HR11 HQ11 HC11 HW11 HAq11 HA11 HBq11 HBb11 HN11
  clear hB12
  have hzHC12_0 := (blk_cell HC12.out 0).trans rfl
  have hzHW12_0 := (blk_cell HW12.out 0).trans rfl
  have hzHW12_1 := (blk_cell HW12.out 1).trans rfl
  have hzHA12_0 := (blk_cell HA12.out 0).trans rfl
  have hzHA12_1 := (blk_cell HA12.out 1).trans rfl
  have hzHBb12_0 := (blk_cell HBb12.out 0).trans rfl
  have hzHBb12_1 := (blk_cell HBb12.out 1).trans rfl
  have hzHN12_0 := (blk_cell HN12.out 0).trans rfl
  have hzHN12_1 := (blk_cell HN12.out 1).trans rfl
  clear hzHC12_0 hzHW12_0 hzHW12_1 hzHA12_0 hzHA12_1 hzHBb12_0 hzHBb12_1 hzHN12_0 hzHN12_1
  have hB13 := (below_alloc (Below.refl w12.heap.size w12) (.cells #[.int .i64 rx1, .slice A12 rx2.length c12] 47))
  have HX13 := Aside0.mk (blk_new w12 (.cells #[.int .i64 rx1, .slice A12 rx2.length c12] 47))
  have HB13 := Aside0.mk (below_step HB12.out hB13)
  have HR13 := Aside0.mk (Kd.C_below HR12.out hB13)
  have HQ13 := Aside0.mk (Kd.C_below HQ12.out hB13)
  have HC13 := Aside0.mk (blk_below HC12.out hB13)
  have HW13 := Aside0.mk (blk_below HW12.out hB13)
  have HAq13 := Aside0.mk (Kd.C_below HAq12.out hB13)
  have HA13 := Aside0.mk (blk_below HA12.out hB13)
  have HBq13 := Aside0.mk (Kd.C_below HBq12.out hB13)
  have HBb13 := Aside0.mk (blk_below HBb12.out hB13)
  have HN13 := Aside0.mk (blk_below HN12.out hB13)
  have HXq13 := Aside0.mk (Kd.C_below HXq12.out hB13)
  clear hB13 HB12 HR12 HQ12 HC12 HW12 HAq12 HA12 HBq12 HBb12 HN12 HXq12
  have hzHC13_0 := (blk_cell HC13.out 0).trans rfl
  have hzHW13_0 := (blk_cell HW13.out 0).trans rfl
  have hzHW13_1 := (blk_cell HW13.out 1).trans rfl
  have hzHA13_0 := (blk_cell HA13.out 0).trans rfl
  have hzHA13_1 := (blk_cell HA13.out 1).trans rfl
  have hzHBb13_0 := (blk_cell HBb13.out 0).trans rfl
  have hzHBb13_1 := (blk_cell HBb13.out 1).trans rfl
  have hzHN13_0 := (blk_cell HN13.out 0).trans rfl
  have hzHN13_1 := (blk_cell HN13.out 1).trans rfl
  go_wp2_with fail
  clear hzHC13_0 hzHW13_0 hzHW13_1 hzHA13_0 hzHA13_1 hzHBb13_0 hzHBb13_1 hzHN13_0 hzHN13_1
  obtain ⟨w13, hW13⟩ : ∃ W : World, (w12.alloc (.cells #[.int .i64 rx1, .slice A12 rx2.length c12] 47)) = W := ⟨_, rfl⟩
  rw [hW13] at HB13 HR13 HQ13 HC13 HW13 HAq13 HA13 HBq13 HBb13 HN13 HXq13 HX13 ⊢
  obtain ⟨zx, hzx⟩ : ∃ z, w12.heap.size = z := ⟨_, rfl⟩
  rw [hzx] at HX13 ⊢
  clear hW13 hzx 
  refine (HSZ.out _).mono ?_
  rintro e w14 ⟨rfl, hD14⟩
  have hB14 := hD14.below

  have HB14 := Aside0.mk (below_step HB13.out hB14)
  have HR14 := Aside0.mk (Kd.C_below HR13.out hB14)
  have HQ14 := Aside0.mk (Kd.C_below HQ13.out hB14)
  have HC14 := Aside0.mk (blk_below HC13.out hB14)
  have HW14 := Aside0.mk (blk_below HW13.out hB14)
  have HAq14 := Aside0.mk (Kd.C_below HAq13.out hB14)
  have HA14 := Aside0.mk (blk_below HA13.out hB14)
  have HBq14 := Aside0.mk (Kd.C_below HBq13.out hB14)
  have HBb14 := Aside0.mk (blk_below HBb13.out hB14)
  have HN14 := Aside0.mk (blk_below HN13.out hB14)
  have HXq14 := Aside0.mk (Kd.C_below HXq13.out hB14)
  have HX14 := Aside0.mk (blk_below HX13.out hB14)
  clear HB13 HR13 HQ13 HC13 HW13 HAq13 HA13 HBq13 HBb13 HN13 HXq13 HX13
  clear hB14
  have hzHC14_0 := (blk_cell HC14.out 0).trans rfl
  have hzHW14_0 := (blk_cell HW14.out 0).trans rfl
  have hzHW14_1 := (blk_cell HW14.out 1).trans rfl
  have hzHA14_0 := (blk_cell HA14.out 0).trans rfl
  have hzHA14_1 := (blk_cell HA14.out 1).trans rfl
  have hzHBb14_0 := (blk_cell HBb14.out 0).trans rfl
  have hzHBb14_1 := (blk_cell HBb14.out 1).trans rfl
  have hzHN14_0 := (blk_cell HN14.out 0).trans rfl
  have hzHN14_1 := (blk_cell HN14.out 1).trans rfl
  have hzHX14_0 := (blk_cell HX14.out 0).trans rfl
  have hzHX14_1 := (blk_cell HX14.out 1).trans rfl
  go_wp2_with fail
  refine (standstillref07_SameWheel.calls k ra1 A6 c6 ra2 rx1 A12 c12 rx2 true _ HAq14.out HAc.out HXq14.out HXc.out HS1.out).mono ?_
  rintro e w15 ⟨rfl, hB15⟩

  clear hzHC14_0 hzHW14_0 hzHW14_1 hzHA14_0 hzHA14_1 hzHBb14_0 hzHBb14_1 hzHN14_0 hzHN14_1 hzHX14_0 hzHX14_1
  have HB15 := Aside0.mk (below_step HB14.out hB15)
  have HR15 := Aside0.mk (Kd.C_below HR14.out hB15)
  have HQ15 := Aside0.mk (Kd.C_below HQ14.out hB15)
  have HC15 := Aside0.mk (blk_below HC14.out hB15)
  have HW15 := Aside0.mk (blk_below HW14.out hB15)
  have HAq15 := Aside0.mk (Kd.C_below HAq14.out hB15)
  have HA15 := Aside0.mk (blk_below HA14.out hB15)
  have HBq15 := Aside0.mk (Kd.C_below HBq14.out hB15)
  have HBb15 := Aside0.mk (blk_below HBb14.out hB15)
  have HN15 := Aside0.mk (blk_below HN14.out hB15)
  have HXq15 := Aside0.mk (Kd.C_below HXq14.out hB15)
  have HX15 := Aside0.mk (blk_below HX14.out hB15)
  clear HB14 HR14 HQ14 HC14 HW14 HAq14 HA14 HBq14 HBb14 HN14 HXq14 HX14
  clear hB15
  have hzHC15_0 := (blk_cell HC15.out 0).trans rfl
  have hzHW15_0 := (blk_cell HW15.out 0).trans rfl
  have hzHW15_1 := (blk_cell HW15.out 1).trans rfl
  have hzHA15_0 := (blk_cell HA15.out 0).trans rfl
  have hzHA15_1 := (blk_cell HA15.out 1).trans rfl
  have hzHBb15_0 := (blk_cell HBb15.out 0).trans rfl
  have hzHBb15_1 := (blk_cell HBb15.out 1).trans rfl
  have hzHN15_0 := (blk_cell HN15.out 0).trans rfl
  have hzHN15_1 := (blk_cell HN15.out 1).trans rfl
  have hzHX15_0 := (blk_cell HX15.out 0).trans rfl
  have hzHX15_1 := (blk_cell HX15.out 1).trans rfl
  clear HS1 HSZ
  have h := H.out
  clear H
  unfold standstilllaw07_TagTurns.tail at h
  have n0 : ¬ a2 < 0 := by have := KA.out; omega
  have n1 : 1000000 < a2 := by have := KA.out; have := KW.out; omega
  rw [if_pos (Or.inr n1)] at h
  have n0a : decide (a2 < 0) = false := decide_eq_false n0
  have n1a : decide (1000000 < a2) = true := decide_eq_true n1
  replace n0 := eq_false n0
  replace n1 := eq_true n1
  by_cases kc : rb4 = 2 ∧ rb3 = 0
  rotate_left
  · rw [if_neg kc] at h
    cases h
  rw [if_pos kc] at h
  obtain ⟨rfl, rfl⟩ := kc
  obtain ⟨s2, hs2, h2⟩ := Option.bind_eq_some_iff.1 h
  by_cases ks : s2 = true
  rotate_left
  · rw [if_neg ks] at h2
    cases h2
  rw [if_pos ks] at h2
  subst ks
  have HS2 := Aside0.mk (fun W hA => standstillref07_SameWheel.calls k rb1 A8 c8 rb2 0 none 0 ([] : List Int) true W hA HBc.out (Kd.C_nil _ _) (Nat.le_refl _) hs2)
  have H := Aside0.mk h2
  clear h h2 hs2
  go_wp2_with fail
  refine (HS2.out _ HBq15.out).mono ?_
  rintro e w16 ⟨rfl, hB16⟩

  clear hzHC15_0 hzHW15_0 hzHW15_1 hzHA15_0 hzHA15_1 hzHBb15_0 hzHBb15_1 hzHN15_0 hzHN15_1 hzHX15_0 hzHX15_1
  have HB16 := Aside0.mk (below_step HB15.out hB16)
  have HR16 := Aside0.mk (Kd.C_below HR15.out hB16)
  have HQ16 := Aside0.mk (Kd.C_below HQ15.out hB16)
  have HC16 := Aside0.mk (blk_below HC15.out hB16)
  have HW16 := Aside0.mk (blk_below HW15.out hB16)
  have HAq16 := Aside0.mk (Kd.C_below HAq15.out hB16)
  have HA16 := Aside0.mk (blk_below HA15.out hB16)
  have HBq16 := Aside0.mk (Kd.C_below HBq15.out hB16)
  have HBb16 := Aside0.mk (blk_below HBb15.out hB16)
  have HN16 := Aside0.mk (blk_below HN15.out hB16)
  have HXq16 := Aside0.mk (Kd.C_below HXq15.out hB16)
  have HX16 := Aside0.mk (blk_below HX15.out hB16)
  clear HB15 HR15 HQ15 HC15 HW15 HAq15 HA15 HBq15 HBb15 HN15 HXq15 HX15
  clear hB16
  have hzHC16_0 := (blk_cell HC16.out 0).trans rfl
  have hzHW16_0 := (blk_cell HW16.out 0).trans rfl
  have hzHW16_1 := (blk_cell HW16.out 1).trans rfl
  have hzHA16_0 := (blk_cell HA16.out 0).trans rfl
  have hzHA16_1 := (blk_cell HA16.out 1).trans rfl
  have hzHBb16_0 := (blk_cell HBb16.out 0).trans rfl
  have hzHBb16_1 := (blk_cell HBb16.out 1).trans rfl
  have hzHN16_0 := (blk_cell HN16.out 0).trans rfl
  have hzHN16_1 := (blk_cell HN16.out 1).trans rfl
  have hzHX16_0 := (blk_cell HX16.out 0).trans rfl
  have hzHX16_1 := (blk_cell HX16.out 1).trans rfl
  go_wp2_with fail
  refine (HAW.out _ H.out).mono ?_
  rintro e w9 ⟨rfl, hB9⟩
  go_wp2
  go_ret
  exact ⟨rfl, below_step HB16.out hB9⟩

/-- THE ONE PURE STATEMENT of standstilllaw07_TagTurns. -/
def standstilllaw07_TagTurns.Pure : Prop := ∀ (l0_0 : List (List Int)) (a1_0 : Int) (l1_1 : List Int) (a2 : Int), (l0_0.length * 24 ≤ 140737488351232 ∧ ∀ y_ ∈ l0_0, (y_.length * 8 ≤ 140737488351232 ∧ ∀ y__ ∈ y_, (Lit.int .i64 y__).wf = true)) → ((Lit.int .i64 a1_0).wf = true) → (l1_1.length * 8 ≤ 140737488351232 ∧ ∀ y_ ∈ l1_1, (Lit.int .i64 y_).wf = true) → ((Lit.int .i64 a2).wf = true) → ∃ k, standstilllaw07_TagTurns.f k l0_0 a1_0 l1_1 a2 = some true

end Go.Proofs.Ytkinnaegedbanaa.PTagTurns
