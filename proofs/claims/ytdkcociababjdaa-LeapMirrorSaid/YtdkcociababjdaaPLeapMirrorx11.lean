-- out of a turned copy of the print, by a program of this session; Lean checks it
import Derived.Test.YtdkcociababjdaaPLeapMirrorx0
import Derived.Test.YtdkcociababjdaaPLeapMirrorx2
import Derived.Test.YtdkcociababjdaaPLeapMirrorx3
import Derived.Test.YtdkcociababjdaaPLeapMirrorx5
import Derived.Test.YtdkcociababjdaaPLeapMirrorx6
import Derived.Test.YtdkcociababjdaaPLeapMirrorx9
import Derived.Test.YtdkcociababjdaaPLeapMirrorx10
namespace Go.Proofs.Ytdkcociababjdaa.PLeapMirror
open Go.RowKit Go.Proofs.YtdkcociababjdaaW.PrintWords Go.Proofs.YtdkcociababjdaaW.PrintLast Go.Proofs.YtdkcociababjdaaW.PrintMore
attribute [local go_sem] max2_int min2_int max_two min_two max_three min_three max_four min_four   -- for this text's walks alone
set_option linter.unusedVariables false
set_option linter.unusedSimpArgs false

attribute [local go_sem] isSome_put_
/-! ### standstilllaw04_LeapMirror: function 5 (by hand) -/
def standstilllaw04_LeapMirror.tail (k : Nat) (d : Int × Int × List (List (S37)) × Int) (a b : Int × Int × Int × List (S75) × List (S75) × Int × Int × Bool × Int) : Option Bool :=
  if d.2.2.2 = 0 ∧ b.2.2.2.2.2 = a.2.2.2.2.2 then
    (if a.2.2.2.2.2.2.2.2 = 0 then (standstillref04_Same.f k b.1 b.2.1 b.2.2.1 b.2.2.2.1 b.2.2.2.2.1 a.1 (wrap64 (-a.2.1)) a.2.2.1 a.2.2.2.2.1 a.2.2.2.1).bind fun s => if s = true then standstilllaw04_awake.g k else none
    else standstilllaw04_awake.g k)
  else none
def standstilllaw04_LeapMirror.f (k : Nat) (a0 a1 : Int) (rules : List (List (S37))) (st po sy : Int) (lf rt : List (S75)) (n : Int) : Option Bool :=
  (standstilllaw04_wide.f k a0 a1 rules 0 0 0 [] st po sy lf rt).bind fun wd => if wd = true then standstilllaw04_awake.g k else
    (standstillref01_Valid.f k a0 a1 rules).bind fun v => if v = true then (if 0 ≤ n ∧ n ≤ 65535 then
      (tape_Mirror.f k a0 a1 rules).bind fun d => (leap_Leaps.g k a0 a1 rules st po sy lf rt (n % 301)).bind fun a => (leap_Leaps.g k d.1 d.2.1 d.2.2.1 st (wrap64 (-po)) sy rt lf (n % 301)).bind fun b => standstilllaw04_LeapMirror.tail k d a b
      else none)
    else standstilllaw04_awake.g k
theorem leap_Leap.mono_g : ∀ a0 a1 a2 a3 a4 a5 a6 a7 k, LeO (leap_Leap.g k a0 a1 a2 a3 a4 a5 a6 a7) (leap_Leap.g (k + 1) a0 a1 a2 a3 a4 a5 a6 a7) := by
  intro a0 a1 a2 a3 a4 a5 a6 a7 k
  unfold leap_Leap.g
  repeat' first
    | (with_reducible exact leap_Fits.mono _ _ _ _ _ _ _ _ _)
    | (with_reducible exact leap_fits.mono _ _ _ _ _ _ _ _)
    | (with_reducible exact LeO.refl _)
    | (with_reducible refine LeO.ite ?_ ?_)
    | (with_reducible refine LeO.bind ?_ (fun _ => ?_))
theorem leap_Leaps.mono_go : ∀ (m : Nat) a0 a1 a2 a3 a4 a5 a6 a7 a8 a9 k, LeO (leap_Leaps.go k a0 a1 a2 m a3 a4 a5 a6 a7 a8 a9) (leap_Leaps.go (k + 1) a0 a1 a2 m a3 a4 a5 a6 a7 a8 a9) := by
  intro m
  induction m with
  | zero => intro a0 a1 a2 a3 a4 a5 a6 a7 a8 a9 k; exact LeO.refl _
  | succ m ih =>
    intro a0 a1 a2 a3 a4 a5 a6 a7 a8 a9 k
    simp only [leap_Leaps.go]
    repeat' first
      | (with_reducible exact ih _ _ _ _ _ _ _ _ _ _ _)
      | (with_reducible exact leap_fits.mono _ _ _ _ _ _ _ _)
      | (with_reducible exact LeO.refl _)
      | (with_reducible refine LeO.ite ?_ ?_)
      | (with_reducible refine LeO.bind ?_ (fun _ => ?_))
theorem standstilllaw04_awake.mono_g : ∀ k, LeO (standstilllaw04_awake.g k) (standstilllaw04_awake.g (k + 1)) := by
  intro k
  unfold standstilllaw04_awake.g
  repeat' first
    | (with_reducible exact standstilllaw01_Read.mono _ _)
    | (with_reducible exact leap_Leap.mono_g _ _ _ _ _ _ _ _ _)
    | (with_reducible exact standstillref04_Same.mono _ _ _ _ _ _ _ _ _ _ _)
    | (with_reducible exact LeO.refl _)
    | (with_reducible refine LeO.ite ?_ ?_)
    | (with_reducible refine LeO.bind ?_ (fun _ => ?_))
theorem leap_Leaps.mono_g : ∀ a0 a1 a2 a3 a4 a5 a6 a7 a8 k, LeO (leap_Leaps.g k a0 a1 a2 a3 a4 a5 a6 a7 a8) (leap_Leaps.g (k + 1) a0 a1 a2 a3 a4 a5 a6 a7 a8) := by
  intro a0 a1 a2 a3 a4 a5 a6 a7 a8 k
  unfold leap_Leaps.g
  repeat' first
    | (with_reducible exact leap_Fits.mono _ _ _ _ _ _ _ _ _)
    | (with_reducible exact leap_Leaps.mono_go _ _ _ _ _ _ _ _ _ _ _ _)
    | (with_reducible exact LeO.refl _)
    | (with_reducible refine LeO.ite ?_ ?_)
    | (with_reducible refine LeO.bind ?_ (fun _ => ?_))
theorem standstilllaw04_LeapMirror.mono : ∀ a0 a1 a2 a3 a4 a5 a6 a7 a8 k, LeO (standstilllaw04_LeapMirror.f k a0 a1 a2 a3 a4 a5 a6 a7 a8) (standstilllaw04_LeapMirror.f (k + 1) a0 a1 a2 a3 a4 a5 a6 a7 a8) := by
  intro a0 a1 a2 a3 a4 a5 a6 a7 a8 k
  unfold standstilllaw04_LeapMirror.f standstilllaw04_LeapMirror.tail
  repeat' first
    | (with_reducible exact standstilllaw04_awake.mono_g _)
    | (with_reducible exact standstilllaw04_wide.mono _ _ _ _ _ _ _ _ _ _ _ _ _)
    | (with_reducible exact standstillref01_Valid.mono _ _ _ _)
    | (with_reducible exact tape_Mirror.mono _ _ _ _)
    | (with_reducible exact leap_Leaps.mono_g _ _ _ _ _ _ _ _ _ _)
    | (with_reducible exact standstillref04_Same.mono _ _ _ _ _ _ _ _ _ _ _)
    | (with_reducible exact LeO.refl _)
    | (with_reducible refine LeO.ite ?_ ?_)
    | (with_reducible refine LeO.bind ?_ (fun _ => ?_))
set_option maxHeartbeats 8000000 in
set_option maxRecDepth 100000 in
theorem standstilllaw04_LeapMirror.calls (k : Nat) (a0_0 a0_1 : Int) (A0 : Option Addr) (c0 : Nat) (rules : List (List (S37))) (st po sy : Int) (A3 : Option Addr) (c3 : Nat) (lf : List (S75)) (A4 : Option Addr) (c4 : Nat) (rt : List (S75)) (n : Int) (r : Bool) (w : World) (hr0 : Kd.C (Kd.slice 37 k37) w A0 rules.length rules) (hc0 : rules.length ≤ c0) (hr3 : Kd.C k75 w A3 lf.length lf) (hc3 : lf.length ≤ c3) (hr4 : Kd.C k75 w A4 rt.length rt) (hc4 : rt.length ≤ c4) (h : standstilllaw04_LeapMirror.f k a0_0 a0_1 rules st po sy lf rt n = some r) :
    Calls Try.prog 5 #[.agg #[.int .i64 a0_0, .int .i64 a0_1, .slice A0 rules.length c0], .agg #[.int .i64 st, .int .i64 po, .int .i64 sy, .slice A3 lf.length c3, .slice A4 rt.length c4], .int .u16 n] w fun e w' => e = .returned (.bool r) ∧ Below w.heap.size w w' := by
  unfold standstilllaw04_LeapMirror.f at h
  obtain ⟨wd, hwd, h1⟩ := Option.bind_eq_some_iff.1 h
  have HR_ := Aside0.mk hr0
  have HC0 := Aside0.mk hc0
  have HC3 := Aside0.mk hc3
  have HC4 := Aside0.mk hc4
  have HWD := Aside0.mk (fun W hW h3 h4 => standstilllaw04_wide.calls k a0_0 a0_1 A0 c0 rules 0 0 0 none 0 [] st po sy A3 c3 lf A4 c4 rt wd W hW hc0 (Kd.C_nil _ _) (Nat.le_refl _) h3 hc3 h4 hc4 hwd)
  have HAW := Aside0.mk (fun W hW => standstilllaw04_awake.callsC k r W hW)
  have H := Aside0.mk h1
  have HR3_ := Aside0.mk hr3
  have HR4_ := Aside0.mk hr4
  have HB0 := Aside0.mk (below_alloc (below_alloc (Below.refl w.heap.size w) (.cells #[.int .i64 a0_0, .int .i64 a0_1, .slice A0 rules.length c0] 24)) (.cells #[.int .i64 st, .int .i64 po, .int .i64 sy, .slice A3 lf.length c3, .slice A4 rt.length c4] 27))
  have HC_0 := Aside0.mk (blk_below (blk_new w (.cells #[.int .i64 a0_0, .int .i64 a0_1, .slice A0 rules.length c0] 24)) (below_alloc (Below.refl (w.alloc (.cells #[.int .i64 a0_0, .int .i64 a0_1, .slice A0 rules.length c0] 24)).heap.size (w.alloc (.cells #[.int .i64 a0_0, .int .i64 a0_1, .slice A0 rules.length c0] 24))) (.cells #[.int .i64 st, .int .i64 po, .int .i64 sy, .slice A3 lf.length c3, .slice A4 rt.length c4] 27)))
  have HW_0 := Aside0.mk (blk_new (w.alloc (.cells #[.int .i64 a0_0, .int .i64 a0_1, .slice A0 rules.length c0] 24)) (.cells #[.int .i64 st, .int .i64 po, .int .i64 sy, .slice A3 lf.length c3, .slice A4 rt.length c4] 27))
  have hsz : (w.alloc (.cells #[.int .i64 a0_0, .int .i64 a0_1, .slice A0 rules.length c0] 24)).heap.size = w.heap.size + 1 := by simp
  rw [hsz] at HW_0
  clear h h1 hwd hr0 hr3 hr4 hc0 hc3 hc4 hsz
  go_enter Try.func5, Try.ntmps5
  go_wp2_with fail
  obtain ⟨w0, hW0⟩ : ∃ W : World, (w.alloc (.cells #[.int .i64 a0_0, .int .i64 a0_1, .slice A0 rules.length c0] 24)).alloc (.cells #[.int .i64 st, .int .i64 po, .int .i64 sy, .slice A3 lf.length c3, .slice A4 rt.length c4] 27) = W := ⟨_, rfl⟩
  rw [hW0] at HB0 HC_0 HW_0 ⊢
  obtain ⟨z1, hz1⟩ : ∃ z, w.heap.size + 1 = z := ⟨_, rfl⟩
  rw [hz1] at HW_0 ⊢
  obtain ⟨z0, hz0⟩ : ∃ z, w.heap.size = z := ⟨_, rfl⟩
  rw [hz0] at HC_0 ⊢
  clear hz0 hz1 hW0
  refine (HWD.out w0 (Kd.C_below HR_.out HB0.out) (Kd.C_below HR3_.out HB0.out) (Kd.C_below HR4_.out HB0.out)).mono ?_
  rintro e w1 ⟨rfl, hB1⟩
  have HB1 := Aside0.mk (below_step HB0.out hB1)
  have HC_1 := Aside0.mk (blk_below HC_0.out hB1)
  have HW_1 := Aside0.mk (blk_below HW_0.out hB1)
  clear hB1 HB0 HC_0 HW_0 HWD
  cases wd with
  | true =>
    have h := H.out
    clear H
    simp only [if_true] at h
    have H := Aside0.mk h
    clear h
    go_wp2_with fail
    refine (HAW.out _ H.out).mono ?_
    rintro e w99 ⟨rfl, hB99⟩
    go_wp2
    go_ret
    exact ⟨rfl, below_step HB1.out hB99⟩
  | false =>
  have h := H.out
  clear H
  simp only [Bool.false_eq_true, if_false] at h
  obtain ⟨v, hv, h2⟩ := Option.bind_eq_some_iff.1 h
  have HV := Aside0.mk (fun W hW => standstillref01_Valid.calls k a0_0 a0_1 A0 c0 rules v W hW HC0.out hv)
  have H := Aside0.mk h2
  clear h h2 hv
  have hc_0 := (blk_cell HC_1.out 0).trans rfl
  have hc_1 := (blk_cell HC_1.out 1).trans rfl
  have hc_2 := (blk_cell HC_1.out 2).trans rfl
  have hw_0 := (blk_cell HW_1.out 0).trans rfl
  have hw_1 := (blk_cell HW_1.out 1).trans rfl
  have hw_2 := (blk_cell HW_1.out 2).trans rfl
  have hw_3 := (blk_cell HW_1.out 3).trans rfl
  have hw_4 := (blk_cell HW_1.out 4).trans rfl
  go_wp2_with fail
  refine (HV.out w1 (Kd.C_below HR_.out HB1.out)).mono ?_
  rintro e w2 ⟨rfl, hB2⟩
  have HB2 := Aside0.mk (below_step HB1.out hB2)
  have HC_2 := Aside0.mk (blk_below HC_1.out hB2)
  have HW_2 := Aside0.mk (blk_below HW_1.out hB2)
  clear HB1 HC_1 HW_1
  clear hB2 HV
  clear hc_0 hc_1 hc_2 hw_0 hw_1 hw_2 hw_3 hw_4
  cases v with
  | false =>
    have h := H.out
    clear H
    simp only [Bool.false_eq_true, if_false] at h
    have H := Aside0.mk h
    clear h
    go_wp2_with fail
    refine (HAW.out _ H.out).mono ?_
    rintro e w99 ⟨rfl, hB99⟩
    go_wp2
    go_ret
    exact ⟨rfl, below_step HB2.out hB99⟩
  | true =>
  have h := H.out
  clear H
  simp only [if_true] at h
  by_cases kn : 0 ≤ n ∧ n ≤ 65535
  rotate_left
  · rw [if_neg kn] at h
    cases h
  rw [if_pos kn] at h
  obtain ⟨⟨d1, d2, d3, d4⟩, hd, h1⟩ := Option.bind_eq_some_iff.1 h
  obtain ⟨⟨a1, a2, a3, a4, a5, a6, a7, a8, a9⟩, ha, h2⟩ := Option.bind_eq_some_iff.1 h1
  obtain ⟨⟨b1, b2, b3, b4, b5, b6, b7, b8, b9⟩, hb, h3⟩ := Option.bind_eq_some_iff.1 h2
  simp only at ha hb h3
  unfold standstilllaw04_LeapMirror.tail at h3
  simp only at h3
  by_cases kt : d4 = 0 ∧ (b6, b7, b8, b9) = (a6, a7, a8, a9)
  rotate_left
  · rw [if_neg kt] at h3
    cases h3
  rw [if_pos kt] at h3
  simp only [Prod.mk.injEq] at kt
  obtain ⟨rfl, rfl, rfl, rfl, rfl⟩ := kt
  obtain ⟨nn, hnn⟩ : ∃ m, n % 301 = m := ⟨_, rfl⟩
  rw [hnn] at ha hb
  have HD := Aside0.mk hd
  have HA := Aside0.mk ha
  have HB_ := Aside0.mk hb
  have H := Aside0.mk h3
  have hn0 := kn.1
  have hn1 := kn.2
  have n301 : Int.tmod n 301 = nn := by rw [Int.tmod_eq_emod_of_nonneg hn0]; exact hnn
  have hnr : IntKind.i64.wrap nn = nn := IntWalk.i64_in _ (by omega)
  have hnr2 : wrap64 nn = nn := (i64_w _).symm.trans hnr
  have hnw : IntKind.i64.wrap n = n := IntWalk.i64_in _ (by omega)
  have hnw2 : wrap64 n = n := (i64_w _).symm.trans hnw
  clear h h1 h2 h3 hd ha hb kn
  have hc_0 := (blk_cell HC_2.out 0).trans rfl
  have hc_1 := (blk_cell HC_2.out 1).trans rfl
  have hc_2 := (blk_cell HC_2.out 2).trans rfl
  have hw_0 := (blk_cell HW_2.out 0).trans rfl
  have hw_1 := (blk_cell HW_2.out 1).trans rfl
  have hw_2 := (blk_cell HW_2.out 2).trans rfl
  have hw_3 := (blk_cell HW_2.out 3).trans rfl
  have hw_4 := (blk_cell HW_2.out 4).trans rfl
  go_wp2_with fail
  refine (tape_Mirror.calls k a0_0 a0_1 A0 c0 rules d1 d2 d3 0 w2 (Kd.C_below HR_.out HB2.out) HC0.out HD.out).mono ?_
  rintro e w3 ⟨v3, rfl, ho3, hB3⟩
  obtain ⟨A5, c5, rfl⟩ := Kd.S_slice ho3
  have HM_3 := Aside0.mk (Kd.S_reads' ho3).2.2
  have HML := Aside0.mk (Kd.S_reads' ho3).2.1
  have HB3 := Aside0.mk (below_step HB2.out hB3)
  have HC_3 := Aside0.mk (blk_below HC_2.out hB3)
  have HW_3 := Aside0.mk (blk_below HW_2.out hB3)
  clear HB2 HC_2 HW_2
  clear hB3 ho3 HD
  clear hc_0 hc_1 hc_2 hw_0 hw_1 hw_2 hw_3 hw_4
  have hb4 := below_alloc (Below.refl w3.heap.size w3) (.cells #[.int .i64 d1, .int .i64 d2, .slice A5 d3.length c5] 24)
  have HN_4 := Aside0.mk (blk_new w3 (.cells #[.int .i64 d1, .int .i64 d2, .slice A5 d3.length c5] 24))
  have HB4 := Aside0.mk (below_step HB3.out hb4)
  have HC_4 := Aside0.mk (blk_below HC_3.out hb4)
  have HW_4 := Aside0.mk (blk_below HW_3.out hb4)
  have HM_4 := Aside0.mk (Kd.C_below HM_3.out hb4)
  clear HB3 HC_3 HW_3 HM_3
  clear hb4
  have hc_0 := (blk_cell HC_4.out 0).trans rfl
  have hc_1 := (blk_cell HC_4.out 1).trans rfl
  have hc_2 := (blk_cell HC_4.out 2).trans rfl
  have hw_0 := (blk_cell HW_4.out 0).trans rfl
  have hw_1 := (blk_cell HW_4.out 1).trans rfl
  have hw_2 := (blk_cell HW_4.out 2).trans rfl
  have hw_3 := (blk_cell HW_4.out 3).trans rfl
  have hw_4 := (blk_cell HW_4.out 4).trans rfl
  go_wp2_with fail
  obtain ⟨w4, hW4⟩ : ∃ W : World, w3.alloc (.cells #[.int .i64 d1, .int .i64 d2, .slice A5 d3.length c5] 24) = W := ⟨_, rfl⟩
  rw [hW4] at HB4 HC_4 HW_4 HN_4 HM_4 ⊢
  obtain ⟨z5, hz5⟩ : ∃ z, w3.heap.size = z := ⟨_, rfl⟩
  rw [hz5] at HN_4 ⊢
  clear hW4 hz5
  try rw [hnn]
  refine (leap_Leaps.calls k a0_0 a0_1 A0 c0 rules st po sy A3 c3 lf A4 c4 rt nn a1 a2 a3 a4 a5 b6 b7 b8 b9 w4 (Kd.C_below HR_.out HB4.out) HC0.out (Kd.C_below HR3_.out HB4.out) HC3.out (Kd.C_below HR4_.out HB4.out) HC4.out HA.out).mono ?_
  rintro e w5 ⟨B3, e3, B4, e4, rfl, hC3, hC4, hB5⟩
  have HB5 := Aside0.mk (below_step HB4.out hB5)
  have HC_5 := Aside0.mk (blk_below HC_4.out hB5)
  have HW_5 := Aside0.mk (blk_below HW_4.out hB5)
  have HN_5 := Aside0.mk (blk_below HN_4.out hB5)
  have HM_5 := Aside0.mk (Kd.C_below HM_4.out hB5)
  clear HB4 HC_4 HW_4 HN_4 HM_4
  have HP_5 := Aside0.mk (Kd.R_reads' hC3).2.2
  have HQ_5 := Aside0.mk (Kd.R_reads' hC4).2.2
  have HPL := Aside0.mk (Kd.R_reads' hC3).2.1
  have HQLA := Aside0.mk (Kd.R_reads' hC4).2.1
  clear hC3 hC4 hB5 HA
  clear hc_0 hc_1 hc_2 hw_0 hw_1 hw_2 hw_3 hw_4
  have hb6 := below_alloc (Below.refl w5.heap.size w5) (.cells #[.int .i64 a1, .int .i64 a2, .int .i64 a3, .slice B3 a4.length e3, .slice B4 a5.length e4] 27)
  have HA_6 := Aside0.mk (blk_new w5 (.cells #[.int .i64 a1, .int .i64 a2, .int .i64 a3, .slice B3 a4.length e3, .slice B4 a5.length e4] 27))
  have HB6 := Aside0.mk (below_step HB5.out hb6)
  have HC_6 := Aside0.mk (blk_below HC_5.out hb6)
  have HW_6 := Aside0.mk (blk_below HW_5.out hb6)
  have HN_6 := Aside0.mk (blk_below HN_5.out hb6)
  have HM_6 := Aside0.mk (Kd.C_below HM_5.out hb6)
  have HP_6 := Aside0.mk (Kd.C_below HP_5.out hb6)
  have HQ_6 := Aside0.mk (Kd.C_below HQ_5.out hb6)
  clear HB5 HC_5 HW_5 HN_5 HM_5 HP_5 HQ_5
  clear hb6
  go_wp2_with fail
  obtain ⟨w6, hW6⟩ : ∃ W : World, w5.alloc (.cells #[.int .i64 a1, .int .i64 a2, .int .i64 a3, .slice B3 a4.length e3, .slice B4 a5.length e4] 27) = W := ⟨_, rfl⟩
  rw [hW6] at HB6 HC_6 HW_6 HN_6 HA_6 HM_6 HP_6 HQ_6 ⊢
  obtain ⟨za, hza⟩ : ∃ z, w5.heap.size = z := ⟨_, rfl⟩
  rw [hza] at HA_6 ⊢
  clear hW6 hza
  have t0 := (blk_cell HN_6.out 0).trans rfl
  have t1 := (blk_cell HN_6.out 1).trans rfl
  have t2 := (blk_cell HN_6.out 2).trans rfl
  have t3 := (blk_cell HW_6.out 0).trans rfl
  have t4 := (blk_cell HW_6.out 1).trans rfl
  have t5 := (blk_cell HW_6.out 2).trans rfl
  have t6 := (blk_cell HW_6.out 3).trans rfl
  have t7 := (blk_cell HW_6.out 4).trans rfl
  refine start_ (n := 19) (S := fun w' => w'.cell? ⟨z5, 0, none⟩ = some (.int .i64 d1) ∧ w'.cell? ⟨z5, 1, none⟩ = some (.int .i64 d2) ∧ w'.cell? ⟨z5, 2, none⟩ = some (.slice A5 d3.length c5) ∧ w'.cell? ⟨z1, 0, none⟩ = some (.int .i64 st) ∧ w'.cell? ⟨z1, 1, none⟩ = some (.int .i64 po) ∧ w'.cell? ⟨z1, 2, none⟩ = some (.int .i64 sy) ∧ w'.cell? ⟨z1, 3, none⟩ = some (.slice A3 lf.length c3) ∧ w'.cell? ⟨z1, 4, none⟩ = some (.slice A4 rt.length c4)) (ds := [14]) #[false, false, false, false, false, false, false, false, false, false, false, false, false, false, false, false, false, false, false] (by kernel_rfl) rfl rfl ⟨t0, t1, t2, t3, t4, t5, t6, t7⟩ (fun hHeld => ?_)
  refine pure_ (i := 3) (N := some 50) (v := ?_) (a' := ?_) #[false, false, false, true, false, false, false, false, false, false, false, false, false, false, false, false, false, false, false] rfl rfl (by kernel_rfl) (fun _ _ _ h => h) (Or.inl ⟨by rfl, ?_⟩) ?_ ?_
  rotate_left
  · intro w'
    go_simp
    with_reducible rfl
  rotate_left
  · simp only [Act.put, List.setIfInBounds_toArray, List.set_cons_zero, List.set_cons_succ, i64_w, i32_w]
    rfl
  refine pure_ (i := 4) (N := some 51) (v := ?_) (a' := ?_) #[false, false, false, true, true, false, false, false, false, false, false, false, false, false, false, false, false, false, false] rfl rfl (by kernel_rfl) (fun _ _ _ h => h) (Or.inl ⟨by rfl, ?_⟩) ?_ ?_
  rotate_left
  · intro w'
    go_simp
    with_reducible rfl
  rotate_left
  · simp only [Act.put, List.setIfInBounds_toArray, List.set_cons_zero, List.set_cons_succ, i64_w, i32_w]
    rfl
  refine pure_ (i := 5) (N := some 52) (v := ?_) (a' := ?_) #[false, false, false, true, true, true, false, false, false, false, false, false, false, false, false, false, false, false, false] rfl rfl (by kernel_rfl) (fun _ _ _ h => h) (Or.inl ⟨by rfl, ?_⟩) ?_ ?_
  rotate_left
  · intro w'
    go_simp
    with_reducible rfl
  rotate_left
  · simp only [Act.put, List.setIfInBounds_toArray, List.set_cons_zero, List.set_cons_succ, i64_w, i32_w]
    rfl
  refine take_ (i := 0) (N := some 47) (v := ?_) (a' := ?_) #[true, false, false, true, true, true, false, false, false, false, false, false, false, false, false, false, false, false, false] rfl rfl (by kernel_rfl) (fun _ _ _ h => h) (Or.inl ⟨by rfl, ?_⟩) hHeld ?_ ?_
  rotate_left
  · rintro w' ⟨s0, s1, s2, s3, s4, s5, s6, s7⟩
    go_simp
    with_reducible rfl
  rotate_left
  · simp only [Act.put, List.setIfInBounds_toArray, List.set_cons_zero, List.set_cons_succ, i64_w, i32_w]
    rfl
  refine take_ (i := 1) (N := some 48) (v := ?_) (a' := ?_) #[true, true, false, true, true, true, false, false, false, false, false, false, false, false, false, false, false, false, false] rfl rfl (by kernel_rfl) (fun _ _ _ h => h) (Or.inl ⟨by rfl, ?_⟩) hHeld ?_ ?_
  rotate_left
  · rintro w' ⟨s0, s1, s2, s3, s4, s5, s6, s7⟩
    go_simp
    with_reducible rfl
  rotate_left
  · simp only [Act.put, List.setIfInBounds_toArray, List.set_cons_zero, List.set_cons_succ, i64_w, i32_w]
    rfl
  refine join_ (σ := Option Addr × Nat × Option Addr × Nat × Nat) 5 #[true, true, true, true, true, true, true, true, true, true, true, true, true, true, false, false, false, false, false] (fun s => [(49, .agg #[.int .i64 st, .int .i64 (wrap64 (-po)), .int .i64 sy, .slice A4 rt.length c4, .slice A3 lf.length c3]), (53, .tuple #[.agg #[.int .i64 b1, .int .i64 b2, .int .i64 b3, .slice s.1 b4.length s.2.1, .slice s.2.2.1 b5.length s.2.2.2.1], .int .i64 b6, .int .i64 b7, .bool b8, .int .i64 b9]), (46, .tuple #[.agg #[.int .i64 b1, .int .i64 b2, .int .i64 b3, .slice s.1 b4.length s.2.1, .slice s.2.2.1 b5.length s.2.2.2.1], .int .i64 b6, .int .i64 b7, .bool b8, .int .i64 b9]), (54, .agg #[.int .i64 b1, .int .i64 b2, .int .i64 b3, .slice s.1 b4.length s.2.1, .slice s.2.2.1 b5.length s.2.2.2.1]), (55, .int .i64 b6), (56, .int .i64 b7), (57, .bool b8), (58, .int .i64 b9), (14, .pointer (some ⟨s.2.2.2.2, 0, none⟩))]) (fun s w' => w'.heap[s.2.2.2.2]? = some (.cells #[.int .i64 0, .int .i64 0, .int .i64 0, .slice none 0 0, .slice none 0 0] 27 (0, 0)) ∧ Below w6.heap.size w6 w' ∧ w6.heap.size ≤ s.2.2.2.2 ∧ Kd.R k75 75 w' w6.heap.size (fun k => k ≠ s.2.2.2.2) (.slice s.1 b4.length s.2.1) b4 ∧ Kd.R k75 75 w' w6.heap.size (fun k => k ≠ s.2.2.2.2) (.slice s.2.2.1 b5.length s.2.2.2.1) b5) ?_ ?_
  rotate_left
  · intro hCont
    refine two_ (i := 2) (j := 13) (Ni := some 49) (Nj := some 14) #[true, true, true, true, true, true, false, false, false, false, false, false, false, false, false, false, false, false, false] #[true, true, false, true, true, true, false, false, false, false, false, false, false, true, false, false, false, false, false] rfl rfl rfl rfl (by kernel_rfl) (by decide) (by decide) (fun K hK => ?_) (fun K hK => ?_)
    · skip
      refine goes_ Try.func21 (by kernel_rfl) rfl #[.agg #[.int .i64 st, .int .i64 po, .int .i64 sy, .slice A3 lf.length c3, .slice A4 rt.length c4]] (by rfl) rfl rfl (by simp only [List.map_toArray, List.map_cons, List.map_nil]; rfl) ?_
      with_reducible refine (standstilllaw04_mirrored.callsC st po sy A3 c3 lf A4 c4 rt _).mono ?_
      rintro e w8 ⟨rfl, hB8⟩
      refine ⟨_, rfl, ?_⟩
      have HE8 := Aside0.mk (below_step (show Below w6.heap.size w6 w6.drew from bk_ (Below.refl _ _)) hB8)
      clear hB8
      refine hK.out _ _ ⟨(lf_ HE8.out t0), (lf_ HE8.out t1), (lf_ HE8.out t2), (lf_ HE8.out t3), (lf_ HE8.out t4), (lf_ HE8.out t5), (lf_ HE8.out t6), (lf_ HE8.out t7)⟩ (fun hHeld => ?_)
      clear hK K
      refine norm_ (a' := ?_) ?_ ?_
      rotate_left
      · show Act.put _ (some 49) _ = _
        simp only [Act.put, List.setIfInBounds_toArray, List.set_cons_zero, List.set_cons_succ, i64_w, i32_w]
        rfl
      refine two_ (i := 6) (j := 13) (Ni := some 53) (Nj := some 14) #[true, true, true, true, true, true, true, false, false, false, false, false, false, false, false, false, false, false, false] #[true, true, true, true, true, true, false, false, false, false, false, false, false, true, false, false, false, false, false] rfl rfl rfl rfl (by kernel_rfl) (by decide) (by decide) (fun K hK => ?_) (fun K hK => ?_)
      · skip
        refine goes_ Try.func15 (by kernel_rfl) rfl #[.agg #[.int .i64 d1, .int .i64 d2, .slice A5 d3.length c5], .agg #[.int .i64 st, .int .i64 (wrap64 (-po)), .int .i64 sy, .slice A4 rt.length c4, .slice A3 lf.length c3], .int .i64 nn] (by rfl) rfl rfl (by simp only [List.map_toArray, List.map_cons, List.map_nil]; rfl) ?_
        with_reducible refine (leap_Leaps.calls k d1 d2 A5 c5 d3 st (wrap64 (-po)) sy A4 c4 rt A3 c3 lf nn b1 b2 b3 b4 b5 b6 b7 b8 b9 _ (Kd.C_below HM_6.out HE8.out) HML.out (Kd.C_below HR4_.out (below_step HB6.out HE8.out)) HC4.out (Kd.C_below HR3_.out (below_step HB6.out HE8.out)) HC3.out HB_.out).mono ?_
        rintro e w9 ⟨B5, e5, B6, e6, rfl, hC5, hC6, hB9⟩
        refine ⟨_, rfl, ?_⟩
        have HE9 := Aside0.mk (below_step HE8.out hB9)
        have HP9 := Aside0.mk (Kd.R_lower hC5 (HE8.out).size)
        have HQ9 := Aside0.mk (Kd.R_lower hC6 (HE8.out).size)
        clear hC5 hC6 hB9
        refine hK.out _ _ ⟨(lf_ HE9.out t0), (lf_ HE9.out t1), (lf_ HE9.out t2), (lf_ HE9.out t3), (lf_ HE9.out t4), (lf_ HE9.out t5), (lf_ HE9.out t6), (lf_ HE9.out t7)⟩ (fun hHeld => ?_)
        clear hK K
        refine norm_ (a' := ?_) ?_ ?_
        rotate_left
        · show Act.put _ (some 53) _ = _
          simp only [Act.put, List.setIfInBounds_toArray, List.set_cons_zero, List.set_cons_succ, i64_w, i32_w]
          rfl
        refine pure_ (i := 7) (N := some 46) (v := ?_) (a' := ?_) #[true, true, true, true, true, true, true, true, false, false, false, false, false, false, false, false, false, false, false] rfl rfl (by kernel_rfl) (fun _ _ _ h => h) (Or.inl ⟨by rfl, ?_⟩) ?_ ?_
        rotate_left
        · intro w'
          go_simp
          with_reducible rfl
        rotate_left
        · simp only [Act.put, List.setIfInBounds_toArray, List.set_cons_zero, List.set_cons_succ, i64_w, i32_w]
          rfl
        refine pure_ (i := 8) (N := some 54) (v := ?_) (a' := ?_) #[true, true, true, true, true, true, true, true, true, false, false, false, false, false, false, false, false, false, false] rfl rfl (by kernel_rfl) (fun _ _ _ h => h) (Or.inl ⟨by rfl, ?_⟩) ?_ ?_
        rotate_left
        · intro w'
          go_simp
          with_reducible rfl
        rotate_left
        · simp only [Act.put, List.setIfInBounds_toArray, List.set_cons_zero, List.set_cons_succ, i64_w, i32_w]
          rfl
        refine pure_ (i := 9) (N := some 55) (v := ?_) (a' := ?_) #[true, true, true, true, true, true, true, true, true, true, false, false, false, false, false, false, false, false, false] rfl rfl (by kernel_rfl) (fun _ _ _ h => h) (Or.inl ⟨by rfl, ?_⟩) ?_ ?_
        rotate_left
        · intro w'
          go_simp
          with_reducible rfl
        rotate_left
        · simp only [Act.put, List.setIfInBounds_toArray, List.set_cons_zero, List.set_cons_succ, i64_w, i32_w]
          rfl
        refine pure_ (i := 10) (N := some 56) (v := ?_) (a' := ?_) #[true, true, true, true, true, true, true, true, true, true, true, false, false, false, false, false, false, false, false] rfl rfl (by kernel_rfl) (fun _ _ _ h => h) (Or.inl ⟨by rfl, ?_⟩) ?_ ?_
        rotate_left
        · intro w'
          go_simp
          with_reducible rfl
        rotate_left
        · simp only [Act.put, List.setIfInBounds_toArray, List.set_cons_zero, List.set_cons_succ, i64_w, i32_w]
          rfl
        refine pure_ (i := 11) (N := some 57) (v := ?_) (a' := ?_) #[true, true, true, true, true, true, true, true, true, true, true, true, false, false, false, false, false, false, false] rfl rfl (by kernel_rfl) (fun _ _ _ h => h) (Or.inl ⟨by rfl, ?_⟩) ?_ ?_
        rotate_left
        · intro w'
          go_simp
          with_reducible rfl
        rotate_left
        · simp only [Act.put, List.setIfInBounds_toArray, List.set_cons_zero, List.set_cons_succ, i64_w, i32_w]
          rfl
        refine pure_ (i := 12) (N := some 58) (v := ?_) (a' := ?_) #[true, true, true, true, true, true, true, true, true, true, true, true, true, false, false, false, false, false, false] rfl rfl (by kernel_rfl) (fun _ _ _ h => h) (Or.inl ⟨by rfl, ?_⟩) ?_ ?_
        rotate_left
        · intro w'
          go_simp
          with_reducible rfl
        rotate_left
        · simp only [Act.put, List.setIfInBounds_toArray, List.set_cons_zero, List.set_cons_succ, i64_w, i32_w]
          rfl
        refine one_ (i := 13) (N := some 14) #[true, true, true, true, true, true, true, true, true, true, true, true, true, true, false, false, false, false, false] rfl rfl (by kernel_rfl) (by decide) (fun K hK => ?_)
        refine box_step (by rfl) rfl (cs := #[.int .i64 0, .int .i64 0, .int .i64 0, .slice none 0 0, .slice none 0 0]) (t := 27) ?_ ?_
        · go_simp
        intro q hq w7 hb7 hB7
        have HQ7 := Aside0.mk hb7
        have HE7 := Aside0.mk (below_step HE9.out hB7)
        have hql := Aside0.mk (show w6.heap.size ≤ q from by rw [hq]; exact (HE9.out).size)
        have HP9 := Aside0.mk (Kd.R_below (Kd.R_mono (ok' := fun k => k ≠ q) (Kd.R_bound HP9.out) (fun k hk => by have := hk.2.2.1; omega)) hB7)
        have HQ9 := Aside0.mk (Kd.R_below (Kd.R_mono (ok' := fun k => k ≠ q) (Kd.R_bound HQ9.out) (fun k hk => by have := hk.2.2.1; omega)) hB7)
        clear hb7 hB7 hq
        refine hK.out _ _ ⟨(lf_ HE7.out t0), (lf_ HE7.out t1), (lf_ HE7.out t2), (lf_ HE7.out t3), (lf_ HE7.out t4), (lf_ HE7.out t5), (lf_ HE7.out t6), (lf_ HE7.out t7)⟩ (fun hHeld => ?_)
        clear hK K
        refine norm_ (a' := ?_) ?_ ?_
        rotate_left
        · show Act.put _ (some 14) _ = _
          simp only [Act.put, List.setIfInBounds_toArray, List.set_cons_zero, List.set_cons_succ, i64_w, i32_w]
          rfl
        exact norm_ (by simp only [putAll, Act.put, List.setIfInBounds_toArray, List.set_cons_zero, List.set_cons_succ]) (hCont (B5, e5, B6, e6, q) _ ⟨HQ7.out, HE7.out, hql.out, HP9.out, HQ9.out⟩)
      · skip
        refine box_step (by rfl) rfl (cs := #[.int .i64 0, .int .i64 0, .int .i64 0, .slice none 0 0, .slice none 0 0]) (t := 27) ?_ ?_
        · go_simp
        intro q hq w7 hb7 hB7
        have HQ7 := Aside0.mk hb7
        have HE7 := Aside0.mk (below_step HE8.out hB7)
        have hql := Aside0.mk (show w6.heap.size ≤ q from by rw [hq]; exact (HE8.out).size)
        clear hb7 hB7 hq
        refine hK.out _ _ ⟨(lf_ HE7.out t0), (lf_ HE7.out t1), (lf_ HE7.out t2), (lf_ HE7.out t3), (lf_ HE7.out t4), (lf_ HE7.out t5), (lf_ HE7.out t6), (lf_ HE7.out t7)⟩ (fun hHeld => ?_)
        clear hK K
        refine norm_ (a' := ?_) ?_ ?_
        rotate_left
        · show Act.put _ (some 14) _ = _
          simp only [Act.put, List.setIfInBounds_toArray, List.set_cons_zero, List.set_cons_succ, i64_w, i32_w]
          rfl
        refine one_ (i := 6) (N := some 53) #[true, true, true, true, true, true, true, false, false, false, false, false, false, true, false, false, false, false, false] rfl rfl (by kernel_rfl) (by decide) (fun K hK => ?_)
        refine goes_ Try.func15 (by kernel_rfl) rfl #[.agg #[.int .i64 d1, .int .i64 d2, .slice A5 d3.length c5], .agg #[.int .i64 st, .int .i64 (wrap64 (-po)), .int .i64 sy, .slice A4 rt.length c4, .slice A3 lf.length c3], .int .i64 nn] (by rfl) rfl rfl (by simp only [List.map_toArray, List.map_cons, List.map_nil]; rfl) ?_
        with_reducible refine (leap_Leaps.calls k d1 d2 A5 c5 d3 st (wrap64 (-po)) sy A4 c4 rt A3 c3 lf nn b1 b2 b3 b4 b5 b6 b7 b8 b9 _ (Kd.C_below HM_6.out HE7.out) HML.out (Kd.C_below HR4_.out (below_step HB6.out HE7.out)) HC4.out (Kd.C_below HR3_.out (below_step HB6.out HE7.out)) HC3.out HB_.out).mono ?_
        rintro e w9 ⟨B5, e5, B6, e6, rfl, hC5, hC6, hB9⟩
        refine ⟨_, rfl, ?_⟩
        have HE9 := Aside0.mk (below_step HE7.out hB9)
        have HP9 := Aside0.mk (Kd.R_lower (Kd.R_mono (ok' := fun k => k ≠ q) (Kd.R_bound hC5) (fun k hk => by have h1 := hk.2.1; have h2 := blk_lt HQ7.out; omega)) (HE7.out).size)
        have HQ9 := Aside0.mk (Kd.R_lower (Kd.R_mono (ok' := fun k => k ≠ q) (Kd.R_bound hC6) (fun k hk => by have h1 := hk.2.1; have h2 := blk_lt HQ7.out; omega)) (HE7.out).size)
        have HQ7 := Aside0.mk (blk_below HQ7.out hB9)
        clear hC5 hC6 hB9
        refine hK.out _ _ ⟨(lf_ HE9.out t0), (lf_ HE9.out t1), (lf_ HE9.out t2), (lf_ HE9.out t3), (lf_ HE9.out t4), (lf_ HE9.out t5), (lf_ HE9.out t6), (lf_ HE9.out t7)⟩ (fun hHeld => ?_)
        clear hK K
        refine norm_ (a' := ?_) ?_ ?_
        rotate_left
        · show Act.put _ (some 53) _ = _
          simp only [Act.put, List.setIfInBounds_toArray, List.set_cons_zero, List.set_cons_succ, i64_w, i32_w]
          rfl
        refine pure_ (i := 7) (N := some 46) (v := ?_) (a' := ?_) #[true, true, true, true, true, true, true, true, false, false, false, false, false, true, false, false, false, false, false] rfl rfl (by kernel_rfl) (fun _ _ _ h => h) (Or.inl ⟨by rfl, ?_⟩) ?_ ?_
        rotate_left
        · intro w'
          go_simp
          with_reducible rfl
        rotate_left
        · simp only [Act.put, List.setIfInBounds_toArray, List.set_cons_zero, List.set_cons_succ, i64_w, i32_w]
          rfl
        refine pure_ (i := 8) (N := some 54) (v := ?_) (a' := ?_) #[true, true, true, true, true, true, true, true, true, false, false, false, false, true, false, false, false, false, false] rfl rfl (by kernel_rfl) (fun _ _ _ h => h) (Or.inl ⟨by rfl, ?_⟩) ?_ ?_
        rotate_left
        · intro w'
          go_simp
          with_reducible rfl
        rotate_left
        · simp only [Act.put, List.setIfInBounds_toArray, List.set_cons_zero, List.set_cons_succ, i64_w, i32_w]
          rfl
        refine pure_ (i := 9) (N := some 55) (v := ?_) (a' := ?_) #[true, true, true, true, true, true, true, true, true, true, false, false, false, true, false, false, false, false, false] rfl rfl (by kernel_rfl) (fun _ _ _ h => h) (Or.inl ⟨by rfl, ?_⟩) ?_ ?_
        rotate_left
        · intro w'
          go_simp
          with_reducible rfl
        rotate_left
        · simp only [Act.put, List.setIfInBounds_toArray, List.set_cons_zero, List.set_cons_succ, i64_w, i32_w]
          rfl
        refine pure_ (i := 10) (N := some 56) (v := ?_) (a' := ?_) #[true, true, true, true, true, true, true, true, true, true, true, false, false, true, false, false, false, false, false] rfl rfl (by kernel_rfl) (fun _ _ _ h => h) (Or.inl ⟨by rfl, ?_⟩) ?_ ?_
        rotate_left
        · intro w'
          go_simp
          with_reducible rfl
        rotate_left
        · simp only [Act.put, List.setIfInBounds_toArray, List.set_cons_zero, List.set_cons_succ, i64_w, i32_w]
          rfl
        refine pure_ (i := 11) (N := some 57) (v := ?_) (a' := ?_) #[true, true, true, true, true, true, true, true, true, true, true, true, false, true, false, false, false, false, false] rfl rfl (by kernel_rfl) (fun _ _ _ h => h) (Or.inl ⟨by rfl, ?_⟩) ?_ ?_
        rotate_left
        · intro w'
          go_simp
          with_reducible rfl
        rotate_left
        · simp only [Act.put, List.setIfInBounds_toArray, List.set_cons_zero, List.set_cons_succ, i64_w, i32_w]
          rfl
        refine pure_ (i := 12) (N := some 58) (v := ?_) (a' := ?_) #[true, true, true, true, true, true, true, true, true, true, true, true, true, true, false, false, false, false, false] rfl rfl (by kernel_rfl) (fun _ _ _ h => h) (Or.inl ⟨by rfl, ?_⟩) ?_ ?_
        rotate_left
        · intro w'
          go_simp
          with_reducible rfl
        rotate_left
        · simp only [Act.put, List.setIfInBounds_toArray, List.set_cons_zero, List.set_cons_succ, i64_w, i32_w]
          rfl
        exact norm_ (by simp only [putAll, Act.put, List.setIfInBounds_toArray, List.set_cons_zero, List.set_cons_succ]) (hCont (B5, e5, B6, e6, q) _ ⟨HQ7.out, HE9.out, hql.out, HP9.out, HQ9.out⟩)
    · skip
      refine box_step (by rfl) rfl (cs := #[.int .i64 0, .int .i64 0, .int .i64 0, .slice none 0 0, .slice none 0 0]) (t := 27) ?_ ?_
      · go_simp
      intro q hq w7 hb7 hB7
      have HQ7 := Aside0.mk hb7
      have HE7 := Aside0.mk (below_step (show Below w6.heap.size w6 w6.drew from bk_ (Below.refl _ _)) hB7)
      have hql := Aside0.mk (show w6.heap.size ≤ q from by rw [hq]; exact ((show Below w6.heap.size w6 w6.drew from bk_ (Below.refl _ _))).size)
      clear hb7 hB7 hq
      refine hK.out _ _ ⟨(lf_ HE7.out t0), (lf_ HE7.out t1), (lf_ HE7.out t2), (lf_ HE7.out t3), (lf_ HE7.out t4), (lf_ HE7.out t5), (lf_ HE7.out t6), (lf_ HE7.out t7)⟩ (fun hHeld => ?_)
      clear hK K
      refine norm_ (a' := ?_) ?_ ?_
      rotate_left
      · show Act.put _ (some 14) _ = _
        simp only [Act.put, List.setIfInBounds_toArray, List.set_cons_zero, List.set_cons_succ, i64_w, i32_w]
        rfl
      refine one_ (i := 2) (N := some 49) #[true, true, true, true, true, true, false, false, false, false, false, false, false, true, false, false, false, false, false] rfl rfl (by kernel_rfl) (by decide) (fun K hK => ?_)
      refine goes_ Try.func21 (by kernel_rfl) rfl #[.agg #[.int .i64 st, .int .i64 po, .int .i64 sy, .slice A3 lf.length c3, .slice A4 rt.length c4]] (by rfl) rfl rfl (by simp only [List.map_toArray, List.map_cons, List.map_nil]; rfl) ?_
      with_reducible refine (standstilllaw04_mirrored.callsC st po sy A3 c3 lf A4 c4 rt _).mono ?_
      rintro e w8 ⟨rfl, hB8⟩
      refine ⟨_, rfl, ?_⟩
      have HE8 := Aside0.mk (below_step HE7.out hB8)
      have HQ7 := Aside0.mk (blk_below HQ7.out hB8)
      clear hB8
      refine hK.out _ _ ⟨(lf_ HE8.out t0), (lf_ HE8.out t1), (lf_ HE8.out t2), (lf_ HE8.out t3), (lf_ HE8.out t4), (lf_ HE8.out t5), (lf_ HE8.out t6), (lf_ HE8.out t7)⟩ (fun hHeld => ?_)
      clear hK K
      refine norm_ (a' := ?_) ?_ ?_
      rotate_left
      · show Act.put _ (some 49) _ = _
        simp only [Act.put, List.setIfInBounds_toArray, List.set_cons_zero, List.set_cons_succ, i64_w, i32_w]
        rfl
      refine one_ (i := 6) (N := some 53) #[true, true, true, true, true, true, true, false, false, false, false, false, false, true, false, false, false, false, false] rfl rfl (by kernel_rfl) (by decide) (fun K hK => ?_)
      refine goes_ Try.func15 (by kernel_rfl) rfl #[.agg #[.int .i64 d1, .int .i64 d2, .slice A5 d3.length c5], .agg #[.int .i64 st, .int .i64 (wrap64 (-po)), .int .i64 sy, .slice A4 rt.length c4, .slice A3 lf.length c3], .int .i64 nn] (by rfl) rfl rfl (by simp only [List.map_toArray, List.map_cons, List.map_nil]; rfl) ?_
      with_reducible refine (leap_Leaps.calls k d1 d2 A5 c5 d3 st (wrap64 (-po)) sy A4 c4 rt A3 c3 lf nn b1 b2 b3 b4 b5 b6 b7 b8 b9 _ (Kd.C_below HM_6.out HE8.out) HML.out (Kd.C_below HR4_.out (below_step HB6.out HE8.out)) HC4.out (Kd.C_below HR3_.out (below_step HB6.out HE8.out)) HC3.out HB_.out).mono ?_
      rintro e w9 ⟨B5, e5, B6, e6, rfl, hC5, hC6, hB9⟩
      refine ⟨_, rfl, ?_⟩
      have HE9 := Aside0.mk (below_step HE8.out hB9)
      have HP9 := Aside0.mk (Kd.R_lower (Kd.R_mono (ok' := fun k => k ≠ q) (Kd.R_bound hC5) (fun k hk => by have h1 := hk.2.1; have h2 := blk_lt HQ7.out; omega)) (HE8.out).size)
      have HQ9 := Aside0.mk (Kd.R_lower (Kd.R_mono (ok' := fun k => k ≠ q) (Kd.R_bound hC6) (fun k hk => by have h1 := hk.2.1; have h2 := blk_lt HQ7.out; omega)) (HE8.out).size)
      have HQ7 := Aside0.mk (blk_below HQ7.out hB9)
      clear hC5 hC6 hB9
      refine hK.out _ _ ⟨(lf_ HE9.out t0), (lf_ HE9.out t1), (lf_ HE9.out t2), (lf_ HE9.out t3), (lf_ HE9.out t4), (lf_ HE9.out t5), (lf_ HE9.out t6), (lf_ HE9.out t7)⟩ (fun hHeld => ?_)
      clear hK K
      refine norm_ (a' := ?_) ?_ ?_
      rotate_left
      · show Act.put _ (some 53) _ = _
        simp only [Act.put, List.setIfInBounds_toArray, List.set_cons_zero, List.set_cons_succ, i64_w, i32_w]
        rfl
      refine pure_ (i := 7) (N := some 46) (v := ?_) (a' := ?_) #[true, true, true, true, true, true, true, true, false, false, false, false, false, true, false, false, false, false, false] rfl rfl (by kernel_rfl) (fun _ _ _ h => h) (Or.inl ⟨by rfl, ?_⟩) ?_ ?_
      rotate_left
      · intro w'
        go_simp
        with_reducible rfl
      rotate_left
      · simp only [Act.put, List.setIfInBounds_toArray, List.set_cons_zero, List.set_cons_succ, i64_w, i32_w]
        rfl
      refine pure_ (i := 8) (N := some 54) (v := ?_) (a' := ?_) #[true, true, true, true, true, true, true, true, true, false, false, false, false, true, false, false, false, false, false] rfl rfl (by kernel_rfl) (fun _ _ _ h => h) (Or.inl ⟨by rfl, ?_⟩) ?_ ?_
      rotate_left
      · intro w'
        go_simp
        with_reducible rfl
      rotate_left
      · simp only [Act.put, List.setIfInBounds_toArray, List.set_cons_zero, List.set_cons_succ, i64_w, i32_w]
        rfl
      refine pure_ (i := 9) (N := some 55) (v := ?_) (a' := ?_) #[true, true, true, true, true, true, true, true, true, true, false, false, false, true, false, false, false, false, false] rfl rfl (by kernel_rfl) (fun _ _ _ h => h) (Or.inl ⟨by rfl, ?_⟩) ?_ ?_
      rotate_left
      · intro w'
        go_simp
        with_reducible rfl
      rotate_left
      · simp only [Act.put, List.setIfInBounds_toArray, List.set_cons_zero, List.set_cons_succ, i64_w, i32_w]
        rfl
      refine pure_ (i := 10) (N := some 56) (v := ?_) (a' := ?_) #[true, true, true, true, true, true, true, true, true, true, true, false, false, true, false, false, false, false, false] rfl rfl (by kernel_rfl) (fun _ _ _ h => h) (Or.inl ⟨by rfl, ?_⟩) ?_ ?_
      rotate_left
      · intro w'
        go_simp
        with_reducible rfl
      rotate_left
      · simp only [Act.put, List.setIfInBounds_toArray, List.set_cons_zero, List.set_cons_succ, i64_w, i32_w]
        rfl
      refine pure_ (i := 11) (N := some 57) (v := ?_) (a' := ?_) #[true, true, true, true, true, true, true, true, true, true, true, true, false, true, false, false, false, false, false] rfl rfl (by kernel_rfl) (fun _ _ _ h => h) (Or.inl ⟨by rfl, ?_⟩) ?_ ?_
      rotate_left
      · intro w'
        go_simp
        with_reducible rfl
      rotate_left
      · simp only [Act.put, List.setIfInBounds_toArray, List.set_cons_zero, List.set_cons_succ, i64_w, i32_w]
        rfl
      refine pure_ (i := 12) (N := some 58) (v := ?_) (a' := ?_) #[true, true, true, true, true, true, true, true, true, true, true, true, true, true, false, false, false, false, false] rfl rfl (by kernel_rfl) (fun _ _ _ h => h) (Or.inl ⟨by rfl, ?_⟩) ?_ ?_
      rotate_left
      · intro w'
        go_simp
        with_reducible rfl
      rotate_left
      · simp only [Act.put, List.setIfInBounds_toArray, List.set_cons_zero, List.set_cons_succ, i64_w, i32_w]
        rfl
      exact norm_ (by simp only [putAll, Act.put, List.setIfInBounds_toArray, List.set_cons_zero, List.set_cons_succ]) (hCont (B5, e5, B6, e6, q) _ ⟨HQ7.out, HE9.out, hql.out, HP9.out, HQ9.out⟩)
  rintro ⟨B5, e5, B6, e6, q⟩ w10 ⟨hq10, hE10, hql, hC5, hC6⟩
  have HQ10 := Aside0.mk hq10
  have HE10 := Aside0.mk hE10
  have HQL := Aside0.mk hql
  have HP10 := Aside0.mk hC5
  have HQ_10 := Aside0.mk hC6
  clear hq10 hE10 hql hC5 hC6 hHeld
  simp only at HQ10 HP10 HQ_10 HQL
  refine norm_ (a' := ?_) ?_ ?_
  rotate_left
  · simp only [putAll, Act.put, List.setIfInBounds_toArray, List.set_cons_zero, List.set_cons_succ]
    rfl
  refine last_ (i := 14) (N := none) #[true, true, true, true, true, true, true, true, true, true, true, true, true, true, true, false, false, false, false] rfl rfl (by kernel_rfl) (by decide) (fun K hK => ?_)
  have hq_0 := (blk_cell HQ10.out 0).trans rfl
  have hq_1 := (blk_cell HQ10.out 1).trans rfl
  have hq_2 := (blk_cell HQ10.out 2).trans rfl
  have hq_3 := (blk_cell HQ10.out 3).trans rfl
  have hq_4 := (blk_cell HQ10.out 4).trans rfl
  have hf_0 := blk_frozen HQ10.out 0
  have hf_1 := blk_frozen HQ10.out 1
  have hf_2 := blk_frozen HQ10.out 2
  have hf_3 := blk_frozen HQ10.out 3
  have hf_4 := blk_frozen HQ10.out 4
  refine skip_ (w1 := ?_) (by rfl) rfl ?_ ?_
  rotate_left
  · go_simp
    rfl
  refine hK.out _ _ ?_
  clear hK K
  refine pure_ (i := 15) (N := some 15) (v := ?_) (a' := ?_) #[true, true, true, true, true, true, true, true, true, true, true, true, true, true, true, true, false, false, false] rfl rfl (by kernel_rfl) (fun _ _ _ h => h) (Or.inl ⟨by rfl, ?_⟩) ?_ ?_
  rotate_left
  · intro w'
    go_simp
    with_reducible rfl
  rotate_left
  · simp only [Act.put, List.setIfInBounds_toArray, List.set_cons_zero, List.set_cons_succ, i64_w, i32_w]
    rfl
  refine pure_ (i := 16) (N := some 16) (v := ?_) (a' := ?_) #[true, true, true, true, true, true, true, true, true, true, true, true, true, true, true, true, true, false, false] rfl rfl (by kernel_rfl) (fun _ _ _ h => h) (Or.inl ⟨by rfl, ?_⟩) ?_ ?_
  rotate_left
  · intro w'
    go_simp
    with_reducible rfl
  rotate_left
  · simp only [Act.put, List.setIfInBounds_toArray, List.set_cons_zero, List.set_cons_succ, i64_w, i32_w]
    rfl
  refine pure_ (i := 17) (N := some 17) (v := ?_) (a' := ?_) #[true, true, true, true, true, true, true, true, true, true, true, true, true, true, true, true, true, true, false] rfl rfl (by kernel_rfl) (fun _ _ _ h => h) (Or.inl ⟨by rfl, ?_⟩) ?_ ?_
  rotate_left
  · intro w'
    go_simp
    with_reducible rfl
  rotate_left
  · simp only [Act.put, List.setIfInBounds_toArray, List.set_cons_zero, List.set_cons_succ, i64_w, i32_w]
    rfl
  refine pure_ (i := 18) (N := some 18) (v := ?_) (a' := ?_) #[true, true, true, true, true, true, true, true, true, true, true, true, true, true, true, true, true, true, true] rfl rfl (by kernel_rfl) (fun _ _ _ h => h) (Or.inl ⟨by rfl, ?_⟩) ?_ ?_
  rotate_left
  · intro w'
    go_simp
    with_reducible rfl
  rotate_left
  · simp only [Act.put, List.setIfInBounds_toArray, List.set_cons_zero, List.set_cons_succ, i64_w, i32_w]
    rfl
  refine done_ (by kernel_rfl) ?_
  obtain ⟨w11, hW11⟩ : ∃ W : World, (((((w10.setCell ⟨q, 0, none⟩ (.int .i64 b1)).setCell ⟨q, 1, none⟩ (.int .i64 b2)).setCell ⟨q, 2, none⟩ (.int .i64 b3)).setCell ⟨q, 3, none⟩ (.slice B5 b4.length e5)).setCell ⟨q, 4, none⟩ (.slice B6 b5.length e6)) = W := ⟨_, rfl⟩
  have hE11 : Below w6.heap.size w6 w11 := by rw [← hW11]; exact (((((HE10.out.setCell (p := ⟨q, 0, none⟩) HQL.out (.int .i64 b1)).setCell (p := ⟨q, 1, none⟩) HQL.out (.int .i64 b2)).setCell (p := ⟨q, 2, none⟩) HQL.out (.int .i64 b3)).setCell (p := ⟨q, 3, none⟩) HQL.out (.slice B5 b4.length e5)).setCell (p := ⟨q, 4, none⟩) HQL.out (.slice B6 b5.length e6))
  have HQ_11 := Aside0.mk (show w11.heap[q]? = some (.cells #[.int .i64 b1, .int .i64 b2, .int .i64 b3, .slice B5 b4.length e5, .slice B6 b5.length e6] 27 (0, 0)) from by rw [← hW11]; exact blk_put (blk_put (blk_put (blk_put (blk_put HQ10.out 0 _ rfl) 1 _ rfl) 2 _ rfl) 3 _ rfl) 4 _ rfl)
  have HP11 := Aside0.mk (show Kd.R k75 75 w11 w6.heap.size (fun k => k ≠ q) (.slice B5 b4.length e5) b4 from by rw [← hW11]; exact (Kd.R_far (p := ⟨q, 4, none⟩) (Kd.R_far (p := ⟨q, 3, none⟩) (Kd.R_far (p := ⟨q, 2, none⟩) (Kd.R_far (p := ⟨q, 1, none⟩) (Kd.R_far (p := ⟨q, 0, none⟩) HP10.out (fun k hk => hk) (.int .i64 b1)) (fun k hk => hk) (.int .i64 b2)) (fun k hk => hk) (.int .i64 b3)) (fun k hk => hk) (.slice B5 b4.length e5)) (fun k hk => hk) (.slice B6 b5.length e6)))
  have HR11 := Aside0.mk (show Kd.R k75 75 w11 w6.heap.size (fun k => k ≠ q) (.slice B6 b5.length e6) b5 from by rw [← hW11]; exact (Kd.R_far (p := ⟨q, 4, none⟩) (Kd.R_far (p := ⟨q, 3, none⟩) (Kd.R_far (p := ⟨q, 2, none⟩) (Kd.R_far (p := ⟨q, 1, none⟩) (Kd.R_far (p := ⟨q, 0, none⟩) HQ_10.out (fun k hk => hk) (.int .i64 b1)) (fun k hk => hk) (.int .i64 b2)) (fun k hk => hk) (.int .i64 b3)) (fun k hk => hk) (.slice B5 b4.length e5)) (fun k hk => hk) (.slice B6 b5.length e6)))
  have HA_11 := Aside0.mk (blk_below HA_6.out hE11)
  have HP_11 := Aside0.mk (Kd.C_below HP_6.out hE11)
  have HQ_11c := Aside0.mk (Kd.C_below HQ_6.out hE11)
  have HB11 := Aside0.mk (below_step HB6.out hE11)
  rw [hW11]
  clear hW11 hE11 t0 t1 t2 t3 t4 t5 t6 t7
  go_wp2_with fail
  have y0 := (blk_cell HQ_11.out 0).trans rfl
  have y1 := (blk_cell HQ_11.out 1).trans rfl
  have y2 := (blk_cell HQ_11.out 2).trans rfl
  have y3 := (blk_cell HQ_11.out 3).trans rfl
  have y4 := (blk_cell HQ_11.out 4).trans rfl
  have y5 := (blk_cell HA_11.out 0).trans rfl
  have y6 := (blk_cell HA_11.out 1).trans rfl
  have y7 := (blk_cell HA_11.out 2).trans rfl
  have y8 := (blk_cell HA_11.out 3).trans rfl
  have y9 := (blk_cell HA_11.out 4).trans rfl
  have h := H.out
  clear H
  by_cases kz : b9 = 0
  · subst kz
    rw [if_pos rfl] at h
    obtain ⟨s, hs, h2⟩ := Option.bind_eq_some_iff.1 h
    by_cases ks : s = true
    rotate_left
    · rw [if_neg ks] at h2
      cases h2
    rw [if_pos ks] at h2
    subst ks
    have HS := Aside0.mk hs
    have H := Aside0.mk h2
    clear h h2 hs
    refine start_ (n := 36) (S := fun w' => w'.cell? ⟨q, 0, none⟩ = some (.int .i64 b1) ∧ w'.cell? ⟨q, 1, none⟩ = some (.int .i64 b2) ∧ w'.cell? ⟨q, 2, none⟩ = some (.int .i64 b3) ∧ w'.cell? ⟨q, 3, none⟩ = some (.slice B5 b4.length e5) ∧ w'.cell? ⟨q, 4, none⟩ = some (.slice B6 b5.length e6) ∧ w'.cell? ⟨za, 0, none⟩ = some (.int .i64 a1) ∧ w'.cell? ⟨za, 1, none⟩ = some (.int .i64 a2) ∧ w'.cell? ⟨za, 2, none⟩ = some (.int .i64 a3) ∧ w'.cell? ⟨za, 3, none⟩ = some (.slice B3 a4.length e3) ∧ w'.cell? ⟨za, 4, none⟩ = some (.slice B4 a5.length e4)) (ds := []) #[false, false, false, false, false, false, false, false, false, false, false, false, false, false, false, false, false, false, false, false, false, false, false, false, false, false, false, false, false, false, false, false, false, false, false, false] (by kernel_rfl) rfl rfl ⟨y0, y1, y2, y3, y4, y5, y6, y7, y8, y9⟩ (fun hHeld => ?_)
    refine pure_ (i := 0) (N := some 59) (v := ?_) (a' := ?_) #[true, false, false, false, false, false, false, false, false, false, false, false, false, false, false, false, false, false, false, false, false, false, false, false, false, false, false, false, false, false, false, false, false, false, false, false] rfl rfl (by kernel_rfl) (fun _ _ _ h => h) (Or.inl ⟨by rfl, ?_⟩) ?_ ?_
    rotate_left
    · intro w'
      go_simp
      with_reducible rfl
    rotate_left
    · simp only [Act.put, List.setIfInBounds_toArray, List.set_cons_zero, List.set_cons_succ, i64_w, i32_w]
      rfl
    refine pure_ (i := 1) (N := some 60) (v := ?_) (a' := ?_) #[true, true, false, false, false, false, false, false, false, false, false, false, false, false, false, false, false, false, false, false, false, false, false, false, false, false, false, false, false, false, false, false, false, false, false, false] rfl rfl (by kernel_rfl) (fun _ _ _ h => h) (Or.inl ⟨by rfl, ?_⟩) ?_ ?_
    rotate_left
    · intro w'
      go_simp
      with_reducible rfl
    rotate_left
    · simp only [Act.put, List.setIfInBounds_toArray, List.set_cons_zero, List.set_cons_succ, i64_w, i32_w]
      rfl
    refine pure_ (i := 2) (N := some 61) (v := ?_) (a' := ?_) #[true, true, true, false, false, false, false, false, false, false, false, false, false, false, false, false, false, false, false, false, false, false, false, false, false, false, false, false, false, false, false, false, false, false, false, false] rfl rfl (by kernel_rfl) (fun _ _ _ h => h) (Or.inl ⟨by rfl, ?_⟩) ?_ ?_
    rotate_left
    · intro w'
      go_simp
      with_reducible rfl
    rotate_left
    · simp only [Act.put, List.setIfInBounds_toArray, List.set_cons_zero, List.set_cons_succ, i64_w, i32_w]
      rfl
    refine pure_ (i := 3) (N := some 62) (v := ?_) (a' := ?_) #[true, true, true, true, false, false, false, false, false, false, false, false, false, false, false, false, false, false, false, false, false, false, false, false, false, false, false, false, false, false, false, false, false, false, false, false] rfl rfl (by kernel_rfl) (fun _ _ _ h => h) (Or.inl ⟨by rfl, ?_⟩) ?_ ?_
    rotate_left
    · intro w'
      go_simp
      with_reducible rfl
    rotate_left
    · simp only [Act.put, List.setIfInBounds_toArray, List.set_cons_zero, List.set_cons_succ, i64_w, i32_w]
      rfl
    refine pure_ (i := 4) (N := some 63) (v := ?_) (a' := ?_) #[true, true, true, true, true, false, false, false, false, false, false, false, false, false, false, false, false, false, false, false, false, false, false, false, false, false, false, false, false, false, false, false, false, false, false, false] rfl rfl (by kernel_rfl) (fun _ _ _ h => h) (Or.inl ⟨by rfl, ?_⟩) ?_ ?_
    rotate_left
    · intro w'
      go_simp
      with_reducible rfl
    rotate_left
    · simp only [Act.put, List.setIfInBounds_toArray, List.set_cons_zero, List.set_cons_succ, i64_w, i32_w]
      rfl
    refine pure_ (i := 5) (N := some 64) (v := ?_) (a' := ?_) #[true, true, true, true, true, true, false, false, false, false, false, false, false, false, false, false, false, false, false, false, false, false, false, false, false, false, false, false, false, false, false, false, false, false, false, false] rfl rfl (by kernel_rfl) (fun _ _ _ h => h) (Or.inl ⟨by rfl, ?_⟩) ?_ ?_
    rotate_left
    · intro w'
      go_simp
      with_reducible rfl
    rotate_left
    · simp only [Act.put, List.setIfInBounds_toArray, List.set_cons_zero, List.set_cons_succ, i64_w, i32_w]
      rfl
    refine pure_ (i := 6) (N := some 65) (v := ?_) (a' := ?_) #[true, true, true, true, true, true, true, false, false, false, false, false, false, false, false, false, false, false, false, false, false, false, false, false, false, false, false, false, false, false, false, false, false, false, false, false] rfl rfl (by kernel_rfl) (fun _ _ _ h => h) (Or.inl ⟨by rfl, ?_⟩) ?_ ?_
    rotate_left
    · intro w'
      go_simp
      with_reducible rfl
    rotate_left
    · simp only [Act.put, List.setIfInBounds_toArray, List.set_cons_zero, List.set_cons_succ, i64_w, i32_w]
      rfl
    refine pure_ (i := 7) (N := some 66) (v := ?_) (a' := ?_) #[true, true, true, true, true, true, true, true, false, false, false, false, false, false, false, false, false, false, false, false, false, false, false, false, false, false, false, false, false, false, false, false, false, false, false, false] rfl rfl (by kernel_rfl) (fun _ _ _ h => h) (Or.inl ⟨by rfl, ?_⟩) ?_ ?_
    rotate_left
    · intro w'
      go_simp
      with_reducible rfl
    rotate_left
    · simp only [Act.put, List.setIfInBounds_toArray, List.set_cons_zero, List.set_cons_succ, i64_w, i32_w]
      rfl
    refine pure_ (i := 8) (N := some 67) (v := ?_) (a' := ?_) #[true, true, true, true, true, true, true, true, true, false, false, false, false, false, false, false, false, false, false, false, false, false, false, false, false, false, false, false, false, false, false, false, false, false, false, false] rfl rfl (by kernel_rfl) (fun _ _ _ h => h) (Or.inl ⟨by rfl, ?_⟩) ?_ ?_
    rotate_left
    · intro w'
      go_simp
      with_reducible rfl
    rotate_left
    · simp only [Act.put, List.setIfInBounds_toArray, List.set_cons_zero, List.set_cons_succ, i64_w, i32_w]
      rfl
    refine pure_ (i := 9) (N := some 68) (v := ?_) (a' := ?_) #[true, true, true, true, true, true, true, true, true, true, false, false, false, false, false, false, false, false, false, false, false, false, false, false, false, false, false, false, false, false, false, false, false, false, false, false] rfl rfl (by kernel_rfl) (fun _ _ _ h => h) (Or.inl ⟨by rfl, ?_⟩) ?_ ?_
    rotate_left
    · intro w'
      go_simp
      with_reducible rfl
    rotate_left
    · simp only [Act.put, List.setIfInBounds_toArray, List.set_cons_zero, List.set_cons_succ, i64_w, i32_w]
      rfl
    refine pure_ (i := 10) (N := some 69) (v := ?_) (a' := ?_) #[true, true, true, true, true, true, true, true, true, true, true, false, false, false, false, false, false, false, false, false, false, false, false, false, false, false, false, false, false, false, false, false, false, false, false, false] rfl rfl (by kernel_rfl) (fun _ _ _ h => h) (Or.inl ⟨by rfl, ?_⟩) ?_ ?_
    rotate_left
    · intro w'
      go_simp
      with_reducible rfl
    rotate_left
    · simp only [Act.put, List.setIfInBounds_toArray, List.set_cons_zero, List.set_cons_succ, i64_w, i32_w]
      rfl
    refine pure_ (i := 11) (N := some 70) (v := ?_) (a' := ?_) #[true, true, true, true, true, true, true, true, true, true, true, true, false, false, false, false, false, false, false, false, false, false, false, false, false, false, false, false, false, false, false, false, false, false, false, false] rfl rfl (by kernel_rfl) (fun _ _ _ h => h) (Or.inl ⟨by rfl, ?_⟩) ?_ ?_
    rotate_left
    · intro w'
      go_simp
      with_reducible rfl
    rotate_left
    · simp only [Act.put, List.setIfInBounds_toArray, List.set_cons_zero, List.set_cons_succ, i64_w, i32_w]
      rfl
    refine pure_ (i := 12) (N := some 71) (v := ?_) (a' := ?_) #[true, true, true, true, true, true, true, true, true, true, true, true, true, false, false, false, false, false, false, false, false, false, false, false, false, false, false, false, false, false, false, false, false, false, false, false] rfl rfl (by kernel_rfl) (fun _ _ _ h => h) (Or.inl ⟨by rfl, ?_⟩) ?_ ?_
    rotate_left
    · intro w'
      go_simp
      with_reducible rfl
    rotate_left
    · simp only [Act.put, List.setIfInBounds_toArray, List.set_cons_zero, List.set_cons_succ, i64_w, i32_w]
      rfl
    refine pure_ (i := 13) (N := some 72) (v := ?_) (a' := ?_) #[true, true, true, true, true, true, true, true, true, true, true, true, true, true, false, false, false, false, false, false, false, false, false, false, false, false, false, false, false, false, false, false, false, false, false, false] rfl rfl (by kernel_rfl) (fun _ _ _ h => h) (Or.inl ⟨by rfl, ?_⟩) ?_ ?_
    rotate_left
    · intro w'
      go_simp
      with_reducible rfl
    rotate_left
    · simp only [Act.put, List.setIfInBounds_toArray, List.set_cons_zero, List.set_cons_succ, i64_w, i32_w]
      rfl
    refine pure_ (i := 14) (N := some 73) (v := ?_) (a' := ?_) #[true, true, true, true, true, true, true, true, true, true, true, true, true, true, true, false, false, false, false, false, false, false, false, false, false, false, false, false, false, false, false, false, false, false, false, false] rfl rfl (by kernel_rfl) (fun _ _ _ h => h) (Or.inl ⟨by rfl, ?_⟩) ?_ ?_
    rotate_left
    · intro w'
      go_simp
      with_reducible rfl
    rotate_left
    · simp only [Act.put, List.setIfInBounds_toArray, List.set_cons_zero, List.set_cons_succ, i64_w, i32_w]
      rfl
    refine pure_ (i := 15) (N := some 74) (v := ?_) (a' := ?_) #[true, true, true, true, true, true, true, true, true, true, true, true, true, true, true, true, false, false, false, false, false, false, false, false, false, false, false, false, false, false, false, false, false, false, false, false] rfl rfl (by kernel_rfl) (fun _ _ _ h => h) (Or.inl ⟨by rfl, ?_⟩) ?_ ?_
    rotate_left
    · intro w'
      go_simp
      with_reducible rfl
    rotate_left
    · simp only [Act.put, List.setIfInBounds_toArray, List.set_cons_zero, List.set_cons_succ, i64_w, i32_w]
      rfl
    refine pure_ (i := 16) (N := some 75) (v := ?_) (a' := ?_) #[true, true, true, true, true, true, true, true, true, true, true, true, true, true, true, true, true, false, false, false, false, false, false, false, false, false, false, false, false, false, false, false, false, false, false, false] rfl rfl (by kernel_rfl) (fun _ _ _ h => h) (Or.inl ⟨by rfl, ?_⟩) ?_ ?_
    rotate_left
    · intro w'
      go_simp
      with_reducible rfl
    rotate_left
    · simp only [Act.put, List.setIfInBounds_toArray, List.set_cons_zero, List.set_cons_succ, i64_w, i32_w]
      rfl
    refine pure_ (i := 17) (N := some 76) (v := ?_) (a' := ?_) #[true, true, true, true, true, true, true, true, true, true, true, true, true, true, true, true, true, true, false, false, false, false, false, false, false, false, false, false, false, false, false, false, false, false, false, false] rfl rfl (by kernel_rfl) (fun _ _ _ h => h) (Or.inl ⟨by rfl, ?_⟩) ?_ ?_
    rotate_left
    · intro w'
      go_simp
      with_reducible rfl
    rotate_left
    · simp only [Act.put, List.setIfInBounds_toArray, List.set_cons_zero, List.set_cons_succ, i64_w, i32_w]
      rfl
    refine pure_ (i := 18) (N := some 77) (v := ?_) (a' := ?_) #[true, true, true, true, true, true, true, true, true, true, true, true, true, true, true, true, true, true, true, false, false, false, false, false, false, false, false, false, false, false, false, false, false, false, false, false] rfl rfl (by kernel_rfl) (fun _ _ _ h => h) (Or.inl ⟨by rfl, ?_⟩) ?_ ?_
    rotate_left
    · intro w'
      go_simp
      with_reducible rfl
    rotate_left
    · simp only [Act.put, List.setIfInBounds_toArray, List.set_cons_zero, List.set_cons_succ, i64_w, i32_w]
      rfl
    refine pure_ (i := 19) (N := some 78) (v := ?_) (a' := ?_) #[true, true, true, true, true, true, true, true, true, true, true, true, true, true, true, true, true, true, true, true, false, false, false, false, false, false, false, false, false, false, false, false, false, false, false, false] rfl rfl (by kernel_rfl) (fun _ _ _ h => h) (Or.inl ⟨by rfl, ?_⟩) ?_ ?_
    rotate_left
    · intro w'
      go_simp
      with_reducible rfl
    rotate_left
    · simp only [Act.put, List.setIfInBounds_toArray, List.set_cons_zero, List.set_cons_succ, i64_w, i32_w]
      rfl
    refine pure_ (i := 20) (N := some 79) (v := ?_) (a' := ?_) #[true, true, true, true, true, true, true, true, true, true, true, true, true, true, true, true, true, true, true, true, true, false, false, false, false, false, false, false, false, false, false, false, false, false, false, false] rfl rfl (by kernel_rfl) (fun _ _ _ h => h) (Or.inl ⟨by rfl, ?_⟩) ?_ ?_
    rotate_left
    · intro w'
      go_simp
      with_reducible rfl
    rotate_left
    · simp only [Act.put, List.setIfInBounds_toArray, List.set_cons_zero, List.set_cons_succ, i64_w, i32_w]
      rfl
    refine pure_ (i := 21) (N := some 80) (v := ?_) (a' := ?_) #[true, true, true, true, true, true, true, true, true, true, true, true, true, true, true, true, true, true, true, true, true, true, false, false, false, false, false, false, false, false, false, false, false, false, false, false] rfl rfl (by kernel_rfl) (fun _ _ _ h => h) (Or.inl ⟨by rfl, ?_⟩) ?_ ?_
    rotate_left
    · intro w'
      go_simp
      with_reducible rfl
    rotate_left
    · simp only [Act.put, List.setIfInBounds_toArray, List.set_cons_zero, List.set_cons_succ, i64_w, i32_w]
      rfl
    refine pure_ (i := 22) (N := some 81) (v := ?_) (a' := ?_) #[true, true, true, true, true, true, true, true, true, true, true, true, true, true, true, true, true, true, true, true, true, true, true, false, false, false, false, false, false, false, false, false, false, false, false, false] rfl rfl (by kernel_rfl) (fun _ _ _ h => h) (Or.inl ⟨by rfl, ?_⟩) ?_ ?_
    rotate_left
    · intro w'
      go_simp
      with_reducible rfl
    rotate_left
    · simp only [Act.put, List.setIfInBounds_toArray, List.set_cons_zero, List.set_cons_succ, i64_w, i32_w]
      rfl
    refine pure_ (i := 23) (N := some 82) (v := ?_) (a' := ?_) #[true, true, true, true, true, true, true, true, true, true, true, true, true, true, true, true, true, true, true, true, true, true, true, true, false, false, false, false, false, false, false, false, false, false, false, false] rfl rfl (by kernel_rfl) (fun _ _ _ h => h) (Or.inl ⟨by rfl, ?_⟩) ?_ ?_
    rotate_left
    · intro w'
      go_simp
      with_reducible rfl
    rotate_left
    · simp only [Act.put, List.setIfInBounds_toArray, List.set_cons_zero, List.set_cons_succ, i64_w, i32_w]
      rfl
    refine pure_ (i := 24) (N := some 83) (v := ?_) (a' := ?_) #[true, true, true, true, true, true, true, true, true, true, true, true, true, true, true, true, true, true, true, true, true, true, true, true, true, false, false, false, false, false, false, false, false, false, false, false] rfl rfl (by kernel_rfl) (fun _ _ _ h => h) (Or.inl ⟨by rfl, ?_⟩) ?_ ?_
    rotate_left
    · intro w'
      go_simp
      with_reducible rfl
    rotate_left
    · simp only [Act.put, List.setIfInBounds_toArray, List.set_cons_zero, List.set_cons_succ, i64_w, i32_w]
      rfl
    refine pure_ (i := 25) (N := some 84) (v := ?_) (a' := ?_) #[true, true, true, true, true, true, true, true, true, true, true, true, true, true, true, true, true, true, true, true, true, true, true, true, true, true, false, false, false, false, false, false, false, false, false, false] rfl rfl (by kernel_rfl) (fun _ _ _ h => h) (Or.inl ⟨by rfl, ?_⟩) ?_ ?_
    rotate_left
    · intro w'
      go_simp
      with_reducible rfl
    rotate_left
    · simp only [Act.put, List.setIfInBounds_toArray, List.set_cons_zero, List.set_cons_succ, i64_w, i32_w]
      rfl
    refine take_ (i := 26) (N := some 85) (v := ?_) (a' := ?_) #[true, true, true, true, true, true, true, true, true, true, true, true, true, true, true, true, true, true, true, true, true, true, true, true, true, true, true, false, false, false, false, false, false, false, false, false] rfl rfl (by kernel_rfl) (fun _ _ _ h => h) (Or.inl ⟨by rfl, ?_⟩) hHeld ?_ ?_
    rotate_left
    · rintro w' ⟨s0, s1, s2, s3, s4, s5, s6, s7, s8, s9⟩
      go_simp
      with_reducible rfl
    rotate_left
    · simp only [Act.put, List.setIfInBounds_toArray, List.set_cons_zero, List.set_cons_succ, i64_w, i32_w]
      rfl
    refine take_ (i := 27) (N := some 86) (v := ?_) (a' := ?_) #[true, true, true, true, true, true, true, true, true, true, true, true, true, true, true, true, true, true, true, true, true, true, true, true, true, true, true, true, false, false, false, false, false, false, false, false] rfl rfl (by kernel_rfl) (fun _ _ _ h => h) (Or.inl ⟨by rfl, ?_⟩) hHeld ?_ ?_
    rotate_left
    · rintro w' ⟨s0, s1, s2, s3, s4, s5, s6, s7, s8, s9⟩
      go_simp
      with_reducible rfl
    rotate_left
    · simp only [Act.put, List.setIfInBounds_toArray, List.set_cons_zero, List.set_cons_succ, i64_w, i32_w]
      rfl
    refine one_ (i := 28) (N := some 87) #[true, true, true, true, true, true, true, true, true, true, true, true, true, true, true, true, true, true, true, true, true, true, true, true, true, true, true, true, true, false, false, false, false, false, false, false] rfl rfl (by kernel_rfl) (by decide) (fun K hK => ?_)
    refine goes_ Try.func21 (by kernel_rfl) rfl #[.agg #[.int .i64 a1, .int .i64 a2, .int .i64 a3, .slice B3 a4.length e3, .slice B4 a5.length e4]] (by rfl) rfl rfl (by simp only [List.map_toArray, List.map_cons, List.map_nil]; rfl) ?_
    with_reducible refine (standstilllaw04_mirrored.callsC a1 a2 a3 B3 e3 a4 B4 e4 a5 _).mono ?_
    rintro e w12 ⟨rfl, hB12⟩
    refine ⟨_, rfl, ?_⟩
    have HE12 := Aside0.mk (below_step (show Below w11.heap.size w11 w11.drew from bk_ (Below.refl _ _)) hB12)
    clear hB12
    refine hK.out _ _ ⟨(lf_ HE12.out y0), (lf_ HE12.out y1), (lf_ HE12.out y2), (lf_ HE12.out y3), (lf_ HE12.out y4), (lf_ HE12.out y5), (lf_ HE12.out y6), (lf_ HE12.out y7), (lf_ HE12.out y8), (lf_ HE12.out y9)⟩ (fun hHeld => ?_)
    clear hK K
    refine norm_ (a' := ?_) ?_ ?_
    rotate_left
    · show Act.put _ (some 87) _ = _
      simp only [Act.put, List.setIfInBounds_toArray, List.set_cons_zero, List.set_cons_succ, i64_w, i32_w]
      rfl
    refine one_ (i := 29) (N := some 88) #[true, true, true, true, true, true, true, true, true, true, true, true, true, true, true, true, true, true, true, true, true, true, true, true, true, true, true, true, true, true, false, false, false, false, false, false] rfl rfl (by kernel_rfl) (by decide) (fun K hK => ?_)
    refine goes_ Try.func14 (by kernel_rfl) rfl #[.agg #[.int .i64 b1, .int .i64 b2, .int .i64 b3, .slice B5 b4.length e5, .slice B6 b5.length e6], .agg #[.int .i64 a1, .int .i64 (wrap64 (-a2)), .int .i64 a3, .slice B4 a5.length e4, .slice B3 a4.length e3]] (by rfl) rfl rfl (by simp only [List.map_toArray, List.map_cons, List.map_nil]; rfl) ?_
    with_reducible refine (standstillref04_Same.calls k b1 b2 b3 B5 e5 b4 B6 e6 b5 a1 (wrap64 (-a2)) a3 B4 e4 a5 B3 e3 a4 true _ (Kd.C_below (Kd.R_reads' HP11.out).2.2 HE12.out) (Kd.R_reads' HP11.out).2.1 (Kd.C_below (Kd.R_reads' HR11.out).2.2 HE12.out) (Kd.R_reads' HR11.out).2.1 (Kd.C_below HQ_11c.out HE12.out) HQLA.out (Kd.C_below HP_11.out HE12.out) HPL.out HS.out).mono ?_
    rintro e w13 ⟨rfl, hB13⟩
    refine ⟨_, rfl, ?_⟩
    have HE13 := Aside0.mk (below_step HE12.out hB13)
    clear hB13
    refine hK.out _ _ ⟨(lf_ HE13.out y0), (lf_ HE13.out y1), (lf_ HE13.out y2), (lf_ HE13.out y3), (lf_ HE13.out y4), (lf_ HE13.out y5), (lf_ HE13.out y6), (lf_ HE13.out y7), (lf_ HE13.out y8), (lf_ HE13.out y9)⟩ (fun hHeld => ?_)
    clear hK K
    refine norm_ (a' := ?_) ?_ ?_
    rotate_left
    · show Act.put _ (some 88) _ = _
      simp only [Act.put, List.setIfInBounds_toArray, List.set_cons_zero, List.set_cons_succ, i64_w, i32_w]
      rfl
    refine pure_ (i := 30) (N := some 89) (v := ?_) (a' := ?_) #[true, true, true, true, true, true, true, true, true, true, true, true, true, true, true, true, true, true, true, true, true, true, true, true, true, true, true, true, true, true, true, false, false, false, false, false] rfl rfl (by kernel_rfl) (fun _ _ _ h => h) (Or.inl ⟨by rfl, ?_⟩) ?_ ?_
    rotate_left
    · intro w'
      go_simp
      with_reducible rfl
    rotate_left
    · simp only [Act.put, List.setIfInBounds_toArray, List.set_cons_zero, List.set_cons_succ, i64_w, i32_w]
      rfl
    refine pure_ (i := 31) (N := some 90) (v := ?_) (a' := ?_) #[true, true, true, true, true, true, true, true, true, true, true, true, true, true, true, true, true, true, true, true, true, true, true, true, true, true, true, true, true, true, true, true, false, false, false, false] rfl rfl (by kernel_rfl) (fun _ _ _ h => h) (Or.inl ⟨by rfl, ?_⟩) ?_ ?_
    rotate_left
    · intro w'
      go_simp
      with_reducible rfl
    rotate_left
    · simp only [Act.put, List.setIfInBounds_toArray, List.set_cons_zero, List.set_cons_succ, i64_w, i32_w]
      rfl
    refine pure_ (i := 32) (N := some 91) (v := ?_) (a' := ?_) #[true, true, true, true, true, true, true, true, true, true, true, true, true, true, true, true, true, true, true, true, true, true, true, true, true, true, true, true, true, true, true, true, true, false, false, false] rfl rfl (by kernel_rfl) (fun _ _ _ h => h) (Or.inl ⟨by rfl, ?_⟩) ?_ ?_
    rotate_left
    · intro w'
      go_simp
      with_reducible rfl
    rotate_left
    · simp only [Act.put, List.setIfInBounds_toArray, List.set_cons_zero, List.set_cons_succ, i64_w, i32_w]
      rfl
    refine one_ (i := 33) (N := some 92) #[true, true, true, true, true, true, true, true, true, true, true, true, true, true, true, true, true, true, true, true, true, true, true, true, true, true, true, true, true, true, true, true, true, true, false, false] rfl rfl (by kernel_rfl) (by decide) (fun K hK => ?_)
    refine goes_ Try.func10 (by kernel_rfl) rfl #[] (by rfl) rfl rfl (by first | rfl | (simp only [List.map_toArray, List.map_cons, List.map_nil]; done)) ?_
    with_reducible refine (HAW.out _ H.out).mono ?_
    rintro e w14 ⟨rfl, hB14⟩
    refine ⟨_, rfl, ?_⟩
    have HE14 := Aside0.mk (below_step HE13.out hB14)
    clear hB14
    refine hK.out _ _ ⟨(lf_ HE14.out y0), (lf_ HE14.out y1), (lf_ HE14.out y2), (lf_ HE14.out y3), (lf_ HE14.out y4), (lf_ HE14.out y5), (lf_ HE14.out y6), (lf_ HE14.out y7), (lf_ HE14.out y8), (lf_ HE14.out y9)⟩ (fun hHeld => ?_)
    clear hK K
    refine norm_ (a' := ?_) ?_ ?_
    rotate_left
    · show Act.put _ (some 92) _ = _
      simp only [Act.put, List.setIfInBounds_toArray, List.set_cons_zero, List.set_cons_succ, i64_w, i32_w]
      rfl
    refine pure_ (i := 34) (N := some 93) (v := ?_) (a' := ?_) #[true, true, true, true, true, true, true, true, true, true, true, true, true, true, true, true, true, true, true, true, true, true, true, true, true, true, true, true, true, true, true, true, true, true, true, false] rfl rfl (by kernel_rfl) (fun _ _ _ h => h) (Or.inl ⟨by rfl, ?_⟩) ?_ ?_
    rotate_left
    · intro w'
      go_simp
      with_reducible rfl
    rotate_left
    · simp only [Act.put, List.setIfInBounds_toArray, List.set_cons_zero, List.set_cons_succ, i64_w, i32_w]
      rfl
    refine pure_ (i := 35) (N := some 6) (v := ?_) (a' := ?_) #[true, true, true, true, true, true, true, true, true, true, true, true, true, true, true, true, true, true, true, true, true, true, true, true, true, true, true, true, true, true, true, true, true, true, true, true] rfl rfl (by kernel_rfl) (fun _ _ _ h => h) (Or.inl ⟨by rfl, ?_⟩) ?_ ?_
    rotate_left
    · intro w'
      go_simp
      with_reducible rfl
    rotate_left
    · simp only [Act.put, List.setIfInBounds_toArray, List.set_cons_zero, List.set_cons_succ, i64_w, i32_w]
      rfl
    refine done_ (by kernel_rfl) ?_
    go_wp2
    go_ret
    exact ⟨rfl, below_step HB11.out HE14.out⟩
  rw [if_neg kz] at h
  have H := Aside0.mk h
  have kz1 : (b9 != (0 : Int)) = true := by simpa using kz
  clear h kz
  refine start_ (n := 36) (S := fun w' => w'.cell? ⟨q, 0, none⟩ = some (.int .i64 b1) ∧ w'.cell? ⟨q, 1, none⟩ = some (.int .i64 b2) ∧ w'.cell? ⟨q, 2, none⟩ = some (.int .i64 b3) ∧ w'.cell? ⟨q, 3, none⟩ = some (.slice B5 b4.length e5) ∧ w'.cell? ⟨q, 4, none⟩ = some (.slice B6 b5.length e6) ∧ w'.cell? ⟨za, 0, none⟩ = some (.int .i64 a1) ∧ w'.cell? ⟨za, 1, none⟩ = some (.int .i64 a2) ∧ w'.cell? ⟨za, 2, none⟩ = some (.int .i64 a3) ∧ w'.cell? ⟨za, 3, none⟩ = some (.slice B3 a4.length e3) ∧ w'.cell? ⟨za, 4, none⟩ = some (.slice B4 a5.length e4)) (ds := []) #[false, false, false, false, false, false, false, false, false, false, false, false, false, false, false, false, false, false, false, false, false, false, false, false, false, false, false, false, false, false, false, false, false, false, false, false] (by kernel_rfl) rfl rfl ⟨y0, y1, y2, y3, y4, y5, y6, y7, y8, y9⟩ (fun hHeld => ?_)
  refine pure_ (i := 0) (N := some 59) (v := ?_) (a' := ?_) #[true, false, false, false, false, false, false, false, false, false, false, false, false, false, false, false, false, false, false, false, false, false, false, false, false, false, false, false, false, false, false, false, false, false, false, false] rfl rfl (by kernel_rfl) (fun _ _ _ h => h) (Or.inl ⟨by rfl, ?_⟩) ?_ ?_
  rotate_left
  · intro w'
    go_simp
    with_reducible rfl
  rotate_left
  · simp only [Act.put, List.setIfInBounds_toArray, List.set_cons_zero, List.set_cons_succ, i64_w, i32_w]
    rfl
  refine pure_ (i := 1) (N := some 60) (v := ?_) (a' := ?_) #[true, true, false, false, false, false, false, false, false, false, false, false, false, false, false, false, false, false, false, false, false, false, false, false, false, false, false, false, false, false, false, false, false, false, false, false] rfl rfl (by kernel_rfl) (fun _ _ _ h => h) (Or.inl ⟨by rfl, ?_⟩) ?_ ?_
  rotate_left
  · intro w'
    go_simp
    with_reducible rfl
  rotate_left
  · simp only [Act.put, List.setIfInBounds_toArray, List.set_cons_zero, List.set_cons_succ, i64_w, i32_w]
    rfl
  refine pure_ (i := 2) (N := some 61) (v := ?_) (a' := ?_) #[true, true, true, false, false, false, false, false, false, false, false, false, false, false, false, false, false, false, false, false, false, false, false, false, false, false, false, false, false, false, false, false, false, false, false, false] rfl rfl (by kernel_rfl) (fun _ _ _ h => h) (Or.inl ⟨by rfl, ?_⟩) ?_ ?_
  rotate_left
  · intro w'
    go_simp
    with_reducible rfl
  rotate_left
  · simp only [Act.put, List.setIfInBounds_toArray, List.set_cons_zero, List.set_cons_succ, i64_w, i32_w]
    rfl
  refine pure_ (i := 3) (N := some 62) (v := ?_) (a' := ?_) #[true, true, true, true, false, false, false, false, false, false, false, false, false, false, false, false, false, false, false, false, false, false, false, false, false, false, false, false, false, false, false, false, false, false, false, false] rfl rfl (by kernel_rfl) (fun _ _ _ h => h) (Or.inl ⟨by rfl, ?_⟩) ?_ ?_
  rotate_left
  · intro w'
    go_simp
    with_reducible rfl
  rotate_left
  · simp only [Act.put, List.setIfInBounds_toArray, List.set_cons_zero, List.set_cons_succ, i64_w, i32_w]
    rfl
  refine pure_ (i := 4) (N := some 63) (v := ?_) (a' := ?_) #[true, true, true, true, true, false, false, false, false, false, false, false, false, false, false, false, false, false, false, false, false, false, false, false, false, false, false, false, false, false, false, false, false, false, false, false] rfl rfl (by kernel_rfl) (fun _ _ _ h => h) (Or.inl ⟨by rfl, ?_⟩) ?_ ?_
  rotate_left
  · intro w'
    go_simp
    with_reducible rfl
  rotate_left
  · simp only [Act.put, List.setIfInBounds_toArray, List.set_cons_zero, List.set_cons_succ, i64_w, i32_w]
    rfl
  refine pure_ (i := 5) (N := some 64) (v := ?_) (a' := ?_) #[true, true, true, true, true, true, false, false, false, false, false, false, false, false, false, false, false, false, false, false, false, false, false, false, false, false, false, false, false, false, false, false, false, false, false, false] rfl rfl (by kernel_rfl) (fun _ _ _ h => h) (Or.inl ⟨by rfl, ?_⟩) ?_ ?_
  rotate_left
  · intro w'
    go_simp
    with_reducible rfl
  rotate_left
  · simp only [Act.put, List.setIfInBounds_toArray, List.set_cons_zero, List.set_cons_succ, i64_w, i32_w]
    rfl
  refine pure_ (i := 6) (N := some 65) (v := ?_) (a' := ?_) #[true, true, true, true, true, true, true, false, false, false, false, false, false, false, false, false, false, false, false, false, false, false, false, false, false, false, false, false, false, false, false, false, false, false, false, false] rfl rfl (by kernel_rfl) (fun _ _ _ h => h) (Or.inl ⟨by rfl, ?_⟩) ?_ ?_
  rotate_left
  · intro w'
    go_simp
    with_reducible rfl
  rotate_left
  · simp only [Act.put, List.setIfInBounds_toArray, List.set_cons_zero, List.set_cons_succ, i64_w, i32_w]
    rfl
  refine pure_ (i := 7) (N := some 66) (v := ?_) (a' := ?_) #[true, true, true, true, true, true, true, true, false, false, false, false, false, false, false, false, false, false, false, false, false, false, false, false, false, false, false, false, false, false, false, false, false, false, false, false] rfl rfl (by kernel_rfl) (fun _ _ _ h => h) (Or.inl ⟨by rfl, ?_⟩) ?_ ?_
  rotate_left
  · intro w'
    go_simp
    with_reducible rfl
  rotate_left
  · simp only [Act.put, List.setIfInBounds_toArray, List.set_cons_zero, List.set_cons_succ, i64_w, i32_w]
    rfl
  refine pure_ (i := 8) (N := some 67) (v := ?_) (a' := ?_) #[true, true, true, true, true, true, true, true, true, false, false, false, false, false, false, false, false, false, false, false, false, false, false, false, false, false, false, false, false, false, false, false, false, false, false, false] rfl rfl (by kernel_rfl) (fun _ _ _ h => h) (Or.inl ⟨by rfl, ?_⟩) ?_ ?_
  rotate_left
  · intro w'
    go_simp
    with_reducible rfl
  rotate_left
  · simp only [Act.put, List.setIfInBounds_toArray, List.set_cons_zero, List.set_cons_succ, i64_w, i32_w]
    rfl
  refine pure_ (i := 9) (N := some 68) (v := ?_) (a' := ?_) #[true, true, true, true, true, true, true, true, true, true, false, false, false, false, false, false, false, false, false, false, false, false, false, false, false, false, false, false, false, false, false, false, false, false, false, false] rfl rfl (by kernel_rfl) (fun _ _ _ h => h) (Or.inl ⟨by rfl, ?_⟩) ?_ ?_
  rotate_left
  · intro w'
    go_simp
    with_reducible rfl
  rotate_left
  · simp only [Act.put, List.setIfInBounds_toArray, List.set_cons_zero, List.set_cons_succ, i64_w, i32_w]
    rfl
  refine pure_ (i := 10) (N := some 69) (v := ?_) (a' := ?_) #[true, true, true, true, true, true, true, true, true, true, true, false, false, false, false, false, false, false, false, false, false, false, false, false, false, false, false, false, false, false, false, false, false, false, false, false] rfl rfl (by kernel_rfl) (fun _ _ _ h => h) (Or.inl ⟨by rfl, ?_⟩) ?_ ?_
  rotate_left
  · intro w'
    go_simp
    with_reducible rfl
  rotate_left
  · simp only [Act.put, List.setIfInBounds_toArray, List.set_cons_zero, List.set_cons_succ, i64_w, i32_w]
    rfl
  refine pure_ (i := 11) (N := some 70) (v := ?_) (a' := ?_) #[true, true, true, true, true, true, true, true, true, true, true, true, false, false, false, false, false, false, false, false, false, false, false, false, false, false, false, false, false, false, false, false, false, false, false, false] rfl rfl (by kernel_rfl) (fun _ _ _ h => h) (Or.inl ⟨by rfl, ?_⟩) ?_ ?_
  rotate_left
  · intro w'
    go_simp
    with_reducible rfl
  rotate_left
  · simp only [Act.put, List.setIfInBounds_toArray, List.set_cons_zero, List.set_cons_succ, i64_w, i32_w]
    rfl
  refine pure_ (i := 12) (N := some 71) (v := ?_) (a' := ?_) #[true, true, true, true, true, true, true, true, true, true, true, true, true, false, false, false, false, false, false, false, false, false, false, false, false, false, false, false, false, false, false, false, false, false, false, false] rfl rfl (by kernel_rfl) (fun _ _ _ h => h) (Or.inl ⟨by rfl, ?_⟩) ?_ ?_
  rotate_left
  · intro w'
    go_simp
    with_reducible rfl
  rotate_left
  · simp only [Act.put, List.setIfInBounds_toArray, List.set_cons_zero, List.set_cons_succ, i64_w, i32_w]
    rfl
  refine pure_ (i := 13) (N := some 72) (v := ?_) (a' := ?_) #[true, true, true, true, true, true, true, true, true, true, true, true, true, true, false, false, false, false, false, false, false, false, false, false, false, false, false, false, false, false, false, false, false, false, false, false] rfl rfl (by kernel_rfl) (fun _ _ _ h => h) (Or.inl ⟨by rfl, ?_⟩) ?_ ?_
  rotate_left
  · intro w'
    go_simp
    with_reducible rfl
  rotate_left
  · simp only [Act.put, List.setIfInBounds_toArray, List.set_cons_zero, List.set_cons_succ, i64_w, i32_w]
    rfl
  refine pure_ (i := 14) (N := some 73) (v := ?_) (a' := ?_) #[true, true, true, true, true, true, true, true, true, true, true, true, true, true, true, false, false, false, false, false, false, false, false, false, false, false, false, false, false, false, false, false, false, false, false, false] rfl rfl (by kernel_rfl) (fun _ _ _ h => h) (Or.inl ⟨by rfl, ?_⟩) ?_ ?_
  rotate_left
  · intro w'
    go_simp
    with_reducible rfl
  rotate_left
  · simp only [Act.put, List.setIfInBounds_toArray, List.set_cons_zero, List.set_cons_succ, i64_w, i32_w]
    rfl
  refine pure_ (i := 15) (N := some 74) (v := ?_) (a' := ?_) #[true, true, true, true, true, true, true, true, true, true, true, true, true, true, true, true, false, false, false, false, false, false, false, false, false, false, false, false, false, false, false, false, false, false, false, false] rfl rfl (by kernel_rfl) (fun _ _ _ h => h) (Or.inl ⟨by rfl, ?_⟩) ?_ ?_
  rotate_left
  · intro w'
    go_simp
    with_reducible rfl
  rotate_left
  · simp only [Act.put, List.setIfInBounds_toArray, List.set_cons_zero, List.set_cons_succ, i64_w, i32_w]
    rfl
  refine pure_ (i := 16) (N := some 75) (v := ?_) (a' := ?_) #[true, true, true, true, true, true, true, true, true, true, true, true, true, true, true, true, true, false, false, false, false, false, false, false, false, false, false, false, false, false, false, false, false, false, false, false] rfl rfl (by kernel_rfl) (fun _ _ _ h => h) (Or.inl ⟨by rfl, ?_⟩) ?_ ?_
  rotate_left
  · intro w'
    go_simp
    with_reducible rfl
  rotate_left
  · simp only [Act.put, List.setIfInBounds_toArray, List.set_cons_zero, List.set_cons_succ, i64_w, i32_w]
    rfl
  refine pure_ (i := 17) (N := some 76) (v := ?_) (a' := ?_) #[true, true, true, true, true, true, true, true, true, true, true, true, true, true, true, true, true, true, false, false, false, false, false, false, false, false, false, false, false, false, false, false, false, false, false, false] rfl rfl (by kernel_rfl) (fun _ _ _ h => h) (Or.inl ⟨by rfl, ?_⟩) ?_ ?_
  rotate_left
  · intro w'
    go_simp
    with_reducible rfl
  rotate_left
  · simp only [Act.put, List.setIfInBounds_toArray, List.set_cons_zero, List.set_cons_succ, i64_w, i32_w]
    rfl
  refine pure_ (i := 18) (N := some 77) (v := ?_) (a' := ?_) #[true, true, true, true, true, true, true, true, true, true, true, true, true, true, true, true, true, true, true, false, false, false, false, false, false, false, false, false, false, false, false, false, false, false, false, false] rfl rfl (by kernel_rfl) (fun _ _ _ h => h) (Or.inl ⟨by rfl, ?_⟩) ?_ ?_
  rotate_left
  · intro w'
    go_simp
    with_reducible rfl
  rotate_left
  · simp only [Act.put, List.setIfInBounds_toArray, List.set_cons_zero, List.set_cons_succ, i64_w, i32_w]
    rfl
  refine pure_ (i := 19) (N := some 78) (v := ?_) (a' := ?_) #[true, true, true, true, true, true, true, true, true, true, true, true, true, true, true, true, true, true, true, true, false, false, false, false, false, false, false, false, false, false, false, false, false, false, false, false] rfl rfl (by kernel_rfl) (fun _ _ _ h => h) (Or.inl ⟨by rfl, ?_⟩) ?_ ?_
  rotate_left
  · intro w'
    go_simp
    with_reducible rfl
  rotate_left
  · simp only [Act.put, List.setIfInBounds_toArray, List.set_cons_zero, List.set_cons_succ, i64_w, i32_w]
    rfl
  refine pure_ (i := 20) (N := some 79) (v := ?_) (a' := ?_) #[true, true, true, true, true, true, true, true, true, true, true, true, true, true, true, true, true, true, true, true, true, false, false, false, false, false, false, false, false, false, false, false, false, false, false, false] rfl rfl (by kernel_rfl) (fun _ _ _ h => h) (Or.inl ⟨by rfl, ?_⟩) ?_ ?_
  rotate_left
  · intro w'
    go_simp
    with_reducible rfl
  rotate_left
  · simp only [Act.put, List.setIfInBounds_toArray, List.set_cons_zero, List.set_cons_succ, i64_w, i32_w]
    rfl
  refine pure_ (i := 21) (N := some 80) (v := ?_) (a' := ?_) #[true, true, true, true, true, true, true, true, true, true, true, true, true, true, true, true, true, true, true, true, true, true, false, false, false, false, false, false, false, false, false, false, false, false, false, false] rfl rfl (by kernel_rfl) (fun _ _ _ h => h) (Or.inl ⟨by rfl, ?_⟩) ?_ ?_
  rotate_left
  · intro w'
    go_simp
    with_reducible rfl
  rotate_left
  · simp only [Act.put, List.setIfInBounds_toArray, List.set_cons_zero, List.set_cons_succ, i64_w, i32_w]
    rfl
  refine pure_ (i := 22) (N := some 81) (v := ?_) (a' := ?_) #[true, true, true, true, true, true, true, true, true, true, true, true, true, true, true, true, true, true, true, true, true, true, true, false, false, false, false, false, false, false, false, false, false, false, false, false] rfl rfl (by kernel_rfl) (fun _ _ _ h => h) (Or.inl ⟨by rfl, ?_⟩) ?_ ?_
  rotate_left
  · intro w'
    go_simp
    with_reducible rfl
  rotate_left
  · simp only [Act.put, List.setIfInBounds_toArray, List.set_cons_zero, List.set_cons_succ, i64_w, i32_w]
    rfl
  refine pure_ (i := 23) (N := some 82) (v := ?_) (a' := ?_) #[true, true, true, true, true, true, true, true, true, true, true, true, true, true, true, true, true, true, true, true, true, true, true, true, false, false, false, false, false, false, false, false, false, false, false, false] rfl rfl (by kernel_rfl) (fun _ _ _ h => h) (Or.inl ⟨by rfl, ?_⟩) ?_ ?_
  rotate_left
  · intro w'
    go_simp
    with_reducible rfl
  rotate_left
  · simp only [Act.put, List.setIfInBounds_toArray, List.set_cons_zero, List.set_cons_succ, i64_w, i32_w]
    rfl
  refine pure_ (i := 24) (N := some 83) (v := ?_) (a' := ?_) #[true, true, true, true, true, true, true, true, true, true, true, true, true, true, true, true, true, true, true, true, true, true, true, true, true, false, false, false, false, false, false, false, false, false, false, false] rfl rfl (by kernel_rfl) (fun _ _ _ h => h) (Or.inl ⟨by rfl, ?_⟩) ?_ ?_
  rotate_left
  · intro w'
    go_simp
    with_reducible rfl
  rotate_left
  · simp only [Act.put, List.setIfInBounds_toArray, List.set_cons_zero, List.set_cons_succ, i64_w, i32_w]
    rfl
  refine pure_ (i := 25) (N := some 84) (v := ?_) (a' := ?_) #[true, true, true, true, true, true, true, true, true, true, true, true, true, true, true, true, true, true, true, true, true, true, true, true, true, true, false, false, false, false, false, false, false, false, false, false] rfl rfl (by kernel_rfl) (fun _ _ _ h => h) (Or.inl ⟨by rfl, ?_⟩) ?_ ?_
  rotate_left
  · intro w'
    go_simp
    with_reducible rfl
  rotate_left
  · simp only [Act.put, List.setIfInBounds_toArray, List.set_cons_zero, List.set_cons_succ, i64_w, i32_w]
    rfl
  refine pure_ (i := 26) (N := some 85) (v := undef) (a' := ?_) #[true, true, true, true, true, true, true, true, true, true, true, true, true, true, true, true, true, true, true, true, true, true, true, true, true, true, true, false, false, false, false, false, false, false, false, false] rfl rfl (by kernel_rfl) (fun _ _ _ h => h) (Or.inr ⟨by rfl, rfl⟩) ?_ ?_
  rotate_left
  · simp only [Act.put, List.setIfInBounds_toArray, List.set_cons_zero, List.set_cons_succ, i64_w, i32_w]
    rfl
  refine pure_ (i := 27) (N := some 86) (v := undef) (a' := ?_) #[true, true, true, true, true, true, true, true, true, true, true, true, true, true, true, true, true, true, true, true, true, true, true, true, true, true, true, true, false, false, false, false, false, false, false, false] rfl rfl (by kernel_rfl) (fun _ _ _ h => h) (Or.inr ⟨by rfl, rfl⟩) ?_ ?_
  rotate_left
  · simp only [Act.put, List.setIfInBounds_toArray, List.set_cons_zero, List.set_cons_succ, i64_w, i32_w]
    rfl
  refine pure_ (i := 28) (N := some 87) (v := undef) (a' := ?_) #[true, true, true, true, true, true, true, true, true, true, true, true, true, true, true, true, true, true, true, true, true, true, true, true, true, true, true, true, true, false, false, false, false, false, false, false] rfl rfl (by kernel_rfl) (fun _ _ _ h => h) (Or.inr ⟨by rfl, rfl⟩) ?_ ?_
  rotate_left
  · simp only [Act.put, List.setIfInBounds_toArray, List.set_cons_zero, List.set_cons_succ, i64_w, i32_w]
    rfl
  refine pure_ (i := 29) (N := some 88) (v := undef) (a' := ?_) #[true, true, true, true, true, true, true, true, true, true, true, true, true, true, true, true, true, true, true, true, true, true, true, true, true, true, true, true, true, true, false, false, false, false, false, false] rfl rfl (by kernel_rfl) (fun _ _ _ h => h) (Or.inr ⟨by rfl, rfl⟩) ?_ ?_
  rotate_left
  · simp only [Act.put, List.setIfInBounds_toArray, List.set_cons_zero, List.set_cons_succ, i64_w, i32_w]
    rfl
  refine pure_ (i := 30) (N := some 89) (v := ?_) (a' := ?_) #[true, true, true, true, true, true, true, true, true, true, true, true, true, true, true, true, true, true, true, true, true, true, true, true, true, true, true, true, true, true, true, false, false, false, false, false] rfl rfl (by kernel_rfl) (fun _ _ _ h => h) (Or.inl ⟨by rfl, ?_⟩) ?_ ?_
  rotate_left
  · intro w'
    go_simp
    with_reducible rfl
  rotate_left
  · simp only [Act.put, List.setIfInBounds_toArray, List.set_cons_zero, List.set_cons_succ, i64_w, i32_w]
    rfl
  refine pure_ (i := 31) (N := some 90) (v := ?_) (a' := ?_) #[true, true, true, true, true, true, true, true, true, true, true, true, true, true, true, true, true, true, true, true, true, true, true, true, true, true, true, true, true, true, true, true, false, false, false, false] rfl rfl (by kernel_rfl) (fun _ _ _ h => h) (Or.inl ⟨by rfl, ?_⟩) ?_ ?_
  rotate_left
  · intro w'
    go_simp
    with_reducible rfl
  rotate_left
  · simp only [Act.put, List.setIfInBounds_toArray, List.set_cons_zero, List.set_cons_succ, i64_w, i32_w]
    rfl
  refine pure_ (i := 32) (N := some 91) (v := ?_) (a' := ?_) #[true, true, true, true, true, true, true, true, true, true, true, true, true, true, true, true, true, true, true, true, true, true, true, true, true, true, true, true, true, true, true, true, true, false, false, false] rfl rfl (by kernel_rfl) (fun _ _ _ h => h) (Or.inl ⟨by rfl, ?_⟩) ?_ ?_
  rotate_left
  · intro w'
    go_simp
    with_reducible rfl
  rotate_left
  · simp only [Act.put, List.setIfInBounds_toArray, List.set_cons_zero, List.set_cons_succ, i64_w, i32_w]
    rfl
  refine one_ (i := 33) (N := some 92) #[true, true, true, true, true, true, true, true, true, true, true, true, true, true, true, true, true, true, true, true, true, true, true, true, true, true, true, true, true, true, true, true, true, true, false, false] rfl rfl (by kernel_rfl) (by decide) (fun K hK => ?_)
  refine goes_ Try.func10 (by kernel_rfl) rfl #[] (by rfl) rfl rfl (by first | rfl | (simp only [List.map_toArray, List.map_cons, List.map_nil]; done)) ?_
  with_reducible refine (HAW.out _ H.out).mono ?_
  rintro e w14 ⟨rfl, hB14⟩
  refine ⟨_, rfl, ?_⟩
  have HE14 := Aside0.mk (below_step (show Below w11.heap.size w11 w11.drew from bk_ (Below.refl _ _)) hB14)
  clear hB14
  refine hK.out _ _ ⟨(lf_ HE14.out y0), (lf_ HE14.out y1), (lf_ HE14.out y2), (lf_ HE14.out y3), (lf_ HE14.out y4), (lf_ HE14.out y5), (lf_ HE14.out y6), (lf_ HE14.out y7), (lf_ HE14.out y8), (lf_ HE14.out y9)⟩ (fun hHeld => ?_)
  clear hK K
  refine norm_ (a' := ?_) ?_ ?_
  rotate_left
  · show Act.put _ (some 92) _ = _
    simp only [Act.put, List.setIfInBounds_toArray, List.set_cons_zero, List.set_cons_succ, i64_w, i32_w]
    rfl
  refine pure_ (i := 34) (N := some 93) (v := ?_) (a' := ?_) #[true, true, true, true, true, true, true, true, true, true, true, true, true, true, true, true, true, true, true, true, true, true, true, true, true, true, true, true, true, true, true, true, true, true, true, false] rfl rfl (by kernel_rfl) (fun _ _ _ h => h) (Or.inl ⟨by rfl, ?_⟩) ?_ ?_
  rotate_left
  · intro w'
    go_simp
    with_reducible rfl
  rotate_left
  · simp only [Act.put, List.setIfInBounds_toArray, List.set_cons_zero, List.set_cons_succ, i64_w, i32_w]
    rfl
  refine pure_ (i := 35) (N := some 6) (v := ?_) (a' := ?_) #[true, true, true, true, true, true, true, true, true, true, true, true, true, true, true, true, true, true, true, true, true, true, true, true, true, true, true, true, true, true, true, true, true, true, true, true] rfl rfl (by kernel_rfl) (fun _ _ _ h => h) (Or.inl ⟨by rfl, ?_⟩) ?_ ?_
  rotate_left
  · intro w'
    go_simp
    with_reducible rfl
  rotate_left
  · simp only [Act.put, List.setIfInBounds_toArray, List.set_cons_zero, List.set_cons_succ, i64_w, i32_w]
    rfl
  refine done_ (by kernel_rfl) ?_
  go_wp2
  go_ret
  exact ⟨rfl, below_step HB11.out HE14.out⟩

/-- THE ONE PURE STATEMENT of standstilllaw04_LeapMirror. -/
def standstilllaw04_LeapMirror.Pure : Prop := ∀ (a0_0 : Int) (a0_1 : Int) (l0_2 : List (List (S37))) (a1_0 : Int) (a1_1 : Int) (a1_2 : Int) (l1_3 : List (S75)) (l1_4 : List (S75)) (a2 : Int), ((Lit.int .i64 a0_0).wf = true) → ((Lit.int .i64 a0_1).wf = true) → (l0_2.length * 24 ≤ 140737488351232 ∧ ∀ y_ ∈ l0_2, (y_.length * 24 ≤ 140737488351232 ∧ ∀ y__ ∈ y_, inv37 y__)) → ((Lit.int .i64 a1_0).wf = true) → ((Lit.int .i64 a1_1).wf = true) → ((Lit.int .i64 a1_2).wf = true) → (l1_3.length * 16 ≤ 140737488351232 ∧ ∀ y_ ∈ l1_3, inv75 y_) → (l1_4.length * 16 ≤ 140737488351232 ∧ ∀ y_ ∈ l1_4, inv75 y_) → ((Lit.int .u16 a2).wf = true) → ∃ k, standstilllaw04_LeapMirror.f k a0_0 a0_1 l0_2 a1_0 a1_1 a1_2 l1_3 l1_4 a2 = some true

end Go.Proofs.Ytdkcociababjdaa.PLeapMirror
