-- out of a turned copy of the print, by a program of this session; Lean checks it
import Derived.Test.YtngmdidegmbpfaaPLoopAfterx0
import Derived.Test.YtngmdidegmbpfaaPLoopAfterx1
import Derived.Test.YtngmdidegmbpfaaPLoopAfterx3
namespace Go.Proofs.Ytngmdidegmbpfaa.PLoopAfter
open Go.RowKit Go.Proofs.YtngmdidegmbpfaaW.PrintWords Go.Proofs.YtngmdidegmbpfaaW.PrintLast Go.Proofs.YtngmdidegmbpfaaW.PrintMore
attribute [local go_sem] max2_int min2_int max_two min_two max_three min_three max_four min_four   -- for this text's walks alone
set_option linter.unusedVariables false
set_option linter.unusedSimpArgs false

attribute [local go_sem] isSome_put_
/-! ### loop_right: function 21 (by hand) -/
def RS.lowrun (rules : List (List (S52))) : Nat → RS → Int → Option (RS × Int)
  | 0, s, low => some (s, low)
  | n + 1, s, low => (RS.step rules s).bind fun t => RS.lowrun rules n t.1 (mn low t.1.po)
def loop_right.f (a0 a1 : Int) (rules : List (List (S52))) (a b : Int) : Option Bool :=
  if 0 ≤ a ∧ a ≤ b ∧ b ≤ 1000000000 then
    (RS.run rules a.toNat 0 RS.new).bind fun c => if c.1.sane then
      (RS.lowrun rules (b - a).toNat c.1 c.1.po).bind fun d => if d.1.sane ∧ -2000000000 ≤ d.2 then
        some (decide (d.1.st ≠ -1) && (decide (c.1.st = d.1.st) && (decide (0 ≤ d.1.po - c.1.po) && RS.alikeGo c.1 d.1 (d.1.po - c.1.po) (RS.last c.1 d.1 (d.1.po - c.1.po) + 1 - d.2).toNat d.2)))
      else none
    else none
  else none
set_option maxHeartbeats 8000000 in
set_option maxRecDepth 100000 in
theorem loop_right.calls (a0_0 a0_1 : Int) (A0_2 : Option Addr) (c0_2 : Nat) (l0_2 : List (List (S52))) (a1 a2 : Int) (r : Bool) (w : World) (hr0_2 : Kd.C (Kd.slice 52 k52) w A0_2 l0_2.length l0_2) (hc0_2 : l0_2.length ≤ c0_2) (h : loop_right.f a0_0 a0_1 l0_2 a1 a2 = some r) :
    Calls Try.prog 21 #[.agg #[.int .i64 a0_0, .int .i64 a0_1, .slice A0_2 l0_2.length c0_2], .int .i64 a1, .int .i64 a2] w fun e w' => e = .returned (.bool r) ∧ Below w.heap.size w w' := by
  unfold loop_right.f at h
  by_cases c1 : 0 ≤ a1 ∧ a1 ≤ a2 ∧ a2 ≤ 1000000000
  rotate_left
  · rw [if_neg c1] at h
    cases h
  rw [if_pos c1] at h
  obtain ⟨u0, u1, u2⟩ := c1
  obtain ⟨⟨sc, ic⟩, hc, h⟩ := Option.bind_eq_some_iff.1 h
  by_cases c2 : sc.sane
  rotate_left
  · rw [if_neg c2] at h
    cases h
  rw [if_pos c2] at h
  obtain ⟨⟨sd, low⟩, hd, h⟩ := Option.bind_eq_some_iff.1 h
  by_cases c3 : sd.sane ∧ -2000000000 ≤ low
  rotate_left
  · rw [if_neg c3] at h
    cases h
  rw [if_pos c3] at h
  obtain ⟨c3, c4⟩ := c3
  have h := Option.some.inj h
  simp only at hc hd h c2 c3 c4
  have HR := Aside0.mk hr0_2
  have HC := Aside0.mk hc
  have HD := Aside0.mk hd
  have H := Aside0.mk h
  have C2 := Aside0.mk c2
  have C3 := Aside0.mk c3
  have U0 := Aside0.mk u0
  have U1 := Aside0.mk u1
  have U2 := Aside0.mk u2
  have C4 := Aside0.mk c4
  clear hr0_2 hc hd h hc0_2 u0 u1 u2 c2 c3 c4
  go_enter Try.func21, Try.ntmps21
  go_wp2_with fail
  have hz0 := (blk_cell (blk_new w (.cells #[.int .i64 a0_0, .int .i64 a0_1, .slice A0_2 l0_2.length c0_2] 24)) 0).trans rfl
  refine (rn_new a0_0 a0_1 A0_2 c0_2 l0_2 _).mono ?_
  rintro e w1 ⟨g, rfl, hI1, hB1⟩
  have HR0 := Aside0.mk (Kd.C_alloc HR.out (.cells #[.int .i64 a0_0, .int .i64 a0_1, .slice A0_2 l0_2.length c0_2] 24))
  have HB0 := Aside0.mk (below_alloc (Below.refl w.heap.size w) (.cells #[.int .i64 a0_0, .int .i64 a0_1, .slice A0_2 l0_2.length c0_2] 24))
  obtain ⟨W0, hW0⟩ : ∃ W : World, w.alloc (.cells #[.int .i64 a0_0, .int .i64 a0_1, .slice A0_2 l0_2.length c0_2] 24) = W := ⟨_, rfl⟩
  rw [hW0] at hI1 hB1 HR0 HB0
  have HI1 := Aside0.mk hI1
  have HB1 := Aside0.mk hB1
  clear hI1 hB1 hz0 hW0 HR
  obtain ⟨base, hbase⟩ : ∃ b, W0.heap.size = b := ⟨_, rfl⟩
  rw [hbase] at HI1 HB1
  have HBS := Aside0.mk (Nat.le_of_eq hbase)
  have HB1s : Aside0 (base ≤ w1.heap.size) := ⟨by rw [← hbase]; exact (hbase ▸ HB1.out : Below W0.heap.size W0 w1).size⟩
  have HBE := Aside0.mk hbase
  clear hbase
  go_wp2_with fail
  refine (rn_run A0_2 c0_2 l0_2 W0 w1 base (fun _ => True) g RS.new sc a1 ic HI1.out HR0.out HBS.out HB1.out HB1s.out (fun _ _ => trivial) U0.out (by have := U1.out; have := U2.out; omega) HC.out).mono ?_
  rintro e w2 ⟨rfl, hI2, hB2, hKP2⟩
  have HI2 := Aside0.mk hI2
  have HB2 := Aside0.mk hB2
  have HB2s := Aside0.mk (Nat.le_trans HB1s.out hKP2.1)
  clear hI2 hB2 hKP2 HI1 HB1 HB1s HC
  go_wp2_with fail
  refine (rn_clone W0 w2 base (fun _ => True) g A0_2 l0_2.length c0_2 sc HI2.out (by have := C2.out.2.2.2.2; omega)).mono ?_
  rintro e w3 ⟨g2, rfl, hI3, hB3⟩
  have HC3 := Aside0.mk hI3.shrink
  have HI3 := Aside0.mk ((HI2.out.shrink.below hB3).mono (S' := fun k => k < w2.heap.size ∨ w3.heap.size ≤ k) (fun k hk => .inl hk.2.2))
  have HB3 := Aside0.mk (below_then HB2.out HB2s.out hB3)
  have HB3s := Aside0.mk (Nat.le_trans HB2s.out hB3.size)
  have H23 := Aside0.mk hB3.size
  clear hI3 hB3 HI2 HB2
  have hp5 := HI3.out.at5.1
  go_wp2
  have e0 : wrap64 (a2 - a1) = a2 - a1 := wrap_small_ (by have := U0.out; have := U1.out; have := U2.out; omega)
  rw [e0]
  obtain ⟨n, hn⟩ : ∃ n, a2 - a1 = n := ⟨_, rfl⟩
  rw [hn] at HD ⊢
  have HN0 : Aside0 (0 ≤ n ∧ n ≤ 1000000000) := ⟨by have := U0.out; have := U1.out; have := U2.out; omega⟩
  clear hn e0 hp5
  have HKP := Aside0.mk (Kept.refl w3 (fun k => k < w2.heap.size ∨ w3.heap.size ≤ k))
  go_loopg [9, 25] (n.toNat) (fun kq v9 v25 w' => ∃ (i lw : Int) (s : RS), v25 = .int .i64 i ∧ v9 = .int .i64 lw ∧ Aside0 (0 ≤ i ∧ i ≤ n ∧ (n - i).toNat = kq) ∧ Aside0 (RS.lowrun l0_2 kq s lw = some (sd, low)) ∧ Aside0 (IsRn w' base (fun k => k < w2.heap.size ∨ w3.heap.size ≤ k) g (.slice A0_2 l0_2.length c0_2) s) ∧ Aside0 (Below base W0 w') ∧ Aside0 (Kept w3 w' (fun k => k < w2.heap.size ∨ w3.heap.size ≤ k)))
  case atStart => exact ⟨0, sc.po, sc, rfl, rfl, ⟨by have := HN0.out; omega, by have := HN0.out; omega, by omega⟩, HD, HI3, HB3, HKP⟩
  case round =>
    clear HD HI3 HB3 HKP
    obtain ⟨i, lw, s, rfl, rfl, HN, H1, HI, HB, HKP⟩ := hrel
    obtain ⟨hi0, hi1, hi2⟩ := HN.out
    cases gk with
    | zero =>
      have hin : i = n := by omega
      subst hin
      have h := H1.out
      simp only [RS.lowrun, Option.some.injEq, Prod.mk.injEq] at h
      obtain ⟨rfl, rfl⟩ := h
      clear H1
      have HC := Aside0.mk (HC3.out.kept HKP.out (fun k h0 h1 h2 => h2.elim (fun h3 => by omega) (fun h3 => by omega)))
      have hp5 := HI.out.at5.1
      have hp4 := HI.out.at5.2
      have hq5 := HC.out.at5.1
      have hq4 := HC.out.at5.2
      obtain ⟨d, hd⟩ : ∃ d, s.po - sc.po = d := ⟨_, rfl⟩
      have e1 : IntKind.i64.wrap (s.po - sc.po) = d := (IntWalk.i64_in _ (by have h1 := C3.out; have h2 := C2.out; unfold RS.sane at h1 h2; omega)).trans hd
      have HDD := Aside0.mk hd
      clear hd
      go_wp2
      go_quiet (fail)
      go_wp2
      obtain ⟨W5, hW5⟩ : ∃ W : World, W = wr.drewN nq := ⟨_, rfl⟩
      have HI5 := Aside0.mk (show IsRn W5 base (fun k => k < w2.heap.size ∨ w3.heap.size ≤ k) g (.slice A0_2 l0_2.length c0_2) s by rw [hW5]; exact HI.out.drewN _)
      have HC5 := Aside0.mk (show IsRn W5 w2.heap.size (fun k => True ∧ w2.heap.size ≤ k ∧ k < w3.heap.size) g2 (.slice A0_2 l0_2.length c0_2) sc by rw [hW5]; exact HC.out.drewN _)
      have HB5 := Aside0.mk (show Below W0.heap.size W0 W5 by rw [hW5, HBE.out]; exact pw_below_drewN HB.out _)
      rw [← hW5]
      clear hW5 hp5 hp4 hq5 hq4 HI HC HB HKP
      have hp4 := HI5.out.at5.2
      have hq4 := HC5.out.at5.2
      have hb := H.out
      rw [HDD.out] at hb
      have hal := fun m => Calls.quiet_of (lp_alike (W5.drewN m) w2.heap.size base (fun k => True ∧ w2.heap.size ≤ k ∧ k < w3.heap.size) (fun k => k < w2.heap.size ∨ w3.heap.size ≤ k) g2 g (.slice A0_2 l0_2.length c0_2) (.slice A0_2 l0_2.length c0_2) sc s lw d (HC5.out.drewN m) (HI5.out.drewN m) C2.out C3.out C4.out (by have h1 := C3.out; have h2 := C2.out; have h3 := HDD.out; unfold RS.sane at h1 h2; omega) (by have h1 := C3.out; have h2 := C2.out; have h3 := HDD.out; unfold RS.sane at h1 h2; omega))
      obtain ⟨z, hz⟩ : ∃ z, RS.alikeGo sc s d (RS.last sc s d + 1 - lw).toNat lw = z := ⟨_, rfl⟩
      rw [hz] at hal hb
      have HAL := Aside0.mk hal
      clear hal hz
      by_cases q1 : s.st = -1
      · have q1a : (s.st != (-1 : Int)) = false := by simpa using q1
        have q1b : (s.st == (-1 : Int)) = true := by simpa using q1
        rw [q1] at hb
        simp only [ne_eq, not_true_eq_false, decide_false, Bool.false_and] at hb
        subst hb
        clear H q1
        go_quiet (fail)
        go_wp2
        go_ret
        exact ⟨rfl, below_step HB0.out (pw_below_drewN HB5.out _)⟩
      · have q1a : (s.st != (-1 : Int)) = true := by simpa using q1
        have q1b : (s.st == (-1 : Int)) = false := by simpa using q1
        rw [decide_eq_true (show s.st ≠ -1 from q1), Bool.true_and] at hb
        by_cases q2 : sc.st = s.st
        · have q2a : (sc.st == s.st) = true := by simpa using q2
          rw [decide_eq_true q2, Bool.true_and] at hb
          by_cases q3 : 0 ≤ d
          · have q3a : decide (0 ≤ d) = true := decide_eq_true q3
            rw [q3a, Bool.true_and] at hb
            subst hb
            clear H q1 q2
            replace q3 := eq_true q3
            go_quiet ((go_at_call 31; exact HAL.out _))
            go_wp2
            go_ret
            exact ⟨rfl, below_step HB0.out (pw_below_drewN HB5.out _)⟩
          · have q3a : decide (0 ≤ d) = false := decide_eq_false q3
            rw [q3a, Bool.false_and] at hb
            subst hb
            clear H q1 q2
            replace q3 := eq_false q3
            go_quiet (fail)
            go_wp2
            go_ret
            exact ⟨rfl, below_step HB0.out (pw_below_drewN HB5.out _)⟩
        · have q2a : (sc.st == s.st) = false := by simpa using q2
          rw [decide_eq_false q2, Bool.false_and] at hb
          subst hb
          clear H q1 q2
          go_quiet (fail)
          go_wp2
          go_ret
          exact ⟨rfl, below_step HB0.out (pw_below_drewN HB5.out _)⟩
    | succ m =>
      have hin : i < n := by omega
      have h := H1.out
      simp only [RS.lowrun] at h
      obtain ⟨⟨s1, b⟩, hst, h⟩ := Option.bind_eq_some_iff.1 h
      have H1 := Aside0.mk h
      have HC := Aside0.mk (rn_step A0_2 c0_2 l0_2 W0 wr base (fun k => k < w2.heap.size ∨ w3.heap.size ≤ k) g s s1 b HI.out HR0.out HBS.out HB.out (Nat.le_trans HB3s.out HKP.out.1) (fun k hk => .inr (Nat.le_trans HKP.out.1 hk)) hst)
      clear hst h
      go_wp2_with fail
      refine HC.out.mono ?_
      rintro e w4 ⟨rfl, hI4, hB4, hKP4⟩
      have HI4 := Aside0.mk hI4
      have HB4 := Aside0.mk hB4
      have HKP4 := Aside0.mk (HKP.out.then_ hKP4 (fun k hk => .inl hk))
      have hp5 := hI4.at5.1
      clear hI4 hB4 hKP4
      have e2 : (if s1.po < lw then s1.po else lw) = mn lw s1.po := rfl
      obtain ⟨n0, n1⟩ := HN0.out
      go_wp2
      go_roundg m
      case measure => omega
      case rel => exact ⟨i + 1, mn lw s1.po, s1, rfl, rfl, ⟨by omega, by omega, by omega⟩, H1, HI4, HB4, HKP4⟩

/-! ### api_Rule: function 42 (by hand) -/
def api_Rule.f (l0 : List (S52)) : Option (List (S52)) := if l0.length < 5864062014805 then (some l0) else (none)
set_option maxHeartbeats 8000000 in
set_option maxRecDepth 100000 in
theorem api_Rule.calls (A0 : Option Addr) (c0 : Nat) (l0 : List (S52)) (r : List (S52)) (w : World) (hr0 : Kd.C k52 w A0 l0.length l0) (hc0 : l0.length ≤ c0) (h : api_Rule.f l0 = some r) :
    Calls Try.prog 42 #[.slice A0 l0.length c0] w fun e w' => ∃ v0_ : Value, e = .returned (v0_) ∧ Kd.R k52 52 w' w.heap.size (fun _ => True) v0_ r ∧ Below w.heap.size w w' := by
  have qn_ : ∀ (w : World) (a : Option Addr) (n c n' c' : Nat), (binOp .eql 53 (.slice a n c) (.slice none n' c')).run Try.prog w = .ok (.bool a.isNone) w := fun w a n c n' c' => Lib.run_eql_slice_nil w _ _ a n c n' c' Try.underlying53
  unfold api_Rule.f at h
  split at h
  rotate_left
  · cases h
  rename_i hlen
  obtain rfl := Option.some.inj h
  clear h
  cases A0 with
  | none =>
    have hl : l0.length = 0 := by
      rcases Nat.eq_zero_or_pos l0.length with h0 | h0
      · exact h0
      · obtain ⟨ad, h, _⟩ := hr0.2.2 h0
        cases h
    obtain rfl : l0 = [] := List.eq_nil_of_length_eq_zero hl
    clear hr0 hlen hl
    go_enter Try.func42, Try.ntmps42
    go_wp2
    go_ret
    exact ⟨_, rfl, Kd.R_nil _ _ _ _ _, Below.refl _ _⟩
  | some ad =>
    have HR0 := Aside0.mk hr0
    have HLEN := Aside0.mk hlen
    clear hr0 hlen
    go_enter Try.func42, Try.ntmps42
    go_wp2_with (first | ((with_reducible refine gate_builtin (b := .append) (xs := #[.tmp 5, .tmp 6]) rfl ?_); at_builtin; refine Kd.R_append_rows k52 (w0 := w) w.heap.size rfl (.tmp 5) (.tmp 6) 53 52 (.agg #[(.int .i64 0), (.int .i64 0), (.int .i64 0)]) 24 rfl Try.underlying53 info52 rfl (by decide) (by omega) (.slice (some ⟨w.heap.size, 0, none⟩) 0 0) [] l0 _ _ _ (fun _ => True) (fun _ => False) rfl rfl ?aO ?aR (fun _ _ h => h) (fun _ h => h.elim) (fun _ _ => trivial) ?aB ?aS ?aL ?_; (case aO => exact ⟨fun _ _ => trivial, [], World.ownsRow_made w #[] 0 (Nat.le_refl _) (Nat.zero_le _) (by simp), Reps.none _ _⟩); (case aR => exact Kd.C_below HR0.out (below_alloc (Below.refl _ _) _)); (case aB => exact below_alloc (Below.refl _ _) _); (case aS => simp); (case aL => have := HLEN.out; simp; omega); intro v1 w1 ho hb hg hat; clear hg hat))
    go_ret
    exact ⟨_, rfl, by simpa using ho, hb⟩

/-! ### tape_Mirror: function 32 -/
mutual
def tape_Mirror.l0 : Nat → List (List (S52)) → Int → Int → Int → Int → List (List (S52)) → Option (Int × Int × (List (List (S52))) × Int)
 | 0, _, _, _, _, _, _ => none
 | k + 1, x19, x20, x21, x109000, x109001, x109002 => if x21 < x20 then (if 0 ≤ x21 then (if x21 < (x19.length : Int) then ((api_Rule.f (rd_L2 x19 x21)).bind fun t110 => (tape_Mirror.l1 k t110 x19 x20 x21 (t110.length : Int) 0 x109000 x109001 x109002)) else (none)) else (none)) else (some (x109000, x109001, x109002, 0))
def tape_Mirror.l1 : Nat → List (S52) → List (List (S52)) → Int → Int → Int → Int → Int → Int → List (List (S52)) → Option (Int × Int × (List (List (S52))) × Int)
 | 0, _, _, _, _, _, _, _, _, _ => none
 | k + 1, x7, x19, x20, x21, x28, x29, x109000, x109001, x109002 => if x29 < x28 then (if 0 ≤ x29 then (if x29 < (x7.length : Int) then (tape_Mirror.l1 k (x7.set (x29 : Int).toNat (⟨(rd_T52 x7 x29).f0, wrap64 (-((rd_T52 x7 x29).f1)), (rd_T52 x7 x29).f2⟩ : S52)) x19 x20 x21 x28 (wrap64 (x29 + 1)) x109000 x109001 x109002) else (none)) else (none)) else (if x109002.length < 5864062014805 then (tape_Mirror.l0 k x19 x20 (wrap64 (x21 + 1)) x109000 x109001 (x109002 ++ [x7])) else (none))
end
def tape_Mirror.f (k : Nat) (a0_0 : Int) (a0_1 : Int) (l0_2 : List (List (S52))) : Option (Int × Int × (List (List (S52))) × Int) := (tape_Valid.f k a0_0 a0_1 l0_2).bind fun t107 => (if t107 = true then (tape_Mirror.l0 k l0_2 (l0_2.length : Int) 0 a0_0 a0_1 ([] : List (List (S52)))) else (some (0, 0, ([] : List (List (S52))), 1)))
theorem tape_Mirror.mono_l : ∀ k, (∀ y0 y1 y2 y3 y4 y5, LeO (tape_Mirror.l0 k y0 y1 y2 y3 y4 y5) (tape_Mirror.l0 (k + 1) y0 y1 y2 y3 y4 y5)) ∧ (∀ y0 y1 y2 y3 y4 y5 y6 y7 y8, LeO (tape_Mirror.l1 k y0 y1 y2 y3 y4 y5 y6 y7 y8) (tape_Mirror.l1 (k + 1) y0 y1 y2 y3 y4 y5 y6 y7 y8))
 | 0 => ⟨fun _ _ _ _ _ _ r h => by simp [tape_Mirror.l0] at h, fun _ _ _ _ _ _ _ _ _ r h => by simp [tape_Mirror.l1] at h⟩
 | k + 1 => by
  obtain ⟨ih0, ih1⟩ := tape_Mirror.mono_l k
  refine ⟨?_, ?_⟩
  ·intro y0 y1 y2 y3 y4 y5
   unfold tape_Mirror.l0
   repeat' first
   | (with_reducible exact ih0 _ _ _ _ _ _)
   | (with_reducible exact ih1 _ _ _ _ _ _ _ _ _)
   | (with_reducible exact tape_Valid.mono _ _ _ _)
   | (with_reducible exact LeO.refl _)
   | (with_reducible exact LeO.none _)
   | (with_reducible refine LeO.ite ?_ ?_)
   | (with_reducible refine LeO.bind ?_ (fun _ => ?_))
   | exact ih0 _ _ _ _ _ _
   | exact ih1 _ _ _ _ _ _ _ _ _
   | exact tape_Valid.mono _ _ _ _
   | exact LeO.none _
   | refine LeO.ite ?_ ?_
   | refine LeO.bind ?_ (fun _ => ?_)
  ·intro y0 y1 y2 y3 y4 y5 y6 y7 y8
   unfold tape_Mirror.l1
   repeat' first
   | (with_reducible exact ih0 _ _ _ _ _ _)
   | (with_reducible exact ih1 _ _ _ _ _ _ _ _ _)
   | (with_reducible exact tape_Valid.mono _ _ _ _)
   | (with_reducible exact LeO.refl _)
   | (with_reducible exact LeO.none _)
   | (with_reducible refine LeO.ite ?_ ?_)
   | (with_reducible refine LeO.bind ?_ (fun _ => ?_))
   | exact ih0 _ _ _ _ _ _
   | exact ih1 _ _ _ _ _ _ _ _ _
   | exact tape_Valid.mono _ _ _ _
   | exact LeO.none _
   | refine LeO.ite ?_ ?_
   | refine LeO.bind ?_ (fun _ => ?_)
theorem tape_Mirror.mono : ∀ a0 a1 a2 k, LeO (tape_Mirror.f k a0 a1 a2) (tape_Mirror.f (k + 1) a0 a1 a2) := by
 intro a0 a1 a2 k
 obtain ⟨ih0, ih1⟩ := tape_Mirror.mono_l k
 unfold tape_Mirror.f
 repeat' first
   | (with_reducible exact ih0 _ _ _ _ _ _)
   | (with_reducible exact ih1 _ _ _ _ _ _ _ _ _)
   | (with_reducible exact tape_Valid.mono _ _ _ _)
   | (with_reducible exact LeO.refl _)
   | (with_reducible exact LeO.none _)
   | (with_reducible refine LeO.ite ?_ ?_)
   | (with_reducible refine LeO.bind ?_ (fun _ => ?_))
   | exact ih0 _ _ _ _ _ _
   | exact ih1 _ _ _ _ _ _ _ _ _
   | exact tape_Valid.mono _ _ _ _
   | exact LeO.none _
   | refine LeO.ite ?_ ?_
   | refine LeO.bind ?_ (fun _ => ?_)
set_option maxHeartbeats 8000000 in
set_option maxRecDepth 100000 in
theorem tape_Mirror.calls (k : Nat) (a0_0 : Int) (a0_1 : Int) (A0_2 : Option Addr) (c0_2 : Nat) (l0_2 : List (List (S52))) (r1 : Int) (r2 : Int) (r3 : List (List (S52))) (r4 : Int) (w : World) (hr0_2 : Kd.C (Kd.slice 52 k52) w A0_2 l0_2.length l0_2) (hc0_2 : l0_2.length ≤ c0_2) (h : tape_Mirror.f k a0_0 a0_1 l0_2 = some (r1, r2, r3, r4)) :
  Calls Try.prog 32 #[.agg #[.int .i64 a0_0, .int .i64 a0_1, .slice A0_2 l0_2.length c0_2]] w fun e w' => ∃ v2_ : Value, e = .returned (.tuple #[.agg #[.int .i64 r1, .int .i64 r2, v2_], .int .i64 r4]) ∧ Kd.S (Kd.slice 52 k52) 53 w' w.heap.size (fun _ => True) v2_ r3 ∧ Below w.heap.size w w' := by
 have hu24 := Try.underlying24
 have HR0_2 := Aside0.mk hr0_2
 have HC0_2 := Aside0.mk hc0_2
 clear hr0_2 hc0_2
 have HB := A_ (Below.refl w.heap.size w)
 have H : ((tape_Valid.f k a0_0 a0_1 l0_2).bind fun t107 => (if t107 = true then (tape_Mirror.l0 k l0_2 (l0_2.length : Int) 0 a0_0 a0_1 ([] : List (List (S52)))) else (some (0, 0, ([] : List (List (S52))), 1)))) = some (r1, r2, r3, r4) := h
 clear h
 replace H := Option.bind_eq_some_iff.mp H
 obtain ⟨t107, A20, H⟩ := H
 replace H : (if t107 = true then (tape_Mirror.l0 k l0_2 (l0_2.length : Int) 0 a0_0 a0_1 ([] : List (List (S52)))) else (some (0, 0, ([] : List (List (S52))), 1))) = some (r1, r2, r3, r4) := H
 have A2 := Aside0.mk A20
 clear A20
 by_cases c3 : t107 = true
 ·subst c3
  have H1 : (tape_Mirror.l0 k l0_2 (l0_2.length : Int) 0 a0_0 a0_1 ([] : List (List (S52)))) = some (r1, r2, r3, r4) := by rw [if_pos rfl] at H; exact H
  clear H
  have H := H1
  clear H1
  have H' := Aside0.mk H
  clear H
  go_enter Try.func32, Try.ntmps32
  go_wp2_with (first | ((with_reducible refine gate_dst (N := 1) rfl ?_); refine box_event ?hg (N := 1) ?hd (cs := #[.int .i64 a0_0, .int .i64 a0_1, .slice A0_2 l0_2.length c0_2]) (t := 24) ?hr ?_; (case hd => rfl); (case hg => rfl); (case hr => first | (go_simp; done) | (go_simp; rfl)); intro gb105 hg w4 hbox hb; have n0_ := A_ (below_step (bk_ HB.out) hb); have n1_ := A_ (hbox); have n2_ := A_ ((by rw [hg]; exact (below_size (bk_ HB.out)) : w.heap.size ≤ gb105)); have n3_ := A_ ((by rw [hg]; exact (below_size (bk_ HB.out)) : w.heap.size ≤ gb105)); clear HB; have HB := n0_; have BK105 := n1_; have GW105 := n2_; have GE105 := n3_; clear n0_ n1_ n2_ n3_ hb hbox hg) | ((with_reducible refine gate_dst (N := 2) rfl ?_); refine box_event ?hg (N := 2) ?hd (cs := #[.int .i64 0, .int .i64 0, .slice none 0 0]) (t := 24) ?hr ?_; (case hd => rfl); (case hg => rfl); (case hr => first | (go_simp; done) | (go_simp; rfl)); intro gb106 hg w5 hbox hb; have n0_ := A_ (blk_below (pk_ BK105.out) hb); have n1_ := A_ (below_step (bk_ HB.out) hb); have n2_ := A_ (hbox); have n3_ := A_ ((by rw [hg]; exact (below_size (bk_ HB.out)) : w.heap.size ≤ gb106)); have n4_ := A_ ((by rw [hg]; exact (below_size (bk_ HB.out)) : w.heap.size ≤ gb106)); have n5_ := A_ ((by rw [hg]; exact Nat.ne_of_lt (blk_lt (pk_ BK105.out)) : gb105 ≠ gb106)); have n6_ := A_ ((by rw [hg]; exact Nat.ne_of_gt (blk_lt (pk_ BK105.out)) : gb106 ≠ gb105)); clear BK105 HB; have BK105 := n0_; have HB := n1_; have BK106 := n2_; have GW106 := n3_; have GE106 := n4_; have NB105_106 := n5_; have NB106_105 := n6_; clear n0_ n1_ n2_ n3_ n4_ n5_ n6_ hb hbox hg; have hnb6 := NB105_106.out; have hnc6 := NB106_105.out; have hcz7_0 : w5.cell? ⟨gb105, 0, none⟩ = some (.int .i64 a0_0) := (blk_cell BK105.out 0).trans rfl; have hcz7_1 : w5.cell? ⟨gb105, 1, none⟩ = some (.int .i64 a0_1) := (blk_cell BK105.out 1).trans rfl; have hcz7_2 : w5.cell? ⟨gb105, 2, none⟩ = some (.slice A0_2 l0_2.length c0_2) := (blk_cell BK105.out 2).trans rfl; have hfz7_0 := blk_frozen BK105.out 0; have hfz7_1 := blk_frozen BK105.out 1; have hfz7_2 := blk_frozen BK105.out 2) | ((with_reducible refine gate_callee (f := 20) rfl ?_); refine goesL_ (some 10) rfl rfl Try.func20 (by kernel_rfl) rfl #[.agg #[.int .i64 a0_0, .int .i64 a0_1, .slice A0_2 l0_2.length c0_2]] rfl gl_ ?_; (with_reducible refine (tape_Valid.calls k a0_0 a0_1 _ _ l0_2 true _ ?side1 ?side2 A2.out).mono ?_); (case side1 => exact ck_ (Kd.C_below HR0_2.out HB.out)); (case side2 => exact HC0_2.out); rintro e w8 ⟨rfl, hb⟩; refine ⟨_, rfl, ?_⟩; have n0_ := A_ (blk_below (pk_ BK105.out) hb); have n1_ := A_ (blk_below (pk_ BK106.out) hb); have n2_ := A_ (below_step (bk_ HB.out) hb); clear BK105 BK106 HB; have BK105 := n0_; have BK106 := n1_; have HB := n2_; clear n0_ n1_ n2_; (try clear hb); (try clear hb2); (try clear hk); (try clear hi); have hcz9_0 : w8.cell? ⟨gb105, 0, none⟩ = some (.int .i64 a0_0) := (blk_cell BK105.out 0).trans rfl; have hcz9_1 : w8.cell? ⟨gb105, 1, none⟩ = some (.int .i64 a0_1) := (blk_cell BK105.out 1).trans rfl; have hcz9_2 : w8.cell? ⟨gb105, 2, none⟩ = some (.slice A0_2 l0_2.length c0_2) := (blk_cell BK105.out 2).trans rfl; have hfz9_0 := blk_frozen BK105.out 0; have hfz9_1 := blk_frozen BK105.out 1; have hfz9_2 := blk_frozen BK105.out 2) | ((with_reducible refine gate_dst (N := 4) rfl ?_); refine box_event ?hg (N := 4) ?hd (cs := #[.int .i64 0, .int .i64 0, .slice none 0 0]) (t := 24) ?hr ?_; (case hd => rfl); (case hg => rfl); (case hr => first | (go_simp; done) | (go_simp; rfl)); intro gb108 hg w10 hbox hb; have n0_ := A_ (blk_below (pk_ BK105.out) hb); have n1_ := A_ (blk_below (pk_ BK106.out) hb); have n2_ := A_ (below_step (bk_ HB.out) hb); have n3_ := A_ (hbox); have n4_ := A_ ((by rw [hg]; exact (below_size (bk_ HB.out)) : w.heap.size ≤ gb108)); have n5_ := A_ ((by rw [hg]; exact (below_size (bk_ HB.out)) : w.heap.size ≤ gb108)); have n6_ := A_ ((by rw [hg]; exact Nat.ne_of_lt (blk_lt (pk_ BK105.out)) : gb105 ≠ gb108)); have n7_ := A_ ((by rw [hg]; exact Nat.ne_of_gt (blk_lt (pk_ BK105.out)) : gb108 ≠ gb105)); have n8_ := A_ ((by rw [hg]; exact Nat.ne_of_lt (blk_lt (pk_ BK106.out)) : gb106 ≠ gb108)); have n9_ := A_ ((by rw [hg]; exact Nat.ne_of_gt (blk_lt (pk_ BK106.out)) : gb108 ≠ gb106)); clear BK105 BK106 HB; have BK105 := n0_; have BK106 := n1_; have HB := n2_; have BK108 := n3_; have GW108 := n4_; have GE108 := n5_; have NB105_108 := n6_; have NB108_105 := n7_; have NB106_108 := n8_; have NB108_106 := n9_; clear n0_ n1_ n2_ n3_ n4_ n5_ n6_ n7_ n8_ n9_ hb hbox hg; have hnb11 := NB108_105.out; have hnc11 := NB105_108.out; have hnb12 := NB108_106.out; have hnc12 := NB106_108.out; have hcz13_0 : w10.cell? ⟨gb108, 0, none⟩ = some (.int .i64 0) := (blk_cell BK108.out 0).trans rfl; have hcz13_1 : w10.cell? ⟨gb108, 1, none⟩ = some (.int .i64 0) := (blk_cell BK108.out 1).trans rfl; have hcz13_2 : w10.cell? ⟨gb108, 2, none⟩ = some (.slice none 0 0) := (blk_cell BK108.out 2).trans rfl; have hfz13_0 := blk_frozen BK108.out 0; have hfz13_1 := blk_frozen BK108.out 1; have hfz13_2 := blk_frozen BK108.out 2; have hcz14_0 : w10.cell? ⟨gb105, 0, none⟩ = some (.int .i64 a0_0) := (blk_cell BK105.out 0).trans rfl; have hcz14_1 : w10.cell? ⟨gb105, 1, none⟩ = some (.int .i64 a0_1) := (blk_cell BK105.out 1).trans rfl; have hcz14_2 : w10.cell? ⟨gb105, 2, none⟩ = some (.slice A0_2 l0_2.length c0_2) := (blk_cell BK105.out 2).trans rfl; have hfz14_0 := blk_frozen BK105.out 0; have hfz14_1 := blk_frozen BK105.out 1; have hfz14_2 := blk_frozen BK105.out 2))
  go_loopg [21] k (fun kq v21 w' => ∃ (x21_1 : Int) (x109002_1 : List (List (S52))) (u109002 : Value), v21 = .int .i64 x21_1 ∧ Aside0 (tape_Mirror.l0 kq l0_2 (l0_2.length : Int) x21_1 a0_0 a0_1 x109002_1 = some (r1, r2, r3, r4)) ∧ Aside0 (kq ≤ k) ∧ Aside0 (Kd.S (Kd.slice 52 k52) 53 w' w.heap.size (fun _ => True) u109002 x109002_1) ∧ Aside0 (w'.heap[gb105]? = some (.cells #[.int .i64 a0_0, .int .i64 a0_1, (.slice A0_2 l0_2.length c0_2)] 24 (0, 0))) ∧ Aside0 (w'.heap[gb106]? = some (.cells #[.int .i64 0, .int .i64 0, (.slice none 0 0)] 24 (0, 0))) ∧ Aside0 (w'.heap[gb108]? = some (.cells #[.int .i64 a0_0, .int .i64 a0_1, u109002] 24 (0, 0))) ∧ Aside0 (Below w.heap.size w w'))
  case atStart => exact ⟨(0), (([] : List (List (S52)))), (.slice none 0 0), jr_, H', ⟨Nat.le_refl _⟩, ⟨by first | exact Kd.S_nil _ _ _ _ _ | exact Kd.N_nil _ _ _ _ _ | exact Kd.V_nil _ _ _ _ _ | exact Kd.Q_nil _ _ _ _ _ | exact Kd.R_nil _ _ _ _ _⟩, ⟨by refine pk_ ?_; refine blk_far ?_ NB105_108.out _; refine pk_ ?_; refine blk_far ?_ NB105_108.out _; refine pk_ ?_; refine blk_far ?_ NB105_108.out _; exact pk_ BK105.out⟩, ⟨by refine pk_ ?_; refine blk_far ?_ NB106_108.out _; refine pk_ ?_; refine blk_far ?_ NB106_108.out _; refine pk_ ?_; refine blk_far ?_ NB106_108.out _; exact pk_ BK106.out⟩, ⟨by refine pk_ ?_; refine blk_put (cs := #[.int .i64 a0_0, .int .i64 a0_1, .slice none 0 0]) ?_ 2 _ rfl; refine pk_ ?_; refine blk_put (cs := #[.int .i64 a0_0, .int .i64 0, .slice none 0 0]) ?_ 1 _ rfl; refine pk_ ?_; refine blk_put (cs := #[.int .i64 0, .int .i64 0, .slice none 0 0]) ?_ 0 _ rfl; exact pk_ BK108.out⟩, ⟨bk_ HB.out⟩⟩
  case round =>
   clear H'
   (try clear c3); (try clear hcz13_0); (try clear hcz13_1); (try clear hcz13_2); (try clear hcz14_0); (try clear hcz14_1); (try clear hcz14_2); (try clear hcz7_0); (try clear hcz7_1); (try clear hcz7_2); (try clear hcz9_0); (try clear hcz9_1); (try clear hcz9_2); (try clear hfz13_0); (try clear hfz13_1); (try clear hfz13_2); (try clear hfz14_0); (try clear hfz14_1); (try clear hfz14_2); (try clear hfz7_0); (try clear hfz7_1); (try clear hfz7_2); (try clear hfz9_0); (try clear hfz9_1); (try clear hfz9_2)
   obtain ⟨x21_1, x109002_1, u109002, rfl, HA, HK1, HO_109002, BK105, BK106, BK108, HB⟩ := hrel
   cases gk with
   | zero => exact absurd HA.out (by simp [tape_Mirror.l0])
   | succ k1 =>
    have H := HA.out
    clear HA
    simp only [tape_Mirror.l0] at H
    by_cases c15 : x21_1 < (l0_2.length : Int)
    ·rw [if_pos c15] at H
     have c15b0 : decide (x21_1 < (l0_2.length : Int)) = true := decide_eq_true c15
     clear c15
     by_cases c16 : 0 ≤ x21_1
     ·rw [if_pos c16] at H
      have c16b0 : decide (0 ≤ x21_1) = true := decide_eq_true c16
      clear c16
      by_cases c17 : x21_1 < (l0_2.length : Int)
      ·rw [if_pos c17] at H
       have c17b0 : decide (x21_1 < (l0_2.length : Int)) = true := decide_eq_true c17
       clear c17
       replace H := Option.bind_eq_some_iff.mp H
       obtain ⟨t110, A180, H⟩ := H
       replace H : (tape_Mirror.l1 k1 t110 l0_2 (l0_2.length : Int) x21_1 (t110.length : Int) 0 a0_0 a0_1 x109002_1) = some (r1, r2, r3, r4) := H
       have A18 := Aside0.mk A180
       clear A180
       have H' := Aside0.mk H
       clear H
       have p109 : 0 ≤ (x21_1 : Int) := od_
       have q109 : x21_1 < (l0_2.length : Int) := od_
       obtain ⟨ad109, A109_0, c109_0, e109, hx109_0, hl109_0, hi109_0⟩ := at_L2 HR0_2.out x21_1 p109 q109
       cases e109
       replace hx109_0 := lf_ HB.out hx109_0
       have HR109_0 := Aside0.mk hi109_0
       have HC109_0 := Aside0.mk hl109_0
       clear hi109_0 hl109_0
       replace p109 := eq_true p109
       replace q109 := eq_true q109
       go_wp2_with (first | ((with_reducible refine gate_callee (f := 42) rfl ?_); refine goesL_ (some 26) rfl rfl Try.func42 (by kernel_rfl) rfl #[.slice A109_0 (rd_L2 l0_2 x21_1).length c109_0] rfl gl_ ?_; (with_reducible refine (api_Rule.calls _ _ (rd_L2 l0_2 x21_1) t110 _ ?side1 ?side2 A18.out).mono ?_); (case side1 => exact ck_ (Kd.C_below HR109_0.out HB.out)); (case side2 => exact HC109_0.out); rintro e w19 ⟨v111, rfl, ho0, hb⟩; refine ⟨_, rfl, ?_⟩; have n0_ := A_ (Kd.S_elder' (by (with_reducible repeat (first | apply Kd.S_alloc | apply Kd.S_drewN | apply Kd.S_drew)); exact HO_109002.out) (Kd.R_base ho0) hb); have n1_ := A_ (Kd.R_lower ho0 (below_size (bk_ HB.out))); have n2_ := A_ (blk_below (pk_ BK105.out) hb); have n3_ := A_ (blk_below (pk_ BK106.out) hb); have n4_ := A_ (blk_below (pk_ BK108.out) hb); have n5_ := A_ (below_step (bk_ HB.out) hb); clear HO_109002 BK105 BK106 BK108 HB; have HO_109002 := n0_; have HO112 := n1_; have BK105 := n2_; have BK106 := n3_; have BK108 := n4_; have HB := n5_; clear n0_ n1_ n2_ n3_ n4_ n5_; (try clear hb); (try clear hb2); (try clear hk); (try clear hi); (try clear ho0); obtain ⟨Ao20, co20, eo20⟩ := Kd.R_slice HO112.out; subst eo20))
       go_loopg [29] k1 (fun kq v29 w' => ∃ (x7_2 : List (S52)) (x29_2 : Int), v29 = .int .i64 x29_2 ∧ Aside0 (tape_Mirror.l1 kq x7_2 l0_2 (l0_2.length : Int) x21_1 (t110.length : Int) x29_2 a0_0 a0_1 x109002_1 = some (r1, r2, r3, r4)) ∧ Aside0 (kq ≤ k1) ∧ Aside0 (Kd.R k52 52 w' w.heap.size (fun _ => True) (.slice Ao20 t110.length co20) x7_2) ∧ Aside0 (Kd.S (Kd.slice 52 k52) 53 w' w.heap.size (fun k_ => some k_ ≠ ((.slice Ao20 t110.length co20) : Value).ownBlock) u109002 x109002_1) ∧ Aside0 (w'.heap[gb105]? = some (.cells #[.int .i64 a0_0, .int .i64 a0_1, (.slice (some ad109) l0_2.length c0_2)] 24 (0, 0))) ∧ Aside0 (w'.heap[gb106]? = some (.cells #[.int .i64 0, .int .i64 0, (.slice none 0 0)] 24 (0, 0))) ∧ Aside0 (w'.heap[gb108]? = some (.cells #[.int .i64 a0_0, .int .i64 a0_1, u109002] 24 (0, 0))) ∧ Aside0 (Below w.heap.size w w'))
       case atStart => exact ⟨(t110), (0), jr_, H', ⟨Nat.le_refl _⟩, ⟨rk_ HO112.out⟩, ⟨by (with_reducible repeat (first | apply Kd.S_alloc | apply Kd.S_drewN | apply Kd.S_drew)); exact Kd.S_mono HO_109002.out (fun _ hk => hk.2)⟩, ⟨pk_ BK105.out⟩, ⟨pk_ BK106.out⟩, ⟨pk_ BK108.out⟩, ⟨bk_ HB.out⟩⟩
       case round =>
        clear H'
        (try clear c3); (try clear c15); (try clear c15b0); (try clear c16); (try clear c16b0); (try clear c17); (try clear c17b0); (try clear hcz13_0); (try clear hcz13_1); (try clear hcz13_2); (try clear hcz14_0); (try clear hcz14_1); (try clear hcz14_2); (try clear hcz7_0); (try clear hcz7_1); (try clear hcz7_2); (try clear hcz9_0); (try clear hcz9_1); (try clear hcz9_2); (try clear hfz13_0); (try clear hfz13_1); (try clear hfz13_2); (try clear hfz14_0); (try clear hfz14_1); (try clear hfz14_2); (try clear hfz7_0); (try clear hfz7_1); (try clear hfz7_2); (try clear hfz9_0); (try clear hfz9_1); (try clear hfz9_2); (try clear hx109_0); (try clear p109); (try clear q109)
        obtain ⟨x7_2, x29_2, rfl, HA, HK2, HO_7, HO_109002, BK105, BK106, BK108, HB⟩ := hrel
        have hl7_2 := (Kd.R_reads' HO_7.out).1
        rw [hl7_2] at HO_7
        (try simp only [hl7_2])
        (try simp only [hl7_2] at BK105)
        (try simp only [hl7_2] at BK106)
        (try simp only [hl7_2] at BK108)
        (try simp only [hl7_2] at HO_109002)
        cases gk with
        | zero => exact absurd HA.out (by simp [tape_Mirror.l1])
        | succ k2 =>
         have H := HA.out
         clear HA
         simp only [tape_Mirror.l1] at H
         by_cases c21 : x29_2 < (t110.length : Int)
         ·rw [if_pos c21] at H
          have c21b0 : decide (x29_2 < (t110.length : Int)) = true := decide_eq_true c21
          (try (have c21x0 := c21b0; simp only [hl7_2] at c21x0))
          clear c21
          by_cases c22 : 0 ≤ x29_2
          ·rw [if_pos c22] at H
           have c22b0 : decide (0 ≤ x29_2) = true := decide_eq_true c22
           clear c22
           by_cases c23 : x29_2 < (x7_2.length : Int)
           ·rw [if_pos c23] at H
            have c23b0 : decide (x29_2 < (x7_2.length : Int)) = true := decide_eq_true c23
            (try (have c23x0 := c23b0; simp only [hl7_2] at c23x0))
            clear c23
            obtain ⟨y114, hy114⟩ : ∃ y_ : List (S52), y_ = (x7_2.set (x29_2 : Int).toNat (⟨(rd_T52 x7_2 x29_2).f0, wrap64 (-((rd_T52 x7_2 x29_2).f1)), (rd_T52 x7_2 x29_2).f2⟩ : S52)) := ⟨_, rfl⟩
            replace H : (tape_Mirror.l1 k2 y114 l0_2 (l0_2.length : Int) x21_1 (t110.length : Int) (wrap64 (x29_2 + 1)) a0_0 a0_1 x109002_1) = some (r1, r2, r3, r4) := by first | (rw [hy114]; with_reducible exact H) | (have H2_ := (Option.bind_some _ _).symm.trans H; rw [hy114]; with_reducible exact H2_) | (have H2_ := (Option.bind_some _ _).symm.trans H; with_reducible exact H2_) | with_reducible exact H | (rw [hy114]; exact H) | exact H
            have Ny114 := Aside0.mk hy114
            clear hy114
            have H' := Aside0.mk H
            clear H
            have p113 : 0 ≤ (x29_2 : Int) := od_
            have q113 : x29_2 < (x7_2.length : Int) := od_
            obtain ⟨ad113, e113, hx113_0, hx113_1, hx113_2⟩ := at_T52 (Kd.R_reads' HO_7.out).2.2 x29_2 p113 q113
            cases e113
            replace p113 := eq_true p113
            replace q113 := eq_true q113
            have p24 : 0 ≤ (x29_2 : Int) := od_
            have q24 : (x29_2 : Int) < ((x7_2.length : Int) : Int) := od_
            obtain ⟨go24, co24, eo24, gb24, gl24, cl24, HG24⟩ := Kd.R_form HO_7.out (by omega)
            (first | cases eo24 | (injection eo24 with ea_ en_ ec_; (first | subst ea_ | (injection ea_ with ea_; subst ea_)); subst ec_; clear en_))
            have GB24 := Aside0.mk gb24
            have GG24 := Aside0.mk HG24
            clear gb24 gl24 HG24
            (first | simp only [add_plain] at hx113_0 | skip)
            (first | simp only [add_plain] at hx113_1 | skip)
            (first | simp only [add_plain] at hx113_2 | skip)
            obtain ⟨ce24, hcl24, hM24, hcc24, hfr24⟩ := Kd.R_elem HO_7.out z52 (x29_2 : Int) p24 q24
            obtain rfl := k52_openM hM24
            have hx24_0 : wr.cell? ⟨go24, (x29_2 : Int).toNat * 3, none⟩ = some (.int .i64 ((rd_T52 x7_2 x29_2).f0)) := hcc24 0 _ rfl
            have hx24_1 : wr.cell? ⟨go24, (x29_2 : Int).toNat * 3 + 1, none⟩ = some (.int .i64 ((rd_T52 x7_2 x29_2).f1)) := hcc24 1 _ rfl
            have hx24_2 : wr.cell? ⟨go24, (x29_2 : Int).toNat * 3 + 2, none⟩ = some (.int .i64 ((rd_T52 x7_2 x29_2).f2)) := hcc24 2 _ rfl
            have hf24_0 : wr.frozen? ⟨go24, (x29_2 : Int).toNat * 3, none⟩ = false := hfr24 0
            have hf24_1 : wr.frozen? ⟨go24, (x29_2 : Int).toNat * 3 + 1, none⟩ = false := hfr24 1
            have hf24_2 : wr.frozen? ⟨go24, (x29_2 : Int).toNat * 3 + 2, none⟩ = false := hfr24 2
            clear hcl24 hcc24 hfr24 hM24
            replace p24 := eq_true p24
            replace q24 := eq_true q24
            have HX25 := A_ (show Kd.R k52 52 wr w.heap.size (fun _ => True) (.slice (some ⟨go24, 0, none⟩) x7_2.length co20) x7_2 from (rk_ HO_7.out))
            obtain ⟨ce25, hcl25, hM25, hcc25, hfr25⟩ := Kd.R_elem HX25.out z52 (x29_2 : Int) (od_) (by have h_ : (x29_2 : Int) < ((x7_2.length : Int) : Int) := od_; first | exact h_ | (have e_ := (Kd.R_reads' HO_7.out).1; omega) | simpa using h_)
            obtain rfl := k52_openM hM25
            have HP25 := Kd.R_seg HX25.out (x29_2 : Int) (od_) (by have h_ : (x29_2 : Int) < ((x7_2.length : Int) : Int) := od_; first | exact h_ | (have e_ := (Kd.R_reads' HO_7.out).1; omega) | simpa using h_) (seg := [.int .i64 (wrap64 (-((rd_T52 x7_2 x29_2).f1)))]) (j := 1) hcl25 hcc25 (show 2 ≤ 3 from by decide) (x' := (⟨(rd_T52 x7_2 x29_2).f0, wrap64 (-((rd_T52 x7_2 x29_2).f1)), (rd_T52 x7_2 x29_2).f2⟩ : S52)) (k52_mkM _ _ _ (⟨(rd_T52 x7_2 x29_2).f0, wrap64 (-((rd_T52 x7_2 x29_2).f1)), (rd_T52 x7_2 x29_2).f2⟩ : S52) ) (fun _ hk => hk)
            have hx25_1 := hcc25 1 _ rfl
            (try simp only [show (k52).sz = 3 from rfl, Nat.mul_one, Nat.add_zero] at hx25_1)
            have hf25_1 := hfr25 1
            (try simp only [show (k52).sz = 3 from rfl, Nat.mul_one, Nat.add_zero] at hf25_1)
            clear hcl25 hcc25 hfr25 hM25
            go_wp2_with (first | ((with_reducible refine gate_store (t := 3) (p := 41) rfl ?_); refine store_event (t := 3) (p := 41) (v := ?vo_w26) (w1 := (wr.setCell ⟨go24, (x29_2 : Int).toNat * 3 + 1, none⟩ (.int .i64 (wrap64 (-((rd_T52 x7_2 x29_2).f1)))))) ?hg ?ho ?hn ?hr ?_; (case ho => rfl); (case hg => rfl); (case hn => rfl); (case hr => first | (go_simp; done) | (go_simp; rfl)); intro w26 hw; have hg : wr.grownBy w26 (some go24) := (by rw [hw]; exact HP25.2); have hp_ : Kd.R k52 52 w26 w.heap.size (fun _ => True) (.slice (some ⟨go24, 0, none⟩) x7_2.length co20) y114 := (by rw [hw, Ny114.out]; exact HP25.1); clear HP25; have n0_ := A_ (hp_); have n1_ := A_ (Kd.S_after (v := (.slice (some ⟨go24, 0, none⟩) x7_2.length co20)) (v1 := (.slice (some ⟨go24, 0, none⟩) x7_2.length co20)) (ok := (fun _ => True)) (by (with_reducible repeat (first | apply Kd.S_alloc | apply Kd.S_drewN | apply Kd.S_drew)); exact Kd.S_mono HO_109002.out (fun _ hk => ⟨trivial, hk⟩)) hg (.inl rfl)); have n2_ := A_ (blk_grown (pk_ BK105.out) hg (Kd.R_ne HO_7.out BK105.out (by decide))); have n3_ := A_ (blk_grown (pk_ BK106.out) hg (Kd.R_ne HO_7.out BK106.out (by decide))); have n4_ := A_ (blk_grown (pk_ BK108.out) hg (Kd.R_ne HO_7.out BK108.out (by decide))); have n5_ := A_ ((by rw [hw]; exact below_set (HB.out) GB24.out : Below w.heap.size w w26)); clear HO_7 HO_109002 BK105 BK106 BK108 HB; have HO_7 := n0_; have HO_109002 := n1_; have BK105 := n2_; have BK106 := n3_; have BK108 := n4_; have HB := n5_; clear n0_ n1_ n2_ n3_ n4_ n5_ hg hw hp_))
            (try simp only [← hl7_2])
            go_roundg k2
            case measure => have := HK1.out; have := HK2.out; omega
            case rel => exact ⟨(y114), (wrap64 (x29_2 + 1)), jr_, H', ⟨by have := HK1.out; have := HK2.out; omega⟩, ⟨by (try simp only [hl7_2]); (with_reducible repeat (first | apply Kd.R_alloc | apply Kd.R_drewN | apply Kd.R_drew)); exact HO_7.out⟩, ⟨by (try simp only [hl7_2]); (with_reducible repeat (first | apply Kd.S_alloc | apply Kd.S_drewN | apply Kd.S_drew)); exact Kd.S_mono HO_109002.out (fun _ hk => hk.2)⟩, ⟨by (try simp only [hl7_2]); exact pk_ BK105.out⟩, ⟨by (try simp only [hl7_2]); exact pk_ BK106.out⟩, ⟨by (try simp only [hl7_2]); exact pk_ BK108.out⟩, ⟨bk_ HB.out⟩⟩
           ·rw [if_neg c23] at H
            exact absurd H (by simp)
          ·rw [if_neg c22] at H
           exact absurd H (by simp)
         ·rw [if_neg c21] at H
          have c21b0 : decide (x29_2 < (t110.length : Int)) = false := decide_eq_false c21
          (try (have c21x0 := c21b0; simp only [hl7_2] at c21x0))
          clear c21
          by_cases c27 : x109002_1.length < 5864062014805
          ·rw [if_pos c27] at H
           have LMc27 := Aside0.mk c27
           clear c27
           obtain ⟨y115, hy115⟩ : ∃ y_ : List (List (S52)), y_ = (x109002_1 ++ [x7_2]) := ⟨_, rfl⟩
           replace H : (tape_Mirror.l0 k2 l0_2 (l0_2.length : Int) (wrap64 (x21_1 + 1)) a0_0 a0_1 y115) = some (r1, r2, r3, r4) := by first | (rw [hy115]; with_reducible exact H) | (have H2_ := (Option.bind_some _ _).symm.trans H; rw [hy115]; with_reducible exact H2_) | (have H2_ := (Option.bind_some _ _).symm.trans H; with_reducible exact H2_) | with_reducible exact H | (rw [hy115]; exact H) | exact H
           have Ny115 := Aside0.mk hy115
           clear hy115
           have H' := Aside0.mk H
           clear H
           have hnb28 := NB108_105.out
           have hnc28 := NB105_108.out
           have hnb29 := NB108_106.out
           have hnc29 := NB106_108.out
           have hcz30_0 : wr.cell? ⟨gb108, 0, none⟩ = some (.int .i64 a0_0) := (blk_cell BK108.out 0).trans rfl
           have hcz30_1 : wr.cell? ⟨gb108, 1, none⟩ = some (.int .i64 a0_1) := (blk_cell BK108.out 1).trans rfl
           have hcz30_2 : wr.cell? ⟨gb108, 2, none⟩ = some (u109002) := (blk_cell BK108.out 2).trans rfl
           have hfz30_0 := blk_frozen BK108.out 0
           have hfz30_1 := blk_frozen BK108.out 1
           have hfz30_2 := blk_frozen BK108.out 2
           go_wp2_with (first | ((with_reducible refine gate_builtin (b := .append) (xs := #[.tmp 44, .tmp 46]) rfl ?_); at_builtin; refine Kd.S_append (Kd.slice 52 k52) (w0 := w) w.heap.size rfl (.tmp 44) (.tmp 46) 22 53 (.slice none 0 0) 24 rfl Try.underlying22 info53 rfl (by decide) (by omega) u109002 x109002_1 x7_2 [.slice Ao20 x7_2.length co20] (fun _ => True) (fun k_ => some k_ = (.slice Ao20 x7_2.length co20 : Value).ownBlock) rfl rfl ?aP (fun k_ hk_ => ((Kd.R_mono (ok' := fun k_ => ((fun _ => True)) k_ ∧ some k_ ≠ (u109002 : Value).ownBlock) (Kd.R_apart' (HO_7.out) (Kd.S_typed HO_109002.out) (by decide)) (fun k_ hk => ⟨trivial, hk.2⟩))).1 k_ hk_.symm) ?aF ?aO ?aB ?aS ?aL ?_; (case aP => exact Kd.M_row (Kd.R_mono (Kd.R_tight rfl (Kd.R_mono (ok' := fun k_ => ((fun _ => True)) k_ ∧ some k_ ≠ (u109002 : Value).ownBlock) (Kd.R_apart' (HO_7.out) (Kd.S_typed HO_109002.out) (by decide)) (fun k_ hk => ⟨trivial, hk.2⟩))) (fun _ h_ => h_))); (case aB => exact (bk_ HB.out)); (case aF => exact (fun _ _ => trivial)); (case aO => exact (by (with_reducible repeat (first | apply Kd.S_alloc | apply Kd.S_drewN | apply Kd.S_drew)); exact Kd.S_mono HO_109002.out (fun k_ hk => ⟨trivial, fun e_ => hk e_⟩))); (case aS => exact (below_size (bk_ HB.out))); (case aL => have := LMc27.out; omega); intro v116 w31 ho hb hg hat; rw [← Ny115.out] at ho; have n0_ := A_ (blk_grown (pk_ BK105.out) hg (Kd.S_ne HO_109002.out BK105.out (by decide))); have n1_ := A_ (blk_grown (pk_ BK106.out) hg (Kd.S_ne HO_109002.out BK106.out (by decide))); have n2_ := A_ (blk_grown (pk_ BK108.out) hg (Kd.S_ne HO_109002.out BK108.out (by decide))); have n3_ := A_ (hb); have n4_ := A_ (ho); clear BK105 BK106 BK108 HB HO_109002 HO_7; have BK105 := n0_; have BK106 := n1_; have BK108 := n2_; have HB := n3_; have HO117 := n4_; clear n0_ n1_ n2_ n3_ n4_ ho hb hg hat; obtain ⟨Ao32, co32, eo32⟩ := Kd.S_slice HO117.out; subst eo32; have hcz33_0 : w31.cell? ⟨gb108, 0, none⟩ = some (.int .i64 a0_0) := (blk_cell BK108.out 0).trans rfl; have hcz33_1 : w31.cell? ⟨gb108, 1, none⟩ = some (.int .i64 a0_1) := (blk_cell BK108.out 1).trans rfl; have hcz33_2 : w31.cell? ⟨gb108, 2, none⟩ = some (u109002) := (blk_cell BK108.out 2).trans rfl; have hfz33_0 := blk_frozen BK108.out 0; have hfz33_1 := blk_frozen BK108.out 1; have hfz33_2 := blk_frozen BK108.out 2))
           (try simp only [← hl7_2])
           go_roundg k2
           case measure => have := HK1.out; have := HK2.out; omega
           case rel => exact ⟨(wrap64 (x21_1 + 1)), (y115), (.slice Ao32 y115.length co32), jr_, H', ⟨by have := HK1.out; have := HK2.out; omega⟩, ⟨by (try simp only [hl7_2]); (with_reducible repeat (first | apply Kd.S_alloc | apply Kd.S_drewN | apply Kd.S_drew)); exact Kd.S_mono (Kd.S_far (p := ⟨gb108, 2, none⟩) (Kd.S_types HO117.out BK108.out (by decide)) (fun _ hk => hk.2) (.slice Ao32 y115.length co32)) (fun _ hk => trivial)⟩, ⟨by (try simp only [hl7_2]); refine pk_ ?_; refine blk_far ?_ NB105_108.out _; exact pk_ BK105.out⟩, ⟨by (try simp only [hl7_2]); refine pk_ ?_; refine blk_far ?_ NB106_108.out _; exact pk_ BK106.out⟩, ⟨by (try simp only [hl7_2]); refine pk_ ?_; refine blk_put (cs := #[.int .i64 a0_0, .int .i64 a0_1, u109002]) ?_ 2 _ rfl; exact pk_ BK108.out⟩, ⟨bk_ HB.out⟩⟩
          ·rw [if_neg c27] at H
           exact absurd H (by simp)
      ·rw [if_neg c17] at H
       exact absurd H (by simp)
     ·rw [if_neg c16] at H
      exact absurd H (by simp)
    ·rw [if_neg c15] at H
     have c15b0 : decide (x21_1 < (l0_2.length : Int)) = false := decide_eq_false c15
     clear c15
     simp only [Option.some.injEq, Prod.mk.injEq] at H
     obtain ⟨rfl, rfl, rfl, rfl⟩ := H
     have hnb34 := NB108_105.out
     have hnc34 := NB105_108.out
     have hnb35 := NB108_106.out
     have hnc35 := NB106_108.out
     have hcz36_0 : wr.cell? ⟨gb108, 0, none⟩ = some (.int .i64 a0_0) := (blk_cell BK108.out 0).trans rfl
     have hcz36_1 : wr.cell? ⟨gb108, 1, none⟩ = some (.int .i64 a0_1) := (blk_cell BK108.out 1).trans rfl
     have hcz36_2 : wr.cell? ⟨gb108, 2, none⟩ = some (u109002) := (blk_cell BK108.out 2).trans rfl
     have hfz36_0 := blk_frozen BK108.out 0
     have hfz36_1 := blk_frozen BK108.out 1
     have hfz36_2 := blk_frozen BK108.out 2
     have hnb37 := NB106_105.out
     have hnc37 := NB105_106.out
     have hcz38_0 : wr.cell? ⟨gb106, 0, none⟩ = some (.int .i64 0) := (blk_cell BK106.out 0).trans rfl
     have hcz38_1 : wr.cell? ⟨gb106, 1, none⟩ = some (.int .i64 0) := (blk_cell BK106.out 1).trans rfl
     have hcz38_2 : wr.cell? ⟨gb106, 2, none⟩ = some (.slice none 0 0) := (blk_cell BK106.out 2).trans rfl
     have hfz38_0 := blk_frozen BK106.out 0
     have hfz38_1 := blk_frozen BK106.out 1
     have hfz38_2 := blk_frozen BK106.out 2
     obtain ⟨Ao39, co39, eo39⟩ := Kd.S_slice HO_109002.out
     subst eo39
     go_wp2
     refine bodyPost_ret (results_ct rfl _ _ gb106 24 #[.int .i64 a0_0, .int .i64 a0_1, .slice Ao39 x109002_1.length co39] (0, 0) _ rfl (by refine pk_ ?_; refine blk_put (cs := #[.int .i64 a0_0, .int .i64 a0_1, .slice none 0 0]) ?_ 2 _ rfl; refine pk_ ?_; refine blk_put (cs := #[.int .i64 a0_0, .int .i64 0, .slice none 0 0]) ?_ 1 _ rfl; refine pk_ ?_; refine blk_put (cs := #[.int .i64 0, .int .i64 0, .slice none 0 0]) ?_ 0 _ rfl; exact pk_ BK106.out) Try.underlying24 rfl (by kernel_rfl)) rfl ?_
     exact ⟨_, er_, by (with_reducible repeat (first | apply Kd.S_alloc | apply Kd.S_drewN | apply Kd.S_drew)); exact Kd.S_mono (Kd.S_far (p := ⟨gb106, 2, none⟩) (Kd.S_far (p := ⟨gb106, 1, none⟩) (Kd.S_far (p := ⟨gb106, 0, none⟩) (Kd.S_types HO_109002.out BK106.out (by decide)) (fun _ hk => hk.2) (.int .i64 a0_0)) (fun _ hk => hk.2) (.int .i64 a0_1)) (fun _ hk => hk.2) (.slice Ao39 x109002_1.length co39)) (fun _ hk => trivial), bk_ HB.out⟩
 ·replace c3 := Bool.eq_false_iff.mpr c3
  subst c3
  have H1 : (some (0, 0, ([] : List (List (S52))), 1)) = some (r1, r2, r3, r4) := by rw [if_neg (show ¬ (false = true) by decide)] at H; exact H
  clear H
  have H := H1
  clear H1
  simp only [Option.some.injEq, Prod.mk.injEq] at H
  obtain ⟨rfl, rfl, rfl, rfl⟩ := H
  go_enter Try.func32, Try.ntmps32
  go_wp2_with (first | ((with_reducible refine gate_dst (N := 1) rfl ?_); refine box_event ?hg (N := 1) ?hd (cs := #[.int .i64 a0_0, .int .i64 a0_1, .slice A0_2 l0_2.length c0_2]) (t := 24) ?hr ?_; (case hd => rfl); (case hg => rfl); (case hr => first | (go_simp; done) | (go_simp; rfl)); intro gb105 hg w40 hbox hb; have n0_ := A_ (below_step (bk_ HB.out) hb); have n1_ := A_ (hbox); have n2_ := A_ ((by rw [hg]; exact (below_size (bk_ HB.out)) : w.heap.size ≤ gb105)); have n3_ := A_ ((by rw [hg]; exact (below_size (bk_ HB.out)) : w.heap.size ≤ gb105)); clear HB; have HB := n0_; have BK105 := n1_; have GW105 := n2_; have GE105 := n3_; clear n0_ n1_ n2_ n3_ hb hbox hg) | ((with_reducible refine gate_dst (N := 2) rfl ?_); refine box_event ?hg (N := 2) ?hd (cs := #[.int .i64 0, .int .i64 0, .slice none 0 0]) (t := 24) ?hr ?_; (case hd => rfl); (case hg => rfl); (case hr => first | (go_simp; done) | (go_simp; rfl)); intro gb106 hg w41 hbox hb; have n0_ := A_ (blk_below (pk_ BK105.out) hb); have n1_ := A_ (below_step (bk_ HB.out) hb); have n2_ := A_ (hbox); have n3_ := A_ ((by rw [hg]; exact (below_size (bk_ HB.out)) : w.heap.size ≤ gb106)); have n4_ := A_ ((by rw [hg]; exact (below_size (bk_ HB.out)) : w.heap.size ≤ gb106)); have n5_ := A_ ((by rw [hg]; exact Nat.ne_of_lt (blk_lt (pk_ BK105.out)) : gb105 ≠ gb106)); have n6_ := A_ ((by rw [hg]; exact Nat.ne_of_gt (blk_lt (pk_ BK105.out)) : gb106 ≠ gb105)); clear BK105 HB; have BK105 := n0_; have HB := n1_; have BK106 := n2_; have GW106 := n3_; have GE106 := n4_; have NB105_106 := n5_; have NB106_105 := n6_; clear n0_ n1_ n2_ n3_ n4_ n5_ n6_ hb hbox hg; have hnb42 := NB105_106.out; have hnc42 := NB106_105.out; have hcz43_0 : w41.cell? ⟨gb105, 0, none⟩ = some (.int .i64 a0_0) := (blk_cell BK105.out 0).trans rfl; have hcz43_1 : w41.cell? ⟨gb105, 1, none⟩ = some (.int .i64 a0_1) := (blk_cell BK105.out 1).trans rfl; have hcz43_2 : w41.cell? ⟨gb105, 2, none⟩ = some (.slice A0_2 l0_2.length c0_2) := (blk_cell BK105.out 2).trans rfl; have hfz43_0 := blk_frozen BK105.out 0; have hfz43_1 := blk_frozen BK105.out 1; have hfz43_2 := blk_frozen BK105.out 2) | ((with_reducible refine gate_callee (f := 20) rfl ?_); refine goesL_ (some 10) rfl rfl Try.func20 (by kernel_rfl) rfl #[.agg #[.int .i64 a0_0, .int .i64 a0_1, .slice A0_2 l0_2.length c0_2]] rfl gl_ ?_; (with_reducible refine (tape_Valid.calls k a0_0 a0_1 _ _ l0_2 false _ ?side1 ?side2 A2.out).mono ?_); (case side1 => exact ck_ (Kd.C_below HR0_2.out HB.out)); (case side2 => exact HC0_2.out); rintro e w44 ⟨rfl, hb⟩; refine ⟨_, rfl, ?_⟩; have n0_ := A_ (blk_below (pk_ BK105.out) hb); have n1_ := A_ (blk_below (pk_ BK106.out) hb); have n2_ := A_ (below_step (bk_ HB.out) hb); clear BK105 BK106 HB; have BK105 := n0_; have BK106 := n1_; have HB := n2_; clear n0_ n1_ n2_; (try clear hb); (try clear hb2); (try clear hk); (try clear hi); have hcz45_0 : w44.cell? ⟨gb106, 0, none⟩ = some (.int .i64 0) := (blk_cell BK106.out 0).trans rfl; have hcz45_1 : w44.cell? ⟨gb106, 1, none⟩ = some (.int .i64 0) := (blk_cell BK106.out 1).trans rfl; have hcz45_2 : w44.cell? ⟨gb106, 2, none⟩ = some (.slice none 0 0) := (blk_cell BK106.out 2).trans rfl; have hfz45_0 := blk_frozen BK106.out 0; have hfz45_1 := blk_frozen BK106.out 1; have hfz45_2 := blk_frozen BK106.out 2))
  refine bodyPost_ret (results_ct rfl _ _ gb106 24 #[.int .i64 0, .int .i64 0, .slice none 0 0] (0, 0) _ rfl (by refine pk_ ?_; refine blk_put (cs := #[.int .i64 0, .int .i64 0, .slice none 0 0]) ?_ 2 _ rfl; refine pk_ ?_; refine blk_put (cs := #[.int .i64 0, .int .i64 0, .slice none 0 0]) ?_ 1 _ rfl; refine pk_ ?_; refine blk_put (cs := #[.int .i64 0, .int .i64 0, .slice none 0 0]) ?_ 0 _ rfl; exact pk_ BK106.out) Try.underlying24 rfl (by kernel_rfl)) rfl ?_
  exact ⟨_, er_, by first | exact Kd.S_nil _ _ _ _ _ | exact Kd.N_nil _ _ _ _ _ | exact Kd.V_nil _ _ _ _ _ | exact Kd.Q_nil _ _ _ _ _ | exact Kd.R_nil _ _ _ _ _, bk_ HB.out⟩

/-! ### loop_sided: function 22 -/
def loop_sided.f (k : Nat) (a0_0 : Int) (a0_1 : Int) (l0_2 : List (List (S52))) (a1 : Bool) : Option (Int × Int × (List (List (S52)))) := if a1 = true then (some (a0_0, a0_1, l0_2)) else ((tape_Mirror.f k a0_0 a0_1 l0_2).bind fun bt120 => (some (bt120.1, bt120.2.1, bt120.2.2.1)))
theorem loop_sided.mono : ∀ a0 a1 a2 a3 k, LeO (loop_sided.f k a0 a1 a2 a3) (loop_sided.f (k + 1) a0 a1 a2 a3) := by
 intro a0 a1 a2 a3 k
 unfold loop_sided.f
 repeat' first
   | (with_reducible exact tape_Mirror.mono _ _ _ _)
   | (with_reducible exact LeO.refl _)
   | (with_reducible exact LeO.none _)
   | (with_reducible refine LeO.ite ?_ ?_)
   | (with_reducible refine LeO.bind ?_ (fun _ => ?_))
   | exact tape_Mirror.mono _ _ _ _
   | exact LeO.none _
   | refine LeO.ite ?_ ?_
   | refine LeO.bind ?_ (fun _ => ?_)
set_option maxHeartbeats 8000000 in
set_option maxRecDepth 100000 in
theorem loop_sided.calls (k : Nat) (a0_0 : Int) (a0_1 : Int) (P0_2_ : Nat → Prop) (A0_2 : Option Addr) (c0_2 : Nat) (l0_2 : List (List (S52))) (a1 : Bool) (r1 : Int) (r2 : Int) (r3 : List (List (S52))) (w : World) (hs0_2 : Kd.V (Kd.slice 52 k52) 53 w w.heap.size (fun k_ => P0_2_ k_) (.slice A0_2 l0_2.length c0_2) l0_2) (h : loop_sided.f k a0_0 a0_1 l0_2 a1 = some (r1, r2, r3)) :
  Calls Try.prog 22 #[.agg #[.int .i64 a0_0, .int .i64 a0_1, .slice A0_2 l0_2.length c0_2], .bool a1] w fun e w' => ∃ v2_ : Value, e = .returned (.agg #[.int .i64 r1, .int .i64 r2, v2_]) ∧ Kd.V (Kd.slice 52 k52) 53 w' w.heap.size (fun k_ => (P0_2_ k_ ∨ w.heap.size ≤ k_)) v2_ r3 ∧ Below w.heap.size w w' := by
 have hu24 := Try.underlying24
 have HO0_2 := A_ (show Kd.V (Kd.slice 52 k52) 53 w w.heap.size (fun k_ => (P0_2_ k_ ∨ w.heap.size ≤ k_)) (.slice A0_2 l0_2.length c0_2) l0_2 from Kd.V_mono hs0_2 (fun k_ hk => .inl hk))
 have HB := A_ (Below.refl w.heap.size w)
 have H : (if a1 = true then (some (a0_0, a0_1, l0_2)) else ((tape_Mirror.f k a0_0 a0_1 l0_2).bind fun bt120 => (some (bt120.1, bt120.2.1, bt120.2.2.1)))) = some (r1, r2, r3) := h
 clear h
 by_cases c3 : a1 = true
 ·subst c3
  have H1 : (some (a0_0, a0_1, l0_2)) = some (r1, r2, r3) := by rw [if_pos rfl] at H; exact H
  clear H
  have H := H1
  clear H1
  simp only [Option.some.injEq, Prod.mk.injEq] at H
  obtain ⟨rfl, rfl, rfl⟩ := H
  go_enter Try.func22, Try.ntmps22
  go_wp2_with (first | ((with_reducible refine gate_dst (N := 2) rfl ?_); refine box_event ?hg (N := 2) ?hd (cs := #[.int .i64 a0_0, .int .i64 a0_1, .slice A0_2 l0_2.length c0_2]) (t := 24) ?hr ?_; (case hd => rfl); (case hg => rfl); (case hr => first | (go_simp; done) | (go_simp; rfl)); intro gb118 hg w4 hbox hb; have n0_ := A_ (Kd.V_below (Kd.V_elderB (by (with_reducible repeat (first | apply Kd.V_alloc | apply Kd.V_drewN | apply Kd.V_drew)); exact HO0_2.out) gb118 (Nat.le_of_eq hg.symm)) hb); have n1_ := A_ (below_step (bk_ HB.out) hb); have n2_ := A_ (hbox); have n3_ := A_ ((by rw [hg]; exact (below_size (bk_ HB.out)) : w.heap.size ≤ gb118)); have n4_ := A_ ((by rw [hg]; exact (below_size (bk_ HB.out)) : w.heap.size ≤ gb118)); clear HO0_2 HB; have HO0_2 := n0_; have HB := n1_; have BK118 := n2_; have GW118 := n3_; have GE118 := n4_; clear n0_ n1_ n2_ n3_ n4_ hb hbox hg) | ((with_reducible refine gate_dst (N := 4) rfl ?_); refine box_event ?hg (N := 4) ?hd (cs := #[.int .i64 0, .int .i64 0, .slice none 0 0]) (t := 24) ?hr ?_; (case hd => rfl); (case hg => rfl); (case hr => first | (go_simp; done) | (go_simp; rfl)); intro gb119 hg w5 hbox hb; have n0_ := A_ (Kd.V_below (Kd.V_elderB (by (with_reducible repeat (first | apply Kd.V_alloc | apply Kd.V_drewN | apply Kd.V_drew)); exact HO0_2.out) gb119 (Nat.le_of_eq hg.symm)) hb); have n1_ := A_ (blk_below (pk_ BK118.out) hb); have n2_ := A_ (below_step (bk_ HB.out) hb); have n3_ := A_ (hbox); have n4_ := A_ ((by rw [hg]; exact (below_size (bk_ HB.out)) : w.heap.size ≤ gb119)); have n5_ := A_ ((by rw [hg]; exact (below_size (bk_ HB.out)) : w.heap.size ≤ gb119)); have n6_ := A_ ((by rw [hg]; exact Nat.ne_of_lt (blk_lt (pk_ BK118.out)) : gb118 ≠ gb119)); have n7_ := A_ ((by rw [hg]; exact Nat.ne_of_gt (blk_lt (pk_ BK118.out)) : gb119 ≠ gb118)); clear HO0_2 BK118 HB; have HO0_2 := n0_; have BK118 := n1_; have HB := n2_; have BK119 := n3_; have GW119 := n4_; have GE119 := n5_; have NB118_119 := n6_; have NB119_118 := n7_; clear n0_ n1_ n2_ n3_ n4_ n5_ n6_ n7_ hb hbox hg; have hnb6 := NB118_119.out; have hnc6 := NB119_118.out; have hcz7_0 : w5.cell? ⟨gb118, 0, none⟩ = some (.int .i64 a0_0) := (blk_cell BK118.out 0).trans rfl; have hcz7_1 : w5.cell? ⟨gb118, 1, none⟩ = some (.int .i64 a0_1) := (blk_cell BK118.out 1).trans rfl; have hcz7_2 : w5.cell? ⟨gb118, 2, none⟩ = some (.slice A0_2 l0_2.length c0_2) := (blk_cell BK118.out 2).trans rfl; have hfz7_0 := blk_frozen BK118.out 0; have hfz7_1 := blk_frozen BK118.out 1; have hfz7_2 := blk_frozen BK118.out 2; have hcz8_0 : w5.cell? ⟨gb119, 0, none⟩ = some (.int .i64 0) := (blk_cell BK119.out 0).trans rfl; have hcz8_1 : w5.cell? ⟨gb119, 1, none⟩ = some (.int .i64 0) := (blk_cell BK119.out 1).trans rfl; have hcz8_2 : w5.cell? ⟨gb119, 2, none⟩ = some (.slice none 0 0) := (blk_cell BK119.out 2).trans rfl; have hfz8_0 := blk_frozen BK119.out 0; have hfz8_1 := blk_frozen BK119.out 1; have hfz8_2 := blk_frozen BK119.out 2))
  refine bodyPost_ret (results_cell_row rfl _ _ gb119 24 #[.int .i64 a0_0, .int .i64 a0_1, .slice A0_2 l0_2.length c0_2] (0, 0) _ rfl (by refine pk_ ?_; refine blk_put (cs := #[.int .i64 a0_0, .int .i64 a0_1, .slice none 0 0]) ?_ 2 _ rfl; refine pk_ ?_; refine blk_put (cs := #[.int .i64 a0_0, .int .i64 0, .slice none 0 0]) ?_ 1 _ rfl; refine pk_ ?_; refine blk_put (cs := #[.int .i64 0, .int .i64 0, .slice none 0 0]) ?_ 0 _ rfl; exact pk_ BK119.out) Try.underlying24 rfl (by kernel_rfl)) rfl ?_
  exact ⟨_, er_, by (with_reducible repeat (first | apply Kd.V_alloc | apply Kd.V_drewN | apply Kd.V_drew)); exact Kd.V_mono (Kd.V_far (p := ⟨gb119, 2, none⟩) (Kd.V_far (p := ⟨gb119, 1, none⟩) (Kd.V_far (p := ⟨gb119, 0, none⟩) (Kd.V_mono HO0_2.out (fun k_ hk => (⟨hk, hk.2⟩ : _ ∧ k_ ≠ gb119))) (fun _ hk => hk.2) (.int .i64 a0_0)) (fun _ hk => hk.2) (.int .i64 a0_1)) (fun _ hk => hk.2) (.slice A0_2 l0_2.length c0_2)) (fun _ hk => hk.1.1.1), bk_ HB.out⟩
 ·replace c3 := Bool.eq_false_iff.mpr c3
  subst c3
  have H1 : ((tape_Mirror.f k a0_0 a0_1 l0_2).bind fun bt120 => (some (bt120.1, bt120.2.1, bt120.2.2.1))) = some (r1, r2, r3) := by rw [if_neg (show ¬ (false = true) by decide)] at H; exact H
  clear H
  have H := H1
  clear H1
  replace H := Option.bind_eq_some_iff.mp H
  obtain ⟨⟨t120, t121, t122, t125⟩, A90, H⟩ := H
  replace H : (some (t120, t121, t122)) = some (r1, r2, r3) := H
  have A9 := Aside0.mk A90
  clear A90
  simp only [Option.some.injEq, Prod.mk.injEq] at H
  obtain ⟨rfl, rfl, rfl⟩ := H
  go_enter Try.func22, Try.ntmps22
  go_wp2_with (first | ((with_reducible refine gate_dst (N := 2) rfl ?_); refine box_event ?hg (N := 2) ?hd (cs := #[.int .i64 a0_0, .int .i64 a0_1, .slice A0_2 l0_2.length c0_2]) (t := 24) ?hr ?_; (case hd => rfl); (case hg => rfl); (case hr => first | (go_simp; done) | (go_simp; rfl)); intro gb118 hg w10 hbox hb; have n0_ := A_ (Kd.V_below (Kd.V_elderB (by (with_reducible repeat (first | apply Kd.V_alloc | apply Kd.V_drewN | apply Kd.V_drew)); exact HO0_2.out) gb118 (Nat.le_of_eq hg.symm)) hb); have n1_ := A_ (below_step (bk_ HB.out) hb); have n2_ := A_ (hbox); have n3_ := A_ ((by rw [hg]; exact (below_size (bk_ HB.out)) : w.heap.size ≤ gb118)); have n4_ := A_ ((by rw [hg]; exact (below_size (bk_ HB.out)) : w.heap.size ≤ gb118)); clear HO0_2 HB; have HO0_2 := n0_; have HB := n1_; have BK118 := n2_; have GW118 := n3_; have GE118 := n4_; clear n0_ n1_ n2_ n3_ n4_ hb hbox hg) | ((with_reducible refine gate_dst (N := 4) rfl ?_); refine box_event ?hg (N := 4) ?hd (cs := #[.int .i64 0, .int .i64 0, .slice none 0 0]) (t := 24) ?hr ?_; (case hd => rfl); (case hg => rfl); (case hr => first | (go_simp; done) | (go_simp; rfl)); intro gb119 hg w11 hbox hb; have n0_ := A_ (Kd.V_below (Kd.V_elderB (by (with_reducible repeat (first | apply Kd.V_alloc | apply Kd.V_drewN | apply Kd.V_drew)); exact HO0_2.out) gb119 (Nat.le_of_eq hg.symm)) hb); have n1_ := A_ (blk_below (pk_ BK118.out) hb); have n2_ := A_ (below_step (bk_ HB.out) hb); have n3_ := A_ (hbox); have n4_ := A_ ((by rw [hg]; exact (below_size (bk_ HB.out)) : w.heap.size ≤ gb119)); have n5_ := A_ ((by rw [hg]; exact (below_size (bk_ HB.out)) : w.heap.size ≤ gb119)); have n6_ := A_ ((by rw [hg]; exact Nat.ne_of_lt (blk_lt (pk_ BK118.out)) : gb118 ≠ gb119)); have n7_ := A_ ((by rw [hg]; exact Nat.ne_of_gt (blk_lt (pk_ BK118.out)) : gb119 ≠ gb118)); clear HO0_2 BK118 HB; have HO0_2 := n0_; have BK118 := n1_; have HB := n2_; have BK119 := n3_; have GW119 := n4_; have GE119 := n5_; have NB118_119 := n6_; have NB119_118 := n7_; clear n0_ n1_ n2_ n3_ n4_ n5_ n6_ n7_ hb hbox hg; have hnb12 := NB118_119.out; have hnc12 := NB119_118.out; have hcz13_0 : w11.cell? ⟨gb118, 0, none⟩ = some (.int .i64 a0_0) := (blk_cell BK118.out 0).trans rfl; have hcz13_1 : w11.cell? ⟨gb118, 1, none⟩ = some (.int .i64 a0_1) := (blk_cell BK118.out 1).trans rfl; have hcz13_2 : w11.cell? ⟨gb118, 2, none⟩ = some (.slice A0_2 l0_2.length c0_2) := (blk_cell BK118.out 2).trans rfl; have hfz13_0 := blk_frozen BK118.out 0; have hfz13_1 := blk_frozen BK118.out 1; have hfz13_2 := blk_frozen BK118.out 2) | ((with_reducible refine gate_callee (f := 32) rfl ?_); refine goesL_ (some 9) rfl rfl Try.func32 (by kernel_rfl) rfl #[.agg #[.int .i64 a0_0, .int .i64 a0_1, .slice A0_2 l0_2.length c0_2]] rfl gl_ ?_; (with_reducible refine (tape_Mirror.calls k a0_0 a0_1 _ _ l0_2 t120 t121 t122 t125 _ ?side1 ?side2 A9.out).mono ?_); (case side1 => repeat (first | exact (Kd.V_reads' HO0_2.out).2.2 | (with_reducible refine Kd.C_alloc ?_ _) | (with_reducible refine Kd.C_drewN ?_ _) | (with_reducible refine Kd.C_drew ?_))); (case side2 => exact (Kd.V_reads' HO0_2.out).2.1); rintro e w14 ⟨v123, rfl, ho0, hb⟩; refine ⟨_, rfl, ?_⟩; have n0_ := A_ (Kd.V_elder' (by (with_reducible repeat (first | apply Kd.V_alloc | apply Kd.V_drewN | apply Kd.V_drew)); exact HO0_2.out) (Kd.S_base ho0) hb); have n1_ := A_ (Kd.S_lower (Kd.S_newM (M := fun k_ => (w.heap.size ≤ k_)) ho0 (below_size (bk_ HB.out)) (fun k_ h_ => h_)) (below_size (bk_ HB.out))); have n2_ := A_ (blk_below (pk_ BK118.out) hb); have n3_ := A_ (blk_below (pk_ BK119.out) hb); have n4_ := A_ (below_step (bk_ HB.out) hb); clear HO0_2 BK118 BK119 HB; have HO0_2 := n0_; have HO124 := n1_; have BK118 := n2_; have BK119 := n3_; have HB := n4_; clear n0_ n1_ n2_ n3_ n4_; (try clear hb); (try clear hb2); (try clear hk); (try clear hi); (try clear ho0); have hcz15_0 : w14.cell? ⟨gb118, 0, none⟩ = some (.int .i64 a0_0) := (blk_cell BK118.out 0).trans rfl; have hcz15_1 : w14.cell? ⟨gb118, 1, none⟩ = some (.int .i64 a0_1) := (blk_cell BK118.out 1).trans rfl; have hcz15_2 : w14.cell? ⟨gb118, 2, none⟩ = some (.slice A0_2 l0_2.length c0_2) := (blk_cell BK118.out 2).trans rfl; have hfz15_0 := blk_frozen BK118.out 0; have hfz15_1 := blk_frozen BK118.out 1; have hfz15_2 := blk_frozen BK118.out 2; obtain ⟨Ao16, co16, eo16⟩ := Kd.S_slice HO124.out; subst eo16; have hcz17_0 : w14.cell? ⟨gb119, 0, none⟩ = some (.int .i64 0) := (blk_cell BK119.out 0).trans rfl; have hcz17_1 : w14.cell? ⟨gb119, 1, none⟩ = some (.int .i64 0) := (blk_cell BK119.out 1).trans rfl; have hcz17_2 : w14.cell? ⟨gb119, 2, none⟩ = some (.slice none 0 0) := (blk_cell BK119.out 2).trans rfl; have hfz17_0 := blk_frozen BK119.out 0; have hfz17_1 := blk_frozen BK119.out 1; have hfz17_2 := blk_frozen BK119.out 2))
  refine bodyPost_ret (results_cell_row rfl _ _ gb119 24 #[.int .i64 t120, .int .i64 t121, .slice Ao16 t122.length co16] (0, 0) _ rfl (by refine pk_ ?_; refine blk_put (cs := #[.int .i64 t120, .int .i64 t121, .slice none 0 0]) ?_ 2 _ rfl; refine pk_ ?_; refine blk_put (cs := #[.int .i64 t120, .int .i64 0, .slice none 0 0]) ?_ 1 _ rfl; refine pk_ ?_; refine blk_put (cs := #[.int .i64 0, .int .i64 0, .slice none 0 0]) ?_ 0 _ rfl; refine pk_ ?_; refine blk_far ?_ NB119_118.out _; refine pk_ ?_; refine blk_far ?_ NB119_118.out _; refine pk_ ?_; refine blk_far ?_ NB119_118.out _; exact pk_ BK119.out) Try.underlying24 rfl (by kernel_rfl)) rfl ?_
  exact ⟨_, er_, Kd.V_mono (Kd.S_V (by (with_reducible repeat (first | apply Kd.S_alloc | apply Kd.S_drewN | apply Kd.S_drew)); exact Kd.S_mono (Kd.S_far (p := ⟨gb119, 2, none⟩) (Kd.S_far (p := ⟨gb119, 1, none⟩) (Kd.S_far (p := ⟨gb119, 0, none⟩) (Kd.S_far (p := ⟨gb118, 2, none⟩) (Kd.S_far (p := ⟨gb118, 1, none⟩) (Kd.S_far (p := ⟨gb118, 0, none⟩) (Kd.S_types (Kd.S_types HO124.out BK118.out (by decide)) BK119.out (by decide)) (fun _ hk => hk.1.2) (.int .i64 t120)) (fun _ hk => hk.1.2) (.int .i64 t121)) (fun _ hk => hk.1.2) (.slice Ao16 t122.length co16)) (fun _ hk => hk.2) (.int .i64 t120)) (fun _ hk => hk.2) (.int .i64 t121)) (fun _ hk => hk.2) (.slice Ao16 t122.length co16)) (fun _ hk => hk.1.1.1))) (fun k_ hk => by first | exact ⟨(.inr (hk.1)), hk.2⟩ | exact (.inr (hk))), bk_ HB.out⟩

/-! ### loop_Check: function 10 -/
def loop_Check.j0 : Nat → Int → Int → Bool → Bool → Int → Int → List (List (S52)) → Option (Bool × Int)
 | 0, _, _, _, _, _, _, _ => none
 | k + 1, x1, x2, x3, x23, x127000, x127001, x127002 => if x23 = true then (some (false, 2)) else ((loop_sided.f k x127000 x127001 x127002 x3).bind fun bt128 => ((loop_right.f bt128.1 bt128.2.1 bt128.2.2 x1 x2).bind fun t133 => (some (t133, 0))))
def loop_Check.f (k : Nat) (a0_0 : Int) (a0_1 : Int) (l0_2 : List (List (S52))) (a1 : Int) (a2 : Int) (a3 : Bool) : Option (Bool × Int) := (tape_Valid.f k a0_0 a0_1 l0_2).bind fun t127 => (if t127 = true then (if a1 < 0 then (loop_Check.j0 k a1 a2 a3 true a0_0 a0_1 l0_2) else (if a1 ≥ a2 then (loop_Check.j0 k a1 a2 a3 true a0_0 a0_1 l0_2) else (loop_Check.j0 k a1 a2 a3 (decide (a2 > 1000000)) a0_0 a0_1 l0_2))) else (some (false, 1)))
theorem loop_Check.mono_l : ∀ k, (∀ y0 y1 y2 y3 y4 y5 y6, LeO (loop_Check.j0 k y0 y1 y2 y3 y4 y5 y6) (loop_Check.j0 (k + 1) y0 y1 y2 y3 y4 y5 y6))
 | 0 => fun _ _ _ _ _ _ _ r h => by simp [loop_Check.j0] at h
 | k + 1 => by
  have ih0 := loop_Check.mono_l k
  ·intro y0 y1 y2 y3 y4 y5 y6
   unfold loop_Check.j0
   repeat' first
   | (with_reducible exact ih0 _ _ _ _ _ _ _)
   | (with_reducible exact loop_sided.mono _ _ _ _ _)
   | (with_reducible exact tape_Valid.mono _ _ _ _)
   | (with_reducible exact LeO.refl _)
   | (with_reducible exact LeO.none _)
   | (with_reducible refine LeO.ite ?_ ?_)
   | (with_reducible refine LeO.bind ?_ (fun _ => ?_))
   | exact ih0 _ _ _ _ _ _ _
   | exact loop_sided.mono _ _ _ _ _
   | exact tape_Valid.mono _ _ _ _
   | exact LeO.none _
   | refine LeO.ite ?_ ?_
   | refine LeO.bind ?_ (fun _ => ?_)
theorem loop_Check.mono : ∀ a0 a1 a2 a3 a4 a5 k, LeO (loop_Check.f k a0 a1 a2 a3 a4 a5) (loop_Check.f (k + 1) a0 a1 a2 a3 a4 a5) := by
 intro a0 a1 a2 a3 a4 a5 k
 have ih0 := loop_Check.mono_l k
 unfold loop_Check.f
 repeat' first
   | (with_reducible exact ih0 _ _ _ _ _ _ _)
   | (with_reducible exact loop_sided.mono _ _ _ _ _)
   | (with_reducible exact tape_Valid.mono _ _ _ _)
   | (with_reducible exact LeO.refl _)
   | (with_reducible exact LeO.none _)
   | (with_reducible refine LeO.ite ?_ ?_)
   | (with_reducible refine LeO.bind ?_ (fun _ => ?_))
   | exact ih0 _ _ _ _ _ _ _
   | exact loop_sided.mono _ _ _ _ _
   | exact tape_Valid.mono _ _ _ _
   | exact LeO.none _
   | refine LeO.ite ?_ ?_
   | refine LeO.bind ?_ (fun _ => ?_)
set_option maxHeartbeats 8000000 in
set_option maxRecDepth 100000 in
theorem loop_Check.calls (k : Nat) (a0_0 : Int) (a0_1 : Int) (A0_2 : Option Addr) (c0_2 : Nat) (l0_2 : List (List (S52))) (a1 : Int) (a2 : Int) (a3 : Bool) (r1 : Bool) (r2 : Int) (w : World) (hr0_2 : Kd.C (Kd.slice 52 k52) w A0_2 l0_2.length l0_2) (hc0_2 : l0_2.length ≤ c0_2) (h : loop_Check.f k a0_0 a0_1 l0_2 a1 a2 a3 = some (r1, r2)) :
  Calls Try.prog 10 #[.agg #[.int .i64 a0_0, .int .i64 a0_1, .slice A0_2 l0_2.length c0_2], .int .i64 a1, .int .i64 a2, .bool a3] w fun e w' => e = .returned (.tuple #[.bool r1, .int .i64 r2]) ∧ Below w.heap.size w w' := by
 have hu24 := Try.underlying24
 have HR0_2 := Aside0.mk hr0_2
 have HC0_2 := Aside0.mk hc0_2
 clear hr0_2 hc0_2
 have HB := A_ (Below.refl w.heap.size w)
 have H : ((tape_Valid.f k a0_0 a0_1 l0_2).bind fun t127 => (if t127 = true then (if a1 < 0 then (loop_Check.j0 k a1 a2 a3 true a0_0 a0_1 l0_2) else (if a1 ≥ a2 then (loop_Check.j0 k a1 a2 a3 true a0_0 a0_1 l0_2) else (loop_Check.j0 k a1 a2 a3 (decide (a2 > 1000000)) a0_0 a0_1 l0_2))) else (some (false, 1)))) = some (r1, r2) := h
 clear h
 replace H := Option.bind_eq_some_iff.mp H
 obtain ⟨t127, A50, H⟩ := H
 replace H : (if t127 = true then (if a1 < 0 then (loop_Check.j0 k a1 a2 a3 true a0_0 a0_1 l0_2) else (if a1 ≥ a2 then (loop_Check.j0 k a1 a2 a3 true a0_0 a0_1 l0_2) else (loop_Check.j0 k a1 a2 a3 (decide (a2 > 1000000)) a0_0 a0_1 l0_2))) else (some (false, 1))) = some (r1, r2) := H
 have A5 := Aside0.mk A50
 clear A50
 by_cases c6 : t127 = true
 ·subst c6
  have H1 : (if a1 < 0 then (loop_Check.j0 k a1 a2 a3 true a0_0 a0_1 l0_2) else (if a1 ≥ a2 then (loop_Check.j0 k a1 a2 a3 true a0_0 a0_1 l0_2) else (loop_Check.j0 k a1 a2 a3 (decide (a2 > 1000000)) a0_0 a0_1 l0_2))) = some (r1, r2) := by rw [if_pos rfl] at H; exact H
  clear H
  have H := H1
  clear H1
  have HC7 := Aside0.mk H
  clear H
  go_enter Try.func10, Try.ntmps10
  go_upto_region 3 with (first | ((with_reducible refine gate_dst (N := 4) rfl ?_); refine box_event ?hg (N := 4) ?hd (cs := #[.int .i64 a0_0, .int .i64 a0_1, .slice A0_2 l0_2.length c0_2]) (t := 24) ?hr ?_; (case hd => rfl); (case hg => rfl); (case hr => first | (go_simp; done) | (go_simp; rfl)); intro gb126 hg w8 hbox hb; have n0_ := A_ (below_step (bk_ HB.out) hb); have n1_ := A_ (hbox); have n2_ := A_ ((by rw [hg]; exact (below_size (bk_ HB.out)) : w.heap.size ≤ gb126)); have n3_ := A_ ((by rw [hg]; exact (below_size (bk_ HB.out)) : w.heap.size ≤ gb126)); clear HB; have HB := n0_; have BK126 := n1_; have GW126 := n2_; have GE126 := n3_; clear n0_ n1_ n2_ n3_ hb hbox hg; have hcz9_0 : w8.cell? ⟨gb126, 0, none⟩ = some (.int .i64 a0_0) := (blk_cell BK126.out 0).trans rfl; have hcz9_1 : w8.cell? ⟨gb126, 1, none⟩ = some (.int .i64 a0_1) := (blk_cell BK126.out 1).trans rfl; have hcz9_2 : w8.cell? ⟨gb126, 2, none⟩ = some (.slice A0_2 l0_2.length c0_2) := (blk_cell BK126.out 2).trans rfl; have hfz9_0 := blk_frozen BK126.out 0; have hfz9_1 := blk_frozen BK126.out 1; have hfz9_2 := blk_frozen BK126.out 2) | ((with_reducible refine gate_callee (f := 20) rfl ?_); refine goesL_ (some 11) rfl rfl Try.func20 (by kernel_rfl) rfl #[.agg #[.int .i64 a0_0, .int .i64 a0_1, .slice A0_2 l0_2.length c0_2]] rfl gl_ ?_; (with_reducible refine (tape_Valid.calls k a0_0 a0_1 _ _ l0_2 true _ ?side1 ?side2 A5.out).mono ?_); (case side1 => exact ck_ (Kd.C_below HR0_2.out HB.out)); (case side2 => exact HC0_2.out); rintro e w10 ⟨rfl, hb⟩; refine ⟨_, rfl, ?_⟩; have n0_ := A_ (blk_below (pk_ BK126.out) hb); have n1_ := A_ (below_step (bk_ HB.out) hb); clear BK126 HB; have BK126 := n0_; have HB := n1_; clear n0_ n1_; (try clear hb); (try clear hb2); (try clear hk); (try clear hi)))
  (try simp only [Act.put, List.setIfInBounds_toArray, List.set_cons_zero, List.set_cons_succ])
  go_cut [23] (fun v23 wc => ∃ (kq : Nat) (x23_6 : Bool), v23 = .bool x23_6 ∧ Aside0 (loop_Check.j0 kq a1 a2 a3 x23_6 a0_0 a0_1 l0_2 = some (r1, r2)) ∧ Aside0 (kq ≤ k) ∧ Aside0 (wc.heap[gb126]? = some (.cells #[.int .i64 a0_0, .int .i64 a0_1, (.slice A0_2 l0_2.length c0_2)] 24 (0, 0))) ∧ Aside0 (Below w.heap.size w wc))
  case first =>
   have H := HC7.out
   clear HC7
   by_cases c11 : a1 < 0
   ·rw [if_pos c11] at H
    have c11b0 : decide (a1 < 0) = true := decide_eq_true c11
    clear c11
    (first | rw [c11b0] | (simp only [i64_w, i32_w]; rw [c11b0]) | skip)
    have H' := Aside0.mk H
    clear H
    go_wp2
    go_meet
    case rel => exact ⟨_, (true), jr_, H', ⟨by first | omega | exact Nat.le_refl _⟩, ⟨pk_ BK126.out⟩, ⟨bk_ HB.out⟩⟩
   ·rw [if_neg c11] at H
    have c11b0 : decide (a1 < 0) = false := decide_eq_false c11
    clear c11
    (first | rw [c11b0] | (simp only [i64_w, i32_w]; rw [c11b0]) | skip)
    by_cases c12 : a1 ≥ a2
    ·rw [if_pos c12] at H
     have c12b0 : decide (a2 ≤ a1) = true := decide_eq_true c12
     clear c12
     have H' := Aside0.mk H
     clear H
     go_wp2
     go_meet
     case rel => exact ⟨_, (true), jr_, H', ⟨by first | omega | exact Nat.le_refl _⟩, ⟨pk_ BK126.out⟩, ⟨bk_ HB.out⟩⟩
    ·rw [if_neg c12] at H
     have c12b0 : decide (a2 ≤ a1) = false := decide_eq_false c12
     clear c12
     have H' := Aside0.mk H
     clear H
     go_wp2
     go_meet
     case rel => exact ⟨_, (decide (a2 > 1000000)), jr_, H', ⟨by first | omega | exact Nat.le_refl _⟩, ⟨pk_ BK126.out⟩, ⟨bk_ HB.out⟩⟩
  case rest =>
   clear HC7
   (try clear c6); (try clear hcz9_0); (try clear hcz9_1); (try clear hcz9_2); (try clear hfz9_0); (try clear hfz9_1); (try clear hfz9_2)
   obtain ⟨kq, x23_6, rfl, HA, HJ6, BK126, HB⟩ := hcut
   cases kq with
   | zero => exact absurd HA.out (by simp [loop_Check.j0])
   | succ kj6 =>
    have H := HA.out
    clear HA
    simp only [loop_Check.j0] at H
    by_cases c13 : x23_6 = true
    ·subst c13
     have H1 : (some (false, 2)) = some (r1, r2) := by rw [if_pos rfl] at H; exact H
     clear H
     have H := H1
     clear H1
     simp only [Option.some.injEq, Prod.mk.injEq] at H
     obtain ⟨rfl, rfl⟩ := H
     go_wp2
     go_ret2
     exact ⟨er_, bk_ HB.out⟩
    ·replace c13 := Bool.eq_false_iff.mpr c13
     subst c13
     have H1 : ((loop_sided.f kj6 a0_0 a0_1 l0_2 a3).bind fun bt128 => ((loop_right.f bt128.1 bt128.2.1 bt128.2.2 a1 a2).bind fun t133 => (some (t133, 0)))) = some (r1, r2) := by rw [if_neg (show ¬ (false = true) by decide)] at H; exact H
     clear H
     have H := H1
     clear H1
     replace H := Option.bind_eq_some_iff.mp H
     obtain ⟨⟨t128, t129, t130⟩, A140, H⟩ := H
     replace H : ((loop_right.f t128 t129 t130 a1 a2).bind fun t133 => (some (t133, 0))) = some (r1, r2) := H
     have A14 := Aside0.mk A140
     clear A140
     replace H := Option.bind_eq_some_iff.mp H
     obtain ⟨t133, A150, H⟩ := H
     replace H : (some (t133, 0)) = some (r1, r2) := H
     have A15 := Aside0.mk A150
     clear A150
     simp only [Option.some.injEq, Prod.mk.injEq] at H
     obtain ⟨rfl, rfl⟩ := H
     have hcz16_0 : wc.cell? ⟨gb126, 0, none⟩ = some (.int .i64 a0_0) := (blk_cell BK126.out 0).trans rfl
     have hcz16_1 : wc.cell? ⟨gb126, 1, none⟩ = some (.int .i64 a0_1) := (blk_cell BK126.out 1).trans rfl
     have hcz16_2 : wc.cell? ⟨gb126, 2, none⟩ = some (.slice A0_2 l0_2.length c0_2) := (blk_cell BK126.out 2).trans rfl
     have hfz16_0 := blk_frozen BK126.out 0
     have hfz16_1 := blk_frozen BK126.out 1
     have hfz16_2 := blk_frozen BK126.out 2
     go_wp2_with (first | ((with_reducible refine gate_callee (f := 22) rfl ?_); refine goesL_ (some 26) rfl rfl Try.func22 (by kernel_rfl) rfl #[.agg #[.int .i64 a0_0, .int .i64 a0_1, .slice A0_2 l0_2.length c0_2], .bool a3] rfl gl_ ?_; (with_reducible refine (loop_sided.calls kj6 a0_0 a0_1 (fun k_ => k_ < w.heap.size) _ _ l0_2 a3 t128 t129 t130 _ ?side1 A14.out).mono ?_); (case side1 => exact Kd.V_mk HC0_2.out (Kd.F_below (Kd.C_F (Kd.heap_slice 52 k52_heap) HR0_2.out) (bk_ HB.out))); rintro e w17 ⟨v131, rfl, ho0, hb⟩; refine ⟨_, rfl, ?_⟩; have n0_ := A_ (Kd.V_lower (Kd.V_mono (ok' := fun k_ => k_ ≠ gb126) ho0 (fun k_ hk_ => Or.elim hk_ (fun hs_ => fun e_ => Nat.not_le.2 hs_ (by rw [e_]; exact GW126.out)) (fun hn_ => (Kd.freshB (g := gb126) (o := .cells #[.int .i64 a0_0, .int .i64 a0_1, .slice A0_2 l0_2.length c0_2] 24 (0, 0)) (pk_ BK126.out) k_ hn_)))) (below_size (bk_ HB.out))); have n1_ := A_ (blk_below (pk_ BK126.out) hb); have n2_ := A_ (below_step (bk_ HB.out) hb); clear BK126 HB; have HO132 := n0_; have BK126 := n1_; have HB := n2_; clear n0_ n1_ n2_; (try clear hb); (try clear hb2); (try clear hk); (try clear hi); (try clear ho0); obtain ⟨Ao18, co18, eo18⟩ := Kd.V_slice HO132.out; subst eo18) | ((with_reducible refine gate_callee (f := 21) rfl ?_); refine goesL_ (some 29) rfl rfl Try.func21 (by kernel_rfl) rfl #[.agg #[.int .i64 t128, .int .i64 t129, .slice Ao18 t130.length co18], .int .i64 a1, .int .i64 a2] rfl gl_ ?_; (with_reducible refine (loop_right.calls t128 t129 _ _ t130 a1 a2 t133 _ ?side1 ?side2 A15.out).mono ?_); (case side1 => repeat (first | exact (Kd.V_reads' HO132.out).2.2 | (with_reducible refine Kd.C_alloc ?_ _) | (with_reducible refine Kd.C_drewN ?_ _) | (with_reducible refine Kd.C_drew ?_))); (case side2 => exact (Kd.V_reads' HO132.out).2.1); rintro e w19 ⟨rfl, hb⟩; refine ⟨_, rfl, ?_⟩; have n0_ := A_ (Kd.V_below (by (with_reducible repeat (first | apply Kd.V_alloc | apply Kd.V_drewN | apply Kd.V_drew)); exact HO132.out) hb); have n1_ := A_ (blk_below (pk_ BK126.out) hb); have n2_ := A_ (below_step (bk_ HB.out) hb); clear HO132 BK126 HB; have HO132 := n0_; have BK126 := n1_; have HB := n2_; clear n0_ n1_ n2_; (try clear hb); (try clear hb2); (try clear hk); (try clear hi)))
     go_ret2
     exact ⟨er_, bk_ HB.out⟩
 ·replace c6 := Bool.eq_false_iff.mpr c6
  subst c6
  have H1 : (some (false, 1)) = some (r1, r2) := by rw [if_neg (show ¬ (false = true) by decide)] at H; exact H
  clear H
  have H := H1
  clear H1
  simp only [Option.some.injEq, Prod.mk.injEq] at H
  obtain ⟨rfl, rfl⟩ := H
  go_enter Try.func10, Try.ntmps10
  go_wp2_with (first | ((with_reducible refine gate_dst (N := 4) rfl ?_); refine box_event ?hg (N := 4) ?hd (cs := #[.int .i64 a0_0, .int .i64 a0_1, .slice A0_2 l0_2.length c0_2]) (t := 24) ?hr ?_; (case hd => rfl); (case hg => rfl); (case hr => first | (go_simp; done) | (go_simp; rfl)); intro gb126 hg w20 hbox hb; have n0_ := A_ (below_step (bk_ HB.out) hb); have n1_ := A_ (hbox); have n2_ := A_ ((by rw [hg]; exact (below_size (bk_ HB.out)) : w.heap.size ≤ gb126)); have n3_ := A_ ((by rw [hg]; exact (below_size (bk_ HB.out)) : w.heap.size ≤ gb126)); clear HB; have HB := n0_; have BK126 := n1_; have GW126 := n2_; have GE126 := n3_; clear n0_ n1_ n2_ n3_ hb hbox hg; have hcz21_0 : w20.cell? ⟨gb126, 0, none⟩ = some (.int .i64 a0_0) := (blk_cell BK126.out 0).trans rfl; have hcz21_1 : w20.cell? ⟨gb126, 1, none⟩ = some (.int .i64 a0_1) := (blk_cell BK126.out 1).trans rfl; have hcz21_2 : w20.cell? ⟨gb126, 2, none⟩ = some (.slice A0_2 l0_2.length c0_2) := (blk_cell BK126.out 2).trans rfl; have hfz21_0 := blk_frozen BK126.out 0; have hfz21_1 := blk_frozen BK126.out 1; have hfz21_2 := blk_frozen BK126.out 2) | ((with_reducible refine gate_callee (f := 20) rfl ?_); refine goesL_ (some 11) rfl rfl Try.func20 (by kernel_rfl) rfl #[.agg #[.int .i64 a0_0, .int .i64 a0_1, .slice A0_2 l0_2.length c0_2]] rfl gl_ ?_; (with_reducible refine (tape_Valid.calls k a0_0 a0_1 _ _ l0_2 false _ ?side1 ?side2 A5.out).mono ?_); (case side1 => exact ck_ (Kd.C_below HR0_2.out HB.out)); (case side2 => exact HC0_2.out); rintro e w22 ⟨rfl, hb⟩; refine ⟨_, rfl, ?_⟩; have n0_ := A_ (blk_below (pk_ BK126.out) hb); have n1_ := A_ (below_step (bk_ HB.out) hb); clear BK126 HB; have BK126 := n0_; have HB := n1_; clear n0_ n1_; (try clear hb); (try clear hb2); (try clear hk); (try clear hi)))
  go_ret2
  exact ⟨er_, bk_ HB.out⟩

end Go.Proofs.Ytngmdidegmbpfaa.PLoopAfter
