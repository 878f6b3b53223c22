-- out of a turned copy of the print, by a program of this session; Lean checks it
import Derived.Test.YtkekehpfkfadfaaPCounterJoinsx0
import Derived.Test.YtkekehpfkfadfaaPCounterJoinsx2
import Derived.Test.YtkekehpfkfadfaaPCounterJoinsx4
import Derived.Test.YtkekehpfkfadfaaPCounterJoinsx5
import Derived.Test.YtkekehpfkfadfaaPCounterJoinsx6
import Derived.Test.YtkekehpfkfadfaaPCounterJoinsx7
namespace Go.Proofs.Ytkekehpfkfadfaa.PCounterJoins
open Go.RowKit Go.Proofs.YtkekehpfkfadfaaW.PrintWords Go.Proofs.YtkekehpfkfadfaaW.PrintLast Go.Proofs.YtkekehpfkfadfaaW.PrintMore
attribute [local go_sem] max2_int min2_int max_two min_two max_three min_three max_four min_four   -- for this text's walks alone
set_option linter.unusedVariables false
set_option linter.unusedSimpArgs false

attribute [local go_sem] isSome_put_
/-! ### standstilllaw06_CounterJoins: function 4 -/
mutual
def standstilllaw06_CounterJoins.j0 : Nat → Bool → Int → List (S33) → Int → List (S33) → Option (Bool)
 | 0, _, _, _, _, _ => none
 | k + 1, x15, x208000, x208001, x209000, x209001 => if x15 = true then ((standstilllaw06_awake.f k).bind fun t211 => (some t211)) else ((counter_Join.f k x208000 x208001 x209000 x209001).bind fun bt212 => ((standstillref06_Valid.f k x208000 x208001).bind fun t218 => (if t218 = true then ((standstillref06_Valid.f k x209000 x209001).bind fun t219 => (standstilllaw06_CounterJoins.j1 k bt212.2.2 (!t219) x208000 x208001 x209000 x209001 bt212.1 bt212.2.1)) else (standstilllaw06_CounterJoins.j1 k bt212.2.2 true x208000 x208001 x209000 x209001 bt212.1 bt212.2.1))))
def standstilllaw06_CounterJoins.j1 : Nat → Int → Bool → Int → List (S33) → Int → List (S33) → Int → List (S33) → Option (Bool)
 | 0, _, _, _, _, _, _, _, _ => none
 | k + 1, x6, x30, x208000, x208001, x209000, x209001, x218000, x218001 => if x30 = true then (if x6 = 1 then ((standstillref06_Same.f k x218000 x218001 0 ([] : List (S33))).bind fun t220 => (if t220 = true then ((standstilllaw06_awake.f k).bind fun t221 => (some t221)) else (some false))) else (some false)) else ((standstillref06_Join.f k x208000 x208001 x209000 x209001).bind fun bt222 => ((standstillref06_Valid.f k bt222.1 bt222.2).bind fun t227 => (if t227 = true then (if x6 = 0 then ((standstillref06_Same.f k x218000 x218001 bt222.1 bt222.2).bind fun t228 => (if t228 = true then ((standstilllaw06_awake.f k).bind fun t229 => (some t229)) else (some false))) else (some false)) else (if x6 = 4 then ((standstillref06_Same.f k x218000 x218001 0 ([] : List (S33))).bind fun t230 => (if t230 = true then ((standstilllaw06_awake.f k).bind fun t231 => (some t231)) else (some false))) else (some false)))))
end
def standstilllaw06_CounterJoins.f (k : Nat) (a0_0 : Int) (l0_1 : List (S33)) (a1_0 : Int) (l1_1 : List (S33)) : Option (Bool) := (standstilllaw06_wide.f a0_0 l0_1 0 ([] : List Int)).bind fun t209 => (if t209 = true then (standstilllaw06_CounterJoins.j0 k true a0_0 l0_1 a1_0 l1_1) else ((standstilllaw06_wide.f a1_0 l1_1 0 ([] : List Int)).bind fun t210 => (standstilllaw06_CounterJoins.j0 k t210 a0_0 l0_1 a1_0 l1_1)))
theorem standstilllaw06_CounterJoins.mono_l : ∀ k, (∀ y0 y1 y2 y3 y4, LeO (standstilllaw06_CounterJoins.j0 k y0 y1 y2 y3 y4) (standstilllaw06_CounterJoins.j0 (k + 1) y0 y1 y2 y3 y4)) ∧ (∀ y0 y1 y2 y3 y4 y5 y6 y7, LeO (standstilllaw06_CounterJoins.j1 k y0 y1 y2 y3 y4 y5 y6 y7) (standstilllaw06_CounterJoins.j1 (k + 1) y0 y1 y2 y3 y4 y5 y6 y7))
 | 0 => ⟨fun _ _ _ _ _ r h => by simp [standstilllaw06_CounterJoins.j0] at h, fun _ _ _ _ _ _ _ _ r h => by simp [standstilllaw06_CounterJoins.j1] at h⟩
 | k + 1 => by
  obtain ⟨ih0, ih1⟩ := standstilllaw06_CounterJoins.mono_l k
  refine ⟨?_, ?_⟩
  ·intro y0 y1 y2 y3 y4
   unfold standstilllaw06_CounterJoins.j0
   repeat' first
   | (with_reducible exact ih0 _ _ _ _ _)
   | (with_reducible exact ih1 _ _ _ _ _ _ _ _)
   | (with_reducible exact counter_Join.mono _ _ _ _ _)
   | (with_reducible exact standstilllaw06_awake.mono _)
   | (with_reducible exact standstillref06_Join.mono _ _ _ _ _)
   | (with_reducible exact standstillref06_Same.mono _ _ _ _ _)
   | (with_reducible exact standstillref06_Valid.mono _ _ _)
   | (with_reducible exact LeO.refl _)
   | (with_reducible exact LeO.none _)
   | (with_reducible refine LeO.ite ?_ ?_)
   | (with_reducible refine LeO.bind ?_ (fun _ => ?_))
   | exact ih0 _ _ _ _ _
   | exact ih1 _ _ _ _ _ _ _ _
   | exact counter_Join.mono _ _ _ _ _
   | exact standstilllaw06_awake.mono _
   | exact standstillref06_Join.mono _ _ _ _ _
   | exact standstillref06_Same.mono _ _ _ _ _
   | exact standstillref06_Valid.mono _ _ _
   | exact LeO.none _
   | refine LeO.ite ?_ ?_
   | refine LeO.bind ?_ (fun _ => ?_)
  ·intro y0 y1 y2 y3 y4 y5 y6 y7
   unfold standstilllaw06_CounterJoins.j1
   repeat' first
   | (with_reducible exact ih0 _ _ _ _ _)
   | (with_reducible exact ih1 _ _ _ _ _ _ _ _)
   | (with_reducible exact counter_Join.mono _ _ _ _ _)
   | (with_reducible exact standstilllaw06_awake.mono _)
   | (with_reducible exact standstillref06_Join.mono _ _ _ _ _)
   | (with_reducible exact standstillref06_Same.mono _ _ _ _ _)
   | (with_reducible exact standstillref06_Valid.mono _ _ _)
   | (with_reducible exact LeO.refl _)
   | (with_reducible exact LeO.none _)
   | (with_reducible refine LeO.ite ?_ ?_)
   | (with_reducible refine LeO.bind ?_ (fun _ => ?_))
   | exact ih0 _ _ _ _ _
   | exact ih1 _ _ _ _ _ _ _ _
   | exact counter_Join.mono _ _ _ _ _
   | exact standstilllaw06_awake.mono _
   | exact standstillref06_Join.mono _ _ _ _ _
   | exact standstillref06_Same.mono _ _ _ _ _
   | exact standstillref06_Valid.mono _ _ _
   | exact LeO.none _
   | refine LeO.ite ?_ ?_
   | refine LeO.bind ?_ (fun _ => ?_)
theorem standstilllaw06_CounterJoins.mono : ∀ a0 a1 a2 a3 k, LeO (standstilllaw06_CounterJoins.f k a0 a1 a2 a3) (standstilllaw06_CounterJoins.f (k + 1) a0 a1 a2 a3) := by
 intro a0 a1 a2 a3 k
 obtain ⟨ih0, ih1⟩ := standstilllaw06_CounterJoins.mono_l k
 unfold standstilllaw06_CounterJoins.f
 repeat' first
   | (with_reducible exact ih0 _ _ _ _ _)
   | (with_reducible exact ih1 _ _ _ _ _ _ _ _)
   | (with_reducible exact counter_Join.mono _ _ _ _ _)
   | (with_reducible exact standstilllaw06_awake.mono _)
   | (with_reducible exact standstillref06_Join.mono _ _ _ _ _)
   | (with_reducible exact standstillref06_Same.mono _ _ _ _ _)
   | (with_reducible exact standstillref06_Valid.mono _ _ _)
   | (with_reducible exact LeO.refl _)
   | (with_reducible exact LeO.none _)
   | (with_reducible refine LeO.ite ?_ ?_)
   | (with_reducible refine LeO.bind ?_ (fun _ => ?_))
   | exact ih0 _ _ _ _ _
   | exact ih1 _ _ _ _ _ _ _ _
   | exact counter_Join.mono _ _ _ _ _
   | exact standstilllaw06_awake.mono _
   | exact standstillref06_Join.mono _ _ _ _ _
   | exact standstillref06_Same.mono _ _ _ _ _
   | exact standstillref06_Valid.mono _ _ _
   | exact LeO.none _
   | refine LeO.ite ?_ ?_
   | refine LeO.bind ?_ (fun _ => ?_)
set_option maxHeartbeats 8000000 in
set_option maxRecDepth 100000 in
theorem standstilllaw06_CounterJoins.calls (k : Nat) (a0_0 : Int) (A0_1 : Option Addr) (c0_1 : Nat) (l0_1 : List (S33)) (a1_0 : Int) (A1_1 : Option Addr) (c1_1 : Nat) (l1_1 : List (S33)) (r : Bool) (w : World) (hr0_1 : Kd.C k33 w A0_1 l0_1.length l0_1) (hc0_1 : l0_1.length ≤ c0_1) (hr1_1 : Kd.C k33 w A1_1 l1_1.length l1_1) (hc1_1 : l1_1.length ≤ c1_1) (h : standstilllaw06_CounterJoins.f k a0_0 l0_1 a1_0 l1_1 = some r) :
  Calls Try.prog 4 #[.agg #[.int .i64 a0_0, .slice A0_1 l0_1.length c0_1], .agg #[.int .i64 a1_0, .slice A1_1 l1_1.length c1_1]] w fun e w' => e = .returned (.bool r) ∧ Below w.heap.size w w' := by
 have hu24 := Try.underlying24
 have hu27 := Try.underlying27
 have HR0_1 := Aside0.mk hr0_1
 have HC0_1 := Aside0.mk hc0_1
 clear hr0_1 hc0_1
 have HR1_1 := Aside0.mk hr1_1
 have HC1_1 := Aside0.mk hc1_1
 clear hr1_1 hc1_1
 have HB := A_ (Below.refl w.heap.size w)
 have H : ((standstilllaw06_wide.f a0_0 l0_1 0 ([] : List Int)).bind fun t209 => (if t209 = true then (standstilllaw06_CounterJoins.j0 k true a0_0 l0_1 a1_0 l1_1) else ((standstilllaw06_wide.f a1_0 l1_1 0 ([] : List Int)).bind fun t210 => (standstilllaw06_CounterJoins.j0 k t210 a0_0 l0_1 a1_0 l1_1)))) = some r := h
 clear h
 have HC3 := Aside0.mk H
 clear H
 go_enter Try.func4, Try.ntmps4
 go_upto_region 1 with (first | ((with_reducible refine gate_dst (N := 2) rfl ?_); refine box_event ?hg (N := 2) ?hd (cs := #[.int .i64 a0_0, .slice A0_1 l0_1.length c0_1]) (t := 24) ?hr ?_; (case hd => rfl); (case hg => rfl); (case hr => first | (go_simp; done) | (go_simp; rfl)); intro gb207 hg w4 hbox hb; have n0_ := A_ (below_step (bk_ HB.out) hb); have n1_ := A_ (hbox); have n2_ := A_ ((by rw [hg]; exact (below_size (bk_ HB.out)) : w.heap.size ≤ gb207)); have n3_ := A_ ((by rw [hg]; exact (below_size (bk_ HB.out)) : w.heap.size ≤ gb207)); clear HB; have HB := n0_; have BK207 := n1_; have GW207 := n2_; have GE207 := n3_; clear n0_ n1_ n2_ n3_ hb hbox hg) | ((with_reducible refine gate_dst (N := 3) rfl ?_); refine box_event ?hg (N := 3) ?hd (cs := #[.int .i64 a1_0, .slice A1_1 l1_1.length c1_1]) (t := 24) ?hr ?_; (case hd => rfl); (case hg => rfl); (case hr => first | (go_simp; done) | (go_simp; rfl)); intro gb208 hg w5 hbox hb; have n0_ := A_ (blk_below (pk_ BK207.out) hb); have n1_ := A_ (below_step (bk_ HB.out) hb); have n2_ := A_ (hbox); have n3_ := A_ ((by rw [hg]; exact (below_size (bk_ HB.out)) : w.heap.size ≤ gb208)); have n4_ := A_ ((by rw [hg]; exact (below_size (bk_ HB.out)) : w.heap.size ≤ gb208)); have n5_ := A_ ((by rw [hg]; exact Nat.ne_of_lt (blk_lt (pk_ BK207.out)) : gb207 ≠ gb208)); have n6_ := A_ ((by rw [hg]; exact Nat.ne_of_gt (blk_lt (pk_ BK207.out)) : gb208 ≠ gb207)); clear BK207 HB; have BK207 := n0_; have HB := n1_; have BK208 := n2_; have GW208 := n3_; have GE208 := n4_; have NB207_208 := n5_; have NB208_207 := n6_; clear n0_ n1_ n2_ n3_ n4_ n5_ n6_ hb hbox hg))
 (try simp only [Act.put, List.setIfInBounds_toArray, List.set_cons_zero, List.set_cons_succ])
 go_cut [15] (fun v15 wc => ∃ (kq : Nat) (x15_2 : Bool), v15 = .bool x15_2 ∧ Aside0 (standstilllaw06_CounterJoins.j0 kq x15_2 a0_0 l0_1 a1_0 l1_1 = some r) ∧ Aside0 (kq ≤ k) ∧ Aside0 (wc.heap[gb207]? = some (.cells #[.int .i64 a0_0, (.slice A0_1 l0_1.length c0_1)] 24 (0, 0))) ∧ Aside0 (wc.heap[gb208]? = some (.cells #[.int .i64 a1_0, (.slice A1_1 l1_1.length c1_1)] 24 (0, 0))) ∧ Aside0 (Below w.heap.size w wc))
 case first =>
  have H := HC3.out
  clear HC3
  replace H := Option.bind_eq_some_iff.mp H
  obtain ⟨t209, A60, H⟩ := H
  replace H : (if t209 = true then (standstilllaw06_CounterJoins.j0 k true a0_0 l0_1 a1_0 l1_1) else ((standstilllaw06_wide.f a1_0 l1_1 0 ([] : List Int)).bind fun t210 => (standstilllaw06_CounterJoins.j0 k t210 a0_0 l0_1 a1_0 l1_1))) = some r := H
  have A6 := Aside0.mk A60
  clear A60
  by_cases c7 : t209 = true
  ·subst c7
   have H1 : (standstilllaw06_CounterJoins.j0 k true a0_0 l0_1 a1_0 l1_1) = some r := by rw [if_pos rfl] at H; exact H
   clear H
   have H := H1
   clear H1
   have H' := Aside0.mk H
   clear H
   have hnb8 := NB207_208.out
   have hnc8 := NB208_207.out
   have hcz9_0 : w5.cell? ⟨gb207, 0, none⟩ = some (.int .i64 a0_0) := (blk_cell BK207.out 0).trans rfl
   have hcz9_1 : w5.cell? ⟨gb207, 1, none⟩ = some (.slice A0_1 l0_1.length c0_1) := (blk_cell BK207.out 1).trans rfl
   have hfz9_0 := blk_frozen BK207.out 0
   have hfz9_1 := blk_frozen BK207.out 1
   go_wp2_with (first | ((with_reducible refine gate_callee (f := 8) rfl ?_); refine goesL_ (some 10) rfl rfl Try.func8 (by kernel_rfl) rfl #[.agg #[.int .i64 a0_0, .slice A0_1 l0_1.length c0_1], .agg #[.int .i64 0, .slice none 0 0]] rfl gl_ ?_; (refine (standstilllaw06_wide.calls a0_0 _ _ l0_1 0 _ _ ([] : List Int) true _ ?side1 ?side2 ?side3 ?side4 A6.out).mono ?_); (case side1 => exact ck_ (Kd.C_below HR0_1.out HB.out)); (case side2 => exact HC0_1.out); (case side3 => exact Kd.C_nil _ _); (case side4 => exact Nat.le_refl _); rintro e w10 ⟨rfl, hb⟩; refine ⟨_, rfl, ?_⟩; have n0_ := A_ (blk_below (pk_ BK207.out) hb); have n1_ := A_ (blk_below (pk_ BK208.out) hb); have n2_ := A_ (below_step (bk_ HB.out) hb); clear BK207 BK208 HB; have BK207 := n0_; have BK208 := n1_; have HB := n2_; clear n0_ n1_ n2_; (try clear hb); (try clear hb2); (try clear hk); (try clear hi)))
   go_meet
   case rel => exact ⟨_, (true), jr_, H', ⟨by first | omega | exact Nat.le_refl _⟩, ⟨pk_ BK207.out⟩, ⟨pk_ BK208.out⟩, ⟨bk_ HB.out⟩⟩
  ·replace c7 := Bool.eq_false_iff.mpr c7
   subst c7
   have H1 : ((standstilllaw06_wide.f a1_0 l1_1 0 ([] : List Int)).bind fun t210 => (standstilllaw06_CounterJoins.j0 k t210 a0_0 l0_1 a1_0 l1_1)) = some r := by rw [if_neg (show ¬ (false = true) by decide)] at H; exact H
   clear H
   have H := H1
   clear H1
   replace H := Option.bind_eq_some_iff.mp H
   obtain ⟨t210, A110, H⟩ := H
   replace H : (standstilllaw06_CounterJoins.j0 k t210 a0_0 l0_1 a1_0 l1_1) = some r := H
   have A11 := Aside0.mk A110
   clear A110
   have H' := Aside0.mk H
   clear H
   have hnb12 := NB207_208.out
   have hnc12 := NB208_207.out
   have hcz13_0 : w5.cell? ⟨gb207, 0, none⟩ = some (.int .i64 a0_0) := (blk_cell BK207.out 0).trans rfl
   have hcz13_1 : w5.cell? ⟨gb207, 1, none⟩ = some (.slice A0_1 l0_1.length c0_1) := (blk_cell BK207.out 1).trans rfl
   have hfz13_0 := blk_frozen BK207.out 0
   have hfz13_1 := blk_frozen BK207.out 1
   go_wp2_with (first | ((with_reducible refine gate_callee (f := 8) rfl ?_); refine goesL_ (some 10) rfl rfl Try.func8 (by kernel_rfl) rfl #[.agg #[.int .i64 a0_0, .slice A0_1 l0_1.length c0_1], .agg #[.int .i64 0, .slice none 0 0]] rfl gl_ ?_; (refine (standstilllaw06_wide.calls a0_0 _ _ l0_1 0 _ _ ([] : List Int) false _ ?side1 ?side2 ?side3 ?side4 A6.out).mono ?_); (case side1 => exact ck_ (Kd.C_below HR0_1.out HB.out)); (case side2 => exact HC0_1.out); (case side3 => exact Kd.C_nil _ _); (case side4 => exact Nat.le_refl _); rintro e w14 ⟨rfl, hb⟩; refine ⟨_, rfl, ?_⟩; have n0_ := A_ (blk_below (pk_ BK207.out) hb); have n1_ := A_ (blk_below (pk_ BK208.out) hb); have n2_ := A_ (below_step (bk_ HB.out) hb); clear BK207 BK208 HB; have BK207 := n0_; have BK208 := n1_; have HB := n2_; clear n0_ n1_ n2_; (try clear hb); (try clear hb2); (try clear hk); (try clear hi); have hcz15_0 : w14.cell? ⟨gb208, 0, none⟩ = some (.int .i64 a1_0) := (blk_cell BK208.out 0).trans rfl; have hcz15_1 : w14.cell? ⟨gb208, 1, none⟩ = some (.slice A1_1 l1_1.length c1_1) := (blk_cell BK208.out 1).trans rfl; have hfz15_0 := blk_frozen BK208.out 0; have hfz15_1 := blk_frozen BK208.out 1) | (go_at_call 8; (refine (standstilllaw06_wide.calls a1_0 _ _ l1_1 0 _ _ ([] : List Int) t210 _ ?side1 ?side2 ?side3 ?side4 A11.out).mono ?_); (case side1 => exact ck_ (Kd.C_below HR1_1.out HB.out)); (case side2 => exact HC1_1.out); (case side3 => exact Kd.C_nil _ _); (case side4 => exact Nat.le_refl _); rintro e w16 ⟨rfl, hb⟩; have n0_ := A_ (blk_below (pk_ BK207.out) hb); have n1_ := A_ (blk_below (pk_ BK208.out) hb); have n2_ := A_ (below_step (bk_ HB.out) hb); clear BK207 BK208 HB; have BK207 := n0_; have BK208 := n1_; have HB := n2_; clear n0_ n1_ n2_; (try clear hb); (try clear hb2); (try clear hk); (try clear hi)))
   go_meet
   case rel => exact ⟨_, (t210), jr_, H', ⟨by first | omega | exact Nat.le_refl _⟩, ⟨pk_ BK207.out⟩, ⟨pk_ BK208.out⟩, ⟨bk_ HB.out⟩⟩
 case rest =>
  clear HC3
  obtain ⟨kq, x15_2, rfl, HA, HJ2, BK207, BK208, HB⟩ := hcut
  cases kq with
  | zero => exact absurd HA.out (by simp [standstilllaw06_CounterJoins.j0])
  | succ kj2 =>
   have H := HA.out
   clear HA
   simp only [standstilllaw06_CounterJoins.j0] at H
   by_cases c17 : x15_2 = true
   ·subst c17
    have H1 : ((standstilllaw06_awake.f kj2).bind fun t211 => (some t211)) = some r := by rw [if_pos rfl] at H; exact H
    clear H
    have H := H1
    clear H1
    replace H := Option.bind_eq_some_iff.mp H
    obtain ⟨t211, A180, H⟩ := H
    replace H : (some t211) = some r := H
    have A18 := Aside0.mk A180
    clear A180
    obtain rfl := Option.some.inj H
    go_wp2_with (first | ((with_reducible refine gate_callee (f := 10) rfl ?_); refine goesL_ (some 16) rfl rfl Try.func10 (by kernel_rfl) rfl #[] rfl gl_ ?_; (with_reducible refine (standstilllaw06_awake.calls kj2  t211 _ A18.out).mono ?_); rintro e w19 ⟨rfl, hb⟩; refine ⟨_, rfl, ?_⟩; have n0_ := A_ (blk_below (pk_ BK207.out) hb); have n1_ := A_ (blk_below (pk_ BK208.out) hb); have n2_ := A_ (below_step (bk_ HB.out) hb); clear BK207 BK208 HB; have BK207 := n0_; have BK208 := n1_; have HB := n2_; clear n0_ n1_ n2_; (try clear hb); (try clear hb2); (try clear hk); (try clear hi)))
    go_ret
    exact ⟨by first | rfl | (simp [errW_none, errW_some] <;> rfl) | (simp [*, errW_none, errW_some] <;> rfl), bk_ HB.out⟩
   ·replace c17 := Bool.eq_false_iff.mpr c17
    subst c17
    have H1 : ((counter_Join.f kj2 a0_0 l0_1 a1_0 l1_1).bind fun bt212 => ((standstillref06_Valid.f kj2 a0_0 l0_1).bind fun t218 => (if t218 = true then ((standstillref06_Valid.f kj2 a1_0 l1_1).bind fun t219 => (standstilllaw06_CounterJoins.j1 kj2 bt212.2.2 (!t219) a0_0 l0_1 a1_0 l1_1 bt212.1 bt212.2.1)) else (standstilllaw06_CounterJoins.j1 kj2 bt212.2.2 true a0_0 l0_1 a1_0 l1_1 bt212.1 bt212.2.1)))) = some r := by rw [if_neg (show ¬ (false = true) by decide)] at H; exact H
    clear H
    have H := H1
    clear H1
    replace H := Option.bind_eq_some_iff.mp H
    obtain ⟨⟨t212, t213, t216⟩, A200, H⟩ := H
    replace H : ((standstillref06_Valid.f kj2 a0_0 l0_1).bind fun t218 => (if t218 = true then ((standstillref06_Valid.f kj2 a1_0 l1_1).bind fun t219 => (standstilllaw06_CounterJoins.j1 kj2 t216 (!t219) a0_0 l0_1 a1_0 l1_1 t212 t213)) else (standstilllaw06_CounterJoins.j1 kj2 t216 true a0_0 l0_1 a1_0 l1_1 t212 t213))) = some r := H
    have A20 := Aside0.mk A200
    clear A200
    have HC21 := Aside0.mk H
    clear H
    have hnb22 := NB207_208.out
    have hnc22 := NB208_207.out
    have hcz23_0 : wc.cell? ⟨gb207, 0, none⟩ = some (.int .i64 a0_0) := (blk_cell BK207.out 0).trans rfl
    have hcz23_1 : wc.cell? ⟨gb207, 1, none⟩ = some (.slice A0_1 l0_1.length c0_1) := (blk_cell BK207.out 1).trans rfl
    have hfz23_0 := blk_frozen BK207.out 0
    have hfz23_1 := blk_frozen BK207.out 1
    have hcz24_0 : wc.cell? ⟨gb208, 0, none⟩ = some (.int .i64 a1_0) := (blk_cell BK208.out 0).trans rfl
    have hcz24_1 : wc.cell? ⟨gb208, 1, none⟩ = some (.slice A1_1 l1_1.length c1_1) := (blk_cell BK208.out 1).trans rfl
    have hfz24_0 := blk_frozen BK208.out 0
    have hfz24_1 := blk_frozen BK208.out 1
    go_upto_region 4 with (first | ((with_reducible refine gate_callee (f := 12) rfl ?_); refine goesL_ (some 20) rfl rfl Try.func12 (by kernel_rfl) rfl #[.agg #[.int .i64 a0_0, .slice A0_1 l0_1.length c0_1], .agg #[.int .i64 a1_0, .slice A1_1 l1_1.length c1_1]] rfl gl_ ?_; (with_reducible refine (counter_Join.calls kj2 a0_0 _ _ l0_1 a1_0 _ _ l1_1 t212 t213 t216 _ ?side1 ?side2 ?side3 ?side4 A20.out).mono ?_); (case side1 => exact ck_ (Kd.C_below HR0_1.out HB.out)); (case side2 => exact HC0_1.out); (case side3 => exact ck_ (Kd.C_below HR1_1.out HB.out)); (case side4 => exact HC1_1.out); rintro e w25 ⟨v214, rfl, ho0, hb⟩; refine ⟨_, rfl, ?_⟩; have n0_ := A_ (Kd.R_lower ho0 (below_size (bk_ HB.out))); have n1_ := A_ (blk_below (pk_ BK207.out) hb); have n2_ := A_ (blk_below (pk_ BK208.out) hb); have n3_ := A_ (below_step (bk_ HB.out) hb); clear BK207 BK208 HB; have HO215 := n0_; have BK207 := n1_; have BK208 := n2_; have HB := n3_; clear n0_ n1_ n2_ n3_; (try clear hb); (try clear hb2); (try clear hk); (try clear hi); (try clear ho0)) | ((with_reducible refine gate_dst (N := 5) rfl ?_); refine box_event ?hg (N := 5) ?hd (cs := #[.int .i64 0, .slice none 0 0]) (t := 24) ?hr ?_; (case hd => rfl); (case hg => rfl); (case hr => first | (go_simp; done) | (go_simp; rfl)); intro gb217 hg w26 hbox hb; have n0_ := A_ (Kd.R_below (rk_ HO215.out) hb); have n1_ := A_ (blk_below (pk_ BK207.out) hb); have n2_ := A_ (blk_below (pk_ BK208.out) hb); have n3_ := A_ (below_step (bk_ HB.out) hb); have n4_ := A_ (hbox); have n5_ := A_ ((by rw [hg]; exact (below_size (bk_ HB.out)) : w.heap.size ≤ gb217)); have n6_ := A_ ((by rw [hg]; exact (below_size (bk_ HB.out)) : w.heap.size ≤ gb217)); have n7_ := A_ ((by rw [hg]; exact Nat.ne_of_lt (blk_lt (pk_ BK207.out)) : gb207 ≠ gb217)); have n8_ := A_ ((by rw [hg]; exact Nat.ne_of_gt (blk_lt (pk_ BK207.out)) : gb217 ≠ gb207)); have n9_ := A_ ((by rw [hg]; exact Nat.ne_of_lt (blk_lt (pk_ BK208.out)) : gb208 ≠ gb217)); have n10_ := A_ ((by rw [hg]; exact Nat.ne_of_gt (blk_lt (pk_ BK208.out)) : gb217 ≠ gb208)); clear HO215 BK207 BK208 HB; have HO215 := n0_; have BK207 := n1_; have BK208 := n2_; have HB := n3_; have BK217 := n4_; have GW217 := n5_; have GE217 := n6_; have NB207_217 := n7_; have NB217_207 := n8_; have NB208_217 := n9_; have NB217_208 := n10_; clear n0_ n1_ n2_ n3_ n4_ n5_ n6_ n7_ n8_ n9_ n10_ hb hbox hg; have hnb27 := NB217_207.out; have hnc27 := NB207_217.out; have hnb28 := NB217_208.out; have hnc28 := NB208_217.out; have hcz29_0 : w26.cell? ⟨gb217, 0, none⟩ = some (.int .i64 0) := (blk_cell BK217.out 0).trans rfl; have hcz29_1 : w26.cell? ⟨gb217, 1, none⟩ = some (.slice none 0 0) := (blk_cell BK217.out 1).trans rfl; have hfz29_0 := blk_frozen BK217.out 0; have hfz29_1 := blk_frozen BK217.out 1; obtain ⟨Ao30, co30, eo30⟩ := Kd.R_slice HO215.out; subst eo30))
    (try simp only [Act.put, List.setIfInBounds_toArray, List.set_cons_zero, List.set_cons_succ])
    go_cut [30] (fun v30 wc => ∃ (kq : Nat) (x30_20 : Bool), v30 = .bool x30_20 ∧ Aside0 (standstilllaw06_CounterJoins.j1 kq t216 x30_20 a0_0 l0_1 a1_0 l1_1 t212 t213 = some r) ∧ Aside0 (kq ≤ kj2) ∧ Aside0 (Kd.R k33 33 wc w.heap.size (fun _ => True) (.slice Ao30 t213.length co30) t213) ∧ Aside0 (wc.heap[gb207]? = some (.cells #[.int .i64 a0_0, (.slice A0_1 l0_1.length c0_1)] 24 (0, 0))) ∧ Aside0 (wc.heap[gb208]? = some (.cells #[.int .i64 a1_0, (.slice A1_1 l1_1.length c1_1)] 24 (0, 0))) ∧ Aside0 (wc.heap[gb217]? = some (.cells #[.int .i64 t212, (.slice Ao30 t213.length co30)] 24 (0, 0))) ∧ Aside0 (Below w.heap.size w wc))
    case first =>
     have H := HC21.out
     clear HC21
     replace H := Option.bind_eq_some_iff.mp H
     obtain ⟨t218, A310, H⟩ := H
     replace H : (if t218 = true then ((standstillref06_Valid.f kj2 a1_0 l1_1).bind fun t219 => (standstilllaw06_CounterJoins.j1 kj2 t216 (!t219) a0_0 l0_1 a1_0 l1_1 t212 t213)) else (standstilllaw06_CounterJoins.j1 kj2 t216 true a0_0 l0_1 a1_0 l1_1 t212 t213)) = some r := H
     have A31 := Aside0.mk A310
     clear A310
     by_cases c32 : t218 = true
     ·subst c32
      have H1 : ((standstillref06_Valid.f kj2 a1_0 l1_1).bind fun t219 => (standstilllaw06_CounterJoins.j1 kj2 t216 (!t219) a0_0 l0_1 a1_0 l1_1 t212 t213)) = some r := by rw [if_pos rfl] at H; exact H
      clear H
      have H := H1
      clear H1
      replace H := Option.bind_eq_some_iff.mp H
      obtain ⟨t219, A330, H⟩ := H
      replace H : (standstilllaw06_CounterJoins.j1 kj2 t216 (!t219) a0_0 l0_1 a1_0 l1_1 t212 t213) = some r := H
      have A33 := Aside0.mk A330
      clear A330
      have H' := Aside0.mk H
      clear H
      have hnb34 := NB207_208.out
      have hnc34 := NB208_207.out
      have hnb35 := NB207_217.out
      have hnc35 := NB217_207.out
      have hcz36_0 : w26.cell? ⟨gb207, 0, none⟩ = some (.int .i64 a0_0) := (blk_cell BK207.out 0).trans rfl
      have hcz36_1 : w26.cell? ⟨gb207, 1, none⟩ = some (.slice A0_1 l0_1.length c0_1) := (blk_cell BK207.out 1).trans rfl
      have hfz36_0 := blk_frozen BK207.out 0
      have hfz36_1 := blk_frozen BK207.out 1
      go_wp2_with (first | ((with_reducible refine gate_callee (f := 13) rfl ?_); refine goesL_ (some 24) rfl rfl Try.func13 (by kernel_rfl) rfl #[.agg #[.int .i64 a0_0, .slice A0_1 l0_1.length c0_1]] rfl gl_ ?_; (with_reducible refine (standstillref06_Valid.calls kj2 a0_0 _ _ l0_1 true _ ?side1 ?side2 A31.out).mono ?_); (case side1 => exact Kd.C_below HR0_1.out (bk_ HB.out)); (case side2 => exact HC0_1.out); rintro e w37 ⟨rfl, hb⟩; refine ⟨_, rfl, ?_⟩; have n0_ := A_ (Kd.R_below (by (with_reducible repeat (first | apply Kd.R_alloc | apply Kd.R_drewN | apply Kd.R_drew)); exact (Kd.R_mono (Kd.R_far (p := ⟨gb217, 1, none⟩) (Kd.R_far (p := ⟨gb217, 0, none⟩) (Kd.R_types HO215.out BK217.out (by decide)) (fun _ hk => hk.2) (.int .i64 t212)) (fun _ hk => hk.2) (.slice Ao30 t213.length co30)) (fun _ h_ => h_.1))) hb); have n1_ := A_ (blk_below (g := gb207) (o := .cells #[.int .i64 a0_0, .slice A0_1 l0_1.length c0_1] 24 (0, 0)) (by (with_reducible repeat (first | refine blk_drewN ?_ _ | refine blk_drew ?_ | refine blk_alloc ?_ _)); refine blk_far ?_ NB207_217.out _; (with_reducible repeat (first | refine blk_drewN ?_ _ | refine blk_drew ?_ | refine blk_alloc ?_ _)); refine blk_far ?_ NB207_217.out _; exact pk_ BK207.out) hb); have n2_ := A_ (blk_below (g := gb208) (o := .cells #[.int .i64 a1_0, .slice A1_1 l1_1.length c1_1] 24 (0, 0)) (by (with_reducible repeat (first | refine blk_drewN ?_ _ | refine blk_drew ?_ | refine blk_alloc ?_ _)); refine blk_far ?_ NB208_217.out _; (with_reducible repeat (first | refine blk_drewN ?_ _ | refine blk_drew ?_ | refine blk_alloc ?_ _)); refine blk_far ?_ NB208_217.out _; exact pk_ BK208.out) hb); have n3_ := A_ (blk_below (g := gb217) (o := .cells #[.int .i64 t212, .slice Ao30 t213.length co30] 24 (0, 0)) (by (with_reducible repeat (first | refine blk_drewN ?_ _ | refine blk_drew ?_ | refine blk_alloc ?_ _)); refine blk_put (cs := #[.int .i64 t212, .slice none 0 0]) ?_ 1 _ rfl; (with_reducible repeat (first | refine blk_drewN ?_ _ | refine blk_drew ?_ | refine blk_alloc ?_ _)); refine blk_put (cs := #[.int .i64 0, .slice none 0 0]) ?_ 0 _ rfl; exact pk_ BK217.out) hb); have n4_ := A_ (below_step (bk_ HB.out) hb); clear HO215 BK207 BK208 BK217 HB; have HO215 := n0_; have BK207 := n1_; have BK208 := n2_; have BK217 := n3_; have HB := n4_; clear n0_ n1_ n2_ n3_ n4_; (try clear hb); (try clear hb2); (try clear hk); (try clear hi); have hnb38 := NB208_217.out; have hnc38 := NB217_208.out; have hcz39_0 : w37.cell? ⟨gb208, 0, none⟩ = some (.int .i64 a1_0) := (blk_cell BK208.out 0).trans rfl; have hcz39_1 : w37.cell? ⟨gb208, 1, none⟩ = some (.slice A1_1 l1_1.length c1_1) := (blk_cell BK208.out 1).trans rfl; have hfz39_0 := blk_frozen BK208.out 0; have hfz39_1 := blk_frozen BK208.out 1) | (go_at_call 13; (with_reducible refine (standstillref06_Valid.calls kj2 a1_0 _ _ l1_1 t219 _ ?side1 ?side2 A33.out).mono ?_); (case side1 => exact ck_ (Kd.C_below HR1_1.out HB.out)); (case side2 => exact HC1_1.out); rintro e w40 ⟨rfl, hb⟩; have n0_ := A_ (Kd.R_below (rk_ HO215.out) hb); have n1_ := A_ (blk_below (pk_ BK207.out) hb); have n2_ := A_ (blk_below (pk_ BK208.out) hb); have n3_ := A_ (blk_below (pk_ BK217.out) hb); have n4_ := A_ (below_step (bk_ HB.out) hb); clear HO215 BK207 BK208 BK217 HB; have HO215 := n0_; have BK207 := n1_; have BK208 := n2_; have BK217 := n3_; have HB := n4_; clear n0_ n1_ n2_ n3_ n4_; (try clear hb); (try clear hb2); (try clear hk); (try clear hi)))
      go_meet
      case rel => exact ⟨_, (!t219), jr_, H', ⟨by have := HJ2.out; first | omega | exact Nat.le_refl _⟩, ⟨rk_ HO215.out⟩, ⟨pk_ BK207.out⟩, ⟨pk_ BK208.out⟩, ⟨pk_ BK217.out⟩, ⟨bk_ HB.out⟩⟩
     ·replace c32 := Bool.eq_false_iff.mpr c32
      subst c32
      have H1 : (standstilllaw06_CounterJoins.j1 kj2 t216 true a0_0 l0_1 a1_0 l1_1 t212 t213) = some r := by rw [if_neg (show ¬ (false = true) by decide)] at H; exact H
      clear H
      have H := H1
      clear H1
      have H' := Aside0.mk H
      clear H
      have hnb41 := NB207_208.out
      have hnc41 := NB208_207.out
      have hnb42 := NB207_217.out
      have hnc42 := NB217_207.out
      have hcz43_0 : w26.cell? ⟨gb207, 0, none⟩ = some (.int .i64 a0_0) := (blk_cell BK207.out 0).trans rfl
      have hcz43_1 : w26.cell? ⟨gb207, 1, none⟩ = some (.slice A0_1 l0_1.length c0_1) := (blk_cell BK207.out 1).trans rfl
      have hfz43_0 := blk_frozen BK207.out 0
      have hfz43_1 := blk_frozen BK207.out 1
      go_wp2_with (first | ((with_reducible refine gate_callee (f := 13) rfl ?_); refine goesL_ (some 24) rfl rfl Try.func13 (by kernel_rfl) rfl #[.agg #[.int .i64 a0_0, .slice A0_1 l0_1.length c0_1]] rfl gl_ ?_; (with_reducible refine (standstillref06_Valid.calls kj2 a0_0 _ _ l0_1 false _ ?side1 ?side2 A31.out).mono ?_); (case side1 => exact Kd.C_below HR0_1.out (bk_ HB.out)); (case side2 => exact HC0_1.out); rintro e w44 ⟨rfl, hb⟩; refine ⟨_, rfl, ?_⟩; have n0_ := A_ (Kd.R_below (by (with_reducible repeat (first | apply Kd.R_alloc | apply Kd.R_drewN | apply Kd.R_drew)); exact (Kd.R_mono (Kd.R_far (p := ⟨gb217, 1, none⟩) (Kd.R_far (p := ⟨gb217, 0, none⟩) (Kd.R_types HO215.out BK217.out (by decide)) (fun _ hk => hk.2) (.int .i64 t212)) (fun _ hk => hk.2) (.slice Ao30 t213.length co30)) (fun _ h_ => h_.1))) hb); have n1_ := A_ (blk_below (g := gb207) (o := .cells #[.int .i64 a0_0, .slice A0_1 l0_1.length c0_1] 24 (0, 0)) (by (with_reducible repeat (first | refine blk_drewN ?_ _ | refine blk_drew ?_ | refine blk_alloc ?_ _)); refine blk_far ?_ NB207_217.out _; (with_reducible repeat (first | refine blk_drewN ?_ _ | refine blk_drew ?_ | refine blk_alloc ?_ _)); refine blk_far ?_ NB207_217.out _; exact pk_ BK207.out) hb); have n2_ := A_ (blk_below (g := gb208) (o := .cells #[.int .i64 a1_0, .slice A1_1 l1_1.length c1_1] 24 (0, 0)) (by (with_reducible repeat (first | refine blk_drewN ?_ _ | refine blk_drew ?_ | refine blk_alloc ?_ _)); refine blk_far ?_ NB208_217.out _; (with_reducible repeat (first | refine blk_drewN ?_ _ | refine blk_drew ?_ | refine blk_alloc ?_ _)); refine blk_far ?_ NB208_217.out _; exact pk_ BK208.out) hb); have n3_ := A_ (blk_below (g := gb217) (o := .cells #[.int .i64 t212, .slice Ao30 t213.length co30] 24 (0, 0)) (by (with_reducible repeat (first | refine blk_drewN ?_ _ | refine blk_drew ?_ | refine blk_alloc ?_ _)); refine blk_put (cs := #[.int .i64 t212, .slice none 0 0]) ?_ 1 _ rfl; (with_reducible repeat (first | refine blk_drewN ?_ _ | refine blk_drew ?_ | refine blk_alloc ?_ _)); refine blk_put (cs := #[.int .i64 0, .slice none 0 0]) ?_ 0 _ rfl; exact pk_ BK217.out) hb); have n4_ := A_ (below_step (bk_ HB.out) hb); clear HO215 BK207 BK208 BK217 HB; have HO215 := n0_; have BK207 := n1_; have BK208 := n2_; have BK217 := n3_; have HB := n4_; clear n0_ n1_ n2_ n3_ n4_; (try clear hb); (try clear hb2); (try clear hk); (try clear hi)))
      go_meet
      case rel => exact ⟨_, (true), jr_, H', ⟨by have := HJ2.out; first | omega | exact Nat.le_refl _⟩, ⟨rk_ HO215.out⟩, ⟨pk_ BK207.out⟩, ⟨pk_ BK208.out⟩, ⟨pk_ BK217.out⟩, ⟨bk_ HB.out⟩⟩
    case rest =>
     clear HC21
     (try clear c17); (try clear hcz23_0); (try clear hcz23_1); (try clear hcz24_0); (try clear hcz24_1); (try clear hcz29_0); (try clear hcz29_1); (try clear hfz23_0); (try clear hfz23_1); (try clear hfz24_0); (try clear hfz24_1); (try clear hfz29_0); (try clear hfz29_1)
     obtain ⟨kq, x30_20, rfl, HA, HJ20, HO_218001, BK207, BK208, BK217, HB⟩ := hcut
     cases kq with
     | zero => exact absurd HA.out (by simp [standstilllaw06_CounterJoins.j1])
     | succ kj20 =>
      have H := HA.out
      clear HA
      simp only [standstilllaw06_CounterJoins.j1] at H
      by_cases c45 : x30_20 = true
      ·subst c45
       have H1 : (if t216 = 1 then ((standstillref06_Same.f kj20 t212 t213 0 ([] : List (S33))).bind fun t220 => (if t220 = true then ((standstilllaw06_awake.f kj20).bind fun t221 => (some t221)) else (some false))) else (some false)) = some r := by rw [if_pos rfl] at H; exact H
       clear H
       have H := H1
       clear H1
       by_cases c46 : t216 = 1
       ·rw [if_pos c46] at H
        have c46b0 : (t216 == 1) = true := beq_iff_eq.mpr c46
        have c46b1 : (t216 != 1) = false := bne_eq_false_iff_eq.mpr c46
        clear c46
        replace H := Option.bind_eq_some_iff.mp H
        obtain ⟨t220, A470, H⟩ := H
        replace H : (if t220 = true then ((standstilllaw06_awake.f kj20).bind fun t221 => (some t221)) else (some false)) = some r := H
        have A47 := Aside0.mk A470
        clear A470
        by_cases c48 : t220 = true
        ·subst c48
         have H1 : ((standstilllaw06_awake.f kj20).bind fun t221 => (some t221)) = some r := by rw [if_pos rfl] at H; exact H
         clear H
         have H := H1
         clear H1
         replace H := Option.bind_eq_some_iff.mp H
         obtain ⟨t221, A490, H⟩ := H
         replace H : (some t221) = some r := H
         have A49 := Aside0.mk A490
         clear A490
         obtain rfl := Option.some.inj H
         have hnb50 := NB217_207.out
         have hnc50 := NB207_217.out
         have hnb51 := NB217_208.out
         have hnc51 := NB208_217.out
         have hcz52_0 : wc.cell? ⟨gb217, 0, none⟩ = some (.int .i64 t212) := (blk_cell BK217.out 0).trans rfl
         have hcz52_1 : wc.cell? ⟨gb217, 1, none⟩ = some (.slice Ao30 t213.length co30) := (blk_cell BK217.out 1).trans rfl
         have hfz52_0 := blk_frozen BK217.out 0
         have hfz52_1 := blk_frozen BK217.out 1
         go_wp2_with (first | (go_at_call 14; (refine (standstillref06_Same.calls kj20 t212 _ _ t213 0 _ _ ([] : List (S33)) true _ ?side1 ?side2 ?side3 ?side4 A47.out).mono ?_); (case side1 => repeat (first | exact (Kd.R_reads' HO_218001.out).2.2 | (with_reducible refine Kd.C_alloc ?_ _) | (with_reducible refine Kd.C_drewN ?_ _) | (with_reducible refine Kd.C_drew ?_))); (case side2 => exact (Kd.R_reads' HO_218001.out).2.1); (case side3 => exact Kd.C_nil _ _); (case side4 => exact Nat.le_refl _); rintro e w53 ⟨rfl, hb⟩; have n0_ := A_ (Kd.R_below (rk_ HO_218001.out) hb); have n1_ := A_ (blk_below (pk_ BK207.out) hb); have n2_ := A_ (blk_below (pk_ BK208.out) hb); have n3_ := A_ (blk_below (pk_ BK217.out) hb); have n4_ := A_ (below_step (bk_ HB.out) hb); clear HO_218001 BK207 BK208 BK217 HB; have HO_218001 := n0_; have BK207 := n1_; have BK208 := n2_; have BK217 := n3_; have HB := n4_; clear n0_ n1_ n2_ n3_ n4_; (try clear hb); (try clear hb2); (try clear hk); (try clear hi)) | (go_at_call 10; (with_reducible refine (standstilllaw06_awake.calls kj20  t221 _ A49.out).mono ?_); rintro e w54 ⟨rfl, hb⟩; have n0_ := A_ (Kd.R_below (rk_ HO_218001.out) hb); have n1_ := A_ (blk_below (pk_ BK207.out) hb); have n2_ := A_ (blk_below (pk_ BK208.out) hb); have n3_ := A_ (blk_below (pk_ BK217.out) hb); have n4_ := A_ (below_step (bk_ HB.out) hb); clear HO_218001 BK207 BK208 BK217 HB; have HO_218001 := n0_; have BK207 := n1_; have BK208 := n2_; have BK217 := n3_; have HB := n4_; clear n0_ n1_ n2_ n3_ n4_; (try clear hb); (try clear hb2); (try clear hk); (try clear hi)))
         go_ret
         exact ⟨by first | rfl | (simp [errW_none, errW_some] <;> rfl) | (simp [*, errW_none, errW_some] <;> rfl), bk_ HB.out⟩
        ·replace c48 := Bool.eq_false_iff.mpr c48
         subst c48
         have H1 : (some false) = some r := by rw [if_neg (show ¬ (false = true) by decide)] at H; exact H
         clear H
         have H := H1
         clear H1
         obtain rfl := Option.some.inj H
         have hnb55 := NB217_207.out
         have hnc55 := NB207_217.out
         have hnb56 := NB217_208.out
         have hnc56 := NB208_217.out
         have hcz57_0 : wc.cell? ⟨gb217, 0, none⟩ = some (.int .i64 t212) := (blk_cell BK217.out 0).trans rfl
         have hcz57_1 : wc.cell? ⟨gb217, 1, none⟩ = some (.slice Ao30 t213.length co30) := (blk_cell BK217.out 1).trans rfl
         have hfz57_0 := blk_frozen BK217.out 0
         have hfz57_1 := blk_frozen BK217.out 1
         go_wp2_with (first | (go_at_call 14; (refine (standstillref06_Same.calls kj20 t212 _ _ t213 0 _ _ ([] : List (S33)) false _ ?side1 ?side2 ?side3 ?side4 A47.out).mono ?_); (case side1 => repeat (first | exact (Kd.R_reads' HO_218001.out).2.2 | (with_reducible refine Kd.C_alloc ?_ _) | (with_reducible refine Kd.C_drewN ?_ _) | (with_reducible refine Kd.C_drew ?_))); (case side2 => exact (Kd.R_reads' HO_218001.out).2.1); (case side3 => exact Kd.C_nil _ _); (case side4 => exact Nat.le_refl _); rintro e w58 ⟨rfl, hb⟩; have n0_ := A_ (Kd.R_below (rk_ HO_218001.out) hb); have n1_ := A_ (blk_below (pk_ BK207.out) hb); have n2_ := A_ (blk_below (pk_ BK208.out) hb); have n3_ := A_ (blk_below (pk_ BK217.out) hb); have n4_ := A_ (below_step (bk_ HB.out) hb); clear HO_218001 BK207 BK208 BK217 HB; have HO_218001 := n0_; have BK207 := n1_; have BK208 := n2_; have BK217 := n3_; have HB := n4_; clear n0_ n1_ n2_ n3_ n4_; (try clear hb); (try clear hb2); (try clear hk); (try clear hi)))
         go_ret
         exact ⟨by first | rfl | (simp [errW_none, errW_some] <;> rfl) | (simp [*, errW_none, errW_some] <;> rfl), bk_ HB.out⟩
       ·rw [if_neg c46] at H
        have c46b0 : (t216 == 1) = false := beq_eq_false_iff_ne.mpr c46
        have c46b1 : (t216 != 1) = true := bne_iff_ne.mpr c46
        obtain rfl := Option.some.inj H
        go_wp2
        go_ret
        exact ⟨by first | rfl | (simp [errW_none, errW_some] <;> rfl) | (simp [*, errW_none, errW_some] <;> rfl), bk_ HB.out⟩
      ·replace c45 := Bool.eq_false_iff.mpr c45
       subst c45
       have H1 : ((standstillref06_Join.f kj20 a0_0 l0_1 a1_0 l1_1).bind fun bt222 => ((standstillref06_Valid.f kj20 bt222.1 bt222.2).bind fun t227 => (if t227 = true then (if t216 = 0 then ((standstillref06_Same.f kj20 t212 t213 bt222.1 bt222.2).bind fun t228 => (if t228 = true then ((standstilllaw06_awake.f kj20).bind fun t229 => (some t229)) else (some false))) else (some false)) else (if t216 = 4 then ((standstillref06_Same.f kj20 t212 t213 0 ([] : List (S33))).bind fun t230 => (if t230 = true then ((standstilllaw06_awake.f kj20).bind fun t231 => (some t231)) else (some false))) else (some false))))) = some r := by rw [if_neg (show ¬ (false = true) by decide)] at H; exact H
       clear H
       have H := H1
       clear H1
       replace H := Option.bind_eq_some_iff.mp H
       obtain ⟨⟨t222, t223⟩, A590, H⟩ := H
       replace H : ((standstillref06_Valid.f kj20 t222 t223).bind fun t227 => (if t227 = true then (if t216 = 0 then ((standstillref06_Same.f kj20 t212 t213 t222 t223).bind fun t228 => (if t228 = true then ((standstilllaw06_awake.f kj20).bind fun t229 => (some t229)) else (some false))) else (some false)) else (if t216 = 4 then ((standstillref06_Same.f kj20 t212 t213 0 ([] : List (S33))).bind fun t230 => (if t230 = true then ((standstilllaw06_awake.f kj20).bind fun t231 => (some t231)) else (some false))) else (some false)))) = some r := H
       have A59 := Aside0.mk A590
       clear A590
       replace H := Option.bind_eq_some_iff.mp H
       obtain ⟨t227, A600, H⟩ := H
       replace H : (if t227 = true then (if t216 = 0 then ((standstillref06_Same.f kj20 t212 t213 t222 t223).bind fun t228 => (if t228 = true then ((standstilllaw06_awake.f kj20).bind fun t229 => (some t229)) else (some false))) else (some false)) else (if t216 = 4 then ((standstillref06_Same.f kj20 t212 t213 0 ([] : List (S33))).bind fun t230 => (if t230 = true then ((standstilllaw06_awake.f kj20).bind fun t231 => (some t231)) else (some false))) else (some false))) = some r := H
       have A60 := Aside0.mk A600
       clear A600
       by_cases c61 : t227 = true
       ·subst c61
        have H1 : (if t216 = 0 then ((standstillref06_Same.f kj20 t212 t213 t222 t223).bind fun t228 => (if t228 = true then ((standstilllaw06_awake.f kj20).bind fun t229 => (some t229)) else (some false))) else (some false)) = some r := by rw [if_pos rfl] at H; exact H
        clear H
        have H := H1
        clear H1
        by_cases c62 : t216 = 0
        ·rw [if_pos c62] at H
         have c62b0 : (t216 == 0) = true := beq_iff_eq.mpr c62
         have c62b1 : (t216 != 0) = false := bne_eq_false_iff_eq.mpr c62
         clear c62
         replace H := Option.bind_eq_some_iff.mp H
         obtain ⟨t228, A630, H⟩ := H
         replace H : (if t228 = true then ((standstilllaw06_awake.f kj20).bind fun t229 => (some t229)) else (some false)) = some r := H
         have A63 := Aside0.mk A630
         clear A630
         by_cases c64 : t228 = true
         ·subst c64
          have H1 : ((standstilllaw06_awake.f kj20).bind fun t229 => (some t229)) = some r := by rw [if_pos rfl] at H; exact H
          clear H
          have H := H1
          clear H1
          replace H := Option.bind_eq_some_iff.mp H
          obtain ⟨t229, A650, H⟩ := H
          replace H : (some t229) = some r := H
          have A65 := Aside0.mk A650
          clear A650
          obtain rfl := Option.some.inj H
          have hnb66 := NB207_208.out
          have hnc66 := NB208_207.out
          have hnb67 := NB207_217.out
          have hnc67 := NB217_207.out
          have hcz68_0 : wc.cell? ⟨gb207, 0, none⟩ = some (.int .i64 a0_0) := (blk_cell BK207.out 0).trans rfl
          have hcz68_1 : wc.cell? ⟨gb207, 1, none⟩ = some (.slice A0_1 l0_1.length c0_1) := (blk_cell BK207.out 1).trans rfl
          have hfz68_0 := blk_frozen BK207.out 0
          have hfz68_1 := blk_frozen BK207.out 1
          have hnb69 := NB208_217.out
          have hnc69 := NB217_208.out
          have hcz70_0 : wc.cell? ⟨gb208, 0, none⟩ = some (.int .i64 a1_0) := (blk_cell BK208.out 0).trans rfl
          have hcz70_1 : wc.cell? ⟨gb208, 1, none⟩ = some (.slice A1_1 l1_1.length c1_1) := (blk_cell BK208.out 1).trans rfl
          have hfz70_0 := blk_frozen BK208.out 0
          have hfz70_1 := blk_frozen BK208.out 1
          go_wp2_with (first | ((with_reducible refine gate_callee (f := 15) rfl ?_); refine goesL_ (some 43) rfl rfl Try.func15 (by kernel_rfl) rfl #[.agg #[.int .i64 a0_0, .slice A0_1 l0_1.length c0_1], .agg #[.int .i64 a1_0, .slice A1_1 l1_1.length c1_1]] rfl gl_ ?_; (with_reducible refine (standstillref06_Join.calls kj20 a0_0 _ _ l0_1 a1_0 _ _ l1_1 t222 t223 _ ?side1 ?side2 ?side3 ?side4 A59.out).mono ?_); (case side1 => exact ck_ (Kd.C_below HR0_1.out HB.out)); (case side2 => exact HC0_1.out); (case side3 => exact ck_ (Kd.C_below HR1_1.out HB.out)); (case side4 => exact HC1_1.out); rintro e w71 ⟨v224, rfl, ho0, hb⟩; refine ⟨_, rfl, ?_⟩; have n0_ := A_ (Kd.R_elder' (rk_ HO_218001.out) (Kd.R_base ho0) hb); have n1_ := A_ (Kd.R_lower (Kd.R_new' ho0 (Kd.R_lt (rk_ HO_218001.out))) (below_size (bk_ HB.out))); have n2_ := A_ (blk_below (pk_ BK207.out) hb); have n3_ := A_ (blk_below (pk_ BK208.out) hb); have n4_ := A_ (blk_below (pk_ BK217.out) hb); have n5_ := A_ (below_step (bk_ HB.out) hb); clear HO_218001 BK207 BK208 BK217 HB; have HO_218001 := n0_; have HO225 := n1_; have BK207 := n2_; have BK208 := n3_; have BK217 := n4_; have HB := n5_; clear n0_ n1_ n2_ n3_ n4_ n5_; (try clear hb); (try clear hb2); (try clear hk); (try clear hi); (try clear ho0)) | ((with_reducible refine gate_dst (N := 7) rfl ?_); refine box_event ?hg (N := 7) ?hd (cs := #[.int .i64 0, .slice none 0 0]) (t := 24) ?hr ?_; (case hd => rfl); (case hg => rfl); (case hr => first | (go_simp; done) | (go_simp; rfl)); intro gb226 hg w72 hbox hb; have n0_ := A_ (Kd.R_below (rk_ HO_218001.out) hb); have n1_ := A_ (Kd.R_below (rk_ HO225.out) hb); have n2_ := A_ (blk_below (pk_ BK207.out) hb); have n3_ := A_ (blk_below (pk_ BK208.out) hb); have n4_ := A_ (blk_below (pk_ BK217.out) hb); have n5_ := A_ (below_step (bk_ HB.out) hb); have n6_ := A_ (hbox); have n7_ := A_ ((by rw [hg]; exact (below_size (bk_ HB.out)) : w.heap.size ≤ gb226)); have n8_ := A_ ((by rw [hg]; exact (below_size (bk_ HB.out)) : w.heap.size ≤ gb226)); have n9_ := A_ ((by rw [hg]; exact Nat.ne_of_lt (blk_lt (pk_ BK207.out)) : gb207 ≠ gb226)); have n10_ := A_ ((by rw [hg]; exact Nat.ne_of_gt (blk_lt (pk_ BK207.out)) : gb226 ≠ gb207)); have n11_ := A_ ((by rw [hg]; exact Nat.ne_of_lt (blk_lt (pk_ BK208.out)) : gb208 ≠ gb226)); have n12_ := A_ ((by rw [hg]; exact Nat.ne_of_gt (blk_lt (pk_ BK208.out)) : gb226 ≠ gb208)); have n13_ := A_ ((by rw [hg]; exact Nat.ne_of_lt (blk_lt (pk_ BK217.out)) : gb217 ≠ gb226)); have n14_ := A_ ((by rw [hg]; exact Nat.ne_of_gt (blk_lt (pk_ BK217.out)) : gb226 ≠ gb217)); clear HO_218001 HO225 BK207 BK208 BK217 HB; have HO_218001 := n0_; have HO225 := n1_; have BK207 := n2_; have BK208 := n3_; have BK217 := n4_; have HB := n5_; have BK226 := n6_; have GW226 := n7_; have GE226 := n8_; have NB207_226 := n9_; have NB226_207 := n10_; have NB208_226 := n11_; have NB226_208 := n12_; have NB217_226 := n13_; have NB226_217 := n14_; clear n0_ n1_ n2_ n3_ n4_ n5_ n6_ n7_ n8_ n9_ n10_ n11_ n12_ n13_ n14_ hb hbox hg; have hnb73 := NB226_207.out; have hnc73 := NB207_226.out; have hnb74 := NB226_208.out; have hnc74 := NB208_226.out; have hnb75 := NB226_217.out; have hnc75 := NB217_226.out; have hcz76_0 : w72.cell? ⟨gb226, 0, none⟩ = some (.int .i64 0) := (blk_cell BK226.out 0).trans rfl; have hcz76_1 : w72.cell? ⟨gb226, 1, none⟩ = some (.slice none 0 0) := (blk_cell BK226.out 1).trans rfl; have hfz76_0 := blk_frozen BK226.out 0; have hfz76_1 := blk_frozen BK226.out 1; obtain ⟨Ao77, co77, eo77⟩ := Kd.R_slice HO225.out; subst eo77) | ((with_reducible refine gate_callee (f := 13) rfl ?_); refine goesL_ (some 45) rfl rfl Try.func13 (by kernel_rfl) rfl #[.agg #[.int .i64 t222, .slice Ao77 t223.length co77]] rfl gl_ ?_; (with_reducible refine (standstillref06_Valid.calls kj20 t222 _ _ t223 true _ ?side1 ?side2 A60.out).mono ?_); (case side1 => refine (Kd.R_reads' (e := 33) (base := w.heap.size) (ok := fun k_ => (True ∧ some k_ ≠ (.slice Ao30 t213.length co30 : Value).ownBlock)) (n := t223.length) (c := co77) ?_).2.2; exact (by (with_reducible repeat (first | apply Kd.R_alloc | apply Kd.R_drewN | apply Kd.R_drew)); exact (Kd.R_mono (Kd.R_far (p := ⟨gb226, 1, none⟩) (Kd.R_far (p := ⟨gb226, 0, none⟩) (Kd.R_types HO225.out BK226.out (by decide)) (fun _ hk => hk.2) (.int .i64 t222)) (fun _ hk => hk.2) (.slice Ao77 t223.length co77)) (fun _ h_ => h_.1)))); (case side2 => exact (Kd.R_reads' HO225.out).2.1); rintro e w78 ⟨rfl, hb⟩; refine ⟨_, rfl, ?_⟩; have n0_ := A_ (Kd.R_below (by (with_reducible repeat (first | apply Kd.R_alloc | apply Kd.R_drewN | apply Kd.R_drew)); exact (Kd.R_mono (Kd.R_far (p := ⟨gb226, 1, none⟩) (Kd.R_far (p := ⟨gb226, 0, none⟩) (Kd.R_types HO_218001.out BK226.out (by decide)) (fun _ hk => hk.2) (.int .i64 t222)) (fun _ hk => hk.2) (.slice Ao77 t223.length co77)) (fun _ h_ => h_.1))) hb); have n1_ := A_ (Kd.R_below (by (with_reducible repeat (first | apply Kd.R_alloc | apply Kd.R_drewN | apply Kd.R_drew)); exact (Kd.R_mono (Kd.R_far (p := ⟨gb226, 1, none⟩) (Kd.R_far (p := ⟨gb226, 0, none⟩) (Kd.R_types HO225.out BK226.out (by decide)) (fun _ hk => hk.2) (.int .i64 t222)) (fun _ hk => hk.2) (.slice Ao77 t223.length co77)) (fun _ h_ => h_.1))) hb); have n2_ := A_ (blk_below (g := gb207) (o := .cells #[.int .i64 a0_0, .slice A0_1 l0_1.length c0_1] 24 (0, 0)) (by (with_reducible repeat (first | refine blk_drewN ?_ _ | refine blk_drew ?_ | refine blk_alloc ?_ _)); refine blk_far ?_ NB207_226.out _; (with_reducible repeat (first | refine blk_drewN ?_ _ | refine blk_drew ?_ | refine blk_alloc ?_ _)); refine blk_far ?_ NB207_226.out _; exact pk_ BK207.out) hb); have n3_ := A_ (blk_below (g := gb208) (o := .cells #[.int .i64 a1_0, .slice A1_1 l1_1.length c1_1] 24 (0, 0)) (by (with_reducible repeat (first | refine blk_drewN ?_ _ | refine blk_drew ?_ | refine blk_alloc ?_ _)); refine blk_far ?_ NB208_226.out _; (with_reducible repeat (first | refine blk_drewN ?_ _ | refine blk_drew ?_ | refine blk_alloc ?_ _)); refine blk_far ?_ NB208_226.out _; exact pk_ BK208.out) hb); have n4_ := A_ (blk_below (g := gb217) (o := .cells #[.int .i64 t212, .slice Ao30 t213.length co30] 24 (0, 0)) (by (with_reducible repeat (first | refine blk_drewN ?_ _ | refine blk_drew ?_ | refine blk_alloc ?_ _)); refine blk_far ?_ NB217_226.out _; (with_reducible repeat (first | refine blk_drewN ?_ _ | refine blk_drew ?_ | refine blk_alloc ?_ _)); refine blk_far ?_ NB217_226.out _; exact pk_ BK217.out) hb); have n5_ := A_ (blk_below (g := gb226) (o := .cells #[.int .i64 t222, .slice Ao77 t223.length co77] 24 (0, 0)) (by (with_reducible repeat (first | refine blk_drewN ?_ _ | refine blk_drew ?_ | refine blk_alloc ?_ _)); refine blk_put (cs := #[.int .i64 t222, .slice none 0 0]) ?_ 1 _ rfl; (with_reducible repeat (first | refine blk_drewN ?_ _ | refine blk_drew ?_ | refine blk_alloc ?_ _)); refine blk_put (cs := #[.int .i64 0, .slice none 0 0]) ?_ 0 _ rfl; exact pk_ BK226.out) hb); have n6_ := A_ (below_step (bk_ HB.out) hb); clear HO_218001 HO225 BK207 BK208 BK217 BK226 HB; have HO_218001 := n0_; have HO225 := n1_; have BK207 := n2_; have BK208 := n3_; have BK217 := n4_; have BK226 := n5_; have HB := n6_; clear n0_ n1_ n2_ n3_ n4_ n5_ n6_; (try clear hb); (try clear hb2); (try clear hk); (try clear hi); have hcz79_0 : w78.cell? ⟨gb217, 0, none⟩ = some (.int .i64 t212) := (blk_cell BK217.out 0).trans rfl; have hcz79_1 : w78.cell? ⟨gb217, 1, none⟩ = some (.slice Ao30 t213.length co30) := (blk_cell BK217.out 1).trans rfl; have hfz79_0 := blk_frozen BK217.out 0; have hfz79_1 := blk_frozen BK217.out 1; have hcz80_0 : w78.cell? ⟨gb226, 0, none⟩ = some (.int .i64 t222) := (blk_cell BK226.out 0).trans rfl; have hcz80_1 : w78.cell? ⟨gb226, 1, none⟩ = some (.slice Ao77 t223.length co77) := (blk_cell BK226.out 1).trans rfl; have hfz80_0 := blk_frozen BK226.out 0; have hfz80_1 := blk_frozen BK226.out 1) | (go_at_call 14; (with_reducible refine (standstillref06_Same.calls kj20 t212 _ _ t213 t222 _ _ t223 true _ ?side1 ?side2 ?side3 ?side4 A63.out).mono ?_); (case side1 => repeat (first | exact (Kd.R_reads' HO_218001.out).2.2 | (with_reducible refine Kd.C_alloc ?_ _) | (with_reducible refine Kd.C_drewN ?_ _) | (with_reducible refine Kd.C_drew ?_))); (case side2 => exact (Kd.R_reads' HO_218001.out).2.1); (case side3 => repeat (first | exact (Kd.R_reads' HO225.out).2.2 | (with_reducible refine Kd.C_alloc ?_ _) | (with_reducible refine Kd.C_drewN ?_ _) | (with_reducible refine Kd.C_drew ?_))); (case side4 => exact (Kd.R_reads' HO225.out).2.1); rintro e w81 ⟨rfl, hb⟩; have n0_ := A_ (Kd.R_below (rk_ HO_218001.out) hb); have n1_ := A_ (Kd.R_below (rk_ HO225.out) hb); have n2_ := A_ (blk_below (pk_ BK207.out) hb); have n3_ := A_ (blk_below (pk_ BK208.out) hb); have n4_ := A_ (blk_below (pk_ BK217.out) hb); have n5_ := A_ (blk_below (pk_ BK226.out) hb); have n6_ := A_ (below_step (bk_ HB.out) hb); clear HO_218001 HO225 BK207 BK208 BK217 BK226 HB; have HO_218001 := n0_; have HO225 := n1_; have BK207 := n2_; have BK208 := n3_; have BK217 := n4_; have BK226 := n5_; have HB := n6_; clear n0_ n1_ n2_ n3_ n4_ n5_ n6_; (try clear hb); (try clear hb2); (try clear hk); (try clear hi)) | (go_at_call 10; (with_reducible refine (standstilllaw06_awake.calls kj20  t229 _ A65.out).mono ?_); rintro e w82 ⟨rfl, hb⟩; have n0_ := A_ (Kd.R_below (rk_ HO_218001.out) hb); have n1_ := A_ (Kd.R_below (rk_ HO225.out) hb); have n2_ := A_ (blk_below (pk_ BK207.out) hb); have n3_ := A_ (blk_below (pk_ BK208.out) hb); have n4_ := A_ (blk_below (pk_ BK217.out) hb); have n5_ := A_ (blk_below (pk_ BK226.out) hb); have n6_ := A_ (below_step (bk_ HB.out) hb); clear HO_218001 HO225 BK207 BK208 BK217 BK226 HB; have HO_218001 := n0_; have HO225 := n1_; have BK207 := n2_; have BK208 := n3_; have BK217 := n4_; have BK226 := n5_; have HB := n6_; clear n0_ n1_ n2_ n3_ n4_ n5_ n6_; (try clear hb); (try clear hb2); (try clear hk); (try clear hi)))
          go_ret
          exact ⟨by first | rfl | (simp [errW_none, errW_some] <;> rfl) | (simp [*, errW_none, errW_some] <;> rfl), bk_ HB.out⟩
         ·replace c64 := Bool.eq_false_iff.mpr c64
          subst c64
          have H1 : (some false) = some r := by rw [if_neg (show ¬ (false = true) by decide)] at H; exact H
          clear H
          have H := H1
          clear H1
          obtain rfl := Option.some.inj H
          have hnb83 := NB207_208.out
          have hnc83 := NB208_207.out
          have hnb84 := NB207_217.out
          have hnc84 := NB217_207.out
          have hcz85_0 : wc.cell? ⟨gb207, 0, none⟩ = some (.int .i64 a0_0) := (blk_cell BK207.out 0).trans rfl
          have hcz85_1 : wc.cell? ⟨gb207, 1, none⟩ = some (.slice A0_1 l0_1.length c0_1) := (blk_cell BK207.out 1).trans rfl
          have hfz85_0 := blk_frozen BK207.out 0
          have hfz85_1 := blk_frozen BK207.out 1
          have hnb86 := NB208_217.out
          have hnc86 := NB217_208.out
          have hcz87_0 : wc.cell? ⟨gb208, 0, none⟩ = some (.int .i64 a1_0) := (blk_cell BK208.out 0).trans rfl
          have hcz87_1 : wc.cell? ⟨gb208, 1, none⟩ = some (.slice A1_1 l1_1.length c1_1) := (blk_cell BK208.out 1).trans rfl
          have hfz87_0 := blk_frozen BK208.out 0
          have hfz87_1 := blk_frozen BK208.out 1
          go_wp2_with (first | ((with_reducible refine gate_callee (f := 15) rfl ?_); refine goesL_ (some 43) rfl rfl Try.func15 (by kernel_rfl) rfl #[.agg #[.int .i64 a0_0, .slice A0_1 l0_1.length c0_1], .agg #[.int .i64 a1_0, .slice A1_1 l1_1.length c1_1]] rfl gl_ ?_; (with_reducible refine (standstillref06_Join.calls kj20 a0_0 _ _ l0_1 a1_0 _ _ l1_1 t222 t223 _ ?side1 ?side2 ?side3 ?side4 A59.out).mono ?_); (case side1 => exact ck_ (Kd.C_below HR0_1.out HB.out)); (case side2 => exact HC0_1.out); (case side3 => exact ck_ (Kd.C_below HR1_1.out HB.out)); (case side4 => exact HC1_1.out); rintro e w88 ⟨v224, rfl, ho0, hb⟩; refine ⟨_, rfl, ?_⟩; have n0_ := A_ (Kd.R_elder' (rk_ HO_218001.out) (Kd.R_base ho0) hb); have n1_ := A_ (Kd.R_lower (Kd.R_new' ho0 (Kd.R_lt (rk_ HO_218001.out))) (below_size (bk_ HB.out))); have n2_ := A_ (blk_below (pk_ BK207.out) hb); have n3_ := A_ (blk_below (pk_ BK208.out) hb); have n4_ := A_ (blk_below (pk_ BK217.out) hb); have n5_ := A_ (below_step (bk_ HB.out) hb); clear HO_218001 BK207 BK208 BK217 HB; have HO_218001 := n0_; have HO225 := n1_; have BK207 := n2_; have BK208 := n3_; have BK217 := n4_; have HB := n5_; clear n0_ n1_ n2_ n3_ n4_ n5_; (try clear hb); (try clear hb2); (try clear hk); (try clear hi); (try clear ho0)) | ((with_reducible refine gate_dst (N := 7) rfl ?_); refine box_event ?hg (N := 7) ?hd (cs := #[.int .i64 0, .slice none 0 0]) (t := 24) ?hr ?_; (case hd => rfl); (case hg => rfl); (case hr => first | (go_simp; done) | (go_simp; rfl)); intro gb226 hg w89 hbox hb; have n0_ := A_ (Kd.R_below (rk_ HO_218001.out) hb); have n1_ := A_ (Kd.R_below (rk_ HO225.out) hb); have n2_ := A_ (blk_below (pk_ BK207.out) hb); have n3_ := A_ (blk_below (pk_ BK208.out) hb); have n4_ := A_ (blk_below (pk_ BK217.out) hb); have n5_ := A_ (below_step (bk_ HB.out) hb); have n6_ := A_ (hbox); have n7_ := A_ ((by rw [hg]; exact (below_size (bk_ HB.out)) : w.heap.size ≤ gb226)); have n8_ := A_ ((by rw [hg]; exact (below_size (bk_ HB.out)) : w.heap.size ≤ gb226)); have n9_ := A_ ((by rw [hg]; exact Nat.ne_of_lt (blk_lt (pk_ BK207.out)) : gb207 ≠ gb226)); have n10_ := A_ ((by rw [hg]; exact Nat.ne_of_gt (blk_lt (pk_ BK207.out)) : gb226 ≠ gb207)); have n11_ := A_ ((by rw [hg]; exact Nat.ne_of_lt (blk_lt (pk_ BK208.out)) : gb208 ≠ gb226)); have n12_ := A_ ((by rw [hg]; exact Nat.ne_of_gt (blk_lt (pk_ BK208.out)) : gb226 ≠ gb208)); have n13_ := A_ ((by rw [hg]; exact Nat.ne_of_lt (blk_lt (pk_ BK217.out)) : gb217 ≠ gb226)); have n14_ := A_ ((by rw [hg]; exact Nat.ne_of_gt (blk_lt (pk_ BK217.out)) : gb226 ≠ gb217)); clear HO_218001 HO225 BK207 BK208 BK217 HB; have HO_218001 := n0_; have HO225 := n1_; have BK207 := n2_; have BK208 := n3_; have BK217 := n4_; have HB := n5_; have BK226 := n6_; have GW226 := n7_; have GE226 := n8_; have NB207_226 := n9_; have NB226_207 := n10_; have NB208_226 := n11_; have NB226_208 := n12_; have NB217_226 := n13_; have NB226_217 := n14_; clear n0_ n1_ n2_ n3_ n4_ n5_ n6_ n7_ n8_ n9_ n10_ n11_ n12_ n13_ n14_ hb hbox hg; have hnb90 := NB226_207.out; have hnc90 := NB207_226.out; have hnb91 := NB226_208.out; have hnc91 := NB208_226.out; have hnb92 := NB226_217.out; have hnc92 := NB217_226.out; have hcz93_0 : w89.cell? ⟨gb226, 0, none⟩ = some (.int .i64 0) := (blk_cell BK226.out 0).trans rfl; have hcz93_1 : w89.cell? ⟨gb226, 1, none⟩ = some (.slice none 0 0) := (blk_cell BK226.out 1).trans rfl; have hfz93_0 := blk_frozen BK226.out 0; have hfz93_1 := blk_frozen BK226.out 1; obtain ⟨Ao94, co94, eo94⟩ := Kd.R_slice HO225.out; subst eo94) | ((with_reducible refine gate_callee (f := 13) rfl ?_); refine goesL_ (some 45) rfl rfl Try.func13 (by kernel_rfl) rfl #[.agg #[.int .i64 t222, .slice Ao94 t223.length co94]] rfl gl_ ?_; (with_reducible refine (standstillref06_Valid.calls kj20 t222 _ _ t223 true _ ?side1 ?side2 A60.out).mono ?_); (case side1 => refine (Kd.R_reads' (e := 33) (base := w.heap.size) (ok := fun k_ => (True ∧ some k_ ≠ (.slice Ao30 t213.length co30 : Value).ownBlock)) (n := t223.length) (c := co94) ?_).2.2; exact (by (with_reducible repeat (first | apply Kd.R_alloc | apply Kd.R_drewN | apply Kd.R_drew)); exact (Kd.R_mono (Kd.R_far (p := ⟨gb226, 1, none⟩) (Kd.R_far (p := ⟨gb226, 0, none⟩) (Kd.R_types HO225.out BK226.out (by decide)) (fun _ hk => hk.2) (.int .i64 t222)) (fun _ hk => hk.2) (.slice Ao94 t223.length co94)) (fun _ h_ => h_.1)))); (case side2 => exact (Kd.R_reads' HO225.out).2.1); rintro e w95 ⟨rfl, hb⟩; refine ⟨_, rfl, ?_⟩; have n0_ := A_ (Kd.R_below (by (with_reducible repeat (first | apply Kd.R_alloc | apply Kd.R_drewN | apply Kd.R_drew)); exact (Kd.R_mono (Kd.R_far (p := ⟨gb226, 1, none⟩) (Kd.R_far (p := ⟨gb226, 0, none⟩) (Kd.R_types HO_218001.out BK226.out (by decide)) (fun _ hk => hk.2) (.int .i64 t222)) (fun _ hk => hk.2) (.slice Ao94 t223.length co94)) (fun _ h_ => h_.1))) hb); have n1_ := A_ (Kd.R_below (by (with_reducible repeat (first | apply Kd.R_alloc | apply Kd.R_drewN | apply Kd.R_drew)); exact (Kd.R_mono (Kd.R_far (p := ⟨gb226, 1, none⟩) (Kd.R_far (p := ⟨gb226, 0, none⟩) (Kd.R_types HO225.out BK226.out (by decide)) (fun _ hk => hk.2) (.int .i64 t222)) (fun _ hk => hk.2) (.slice Ao94 t223.length co94)) (fun _ h_ => h_.1))) hb); have n2_ := A_ (blk_below (g := gb207) (o := .cells #[.int .i64 a0_0, .slice A0_1 l0_1.length c0_1] 24 (0, 0)) (by (with_reducible repeat (first | refine blk_drewN ?_ _ | refine blk_drew ?_ | refine blk_alloc ?_ _)); refine blk_far ?_ NB207_226.out _; (with_reducible repeat (first | refine blk_drewN ?_ _ | refine blk_drew ?_ | refine blk_alloc ?_ _)); refine blk_far ?_ NB207_226.out _; exact pk_ BK207.out) hb); have n3_ := A_ (blk_below (g := gb208) (o := .cells #[.int .i64 a1_0, .slice A1_1 l1_1.length c1_1] 24 (0, 0)) (by (with_reducible repeat (first | refine blk_drewN ?_ _ | refine blk_drew ?_ | refine blk_alloc ?_ _)); refine blk_far ?_ NB208_226.out _; (with_reducible repeat (first | refine blk_drewN ?_ _ | refine blk_drew ?_ | refine blk_alloc ?_ _)); refine blk_far ?_ NB208_226.out _; exact pk_ BK208.out) hb); have n4_ := A_ (blk_below (g := gb217) (o := .cells #[.int .i64 t212, .slice Ao30 t213.length co30] 24 (0, 0)) (by (with_reducible repeat (first | refine blk_drewN ?_ _ | refine blk_drew ?_ | refine blk_alloc ?_ _)); refine blk_far ?_ NB217_226.out _; (with_reducible repeat (first | refine blk_drewN ?_ _ | refine blk_drew ?_ | refine blk_alloc ?_ _)); refine blk_far ?_ NB217_226.out _; exact pk_ BK217.out) hb); have n5_ := A_ (blk_below (g := gb226) (o := .cells #[.int .i64 t222, .slice Ao94 t223.length co94] 24 (0, 0)) (by (with_reducible repeat (first | refine blk_drewN ?_ _ | refine blk_drew ?_ | refine blk_alloc ?_ _)); refine blk_put (cs := #[.int .i64 t222, .slice none 0 0]) ?_ 1 _ rfl; (with_reducible repeat (first | refine blk_drewN ?_ _ | refine blk_drew ?_ | refine blk_alloc ?_ _)); refine blk_put (cs := #[.int .i64 0, .slice none 0 0]) ?_ 0 _ rfl; exact pk_ BK226.out) hb); have n6_ := A_ (below_step (bk_ HB.out) hb); clear HO_218001 HO225 BK207 BK208 BK217 BK226 HB; have HO_218001 := n0_; have HO225 := n1_; have BK207 := n2_; have BK208 := n3_; have BK217 := n4_; have BK226 := n5_; have HB := n6_; clear n0_ n1_ n2_ n3_ n4_ n5_ n6_; (try clear hb); (try clear hb2); (try clear hk); (try clear hi); have hcz96_0 : w95.cell? ⟨gb217, 0, none⟩ = some (.int .i64 t212) := (blk_cell BK217.out 0).trans rfl; have hcz96_1 : w95.cell? ⟨gb217, 1, none⟩ = some (.slice Ao30 t213.length co30) := (blk_cell BK217.out 1).trans rfl; have hfz96_0 := blk_frozen BK217.out 0; have hfz96_1 := blk_frozen BK217.out 1; have hcz97_0 : w95.cell? ⟨gb226, 0, none⟩ = some (.int .i64 t222) := (blk_cell BK226.out 0).trans rfl; have hcz97_1 : w95.cell? ⟨gb226, 1, none⟩ = some (.slice Ao94 t223.length co94) := (blk_cell BK226.out 1).trans rfl; have hfz97_0 := blk_frozen BK226.out 0; have hfz97_1 := blk_frozen BK226.out 1) | (go_at_call 14; (with_reducible refine (standstillref06_Same.calls kj20 t212 _ _ t213 t222 _ _ t223 false _ ?side1 ?side2 ?side3 ?side4 A63.out).mono ?_); (case side1 => repeat (first | exact (Kd.R_reads' HO_218001.out).2.2 | (with_reducible refine Kd.C_alloc ?_ _) | (with_reducible refine Kd.C_drewN ?_ _) | (with_reducible refine Kd.C_drew ?_))); (case side2 => exact (Kd.R_reads' HO_218001.out).2.1); (case side3 => repeat (first | exact (Kd.R_reads' HO225.out).2.2 | (with_reducible refine Kd.C_alloc ?_ _) | (with_reducible refine Kd.C_drewN ?_ _) | (with_reducible refine Kd.C_drew ?_))); (case side4 => exact (Kd.R_reads' HO225.out).2.1); rintro e w98 ⟨rfl, hb⟩; have n0_ := A_ (Kd.R_below (rk_ HO_218001.out) hb); have n1_ := A_ (Kd.R_below (rk_ HO225.out) hb); have n2_ := A_ (blk_below (pk_ BK207.out) hb); have n3_ := A_ (blk_below (pk_ BK208.out) hb); have n4_ := A_ (blk_below (pk_ BK217.out) hb); have n5_ := A_ (blk_below (pk_ BK226.out) hb); have n6_ := A_ (below_step (bk_ HB.out) hb); clear HO_218001 HO225 BK207 BK208 BK217 BK226 HB; have HO_218001 := n0_; have HO225 := n1_; have BK207 := n2_; have BK208 := n3_; have BK217 := n4_; have BK226 := n5_; have HB := n6_; clear n0_ n1_ n2_ n3_ n4_ n5_ n6_; (try clear hb); (try clear hb2); (try clear hk); (try clear hi)))
          go_ret
          exact ⟨by first | rfl | (simp [errW_none, errW_some] <;> rfl) | (simp [*, errW_none, errW_some] <;> rfl), bk_ HB.out⟩
        ·rw [if_neg c62] at H
         have c62b0 : (t216 == 0) = false := beq_eq_false_iff_ne.mpr c62
         have c62b1 : (t216 != 0) = true := bne_iff_ne.mpr c62
         obtain rfl := Option.some.inj H
         have hnb99 := NB207_208.out
         have hnc99 := NB208_207.out
         have hnb100 := NB207_217.out
         have hnc100 := NB217_207.out
         have hcz101_0 : wc.cell? ⟨gb207, 0, none⟩ = some (.int .i64 a0_0) := (blk_cell BK207.out 0).trans rfl
         have hcz101_1 : wc.cell? ⟨gb207, 1, none⟩ = some (.slice A0_1 l0_1.length c0_1) := (blk_cell BK207.out 1).trans rfl
         have hfz101_0 := blk_frozen BK207.out 0
         have hfz101_1 := blk_frozen BK207.out 1
         have hnb102 := NB208_217.out
         have hnc102 := NB217_208.out
         have hcz103_0 : wc.cell? ⟨gb208, 0, none⟩ = some (.int .i64 a1_0) := (blk_cell BK208.out 0).trans rfl
         have hcz103_1 : wc.cell? ⟨gb208, 1, none⟩ = some (.slice A1_1 l1_1.length c1_1) := (blk_cell BK208.out 1).trans rfl
         have hfz103_0 := blk_frozen BK208.out 0
         have hfz103_1 := blk_frozen BK208.out 1
         go_wp2_with (first | ((with_reducible refine gate_callee (f := 15) rfl ?_); refine goesL_ (some 43) rfl rfl Try.func15 (by kernel_rfl) rfl #[.agg #[.int .i64 a0_0, .slice A0_1 l0_1.length c0_1], .agg #[.int .i64 a1_0, .slice A1_1 l1_1.length c1_1]] rfl gl_ ?_; (with_reducible refine (standstillref06_Join.calls kj20 a0_0 _ _ l0_1 a1_0 _ _ l1_1 t222 t223 _ ?side1 ?side2 ?side3 ?side4 A59.out).mono ?_); (case side1 => exact ck_ (Kd.C_below HR0_1.out HB.out)); (case side2 => exact HC0_1.out); (case side3 => exact ck_ (Kd.C_below HR1_1.out HB.out)); (case side4 => exact HC1_1.out); rintro e w104 ⟨v224, rfl, ho0, hb⟩; refine ⟨_, rfl, ?_⟩; have n0_ := A_ (Kd.R_elder' (rk_ HO_218001.out) (Kd.R_base ho0) hb); have n1_ := A_ (Kd.R_lower (Kd.R_new' ho0 (Kd.R_lt (rk_ HO_218001.out))) (below_size (bk_ HB.out))); have n2_ := A_ (blk_below (pk_ BK207.out) hb); have n3_ := A_ (blk_below (pk_ BK208.out) hb); have n4_ := A_ (blk_below (pk_ BK217.out) hb); have n5_ := A_ (below_step (bk_ HB.out) hb); clear HO_218001 BK207 BK208 BK217 HB; have HO_218001 := n0_; have HO225 := n1_; have BK207 := n2_; have BK208 := n3_; have BK217 := n4_; have HB := n5_; clear n0_ n1_ n2_ n3_ n4_ n5_; (try clear hb); (try clear hb2); (try clear hk); (try clear hi); (try clear ho0)) | ((with_reducible refine gate_dst (N := 7) rfl ?_); refine box_event ?hg (N := 7) ?hd (cs := #[.int .i64 0, .slice none 0 0]) (t := 24) ?hr ?_; (case hd => rfl); (case hg => rfl); (case hr => first | (go_simp; done) | (go_simp; rfl)); intro gb226 hg w105 hbox hb; have n0_ := A_ (Kd.R_below (rk_ HO_218001.out) hb); have n1_ := A_ (Kd.R_below (rk_ HO225.out) hb); have n2_ := A_ (blk_below (pk_ BK207.out) hb); have n3_ := A_ (blk_below (pk_ BK208.out) hb); have n4_ := A_ (blk_below (pk_ BK217.out) hb); have n5_ := A_ (below_step (bk_ HB.out) hb); have n6_ := A_ (hbox); have n7_ := A_ ((by rw [hg]; exact (below_size (bk_ HB.out)) : w.heap.size ≤ gb226)); have n8_ := A_ ((by rw [hg]; exact (below_size (bk_ HB.out)) : w.heap.size ≤ gb226)); have n9_ := A_ ((by rw [hg]; exact Nat.ne_of_lt (blk_lt (pk_ BK207.out)) : gb207 ≠ gb226)); have n10_ := A_ ((by rw [hg]; exact Nat.ne_of_gt (blk_lt (pk_ BK207.out)) : gb226 ≠ gb207)); have n11_ := A_ ((by rw [hg]; exact Nat.ne_of_lt (blk_lt (pk_ BK208.out)) : gb208 ≠ gb226)); have n12_ := A_ ((by rw [hg]; exact Nat.ne_of_gt (blk_lt (pk_ BK208.out)) : gb226 ≠ gb208)); have n13_ := A_ ((by rw [hg]; exact Nat.ne_of_lt (blk_lt (pk_ BK217.out)) : gb217 ≠ gb226)); have n14_ := A_ ((by rw [hg]; exact Nat.ne_of_gt (blk_lt (pk_ BK217.out)) : gb226 ≠ gb217)); clear HO_218001 HO225 BK207 BK208 BK217 HB; have HO_218001 := n0_; have HO225 := n1_; have BK207 := n2_; have BK208 := n3_; have BK217 := n4_; have HB := n5_; have BK226 := n6_; have GW226 := n7_; have GE226 := n8_; have NB207_226 := n9_; have NB226_207 := n10_; have NB208_226 := n11_; have NB226_208 := n12_; have NB217_226 := n13_; have NB226_217 := n14_; clear n0_ n1_ n2_ n3_ n4_ n5_ n6_ n7_ n8_ n9_ n10_ n11_ n12_ n13_ n14_ hb hbox hg; have hnb106 := NB226_207.out; have hnc106 := NB207_226.out; have hnb107 := NB226_208.out; have hnc107 := NB208_226.out; have hnb108 := NB226_217.out; have hnc108 := NB217_226.out; have hcz109_0 : w105.cell? ⟨gb226, 0, none⟩ = some (.int .i64 0) := (blk_cell BK226.out 0).trans rfl; have hcz109_1 : w105.cell? ⟨gb226, 1, none⟩ = some (.slice none 0 0) := (blk_cell BK226.out 1).trans rfl; have hfz109_0 := blk_frozen BK226.out 0; have hfz109_1 := blk_frozen BK226.out 1; obtain ⟨Ao110, co110, eo110⟩ := Kd.R_slice HO225.out; subst eo110) | ((with_reducible refine gate_callee (f := 13) rfl ?_); refine goesL_ (some 45) rfl rfl Try.func13 (by kernel_rfl) rfl #[.agg #[.int .i64 t222, .slice Ao110 t223.length co110]] rfl gl_ ?_; (with_reducible refine (standstillref06_Valid.calls kj20 t222 _ _ t223 true _ ?side1 ?side2 A60.out).mono ?_); (case side1 => refine (Kd.R_reads' (e := 33) (base := w.heap.size) (ok := fun k_ => (True ∧ some k_ ≠ (.slice Ao30 t213.length co30 : Value).ownBlock)) (n := t223.length) (c := co110) ?_).2.2; exact (by (with_reducible repeat (first | apply Kd.R_alloc | apply Kd.R_drewN | apply Kd.R_drew)); exact (Kd.R_mono (Kd.R_far (p := ⟨gb226, 1, none⟩) (Kd.R_far (p := ⟨gb226, 0, none⟩) (Kd.R_types HO225.out BK226.out (by decide)) (fun _ hk => hk.2) (.int .i64 t222)) (fun _ hk => hk.2) (.slice Ao110 t223.length co110)) (fun _ h_ => h_.1)))); (case side2 => exact (Kd.R_reads' HO225.out).2.1); rintro e w111 ⟨rfl, hb⟩; refine ⟨_, rfl, ?_⟩; have n0_ := A_ (Kd.R_below (by (with_reducible repeat (first | apply Kd.R_alloc | apply Kd.R_drewN | apply Kd.R_drew)); exact (Kd.R_mono (Kd.R_far (p := ⟨gb226, 1, none⟩) (Kd.R_far (p := ⟨gb226, 0, none⟩) (Kd.R_types HO_218001.out BK226.out (by decide)) (fun _ hk => hk.2) (.int .i64 t222)) (fun _ hk => hk.2) (.slice Ao110 t223.length co110)) (fun _ h_ => h_.1))) hb); have n1_ := A_ (Kd.R_below (by (with_reducible repeat (first | apply Kd.R_alloc | apply Kd.R_drewN | apply Kd.R_drew)); exact (Kd.R_mono (Kd.R_far (p := ⟨gb226, 1, none⟩) (Kd.R_far (p := ⟨gb226, 0, none⟩) (Kd.R_types HO225.out BK226.out (by decide)) (fun _ hk => hk.2) (.int .i64 t222)) (fun _ hk => hk.2) (.slice Ao110 t223.length co110)) (fun _ h_ => h_.1))) hb); have n2_ := A_ (blk_below (g := gb207) (o := .cells #[.int .i64 a0_0, .slice A0_1 l0_1.length c0_1] 24 (0, 0)) (by (with_reducible repeat (first | refine blk_drewN ?_ _ | refine blk_drew ?_ | refine blk_alloc ?_ _)); refine blk_far ?_ NB207_226.out _; (with_reducible repeat (first | refine blk_drewN ?_ _ | refine blk_drew ?_ | refine blk_alloc ?_ _)); refine blk_far ?_ NB207_226.out _; exact pk_ BK207.out) hb); have n3_ := A_ (blk_below (g := gb208) (o := .cells #[.int .i64 a1_0, .slice A1_1 l1_1.length c1_1] 24 (0, 0)) (by (with_reducible repeat (first | refine blk_drewN ?_ _ | refine blk_drew ?_ | refine blk_alloc ?_ _)); refine blk_far ?_ NB208_226.out _; (with_reducible repeat (first | refine blk_drewN ?_ _ | refine blk_drew ?_ | refine blk_alloc ?_ _)); refine blk_far ?_ NB208_226.out _; exact pk_ BK208.out) hb); have n4_ := A_ (blk_below (g := gb217) (o := .cells #[.int .i64 t212, .slice Ao30 t213.length co30] 24 (0, 0)) (by (with_reducible repeat (first | refine blk_drewN ?_ _ | refine blk_drew ?_ | refine blk_alloc ?_ _)); refine blk_far ?_ NB217_226.out _; (with_reducible repeat (first | refine blk_drewN ?_ _ | refine blk_drew ?_ | refine blk_alloc ?_ _)); refine blk_far ?_ NB217_226.out _; exact pk_ BK217.out) hb); have n5_ := A_ (blk_below (g := gb226) (o := .cells #[.int .i64 t222, .slice Ao110 t223.length co110] 24 (0, 0)) (by (with_reducible repeat (first | refine blk_drewN ?_ _ | refine blk_drew ?_ | refine blk_alloc ?_ _)); refine blk_put (cs := #[.int .i64 t222, .slice none 0 0]) ?_ 1 _ rfl; (with_reducible repeat (first | refine blk_drewN ?_ _ | refine blk_drew ?_ | refine blk_alloc ?_ _)); refine blk_put (cs := #[.int .i64 0, .slice none 0 0]) ?_ 0 _ rfl; exact pk_ BK226.out) hb); have n6_ := A_ (below_step (bk_ HB.out) hb); clear HO_218001 HO225 BK207 BK208 BK217 BK226 HB; have HO_218001 := n0_; have HO225 := n1_; have BK207 := n2_; have BK208 := n3_; have BK217 := n4_; have BK226 := n5_; have HB := n6_; clear n0_ n1_ n2_ n3_ n4_ n5_ n6_; (try clear hb); (try clear hb2); (try clear hk); (try clear hi)))
         go_ret
         exact ⟨by first | rfl | (simp [errW_none, errW_some] <;> rfl) | (simp [*, errW_none, errW_some] <;> rfl), bk_ HB.out⟩
       ·replace c61 := Bool.eq_false_iff.mpr c61
        subst c61
        have H1 : (if t216 = 4 then ((standstillref06_Same.f kj20 t212 t213 0 ([] : List (S33))).bind fun t230 => (if t230 = true then ((standstilllaw06_awake.f kj20).bind fun t231 => (some t231)) else (some false))) else (some false)) = some r := by rw [if_neg (show ¬ (false = true) by decide)] at H; exact H
        clear H
        have H := H1
        clear H1
        by_cases c112 : t216 = 4
        ·rw [if_pos c112] at H
         have c112b0 : (t216 == 4) = true := beq_iff_eq.mpr c112
         have c112b1 : (t216 != 4) = false := bne_eq_false_iff_eq.mpr c112
         clear c112
         replace H := Option.bind_eq_some_iff.mp H
         obtain ⟨t230, A1130, H⟩ := H
         replace H : (if t230 = true then ((standstilllaw06_awake.f kj20).bind fun t231 => (some t231)) else (some false)) = some r := H
         have A113 := Aside0.mk A1130
         clear A1130
         by_cases c114 : t230 = true
         ·subst c114
          have H1 : ((standstilllaw06_awake.f kj20).bind fun t231 => (some t231)) = some r := by rw [if_pos rfl] at H; exact H
          clear H
          have H := H1
          clear H1
          replace H := Option.bind_eq_some_iff.mp H
          obtain ⟨t231, A1150, H⟩ := H
          replace H : (some t231) = some r := H
          have A115 := Aside0.mk A1150
          clear A1150
          obtain rfl := Option.some.inj H
          have hnb116 := NB207_208.out
          have hnc116 := NB208_207.out
          have hnb117 := NB207_217.out
          have hnc117 := NB217_207.out
          have hcz118_0 : wc.cell? ⟨gb207, 0, none⟩ = some (.int .i64 a0_0) := (blk_cell BK207.out 0).trans rfl
          have hcz118_1 : wc.cell? ⟨gb207, 1, none⟩ = some (.slice A0_1 l0_1.length c0_1) := (blk_cell BK207.out 1).trans rfl
          have hfz118_0 := blk_frozen BK207.out 0
          have hfz118_1 := blk_frozen BK207.out 1
          have hnb119 := NB208_217.out
          have hnc119 := NB217_208.out
          have hcz120_0 : wc.cell? ⟨gb208, 0, none⟩ = some (.int .i64 a1_0) := (blk_cell BK208.out 0).trans rfl
          have hcz120_1 : wc.cell? ⟨gb208, 1, none⟩ = some (.slice A1_1 l1_1.length c1_1) := (blk_cell BK208.out 1).trans rfl
          have hfz120_0 := blk_frozen BK208.out 0
          have hfz120_1 := blk_frozen BK208.out 1
          go_wp2_with (first | ((with_reducible refine gate_callee (f := 15) rfl ?_); refine goesL_ (some 43) rfl rfl Try.func15 (by kernel_rfl) rfl #[.agg #[.int .i64 a0_0, .slice A0_1 l0_1.length c0_1], .agg #[.int .i64 a1_0, .slice A1_1 l1_1.length c1_1]] rfl gl_ ?_; (with_reducible refine (standstillref06_Join.calls kj20 a0_0 _ _ l0_1 a1_0 _ _ l1_1 t222 t223 _ ?side1 ?side2 ?side3 ?side4 A59.out).mono ?_); (case side1 => exact ck_ (Kd.C_below HR0_1.out HB.out)); (case side2 => exact HC0_1.out); (case side3 => exact ck_ (Kd.C_below HR1_1.out HB.out)); (case side4 => exact HC1_1.out); rintro e w121 ⟨v224, rfl, ho0, hb⟩; refine ⟨_, rfl, ?_⟩; have n0_ := A_ (Kd.R_elder' (rk_ HO_218001.out) (Kd.R_base ho0) hb); have n1_ := A_ (Kd.R_lower (Kd.R_new' ho0 (Kd.R_lt (rk_ HO_218001.out))) (below_size (bk_ HB.out))); have n2_ := A_ (blk_below (pk_ BK207.out) hb); have n3_ := A_ (blk_below (pk_ BK208.out) hb); have n4_ := A_ (blk_below (pk_ BK217.out) hb); have n5_ := A_ (below_step (bk_ HB.out) hb); clear HO_218001 BK207 BK208 BK217 HB; have HO_218001 := n0_; have HO225 := n1_; have BK207 := n2_; have BK208 := n3_; have BK217 := n4_; have HB := n5_; clear n0_ n1_ n2_ n3_ n4_ n5_; (try clear hb); (try clear hb2); (try clear hk); (try clear hi); (try clear ho0)) | ((with_reducible refine gate_dst (N := 7) rfl ?_); refine box_event ?hg (N := 7) ?hd (cs := #[.int .i64 0, .slice none 0 0]) (t := 24) ?hr ?_; (case hd => rfl); (case hg => rfl); (case hr => first | (go_simp; done) | (go_simp; rfl)); intro gb226 hg w122 hbox hb; have n0_ := A_ (Kd.R_below (rk_ HO_218001.out) hb); have n1_ := A_ (Kd.R_below (rk_ HO225.out) hb); have n2_ := A_ (blk_below (pk_ BK207.out) hb); have n3_ := A_ (blk_below (pk_ BK208.out) hb); have n4_ := A_ (blk_below (pk_ BK217.out) hb); have n5_ := A_ (below_step (bk_ HB.out) hb); have n6_ := A_ (hbox); have n7_ := A_ ((by rw [hg]; exact (below_size (bk_ HB.out)) : w.heap.size ≤ gb226)); have n8_ := A_ ((by rw [hg]; exact (below_size (bk_ HB.out)) : w.heap.size ≤ gb226)); have n9_ := A_ ((by rw [hg]; exact Nat.ne_of_lt (blk_lt (pk_ BK207.out)) : gb207 ≠ gb226)); have n10_ := A_ ((by rw [hg]; exact Nat.ne_of_gt (blk_lt (pk_ BK207.out)) : gb226 ≠ gb207)); have n11_ := A_ ((by rw [hg]; exact Nat.ne_of_lt (blk_lt (pk_ BK208.out)) : gb208 ≠ gb226)); have n12_ := A_ ((by rw [hg]; exact Nat.ne_of_gt (blk_lt (pk_ BK208.out)) : gb226 ≠ gb208)); have n13_ := A_ ((by rw [hg]; exact Nat.ne_of_lt (blk_lt (pk_ BK217.out)) : gb217 ≠ gb226)); have n14_ := A_ ((by rw [hg]; exact Nat.ne_of_gt (blk_lt (pk_ BK217.out)) : gb226 ≠ gb217)); clear HO_218001 HO225 BK207 BK208 BK217 HB; have HO_218001 := n0_; have HO225 := n1_; have BK207 := n2_; have BK208 := n3_; have BK217 := n4_; have HB := n5_; have BK226 := n6_; have GW226 := n7_; have GE226 := n8_; have NB207_226 := n9_; have NB226_207 := n10_; have NB208_226 := n11_; have NB226_208 := n12_; have NB217_226 := n13_; have NB226_217 := n14_; clear n0_ n1_ n2_ n3_ n4_ n5_ n6_ n7_ n8_ n9_ n10_ n11_ n12_ n13_ n14_ hb hbox hg; have hnb123 := NB226_207.out; have hnc123 := NB207_226.out; have hnb124 := NB226_208.out; have hnc124 := NB208_226.out; have hnb125 := NB226_217.out; have hnc125 := NB217_226.out; have hcz126_0 : w122.cell? ⟨gb226, 0, none⟩ = some (.int .i64 0) := (blk_cell BK226.out 0).trans rfl; have hcz126_1 : w122.cell? ⟨gb226, 1, none⟩ = some (.slice none 0 0) := (blk_cell BK226.out 1).trans rfl; have hfz126_0 := blk_frozen BK226.out 0; have hfz126_1 := blk_frozen BK226.out 1; obtain ⟨Ao127, co127, eo127⟩ := Kd.R_slice HO225.out; subst eo127) | ((with_reducible refine gate_callee (f := 13) rfl ?_); refine goesL_ (some 45) rfl rfl Try.func13 (by kernel_rfl) rfl #[.agg #[.int .i64 t222, .slice Ao127 t223.length co127]] rfl gl_ ?_; (with_reducible refine (standstillref06_Valid.calls kj20 t222 _ _ t223 false _ ?side1 ?side2 A60.out).mono ?_); (case side1 => refine (Kd.R_reads' (e := 33) (base := w.heap.size) (ok := fun k_ => (True ∧ some k_ ≠ (.slice Ao30 t213.length co30 : Value).ownBlock)) (n := t223.length) (c := co127) ?_).2.2; exact (by (with_reducible repeat (first | apply Kd.R_alloc | apply Kd.R_drewN | apply Kd.R_drew)); exact (Kd.R_mono (Kd.R_far (p := ⟨gb226, 1, none⟩) (Kd.R_far (p := ⟨gb226, 0, none⟩) (Kd.R_types HO225.out BK226.out (by decide)) (fun _ hk => hk.2) (.int .i64 t222)) (fun _ hk => hk.2) (.slice Ao127 t223.length co127)) (fun _ h_ => h_.1)))); (case side2 => exact (Kd.R_reads' HO225.out).2.1); rintro e w128 ⟨rfl, hb⟩; refine ⟨_, rfl, ?_⟩; have n0_ := A_ (Kd.R_below (by (with_reducible repeat (first | apply Kd.R_alloc | apply Kd.R_drewN | apply Kd.R_drew)); exact (Kd.R_mono (Kd.R_far (p := ⟨gb226, 1, none⟩) (Kd.R_far (p := ⟨gb226, 0, none⟩) (Kd.R_types HO_218001.out BK226.out (by decide)) (fun _ hk => hk.2) (.int .i64 t222)) (fun _ hk => hk.2) (.slice Ao127 t223.length co127)) (fun _ h_ => h_.1))) hb); have n1_ := A_ (Kd.R_below (by (with_reducible repeat (first | apply Kd.R_alloc | apply Kd.R_drewN | apply Kd.R_drew)); exact (Kd.R_mono (Kd.R_far (p := ⟨gb226, 1, none⟩) (Kd.R_far (p := ⟨gb226, 0, none⟩) (Kd.R_types HO225.out BK226.out (by decide)) (fun _ hk => hk.2) (.int .i64 t222)) (fun _ hk => hk.2) (.slice Ao127 t223.length co127)) (fun _ h_ => h_.1))) hb); have n2_ := A_ (blk_below (g := gb207) (o := .cells #[.int .i64 a0_0, .slice A0_1 l0_1.length c0_1] 24 (0, 0)) (by (with_reducible repeat (first | refine blk_drewN ?_ _ | refine blk_drew ?_ | refine blk_alloc ?_ _)); refine blk_far ?_ NB207_226.out _; (with_reducible repeat (first | refine blk_drewN ?_ _ | refine blk_drew ?_ | refine blk_alloc ?_ _)); refine blk_far ?_ NB207_226.out _; exact pk_ BK207.out) hb); have n3_ := A_ (blk_below (g := gb208) (o := .cells #[.int .i64 a1_0, .slice A1_1 l1_1.length c1_1] 24 (0, 0)) (by (with_reducible repeat (first | refine blk_drewN ?_ _ | refine blk_drew ?_ | refine blk_alloc ?_ _)); refine blk_far ?_ NB208_226.out _; (with_reducible repeat (first | refine blk_drewN ?_ _ | refine blk_drew ?_ | refine blk_alloc ?_ _)); refine blk_far ?_ NB208_226.out _; exact pk_ BK208.out) hb); have n4_ := A_ (blk_below (g := gb217) (o := .cells #[.int .i64 t212, .slice Ao30 t213.length co30] 24 (0, 0)) (by (with_reducible repeat (first | refine blk_drewN ?_ _ | refine blk_drew ?_ | refine blk_alloc ?_ _)); refine blk_far ?_ NB217_226.out _; (with_reducible repeat (first | refine blk_drewN ?_ _ | refine blk_drew ?_ | refine blk_alloc ?_ _)); refine blk_far ?_ NB217_226.out _; exact pk_ BK217.out) hb); have n5_ := A_ (blk_below (g := gb226) (o := .cells #[.int .i64 t222, .slice Ao127 t223.length co127] 24 (0, 0)) (by (with_reducible repeat (first | refine blk_drewN ?_ _ | refine blk_drew ?_ | refine blk_alloc ?_ _)); refine blk_put (cs := #[.int .i64 t222, .slice none 0 0]) ?_ 1 _ rfl; (with_reducible repeat (first | refine blk_drewN ?_ _ | refine blk_drew ?_ | refine blk_alloc ?_ _)); refine blk_put (cs := #[.int .i64 0, .slice none 0 0]) ?_ 0 _ rfl; exact pk_ BK226.out) hb); have n6_ := A_ (below_step (bk_ HB.out) hb); clear HO_218001 HO225 BK207 BK208 BK217 BK226 HB; have HO_218001 := n0_; have HO225 := n1_; have BK207 := n2_; have BK208 := n3_; have BK217 := n4_; have BK226 := n5_; have HB := n6_; clear n0_ n1_ n2_ n3_ n4_ n5_ n6_; (try clear hb); (try clear hb2); (try clear hk); (try clear hi); have hcz129_0 : w128.cell? ⟨gb217, 0, none⟩ = some (.int .i64 t212) := (blk_cell BK217.out 0).trans rfl; have hcz129_1 : w128.cell? ⟨gb217, 1, none⟩ = some (.slice Ao30 t213.length co30) := (blk_cell BK217.out 1).trans rfl; have hfz129_0 := blk_frozen BK217.out 0; have hfz129_1 := blk_frozen BK217.out 1) | (go_at_call 14; (refine (standstillref06_Same.calls kj20 t212 _ _ t213 0 _ _ ([] : List (S33)) true _ ?side1 ?side2 ?side3 ?side4 A113.out).mono ?_); (case side1 => repeat (first | exact (Kd.R_reads' HO_218001.out).2.2 | (with_reducible refine Kd.C_alloc ?_ _) | (with_reducible refine Kd.C_drewN ?_ _) | (with_reducible refine Kd.C_drew ?_))); (case side2 => exact (Kd.R_reads' HO_218001.out).2.1); (case side3 => exact Kd.C_nil _ _); (case side4 => exact Nat.le_refl _); rintro e w130 ⟨rfl, hb⟩; have n0_ := A_ (Kd.R_below (rk_ HO_218001.out) hb); have n1_ := A_ (Kd.R_below (rk_ HO225.out) hb); have n2_ := A_ (blk_below (pk_ BK207.out) hb); have n3_ := A_ (blk_below (pk_ BK208.out) hb); have n4_ := A_ (blk_below (pk_ BK217.out) hb); have n5_ := A_ (blk_below (pk_ BK226.out) hb); have n6_ := A_ (below_step (bk_ HB.out) hb); clear HO_218001 HO225 BK207 BK208 BK217 BK226 HB; have HO_218001 := n0_; have HO225 := n1_; have BK207 := n2_; have BK208 := n3_; have BK217 := n4_; have BK226 := n5_; have HB := n6_; clear n0_ n1_ n2_ n3_ n4_ n5_ n6_; (try clear hb); (try clear hb2); (try clear hk); (try clear hi)) | (go_at_call 10; (with_reducible refine (standstilllaw06_awake.calls kj20  t231 _ A115.out).mono ?_); rintro e w131 ⟨rfl, hb⟩; have n0_ := A_ (Kd.R_below (rk_ HO_218001.out) hb); have n1_ := A_ (Kd.R_below (rk_ HO225.out) hb); have n2_ := A_ (blk_below (pk_ BK207.out) hb); have n3_ := A_ (blk_below (pk_ BK208.out) hb); have n4_ := A_ (blk_below (pk_ BK217.out) hb); have n5_ := A_ (blk_below (pk_ BK226.out) hb); have n6_ := A_ (below_step (bk_ HB.out) hb); clear HO_218001 HO225 BK207 BK208 BK217 BK226 HB; have HO_218001 := n0_; have HO225 := n1_; have BK207 := n2_; have BK208 := n3_; have BK217 := n4_; have BK226 := n5_; have HB := n6_; clear n0_ n1_ n2_ n3_ n4_ n5_ n6_; (try clear hb); (try clear hb2); (try clear hk); (try clear hi)))
          go_ret
          exact ⟨by first | rfl | (simp [errW_none, errW_some] <;> rfl) | (simp [*, errW_none, errW_some] <;> rfl), bk_ HB.out⟩
         ·replace c114 := Bool.eq_false_iff.mpr c114
          subst c114
          have H1 : (some false) = some r := by rw [if_neg (show ¬ (false = true) by decide)] at H; exact H
          clear H
          have H := H1
          clear H1
          obtain rfl := Option.some.inj H
          have hnb132 := NB207_208.out
          have hnc132 := NB208_207.out
          have hnb133 := NB207_217.out
          have hnc133 := NB217_207.out
          have hcz134_0 : wc.cell? ⟨gb207, 0, none⟩ = some (.int .i64 a0_0) := (blk_cell BK207.out 0).trans rfl
          have hcz134_1 : wc.cell? ⟨gb207, 1, none⟩ = some (.slice A0_1 l0_1.length c0_1) := (blk_cell BK207.out 1).trans rfl
          have hfz134_0 := blk_frozen BK207.out 0
          have hfz134_1 := blk_frozen BK207.out 1
          have hnb135 := NB208_217.out
          have hnc135 := NB217_208.out
          have hcz136_0 : wc.cell? ⟨gb208, 0, none⟩ = some (.int .i64 a1_0) := (blk_cell BK208.out 0).trans rfl
          have hcz136_1 : wc.cell? ⟨gb208, 1, none⟩ = some (.slice A1_1 l1_1.length c1_1) := (blk_cell BK208.out 1).trans rfl
          have hfz136_0 := blk_frozen BK208.out 0
          have hfz136_1 := blk_frozen BK208.out 1
          go_wp2_with (first | ((with_reducible refine gate_callee (f := 15) rfl ?_); refine goesL_ (some 43) rfl rfl Try.func15 (by kernel_rfl) rfl #[.agg #[.int .i64 a0_0, .slice A0_1 l0_1.length c0_1], .agg #[.int .i64 a1_0, .slice A1_1 l1_1.length c1_1]] rfl gl_ ?_; (with_reducible refine (standstillref06_Join.calls kj20 a0_0 _ _ l0_1 a1_0 _ _ l1_1 t222 t223 _ ?side1 ?side2 ?side3 ?side4 A59.out).mono ?_); (case side1 => exact ck_ (Kd.C_below HR0_1.out HB.out)); (case side2 => exact HC0_1.out); (case side3 => exact ck_ (Kd.C_below HR1_1.out HB.out)); (case side4 => exact HC1_1.out); rintro e w137 ⟨v224, rfl, ho0, hb⟩; refine ⟨_, rfl, ?_⟩; have n0_ := A_ (Kd.R_elder' (rk_ HO_218001.out) (Kd.R_base ho0) hb); have n1_ := A_ (Kd.R_lower (Kd.R_new' ho0 (Kd.R_lt (rk_ HO_218001.out))) (below_size (bk_ HB.out))); have n2_ := A_ (blk_below (pk_ BK207.out) hb); have n3_ := A_ (blk_below (pk_ BK208.out) hb); have n4_ := A_ (blk_below (pk_ BK217.out) hb); have n5_ := A_ (below_step (bk_ HB.out) hb); clear HO_218001 BK207 BK208 BK217 HB; have HO_218001 := n0_; have HO225 := n1_; have BK207 := n2_; have BK208 := n3_; have BK217 := n4_; have HB := n5_; clear n0_ n1_ n2_ n3_ n4_ n5_; (try clear hb); (try clear hb2); (try clear hk); (try clear hi); (try clear ho0)) | ((with_reducible refine gate_dst (N := 7) rfl ?_); refine box_event ?hg (N := 7) ?hd (cs := #[.int .i64 0, .slice none 0 0]) (t := 24) ?hr ?_; (case hd => rfl); (case hg => rfl); (case hr => first | (go_simp; done) | (go_simp; rfl)); intro gb226 hg w138 hbox hb; have n0_ := A_ (Kd.R_below (rk_ HO_218001.out) hb); have n1_ := A_ (Kd.R_below (rk_ HO225.out) hb); have n2_ := A_ (blk_below (pk_ BK207.out) hb); have n3_ := A_ (blk_below (pk_ BK208.out) hb); have n4_ := A_ (blk_below (pk_ BK217.out) hb); have n5_ := A_ (below_step (bk_ HB.out) hb); have n6_ := A_ (hbox); have n7_ := A_ ((by rw [hg]; exact (below_size (bk_ HB.out)) : w.heap.size ≤ gb226)); have n8_ := A_ ((by rw [hg]; exact (below_size (bk_ HB.out)) : w.heap.size ≤ gb226)); have n9_ := A_ ((by rw [hg]; exact Nat.ne_of_lt (blk_lt (pk_ BK207.out)) : gb207 ≠ gb226)); have n10_ := A_ ((by rw [hg]; exact Nat.ne_of_gt (blk_lt (pk_ BK207.out)) : gb226 ≠ gb207)); have n11_ := A_ ((by rw [hg]; exact Nat.ne_of_lt (blk_lt (pk_ BK208.out)) : gb208 ≠ gb226)); have n12_ := A_ ((by rw [hg]; exact Nat.ne_of_gt (blk_lt (pk_ BK208.out)) : gb226 ≠ gb208)); have n13_ := A_ ((by rw [hg]; exact Nat.ne_of_lt (blk_lt (pk_ BK217.out)) : gb217 ≠ gb226)); have n14_ := A_ ((by rw [hg]; exact Nat.ne_of_gt (blk_lt (pk_ BK217.out)) : gb226 ≠ gb217)); clear HO_218001 HO225 BK207 BK208 BK217 HB; have HO_218001 := n0_; have HO225 := n1_; have BK207 := n2_; have BK208 := n3_; have BK217 := n4_; have HB := n5_; have BK226 := n6_; have GW226 := n7_; have GE226 := n8_; have NB207_226 := n9_; have NB226_207 := n10_; have NB208_226 := n11_; have NB226_208 := n12_; have NB217_226 := n13_; have NB226_217 := n14_; clear n0_ n1_ n2_ n3_ n4_ n5_ n6_ n7_ n8_ n9_ n10_ n11_ n12_ n13_ n14_ hb hbox hg; have hnb139 := NB226_207.out; have hnc139 := NB207_226.out; have hnb140 := NB226_208.out; have hnc140 := NB208_226.out; have hnb141 := NB226_217.out; have hnc141 := NB217_226.out; have hcz142_0 : w138.cell? ⟨gb226, 0, none⟩ = some (.int .i64 0) := (blk_cell BK226.out 0).trans rfl; have hcz142_1 : w138.cell? ⟨gb226, 1, none⟩ = some (.slice none 0 0) := (blk_cell BK226.out 1).trans rfl; have hfz142_0 := blk_frozen BK226.out 0; have hfz142_1 := blk_frozen BK226.out 1; obtain ⟨Ao143, co143, eo143⟩ := Kd.R_slice HO225.out; subst eo143) | ((with_reducible refine gate_callee (f := 13) rfl ?_); refine goesL_ (some 45) rfl rfl Try.func13 (by kernel_rfl) rfl #[.agg #[.int .i64 t222, .slice Ao143 t223.length co143]] rfl gl_ ?_; (with_reducible refine (standstillref06_Valid.calls kj20 t222 _ _ t223 false _ ?side1 ?side2 A60.out).mono ?_); (case side1 => refine (Kd.R_reads' (e := 33) (base := w.heap.size) (ok := fun k_ => (True ∧ some k_ ≠ (.slice Ao30 t213.length co30 : Value).ownBlock)) (n := t223.length) (c := co143) ?_).2.2; exact (by (with_reducible repeat (first | apply Kd.R_alloc | apply Kd.R_drewN | apply Kd.R_drew)); exact (Kd.R_mono (Kd.R_far (p := ⟨gb226, 1, none⟩) (Kd.R_far (p := ⟨gb226, 0, none⟩) (Kd.R_types HO225.out BK226.out (by decide)) (fun _ hk => hk.2) (.int .i64 t222)) (fun _ hk => hk.2) (.slice Ao143 t223.length co143)) (fun _ h_ => h_.1)))); (case side2 => exact (Kd.R_reads' HO225.out).2.1); rintro e w144 ⟨rfl, hb⟩; refine ⟨_, rfl, ?_⟩; have n0_ := A_ (Kd.R_below (by (with_reducible repeat (first | apply Kd.R_alloc | apply Kd.R_drewN | apply Kd.R_drew)); exact (Kd.R_mono (Kd.R_far (p := ⟨gb226, 1, none⟩) (Kd.R_far (p := ⟨gb226, 0, none⟩) (Kd.R_types HO_218001.out BK226.out (by decide)) (fun _ hk => hk.2) (.int .i64 t222)) (fun _ hk => hk.2) (.slice Ao143 t223.length co143)) (fun _ h_ => h_.1))) hb); have n1_ := A_ (Kd.R_below (by (with_reducible repeat (first | apply Kd.R_alloc | apply Kd.R_drewN | apply Kd.R_drew)); exact (Kd.R_mono (Kd.R_far (p := ⟨gb226, 1, none⟩) (Kd.R_far (p := ⟨gb226, 0, none⟩) (Kd.R_types HO225.out BK226.out (by decide)) (fun _ hk => hk.2) (.int .i64 t222)) (fun _ hk => hk.2) (.slice Ao143 t223.length co143)) (fun _ h_ => h_.1))) hb); have n2_ := A_ (blk_below (g := gb207) (o := .cells #[.int .i64 a0_0, .slice A0_1 l0_1.length c0_1] 24 (0, 0)) (by (with_reducible repeat (first | refine blk_drewN ?_ _ | refine blk_drew ?_ | refine blk_alloc ?_ _)); refine blk_far ?_ NB207_226.out _; (with_reducible repeat (first | refine blk_drewN ?_ _ | refine blk_drew ?_ | refine blk_alloc ?_ _)); refine blk_far ?_ NB207_226.out _; exact pk_ BK207.out) hb); have n3_ := A_ (blk_below (g := gb208) (o := .cells #[.int .i64 a1_0, .slice A1_1 l1_1.length c1_1] 24 (0, 0)) (by (with_reducible repeat (first | refine blk_drewN ?_ _ | refine blk_drew ?_ | refine blk_alloc ?_ _)); refine blk_far ?_ NB208_226.out _; (with_reducible repeat (first | refine blk_drewN ?_ _ | refine blk_drew ?_ | refine blk_alloc ?_ _)); refine blk_far ?_ NB208_226.out _; exact pk_ BK208.out) hb); have n4_ := A_ (blk_below (g := gb217) (o := .cells #[.int .i64 t212, .slice Ao30 t213.length co30] 24 (0, 0)) (by (with_reducible repeat (first | refine blk_drewN ?_ _ | refine blk_drew ?_ | refine blk_alloc ?_ _)); refine blk_far ?_ NB217_226.out _; (with_reducible repeat (first | refine blk_drewN ?_ _ | refine blk_drew ?_ | refine blk_alloc ?_ _)); refine blk_far ?_ NB217_226.out _; exact pk_ BK217.out) hb); have n5_ := A_ (blk_below (g := gb226) (o := .cells #[.int .i64 t222, .slice Ao143 t223.length co143] 24 (0, 0)) (by (with_reducible repeat (first | refine blk_drewN ?_ _ | refine blk_drew ?_ | refine blk_alloc ?_ _)); refine blk_put (cs := #[.int .i64 t222, .slice none 0 0]) ?_ 1 _ rfl; (with_reducible repeat (first | refine blk_drewN ?_ _ | refine blk_drew ?_ | refine blk_alloc ?_ _)); refine blk_put (cs := #[.int .i64 0, .slice none 0 0]) ?_ 0 _ rfl; exact pk_ BK226.out) hb); have n6_ := A_ (below_step (bk_ HB.out) hb); clear HO_218001 HO225 BK207 BK208 BK217 BK226 HB; have HO_218001 := n0_; have HO225 := n1_; have BK207 := n2_; have BK208 := n3_; have BK217 := n4_; have BK226 := n5_; have HB := n6_; clear n0_ n1_ n2_ n3_ n4_ n5_ n6_; (try clear hb); (try clear hb2); (try clear hk); (try clear hi); have hcz145_0 : w144.cell? ⟨gb217, 0, none⟩ = some (.int .i64 t212) := (blk_cell BK217.out 0).trans rfl; have hcz145_1 : w144.cell? ⟨gb217, 1, none⟩ = some (.slice Ao30 t213.length co30) := (blk_cell BK217.out 1).trans rfl; have hfz145_0 := blk_frozen BK217.out 0; have hfz145_1 := blk_frozen BK217.out 1) | (go_at_call 14; (refine (standstillref06_Same.calls kj20 t212 _ _ t213 0 _ _ ([] : List (S33)) false _ ?side1 ?side2 ?side3 ?side4 A113.out).mono ?_); (case side1 => repeat (first | exact (Kd.R_reads' HO_218001.out).2.2 | (with_reducible refine Kd.C_alloc ?_ _) | (with_reducible refine Kd.C_drewN ?_ _) | (with_reducible refine Kd.C_drew ?_))); (case side2 => exact (Kd.R_reads' HO_218001.out).2.1); (case side3 => exact Kd.C_nil _ _); (case side4 => exact Nat.le_refl _); rintro e w146 ⟨rfl, hb⟩; have n0_ := A_ (Kd.R_below (rk_ HO_218001.out) hb); have n1_ := A_ (Kd.R_below (rk_ HO225.out) hb); have n2_ := A_ (blk_below (pk_ BK207.out) hb); have n3_ := A_ (blk_below (pk_ BK208.out) hb); have n4_ := A_ (blk_below (pk_ BK217.out) hb); have n5_ := A_ (blk_below (pk_ BK226.out) hb); have n6_ := A_ (below_step (bk_ HB.out) hb); clear HO_218001 HO225 BK207 BK208 BK217 BK226 HB; have HO_218001 := n0_; have HO225 := n1_; have BK207 := n2_; have BK208 := n3_; have BK217 := n4_; have BK226 := n5_; have HB := n6_; clear n0_ n1_ n2_ n3_ n4_ n5_ n6_; (try clear hb); (try clear hb2); (try clear hk); (try clear hi)))
          go_ret
          exact ⟨by first | rfl | (simp [errW_none, errW_some] <;> rfl) | (simp [*, errW_none, errW_some] <;> rfl), bk_ HB.out⟩
        ·rw [if_neg c112] at H
         have c112b0 : (t216 == 4) = false := beq_eq_false_iff_ne.mpr c112
         have c112b1 : (t216 != 4) = true := bne_iff_ne.mpr c112
         obtain rfl := Option.some.inj H
         have hnb147 := NB207_208.out
         have hnc147 := NB208_207.out
         have hnb148 := NB207_217.out
         have hnc148 := NB217_207.out
         have hcz149_0 : wc.cell? ⟨gb207, 0, none⟩ = some (.int .i64 a0_0) := (blk_cell BK207.out 0).trans rfl
         have hcz149_1 : wc.cell? ⟨gb207, 1, none⟩ = some (.slice A0_1 l0_1.length c0_1) := (blk_cell BK207.out 1).trans rfl
         have hfz149_0 := blk_frozen BK207.out 0
         have hfz149_1 := blk_frozen BK207.out 1
         have hnb150 := NB208_217.out
         have hnc150 := NB217_208.out
         have hcz151_0 : wc.cell? ⟨gb208, 0, none⟩ = some (.int .i64 a1_0) := (blk_cell BK208.out 0).trans rfl
         have hcz151_1 : wc.cell? ⟨gb208, 1, none⟩ = some (.slice A1_1 l1_1.length c1_1) := (blk_cell BK208.out 1).trans rfl
         have hfz151_0 := blk_frozen BK208.out 0
         have hfz151_1 := blk_frozen BK208.out 1
         go_wp2_with (first | ((with_reducible refine gate_callee (f := 15) rfl ?_); refine goesL_ (some 43) rfl rfl Try.func15 (by kernel_rfl) rfl #[.agg #[.int .i64 a0_0, .slice A0_1 l0_1.length c0_1], .agg #[.int .i64 a1_0, .slice A1_1 l1_1.length c1_1]] rfl gl_ ?_; (with_reducible refine (standstillref06_Join.calls kj20 a0_0 _ _ l0_1 a1_0 _ _ l1_1 t222 t223 _ ?side1 ?side2 ?side3 ?side4 A59.out).mono ?_); (case side1 => exact ck_ (Kd.C_below HR0_1.out HB.out)); (case side2 => exact HC0_1.out); (case side3 => exact ck_ (Kd.C_below HR1_1.out HB.out)); (case side4 => exact HC1_1.out); rintro e w152 ⟨v224, rfl, ho0, hb⟩; refine ⟨_, rfl, ?_⟩; have n0_ := A_ (Kd.R_elder' (rk_ HO_218001.out) (Kd.R_base ho0) hb); have n1_ := A_ (Kd.R_lower (Kd.R_new' ho0 (Kd.R_lt (rk_ HO_218001.out))) (below_size (bk_ HB.out))); have n2_ := A_ (blk_below (pk_ BK207.out) hb); have n3_ := A_ (blk_below (pk_ BK208.out) hb); have n4_ := A_ (blk_below (pk_ BK217.out) hb); have n5_ := A_ (below_step (bk_ HB.out) hb); clear HO_218001 BK207 BK208 BK217 HB; have HO_218001 := n0_; have HO225 := n1_; have BK207 := n2_; have BK208 := n3_; have BK217 := n4_; have HB := n5_; clear n0_ n1_ n2_ n3_ n4_ n5_; (try clear hb); (try clear hb2); (try clear hk); (try clear hi); (try clear ho0)) | ((with_reducible refine gate_dst (N := 7) rfl ?_); refine box_event ?hg (N := 7) ?hd (cs := #[.int .i64 0, .slice none 0 0]) (t := 24) ?hr ?_; (case hd => rfl); (case hg => rfl); (case hr => first | (go_simp; done) | (go_simp; rfl)); intro gb226 hg w153 hbox hb; have n0_ := A_ (Kd.R_below (rk_ HO_218001.out) hb); have n1_ := A_ (Kd.R_below (rk_ HO225.out) hb); have n2_ := A_ (blk_below (pk_ BK207.out) hb); have n3_ := A_ (blk_below (pk_ BK208.out) hb); have n4_ := A_ (blk_below (pk_ BK217.out) hb); have n5_ := A_ (below_step (bk_ HB.out) hb); have n6_ := A_ (hbox); have n7_ := A_ ((by rw [hg]; exact (below_size (bk_ HB.out)) : w.heap.size ≤ gb226)); have n8_ := A_ ((by rw [hg]; exact (below_size (bk_ HB.out)) : w.heap.size ≤ gb226)); have n9_ := A_ ((by rw [hg]; exact Nat.ne_of_lt (blk_lt (pk_ BK207.out)) : gb207 ≠ gb226)); have n10_ := A_ ((by rw [hg]; exact Nat.ne_of_gt (blk_lt (pk_ BK207.out)) : gb226 ≠ gb207)); have n11_ := A_ ((by rw [hg]; exact Nat.ne_of_lt (blk_lt (pk_ BK208.out)) : gb208 ≠ gb226)); have n12_ := A_ ((by rw [hg]; exact Nat.ne_of_gt (blk_lt (pk_ BK208.out)) : gb226 ≠ gb208)); have n13_ := A_ ((by rw [hg]; exact Nat.ne_of_lt (blk_lt (pk_ BK217.out)) : gb217 ≠ gb226)); have n14_ := A_ ((by rw [hg]; exact Nat.ne_of_gt (blk_lt (pk_ BK217.out)) : gb226 ≠ gb217)); clear HO_218001 HO225 BK207 BK208 BK217 HB; have HO_218001 := n0_; have HO225 := n1_; have BK207 := n2_; have BK208 := n3_; have BK217 := n4_; have HB := n5_; have BK226 := n6_; have GW226 := n7_; have GE226 := n8_; have NB207_226 := n9_; have NB226_207 := n10_; have NB208_226 := n11_; have NB226_208 := n12_; have NB217_226 := n13_; have NB226_217 := n14_; clear n0_ n1_ n2_ n3_ n4_ n5_ n6_ n7_ n8_ n9_ n10_ n11_ n12_ n13_ n14_ hb hbox hg; have hnb154 := NB226_207.out; have hnc154 := NB207_226.out; have hnb155 := NB226_208.out; have hnc155 := NB208_226.out; have hnb156 := NB226_217.out; have hnc156 := NB217_226.out; have hcz157_0 : w153.cell? ⟨gb226, 0, none⟩ = some (.int .i64 0) := (blk_cell BK226.out 0).trans rfl; have hcz157_1 : w153.cell? ⟨gb226, 1, none⟩ = some (.slice none 0 0) := (blk_cell BK226.out 1).trans rfl; have hfz157_0 := blk_frozen BK226.out 0; have hfz157_1 := blk_frozen BK226.out 1; obtain ⟨Ao158, co158, eo158⟩ := Kd.R_slice HO225.out; subst eo158) | ((with_reducible refine gate_callee (f := 13) rfl ?_); refine goesL_ (some 45) rfl rfl Try.func13 (by kernel_rfl) rfl #[.agg #[.int .i64 t222, .slice Ao158 t223.length co158]] rfl gl_ ?_; (with_reducible refine (standstillref06_Valid.calls kj20 t222 _ _ t223 false _ ?side1 ?side2 A60.out).mono ?_); (case side1 => refine (Kd.R_reads' (e := 33) (base := w.heap.size) (ok := fun k_ => (True ∧ some k_ ≠ (.slice Ao30 t213.length co30 : Value).ownBlock)) (n := t223.length) (c := co158) ?_).2.2; exact (by (with_reducible repeat (first | apply Kd.R_alloc | apply Kd.R_drewN | apply Kd.R_drew)); exact (Kd.R_mono (Kd.R_far (p := ⟨gb226, 1, none⟩) (Kd.R_far (p := ⟨gb226, 0, none⟩) (Kd.R_types HO225.out BK226.out (by decide)) (fun _ hk => hk.2) (.int .i64 t222)) (fun _ hk => hk.2) (.slice Ao158 t223.length co158)) (fun _ h_ => h_.1)))); (case side2 => exact (Kd.R_reads' HO225.out).2.1); rintro e w159 ⟨rfl, hb⟩; refine ⟨_, rfl, ?_⟩; have n0_ := A_ (Kd.R_below (by (with_reducible repeat (first | apply Kd.R_alloc | apply Kd.R_drewN | apply Kd.R_drew)); exact (Kd.R_mono (Kd.R_far (p := ⟨gb226, 1, none⟩) (Kd.R_far (p := ⟨gb226, 0, none⟩) (Kd.R_types HO_218001.out BK226.out (by decide)) (fun _ hk => hk.2) (.int .i64 t222)) (fun _ hk => hk.2) (.slice Ao158 t223.length co158)) (fun _ h_ => h_.1))) hb); have n1_ := A_ (Kd.R_below (by (with_reducible repeat (first | apply Kd.R_alloc | apply Kd.R_drewN | apply Kd.R_drew)); exact (Kd.R_mono (Kd.R_far (p := ⟨gb226, 1, none⟩) (Kd.R_far (p := ⟨gb226, 0, none⟩) (Kd.R_types HO225.out BK226.out (by decide)) (fun _ hk => hk.2) (.int .i64 t222)) (fun _ hk => hk.2) (.slice Ao158 t223.length co158)) (fun _ h_ => h_.1))) hb); have n2_ := A_ (blk_below (g := gb207) (o := .cells #[.int .i64 a0_0, .slice A0_1 l0_1.length c0_1] 24 (0, 0)) (by (with_reducible repeat (first | refine blk_drewN ?_ _ | refine blk_drew ?_ | refine blk_alloc ?_ _)); refine blk_far ?_ NB207_226.out _; (with_reducible repeat (first | refine blk_drewN ?_ _ | refine blk_drew ?_ | refine blk_alloc ?_ _)); refine blk_far ?_ NB207_226.out _; exact pk_ BK207.out) hb); have n3_ := A_ (blk_below (g := gb208) (o := .cells #[.int .i64 a1_0, .slice A1_1 l1_1.length c1_1] 24 (0, 0)) (by (with_reducible repeat (first | refine blk_drewN ?_ _ | refine blk_drew ?_ | refine blk_alloc ?_ _)); refine blk_far ?_ NB208_226.out _; (with_reducible repeat (first | refine blk_drewN ?_ _ | refine blk_drew ?_ | refine blk_alloc ?_ _)); refine blk_far ?_ NB208_226.out _; exact pk_ BK208.out) hb); have n4_ := A_ (blk_below (g := gb217) (o := .cells #[.int .i64 t212, .slice Ao30 t213.length co30] 24 (0, 0)) (by (with_reducible repeat (first | refine blk_drewN ?_ _ | refine blk_drew ?_ | refine blk_alloc ?_ _)); refine blk_far ?_ NB217_226.out _; (with_reducible repeat (first | refine blk_drewN ?_ _ | refine blk_drew ?_ | refine blk_alloc ?_ _)); refine blk_far ?_ NB217_226.out _; exact pk_ BK217.out) hb); have n5_ := A_ (blk_below (g := gb226) (o := .cells #[.int .i64 t222, .slice Ao158 t223.length co158] 24 (0, 0)) (by (with_reducible repeat (first | refine blk_drewN ?_ _ | refine blk_drew ?_ | refine blk_alloc ?_ _)); refine blk_put (cs := #[.int .i64 t222, .slice none 0 0]) ?_ 1 _ rfl; (with_reducible repeat (first | refine blk_drewN ?_ _ | refine blk_drew ?_ | refine blk_alloc ?_ _)); refine blk_put (cs := #[.int .i64 0, .slice none 0 0]) ?_ 0 _ rfl; exact pk_ BK226.out) hb); have n6_ := A_ (below_step (bk_ HB.out) hb); clear HO_218001 HO225 BK207 BK208 BK217 BK226 HB; have HO_218001 := n0_; have HO225 := n1_; have BK207 := n2_; have BK208 := n3_; have BK217 := n4_; have BK226 := n5_; have HB := n6_; clear n0_ n1_ n2_ n3_ n4_ n5_ n6_; (try clear hb); (try clear hb2); (try clear hk); (try clear hi)))
         go_ret
         exact ⟨by first | rfl | (simp [errW_none, errW_some] <;> rfl) | (simp [*, errW_none, errW_some] <;> rfl), bk_ HB.out⟩

/-- THE ONE PURE STATEMENT of standstilllaw06_CounterJoins. -/
def standstilllaw06_CounterJoins.Pure : Prop := ∀ (a0_0 : Int) (l0_1 : List (S33)) (a1_0 : Int) (l1_1 : List (S33)), ((Lit.int .i64 a0_0).wf = true) → (l0_1.length * 32 ≤ 140737488351232 ∧ ∀ y_ ∈ l0_1, inv33 y_) → ((Lit.int .i64 a1_0).wf = true) → (l1_1.length * 32 ≤ 140737488351232 ∧ ∀ y_ ∈ l1_1, inv33 y_) → ∃ k, standstilllaw06_CounterJoins.f k a0_0 l0_1 a1_0 l1_1 = some true

end Go.Proofs.Ytkekehpfkfadfaa.PCounterJoins
