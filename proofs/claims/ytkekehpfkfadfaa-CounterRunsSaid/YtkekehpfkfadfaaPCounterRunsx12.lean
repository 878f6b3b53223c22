-- out of a turned copy of the print, by a program of this session; Lean checks it
import Derived.Test.YtkekehpfkfadfaaPCounterRunsx0
import Derived.Test.YtkekehpfkfadfaaPCounterRunsx2
import Derived.Test.YtkekehpfkfadfaaPCounterRunsx3
import Derived.Test.YtkekehpfkfadfaaPCounterRunsx4
import Derived.Test.YtkekehpfkfadfaaPCounterRunsx5
import Derived.Test.YtkekehpfkfadfaaPCounterRunsx6
import Derived.Test.YtkekehpfkfadfaaPCounterRunsx7
import Derived.Test.YtkekehpfkfadfaaPCounterRunsx8
import Derived.Test.YtkekehpfkfadfaaPCounterRunsx9
import Derived.Test.YtkekehpfkfadfaaPCounterRunsx11
namespace Go.Proofs.Ytkekehpfkfadfaa.PCounterRuns
open Go.RowKit Go.Proofs.YtkekehpfkfadfaaW.PrintWords Go.Proofs.YtkekehpfkfadfaaW.PrintLast Go.Proofs.YtkekehpfkfadfaaW.PrintMore
attribute [local go_sem] max2_int min2_int max_two min_two max_three min_three max_four min_four   -- for this text's walks alone
set_option linter.unusedVariables false
set_option linter.unusedSimpArgs false

attribute [local go_sem] isSome_put_
/-! ### standstilllaw06_CounterRuns: function 6 -/
mutual
def standstilllaw06_CounterRuns.j0 : Nat → List Int → Int → Bool → Int → List (S33) → Int → List Int → Option (Bool)
 | 0, _, _, _, _, _, _, _ => none
 | k + 1, x2, x3, x33, x201000, x201001, x202000, x202001 => if x33 = true then ((standstilllaw06_awake.f k).bind fun t203 => (some t203)) else ((counter_Valid.f k x201000 x201001).bind fun t204 => ((standstillref06_Valid.f k x201000 x201001).bind fun t205 => (if (t204 != t205) = true then (standstilllaw06_CounterRuns.j1 k x2 x3 true x201000 x201001 x202000 x202001) else ((counter_Fits.f k x201000 x201001 x202000 x202001).bind fun t206 => ((standstillref06_Fits.f k x201000 x201001 x202000 x202001).bind fun t207 => (standstilllaw06_CounterRuns.j1 k x2 x3 (t206 != t207) x201000 x201001 x202000 x202001))))))
def standstilllaw06_CounterRuns.j1 : Nat → List Int → Int → Bool → Int → List (S33) → Int → List Int → Option (Bool)
 | 0, _, _, _, _, _, _, _ => none
 | k + 1, x2, x3, x48, x201000, x201001, x202000, x202001 => if x48 = true then (none) else ((counter_Step.f k x201000 x201001 x202000 x202001).bind fun bt208 => ((counter_Run.f k x201000 x201001 x202000 x202001 x3).bind fun bt214 => ((counter_Until.f k x201000 x201001 x202000 x202001 x2 x3).bind fun bt221 => ((standstillref06_Fits.f k x201000 x201001 x202000 x202001).bind fun t229 => (if t229 = true then ((standstilllaw06_step.f k x201000 x201001 x202000 x202001 bt208.1 bt208.2.1 bt208.2.2).bind fun t234 => (if t234 = true then ((standstilllaw06_run.f k x201000 x201001 x202000 x202001 x3 bt214.1 bt214.2.1 bt214.2.2.1 bt214.2.2.2).bind fun t235 => (if t235 = true then ((standstilllaw06_until.f k x201000 x201001 x202000 x202001 x2 x3 bt221.1 bt221.2.1 bt221.2.2.1 bt221.2.2.2).bind fun t236 => (if t236 = true then ((standstilllaw06_awake.f k).bind fun t237 => (some t237)) else (none))) else (none))) else (none))) else (if bt208.2.2 = 1 then (if bt214.2.2.2 = 1 then (if bt221.2.2.2 = 1 then ((standstillref06_SameCount.f k bt208.1 bt208.2.1 0 ([] : List Int)).bind fun t230 => (if t230 = true then ((standstillref06_SameCount.f k bt214.1 bt214.2.1 0 ([] : List Int)).bind fun t231 => (if t231 = true then ((standstillref06_SameCount.f k bt221.1 bt221.2.1 0 ([] : List Int)).bind fun t232 => (if t232 = true then (if bt214.2.2.1 = 0 then (if bt221.2.2.1 = 0 then ((standstilllaw06_awake.f k).bind fun t233 => (some t233)) else (none)) else (none)) else (none))) else (none))) else (none))) else (none)) else (none)) else (none)))))))
end
def standstilllaw06_CounterRuns.f (k : Nat) (a0_0 : Int) (l0_1 : List (S33)) (a1_0 : Int) (l1_1 : List Int) (l2 : List Int) (a3 : Int) : Option (Bool) := (standstilllaw06_wide.f a0_0 l0_1 a1_0 l1_1).bind fun t202 => (if t202 = true then (standstilllaw06_CounterRuns.j0 k l2 a3 true a0_0 l0_1 a1_0 l1_1) else (if (l2.length : Int) > 4000 then (standstilllaw06_CounterRuns.j0 k l2 a3 true a0_0 l0_1 a1_0 l1_1) else (if a3 > 5000 then (standstilllaw06_CounterRuns.j0 k l2 a3 (decide (a3 ≤ 1000000)) a0_0 l0_1 a1_0 l1_1) else (standstilllaw06_CounterRuns.j0 k l2 a3 false a0_0 l0_1 a1_0 l1_1))))
theorem standstilllaw06_CounterRuns.mono_l : ∀ k, (∀ y0 y1 y2 y3 y4 y5 y6, LeO (standstilllaw06_CounterRuns.j0 k y0 y1 y2 y3 y4 y5 y6) (standstilllaw06_CounterRuns.j0 (k + 1) y0 y1 y2 y3 y4 y5 y6)) ∧ (∀ y0 y1 y2 y3 y4 y5 y6, LeO (standstilllaw06_CounterRuns.j1 k y0 y1 y2 y3 y4 y5 y6) (standstilllaw06_CounterRuns.j1 (k + 1) y0 y1 y2 y3 y4 y5 y6))
 | 0 => ⟨fun _ _ _ _ _ _ _ r h => by simp [standstilllaw06_CounterRuns.j0] at h, fun _ _ _ _ _ _ _ r h => by simp [standstilllaw06_CounterRuns.j1] at h⟩
 | k + 1 => by
  obtain ⟨ih0, ih1⟩ := standstilllaw06_CounterRuns.mono_l k
  refine ⟨?_, ?_⟩
  ·intro y0 y1 y2 y3 y4 y5 y6
   unfold standstilllaw06_CounterRuns.j0
   repeat' first
   | (with_reducible exact ih0 _ _ _ _ _ _ _)
   | (with_reducible exact ih1 _ _ _ _ _ _ _)
   | (with_reducible exact counter_Fits.mono _ _ _ _ _)
   | (with_reducible exact counter_Run.mono _ _ _ _ _ _)
   | (with_reducible exact counter_Step.mono _ _ _ _ _)
   | (with_reducible exact counter_Until.mono _ _ _ _ _ _ _)
   | (with_reducible exact counter_Valid.mono _ _ _)
   | (with_reducible exact standstilllaw06_awake.mono _)
   | (with_reducible exact standstilllaw06_run.mono _ _ _ _ _ _ _ _ _ _)
   | (with_reducible exact standstilllaw06_step.mono _ _ _ _ _ _ _ _)
   | (with_reducible exact standstilllaw06_until.mono _ _ _ _ _ _ _ _ _ _ _)
   | (with_reducible exact standstillref06_Fits.mono _ _ _ _ _)
   | (with_reducible exact standstillref06_SameCount.mono _ _ _ _ _)
   | (with_reducible exact standstillref06_Valid.mono _ _ _)
   | (with_reducible exact LeO.refl _)
   | (with_reducible exact LeO.none _)
   | (with_reducible refine LeO.ite ?_ ?_)
   | (with_reducible refine LeO.bind ?_ (fun _ => ?_))
   | exact ih0 _ _ _ _ _ _ _
   | exact ih1 _ _ _ _ _ _ _
   | exact counter_Fits.mono _ _ _ _ _
   | exact counter_Run.mono _ _ _ _ _ _
   | exact counter_Step.mono _ _ _ _ _
   | exact counter_Until.mono _ _ _ _ _ _ _
   | exact counter_Valid.mono _ _ _
   | exact standstilllaw06_awake.mono _
   | exact standstilllaw06_run.mono _ _ _ _ _ _ _ _ _ _
   | exact standstilllaw06_step.mono _ _ _ _ _ _ _ _
   | exact standstilllaw06_until.mono _ _ _ _ _ _ _ _ _ _ _
   | exact standstillref06_Fits.mono _ _ _ _ _
   | exact standstillref06_SameCount.mono _ _ _ _ _
   | exact standstillref06_Valid.mono _ _ _
   | exact LeO.none _
   | refine LeO.ite ?_ ?_
   | refine LeO.bind ?_ (fun _ => ?_)
  ·intro y0 y1 y2 y3 y4 y5 y6
   unfold standstilllaw06_CounterRuns.j1
   repeat' first
   | (with_reducible exact ih0 _ _ _ _ _ _ _)
   | (with_reducible exact ih1 _ _ _ _ _ _ _)
   | (with_reducible exact counter_Fits.mono _ _ _ _ _)
   | (with_reducible exact counter_Run.mono _ _ _ _ _ _)
   | (with_reducible exact counter_Step.mono _ _ _ _ _)
   | (with_reducible exact counter_Until.mono _ _ _ _ _ _ _)
   | (with_reducible exact counter_Valid.mono _ _ _)
   | (with_reducible exact standstilllaw06_awake.mono _)
   | (with_reducible exact standstilllaw06_run.mono _ _ _ _ _ _ _ _ _ _)
   | (with_reducible exact standstilllaw06_step.mono _ _ _ _ _ _ _ _)
   | (with_reducible exact standstilllaw06_until.mono _ _ _ _ _ _ _ _ _ _ _)
   | (with_reducible exact standstillref06_Fits.mono _ _ _ _ _)
   | (with_reducible exact standstillref06_SameCount.mono _ _ _ _ _)
   | (with_reducible exact standstillref06_Valid.mono _ _ _)
   | (with_reducible exact LeO.refl _)
   | (with_reducible exact LeO.none _)
   | (with_reducible refine LeO.ite ?_ ?_)
   | (with_reducible refine LeO.bind ?_ (fun _ => ?_))
   | exact ih0 _ _ _ _ _ _ _
   | exact ih1 _ _ _ _ _ _ _
   | exact counter_Fits.mono _ _ _ _ _
   | exact counter_Run.mono _ _ _ _ _ _
   | exact counter_Step.mono _ _ _ _ _
   | exact counter_Until.mono _ _ _ _ _ _ _
   | exact counter_Valid.mono _ _ _
   | exact standstilllaw06_awake.mono _
   | exact standstilllaw06_run.mono _ _ _ _ _ _ _ _ _ _
   | exact standstilllaw06_step.mono _ _ _ _ _ _ _ _
   | exact standstilllaw06_until.mono _ _ _ _ _ _ _ _ _ _ _
   | exact standstillref06_Fits.mono _ _ _ _ _
   | exact standstillref06_SameCount.mono _ _ _ _ _
   | exact standstillref06_Valid.mono _ _ _
   | exact LeO.none _
   | refine LeO.ite ?_ ?_
   | refine LeO.bind ?_ (fun _ => ?_)
theorem standstilllaw06_CounterRuns.mono : ∀ a0 a1 a2 a3 a4 a5 k, LeO (standstilllaw06_CounterRuns.f k a0 a1 a2 a3 a4 a5) (standstilllaw06_CounterRuns.f (k + 1) a0 a1 a2 a3 a4 a5) := by
 intro a0 a1 a2 a3 a4 a5 k
 obtain ⟨ih0, ih1⟩ := standstilllaw06_CounterRuns.mono_l k
 unfold standstilllaw06_CounterRuns.f
 repeat' first
   | (with_reducible exact ih0 _ _ _ _ _ _ _)
   | (with_reducible exact ih1 _ _ _ _ _ _ _)
   | (with_reducible exact counter_Fits.mono _ _ _ _ _)
   | (with_reducible exact counter_Run.mono _ _ _ _ _ _)
   | (with_reducible exact counter_Step.mono _ _ _ _ _)
   | (with_reducible exact counter_Until.mono _ _ _ _ _ _ _)
   | (with_reducible exact counter_Valid.mono _ _ _)
   | (with_reducible exact standstilllaw06_awake.mono _)
   | (with_reducible exact standstilllaw06_run.mono _ _ _ _ _ _ _ _ _ _)
   | (with_reducible exact standstilllaw06_step.mono _ _ _ _ _ _ _ _)
   | (with_reducible exact standstilllaw06_until.mono _ _ _ _ _ _ _ _ _ _ _)
   | (with_reducible exact standstillref06_Fits.mono _ _ _ _ _)
   | (with_reducible exact standstillref06_SameCount.mono _ _ _ _ _)
   | (with_reducible exact standstillref06_Valid.mono _ _ _)
   | (with_reducible exact LeO.refl _)
   | (with_reducible exact LeO.none _)
   | (with_reducible refine LeO.ite ?_ ?_)
   | (with_reducible refine LeO.bind ?_ (fun _ => ?_))
   | exact ih0 _ _ _ _ _ _ _
   | exact ih1 _ _ _ _ _ _ _
   | exact counter_Fits.mono _ _ _ _ _
   | exact counter_Run.mono _ _ _ _ _ _
   | exact counter_Step.mono _ _ _ _ _
   | exact counter_Until.mono _ _ _ _ _ _ _
   | exact counter_Valid.mono _ _ _
   | exact standstilllaw06_awake.mono _
   | exact standstilllaw06_run.mono _ _ _ _ _ _ _ _ _ _
   | exact standstilllaw06_step.mono _ _ _ _ _ _ _ _
   | exact standstilllaw06_until.mono _ _ _ _ _ _ _ _ _ _ _
   | exact standstillref06_Fits.mono _ _ _ _ _
   | exact standstillref06_SameCount.mono _ _ _ _ _
   | exact standstillref06_Valid.mono _ _ _
   | exact LeO.none _
   | refine LeO.ite ?_ ?_
   | refine LeO.bind ?_ (fun _ => ?_)
def standstilllaw06_CounterRuns.T3 : Bool × List (List Nat × List Nat) := (true, [([], []), ([0], [0]), ([], []), ([2, 1], [2]), ([1, 3], [1, 3]), ([4, 3], [4]), ([5], [5]), ([5], [5]), ([6, 7, 5, 5], [5, 6, 7]), ([5], [5]), ([5], [5]), ([9, 10, 8, 5], [5, 9, 10]), ([8, 11, 5], [5, 8, 11]), ([5, 12], [5, 12])])
def standstilllaw06_CounterRuns.B3 : List Nat := [0, 1, 0, 7, 15, 31, 63, 63, 255, 63, 63, 2047, 4095, 8191]
theorem standstilllaw06_CounterRuns.tab3 : rtab .any (opsOf Try.f6 3) = standstilllaw06_CounterRuns.T3 := by kernel_rfl
theorem standstilllaw06_CounterRuns.bits3 : waitsOk standstilllaw06_CounterRuns.T3.2 standstilllaw06_CounterRuns.B3 = true := by kernel_rfl
set_option maxHeartbeats 8000000 in
set_option maxRecDepth 100000 in
theorem standstilllaw06_CounterRuns.calls (k : Nat) (a0_0 : Int) (A0_1 : Option Addr) (c0_1 : Nat) (l0_1 : List (S33)) (a1_0 : Int) (A1_1 : Option Addr) (c1_1 : Nat) (l1_1 : List Int) (A2 : Option Addr) (c2 : Nat) (l2 : List Int) (a3 : Int) (r : Bool) (w : World) (hr0_1 : Kd.C k33 w A0_1 l0_1.length l0_1) (hc0_1 : l0_1.length ≤ c0_1) (hr1_1 : Kd.C (Kd.int .i64) w A1_1 l1_1.length l1_1) (hc1_1 : l1_1.length ≤ c1_1) (hr2 : Kd.C (Kd.int .i64) w A2 l2.length l2) (hc2 : l2.length ≤ c2) (h : standstilllaw06_CounterRuns.f k a0_0 l0_1 a1_0 l1_1 l2 a3 = some r) :
  Calls Try.prog 6 #[.agg #[.int .i64 a0_0, .slice A0_1 l0_1.length c0_1], .agg #[.int .i64 a1_0, .slice A1_1 l1_1.length c1_1], .slice A2 l2.length c2, .int .i64 a3] w fun e w' => e = .returned (.bool r) ∧ Below w.heap.size w w' := by
 have hu24 := Try.underlying24
 have hu27 := Try.underlying27
 have HR0_1 := Aside0.mk hr0_1
 have HC0_1 := Aside0.mk hc0_1
 clear hr0_1 hc0_1
 have HR1_1 := Aside0.mk hr1_1
 have HC1_1 := Aside0.mk hc1_1
 clear hr1_1 hc1_1
 have HR2 := Aside0.mk hr2
 have HC2 := Aside0.mk hc2
 clear hr2 hc2
 have HB := A_ (Below.refl w.heap.size w)
 have H : ((standstilllaw06_wide.f a0_0 l0_1 a1_0 l1_1).bind fun t202 => (if t202 = true then (standstilllaw06_CounterRuns.j0 k l2 a3 true a0_0 l0_1 a1_0 l1_1) else (if (l2.length : Int) > 4000 then (standstilllaw06_CounterRuns.j0 k l2 a3 true a0_0 l0_1 a1_0 l1_1) else (if a3 > 5000 then (standstilllaw06_CounterRuns.j0 k l2 a3 (decide (a3 ≤ 1000000)) a0_0 l0_1 a1_0 l1_1) else (standstilllaw06_CounterRuns.j0 k l2 a3 false a0_0 l0_1 a1_0 l1_1))))) = some r := h
 clear h
 have HC5 := Aside0.mk H
 clear H
 go_enter Try.func6, Try.ntmps6
 go_upto_region 1 with (first | ((with_reducible refine gate_dst (N := 4) rfl ?_); (try (refine gate_guard (by rfl) ?_; dsimp only)); refine box_event ?hg (N := 4) ?hd (cs := #[.int .i64 a0_0, .slice A0_1 l0_1.length c0_1]) (t := 24) ?hr ?_; (case hd => rfl); (case hg => rfl); (case hr => first | (go_simp; done) | (go_simp; rfl)); intro gb200 hg w6 hbox hb; have n0_ := A_ (below_step (bk_ HB.out) hb); have n1_ := A_ (hbox); have n2_ := A_ (bz_ hg (bk_ HB.out)); have n3_ := A_ (bz_ hg (bk_ HB.out)); clear HB; have HB := n0_; have BK200 := n1_; have GW200 := n2_; have GE200 := n3_; clear n0_ n1_ n2_ n3_ hb hbox hg) | ((with_reducible refine gate_dst (N := 5) rfl ?_); (try (refine gate_guard (by rfl) ?_; dsimp only)); refine box_event ?hg (N := 5) ?hd (cs := #[.int .i64 a1_0, .slice A1_1 l1_1.length c1_1]) (t := 27) ?hr ?_; (case hd => rfl); (case hg => rfl); (case hr => first | (go_simp; done) | (go_simp; rfl)); intro gb201 hg w7 hbox hb; have n0_ := A_ (blk_below (pk_ BK200.out) hb); have n1_ := A_ (below_step (bk_ HB.out) hb); have n2_ := A_ (hbox); have n3_ := A_ (bz_ hg (bk_ HB.out)); have n4_ := A_ (bz_ hg (bk_ HB.out)); have n5_ := A_ (nl_ hg (pk_ BK200.out)); have n6_ := A_ (ng_ hg (pk_ BK200.out)); clear BK200 HB; have BK200 := n0_; have HB := n1_; have BK201 := n2_; have GW201 := n3_; have GE201 := n4_; have NB200_201 := n5_; have NB201_200 := n6_; clear n0_ n1_ n2_ n3_ n4_ n5_ n6_ hb hbox hg))
 (try simp only [Act.put, List.setIfInBounds_toArray, List.set_cons_zero, List.set_cons_succ])
 go_cut [33] (fun v33 wc => ∃ (kq : Nat) (x33_4 : Bool), v33 = .bool x33_4 ∧ Aside0 (standstilllaw06_CounterRuns.j0 kq l2 a3 x33_4 a0_0 l0_1 a1_0 l1_1 = some r) ∧ Aside0 (kq ≤ k) ∧ Aside0 (wc.heap[gb200]? = some (.cells #[.int .i64 a0_0, (.slice A0_1 l0_1.length c0_1)] 24 (0, 0))) ∧ Aside0 (wc.heap[gb201]? = some (.cells #[.int .i64 a1_0, (.slice A1_1 l1_1.length c1_1)] 27 (0, 0))) ∧ Aside0 (Below w.heap.size w wc))
 case first =>
  have H := HC5.out
  clear HC5
  replace H := Option.bind_eq_some_iff.mp H
  obtain ⟨t202, A80, H⟩ := H
  replace H : (if t202 = true then (standstilllaw06_CounterRuns.j0 k l2 a3 true a0_0 l0_1 a1_0 l1_1) else (if (l2.length : Int) > 4000 then (standstilllaw06_CounterRuns.j0 k l2 a3 true a0_0 l0_1 a1_0 l1_1) else (if a3 > 5000 then (standstilllaw06_CounterRuns.j0 k l2 a3 (decide (a3 ≤ 1000000)) a0_0 l0_1 a1_0 l1_1) else (standstilllaw06_CounterRuns.j0 k l2 a3 false a0_0 l0_1 a1_0 l1_1)))) = some r := H
  have A8 := Aside0.mk A80
  clear A80
  by_cases c9 : t202 = true
  ·subst c9
   have H1 : (standstilllaw06_CounterRuns.j0 k l2 a3 true a0_0 l0_1 a1_0 l1_1) = some r := by rw [if_pos rfl] at H; exact H
   clear H
   have H := H1
   clear H1
   have H' := Aside0.mk H
   clear H
   have hnb10 := NB200_201.out
   have hnc10 := NB201_200.out
   obtain ⟨hcz11_0, hcz11_1⟩ := bc2_ BK200.out
   have hfz11_0 := blk_frozen BK200.out 0
   have hfz11_1 := blk_frozen BK200.out 1
   obtain ⟨hcz12_0, hcz12_1⟩ := bc2_ BK201.out
   have hfz12_0 := blk_frozen BK201.out 0
   have hfz12_1 := blk_frozen BK201.out 1
   go_wp2_with (first | ((with_reducible refine gate_callee (f := 8) rfl ?_); refine goesL_ (some 20) rfl rfl Try.func8 (by kernel_rfl) rfl #[.agg #[.int .i64 a0_0, .slice A0_1 l0_1.length c0_1], .agg #[.int .i64 a1_0, .slice A1_1 l1_1.length c1_1]] rfl gl_ ?_; (with_reducible refine (standstilllaw06_wide.calls a0_0 _ _ l0_1 a1_0 _ _ l1_1 true _ ?side1 ?side2 ?side3 ?side4 A8.out).mono ?_); (case side1 => exact ck_ (Kd.C_below HR0_1.out HB.out)); (case side2 => exact HC0_1.out); (case side3 => exact ck_ (Kd.C_below HR1_1.out HB.out)); (case side4 => exact HC1_1.out); rintro e w13 ⟨rfl, hb⟩; refine ⟨_, rfl, ?_⟩; have n0_ := A_ (blk_below (pk_ BK200.out) hb); have n1_ := A_ (blk_below (pk_ BK201.out) hb); have n2_ := A_ (below_step (bk_ HB.out) hb); clear BK200 BK201 HB; have BK200 := n0_; have BK201 := n1_; have HB := n2_; clear n0_ n1_ n2_; (try clear hb); (try clear hb2); (try clear hk); (try clear hi)))
   go_meet
   case rel => exact ⟨_, (true), jr_, H', ⟨by first | omega | exact Nat.le_refl _⟩, ⟨pk_ BK200.out⟩, ⟨pk_ BK201.out⟩, ⟨bk_ HB.out⟩⟩
  ·replace c9 := Bool.eq_false_iff.mpr c9
   subst c9
   have H1 : (if (l2.length : Int) > 4000 then (standstilllaw06_CounterRuns.j0 k l2 a3 true a0_0 l0_1 a1_0 l1_1) else (if a3 > 5000 then (standstilllaw06_CounterRuns.j0 k l2 a3 (decide (a3 ≤ 1000000)) a0_0 l0_1 a1_0 l1_1) else (standstilllaw06_CounterRuns.j0 k l2 a3 false a0_0 l0_1 a1_0 l1_1))) = some r := by rw [if_neg (show ¬ (false = true) by decide)] at H; exact H
   clear H
   have H := H1
   clear H1
   by_cases c14 : (l2.length : Int) > 4000
   ·rw [if_pos c14] at H
    have c14b0 : decide (4000 < (l2.length : Int)) = true := decide_eq_true c14
    have c14b1 : decide (4000 < l2.length) = true := decide_eq_true (by omega)
    clear c14
    (first | rw [c14b0] | (simp only [i64_w, i32_w]; rw [c14b0]) | skip)
    have H' := Aside0.mk H
    clear H
    have hnb15 := NB200_201.out
    have hnc15 := NB201_200.out
    obtain ⟨hcz16_0, hcz16_1⟩ := bc2_ BK200.out
    have hfz16_0 := blk_frozen BK200.out 0
    have hfz16_1 := blk_frozen BK200.out 1
    obtain ⟨hcz17_0, hcz17_1⟩ := bc2_ BK201.out
    have hfz17_0 := blk_frozen BK201.out 0
    have hfz17_1 := blk_frozen BK201.out 1
    go_wp2_with (first | ((with_reducible refine gate_callee (f := 8) rfl ?_); refine goesL_ (some 20) rfl rfl Try.func8 (by kernel_rfl) rfl #[.agg #[.int .i64 a0_0, .slice A0_1 l0_1.length c0_1], .agg #[.int .i64 a1_0, .slice A1_1 l1_1.length c1_1]] rfl gl_ ?_; (with_reducible refine (standstilllaw06_wide.calls a0_0 _ _ l0_1 a1_0 _ _ l1_1 false _ ?side1 ?side2 ?side3 ?side4 A8.out).mono ?_); (case side1 => exact ck_ (Kd.C_below HR0_1.out HB.out)); (case side2 => exact HC0_1.out); (case side3 => exact ck_ (Kd.C_below HR1_1.out HB.out)); (case side4 => exact HC1_1.out); rintro e w18 ⟨rfl, hb⟩; refine ⟨_, rfl, ?_⟩; have n0_ := A_ (blk_below (pk_ BK200.out) hb); have n1_ := A_ (blk_below (pk_ BK201.out) hb); have n2_ := A_ (below_step (bk_ HB.out) hb); clear BK200 BK201 HB; have BK200 := n0_; have BK201 := n1_; have HB := n2_; clear n0_ n1_ n2_; (try clear hb); (try clear hb2); (try clear hk); (try clear hi)))
    go_meet
    case rel => exact ⟨_, (true), jr_, H', ⟨by first | omega | exact Nat.le_refl _⟩, ⟨pk_ BK200.out⟩, ⟨pk_ BK201.out⟩, ⟨bk_ HB.out⟩⟩
   ·rw [if_neg c14] at H
    have c14b0 : decide (4000 < (l2.length : Int)) = false := decide_eq_false c14
    have c14b1 : decide (4000 < l2.length) = false := decide_eq_false (by omega)
    clear c14
    (first | rw [c14b0] | (simp only [i64_w, i32_w]; rw [c14b0]) | skip)
    by_cases c19 : a3 > 5000
    ·rw [if_pos c19] at H
     have c19b0 : decide (5000 < a3) = true := decide_eq_true c19
     clear c19
     have H' := Aside0.mk H
     clear H
     have hnb20 := NB200_201.out
     have hnc20 := NB201_200.out
     obtain ⟨hcz21_0, hcz21_1⟩ := bc2_ BK200.out
     have hfz21_0 := blk_frozen BK200.out 0
     have hfz21_1 := blk_frozen BK200.out 1
     obtain ⟨hcz22_0, hcz22_1⟩ := bc2_ BK201.out
     have hfz22_0 := blk_frozen BK201.out 0
     have hfz22_1 := blk_frozen BK201.out 1
     go_wp2_with (first | ((with_reducible refine gate_callee (f := 8) rfl ?_); refine goesL_ (some 20) rfl rfl Try.func8 (by kernel_rfl) rfl #[.agg #[.int .i64 a0_0, .slice A0_1 l0_1.length c0_1], .agg #[.int .i64 a1_0, .slice A1_1 l1_1.length c1_1]] rfl gl_ ?_; (with_reducible refine (standstilllaw06_wide.calls a0_0 _ _ l0_1 a1_0 _ _ l1_1 false _ ?side1 ?side2 ?side3 ?side4 A8.out).mono ?_); (case side1 => exact ck_ (Kd.C_below HR0_1.out HB.out)); (case side2 => exact HC0_1.out); (case side3 => exact ck_ (Kd.C_below HR1_1.out HB.out)); (case side4 => exact HC1_1.out); rintro e w23 ⟨rfl, hb⟩; refine ⟨_, rfl, ?_⟩; have n0_ := A_ (blk_below (pk_ BK200.out) hb); have n1_ := A_ (blk_below (pk_ BK201.out) hb); have n2_ := A_ (below_step (bk_ HB.out) hb); clear BK200 BK201 HB; have BK200 := n0_; have BK201 := n1_; have HB := n2_; clear n0_ n1_ n2_; (try clear hb); (try clear hb2); (try clear hk); (try clear hi)))
     go_meet
     case rel => exact ⟨_, (decide (a3 ≤ 1000000)), jr_, H', ⟨by first | omega | exact Nat.le_refl _⟩, ⟨pk_ BK200.out⟩, ⟨pk_ BK201.out⟩, ⟨bk_ HB.out⟩⟩
    ·rw [if_neg c19] at H
     have c19b0 : decide (5000 < a3) = false := decide_eq_false c19
     clear c19
     have H' := Aside0.mk H
     clear H
     have hnb24 := NB200_201.out
     have hnc24 := NB201_200.out
     obtain ⟨hcz25_0, hcz25_1⟩ := bc2_ BK200.out
     have hfz25_0 := blk_frozen BK200.out 0
     have hfz25_1 := blk_frozen BK200.out 1
     obtain ⟨hcz26_0, hcz26_1⟩ := bc2_ BK201.out
     have hfz26_0 := blk_frozen BK201.out 0
     have hfz26_1 := blk_frozen BK201.out 1
     go_wp2_with (first | ((with_reducible refine gate_callee (f := 8) rfl ?_); refine goesL_ (some 20) rfl rfl Try.func8 (by kernel_rfl) rfl #[.agg #[.int .i64 a0_0, .slice A0_1 l0_1.length c0_1], .agg #[.int .i64 a1_0, .slice A1_1 l1_1.length c1_1]] rfl gl_ ?_; (with_reducible refine (standstilllaw06_wide.calls a0_0 _ _ l0_1 a1_0 _ _ l1_1 false _ ?side1 ?side2 ?side3 ?side4 A8.out).mono ?_); (case side1 => exact ck_ (Kd.C_below HR0_1.out HB.out)); (case side2 => exact HC0_1.out); (case side3 => exact ck_ (Kd.C_below HR1_1.out HB.out)); (case side4 => exact HC1_1.out); rintro e w27 ⟨rfl, hb⟩; refine ⟨_, rfl, ?_⟩; have n0_ := A_ (blk_below (pk_ BK200.out) hb); have n1_ := A_ (blk_below (pk_ BK201.out) hb); have n2_ := A_ (below_step (bk_ HB.out) hb); clear BK200 BK201 HB; have BK200 := n0_; have BK201 := n1_; have HB := n2_; clear n0_ n1_ n2_; (try clear hb); (try clear hb2); (try clear hk); (try clear hi)))
     go_meet
     case rel => exact ⟨_, (false), jr_, H', ⟨by first | omega | exact Nat.le_refl _⟩, ⟨pk_ BK200.out⟩, ⟨pk_ BK201.out⟩, ⟨bk_ HB.out⟩⟩
 case rest =>
  clear HC5
  (try clear c2)
  obtain ⟨kq, x33_4, rfl, HA, HJ4, BK200, BK201, HB⟩ := hcut
  cases kq with
  | zero => exact absurd HA.out (by simp [standstilllaw06_CounterRuns.j0])
  | succ kj4 =>
   have H := HA.out
   clear HA
   simp only [standstilllaw06_CounterRuns.j0] at H
   by_cases c28 : x33_4 = true
   ·subst c28
    have H1 : ((standstilllaw06_awake.f kj4).bind fun t203 => (some t203)) = some r := by rw [if_pos rfl] at H; exact H
    clear H
    have H := H1
    clear H1
    replace H := Option.bind_eq_some_iff.mp H
    obtain ⟨t203, A290, H⟩ := H
    replace H : (some t203) = some r := H
    have A29 := Aside0.mk A290
    clear A290
    obtain rfl := Option.some.inj H
    go_wp2_with (first | ((with_reducible refine gate_callee (f := 10) rfl ?_); refine goesL_ (some 34) rfl rfl Try.func10 (by kernel_rfl) rfl #[] rfl gl_ ?_; (with_reducible refine (standstilllaw06_awake.calls kj4  t203 _ A29.out).mono ?_); rintro e w30 ⟨rfl, hb⟩; refine ⟨_, rfl, ?_⟩; have n0_ := A_ (blk_below (pk_ BK200.out) hb); have n1_ := A_ (blk_below (pk_ BK201.out) hb); have n2_ := A_ (below_step (bk_ HB.out) hb); clear BK200 BK201 HB; have BK200 := n0_; have BK201 := n1_; have HB := n2_; clear n0_ n1_ n2_; (try clear hb); (try clear hb2); (try clear hk); (try clear hi)))
    go_ret
    exact ⟨er_, bk_ HB.out⟩
   ·replace c28 := Bool.eq_false_iff.mpr c28
    subst c28
    have H1 : ((counter_Valid.f kj4 a0_0 l0_1).bind fun t204 => ((standstillref06_Valid.f kj4 a0_0 l0_1).bind fun t205 => (if (t204 != t205) = true then (standstilllaw06_CounterRuns.j1 kj4 l2 a3 true a0_0 l0_1 a1_0 l1_1) else ((counter_Fits.f kj4 a0_0 l0_1 a1_0 l1_1).bind fun t206 => ((standstillref06_Fits.f kj4 a0_0 l0_1 a1_0 l1_1).bind fun t207 => (standstilllaw06_CounterRuns.j1 kj4 l2 a3 (t206 != t207) a0_0 l0_1 a1_0 l1_1)))))) = some r := by rw [if_neg (show ¬ (false = true) by decide)] at H; exact H
    clear H
    have H := H1
    clear H1
    have HC31 := Aside0.mk H
    clear H
    go_upto_region 3 with (fail)
    go_cut [48] (fun v48 wc => ∃ (kq : Nat) (x48_30 : Bool), v48 = .bool x48_30 ∧ Aside0 (standstilllaw06_CounterRuns.j1 kq l2 a3 x48_30 a0_0 l0_1 a1_0 l1_1 = some r) ∧ Aside0 (kq ≤ kj4) ∧ Aside0 (wc.heap[gb200]? = some (.cells #[.int .i64 a0_0, (.slice A0_1 l0_1.length c0_1)] 24 (0, 0))) ∧ Aside0 (wc.heap[gb201]? = some (.cells #[.int .i64 a1_0, (.slice A1_1 l1_1.length c1_1)] 27 (0, 0))) ∧ Aside0 (Below w.heap.size w wc))
    case first =>
     have H := HC31.out
     clear HC31
     replace H := Option.bind_eq_some_iff.mp H
     obtain ⟨t204, A320, H⟩ := H
     replace H : ((standstillref06_Valid.f kj4 a0_0 l0_1).bind fun t205 => (if (t204 != t205) = true then (standstilllaw06_CounterRuns.j1 kj4 l2 a3 true a0_0 l0_1 a1_0 l1_1) else ((counter_Fits.f kj4 a0_0 l0_1 a1_0 l1_1).bind fun t206 => ((standstillref06_Fits.f kj4 a0_0 l0_1 a1_0 l1_1).bind fun t207 => (standstilllaw06_CounterRuns.j1 kj4 l2 a3 (t206 != t207) a0_0 l0_1 a1_0 l1_1))))) = some r := H
     have A32 := Aside0.mk A320
     clear A320
     replace H := Option.bind_eq_some_iff.mp H
     obtain ⟨t205, A330, H⟩ := H
     replace H : (if (t204 != t205) = true then (standstilllaw06_CounterRuns.j1 kj4 l2 a3 true a0_0 l0_1 a1_0 l1_1) else ((counter_Fits.f kj4 a0_0 l0_1 a1_0 l1_1).bind fun t206 => ((standstillref06_Fits.f kj4 a0_0 l0_1 a1_0 l1_1).bind fun t207 => (standstilllaw06_CounterRuns.j1 kj4 l2 a3 (t206 != t207) a0_0 l0_1 a1_0 l1_1)))) = some r := H
     have A33 := Aside0.mk A330
     clear A330
     by_cases c34 : (t204 != t205) = true
     ·rw [if_pos c34] at H
      have c34b0 : (t204 != t205) = true := c34
      (try (have c34b1 : decide (t204 = t205) = false := by simpa using c34))
      (try (have c34b2 : (t204 == t205) = false := by simpa using c34))
      (try (have c34b3 : ¬ (t204 = t205) := by simpa using c34))
      clear c34
      (first | rw [c34b0] | (simp only [i64_w, i32_w]; rw [c34b0]) | skip)
      have H' := Aside0.mk H
      clear H
      try go_wp2
      have n0_ := A_ (blk_drew BK200.out)
      have n1_ := A_ (blk_drew BK201.out)
      have n2_ := A_ (below_drew1 HB.out)
      clear BK200 BK201 HB
      have BK200 := n0_
      have BK201 := n1_
      have HB := n2_
      clear n0_ n1_ n2_
      refine start_ (n := 14) (S := fun w' => w'.cell? ⟨gb200, 0, none⟩ = some (.int .i64 a0_0) ∧ w'.cell? ⟨gb200, 1, none⟩ = some (.slice A0_1 l0_1.length c0_1)) (ds := []) #[false, false, false, false, false, false, false, false, false, false, false, false, false, false] (by kernel_rfl) rfl rfl ⟨(blk_cell BK200.out 0).trans rfl, (blk_cell BK200.out 1).trans rfl⟩ (fun hHeld => ?_); refine with_tabW standstilllaw06_CounterRuns.tab3 standstilllaw06_CounterRuns.bits3 (fun HT_ HW_ => ?_)
      generalize wc.drew = w35 at BK200 BK201 HB hHeld ⊢
      refine take_ (i := 0) (N := some 35) (v := ?_) (a' := ?_) #[true, false, false, false, false, false, false, false, false, false, false, false, false, false] rfl rfl (take_ofW HT_.out HW_.out (by kernel_rfl)) (fun _ _ _ h => h) (Or.inl ⟨by rfl, ?_⟩) hHeld ?_ ?_
      rotate_left
      ·rintro w' ⟨s0, s1⟩
       go_simp
       with_reducible rfl
      rotate_left
      ·simp only [Act.put, sa_, sz_, ss_, i64_w, i32_w]
       rfl
      refine take_ (i := 2) (N := some 37) (v := ?_) (a' := ?_) #[true, false, true, false, false, false, false, false, false, false, false, false, false, false] rfl rfl (take_ofW HT_.out HW_.out (by kernel_rfl)) (fun _ _ _ h => h) (Or.inl ⟨by rfl, ?_⟩) hHeld ?_ ?_
      rotate_left
      ·rintro w' ⟨s0, s1⟩
       go_simp
       with_reducible rfl
      rotate_left
      ·simp only [Act.put, sa_, sz_, ss_, i64_w, i32_w]
       rfl
      refine one_ (i := 1) (N := some 36) #[true, true, true, false, false, false, false, false, false, false, false, false, false, false] rfl rfl (one_of HT_.out (by kernel_rfl)) (by decide) (fun K hK => ?_)
      refine goes_ Try.func17 (by kernel_rfl) rfl #[.agg #[.int .i64 a0_0, .slice A0_1 l0_1.length c0_1]] (by rfl) rfl rfl gl_ ?_
      with_reducible refine (counter_Valid.calls kj4 a0_0 _ _ l0_1 t204 _ ?side1 ?side2 A32.out).mono ?_
      (case side1 => exact ck_ (Kd.C_below HR0_1.out HB.out))
      (case side2 => exact HC0_1.out)
      rintro e w36 ⟨rfl, hb⟩
      refine ⟨_, rfl, ?_⟩
      have n0_ := A_ (blk_below (pk_ BK200.out) hb)
      have n1_ := A_ (blk_below (pk_ BK201.out) hb)
      have n2_ := A_ (below_step (bk_ HB.out) hb)
      clear BK200 BK201 HB
      have BK200 := n0_
      have BK201 := n1_
      have HB := n2_
      clear n0_ n1_ n2_
      (try clear hb)
      (try clear hb2)
      (try clear hk)
      (try clear hi)
      refine hK.out _ _ ⟨(blk_cell BK200.out 0).trans rfl, (blk_cell BK200.out 1).trans rfl⟩ (fun hHeld => ?_)
      clear hK K
      refine norm_ (a' := ?_) ?_ ?_
      rotate_left
      ·show Act.put _ (some 36) _ = _
       simp only [Act.put, sa_, sz_, ss_, i64_w, i32_w]
       rfl
      refine one_ (i := 3) (N := some 38) #[true, true, true, true, false, false, false, false, false, false, false, false, false, false] rfl rfl (one_of HT_.out (by kernel_rfl)) (by decide) (fun K hK => ?_)
      refine goes_ Try.func13 (by kernel_rfl) rfl #[.agg #[.int .i64 a0_0, .slice A0_1 l0_1.length c0_1]] (by rfl) rfl rfl gl_ ?_
      with_reducible refine (standstillref06_Valid.calls kj4 a0_0 _ _ l0_1 t205 _ ?side1 ?side2 A33.out).mono ?_
      (case side1 => exact ck_ (Kd.C_below HR0_1.out HB.out))
      (case side2 => exact HC0_1.out)
      rintro e w37 ⟨rfl, hb⟩
      refine ⟨_, rfl, ?_⟩
      have n0_ := A_ (blk_below (pk_ BK200.out) hb)
      have n1_ := A_ (blk_below (pk_ BK201.out) hb)
      have n2_ := A_ (below_step (bk_ HB.out) hb)
      clear BK200 BK201 HB
      have BK200 := n0_
      have BK201 := n1_
      have HB := n2_
      clear n0_ n1_ n2_
      (try clear hb)
      (try clear hb2)
      (try clear hk)
      (try clear hi)
      refine hK.out _ _ ⟨(blk_cell BK200.out 0).trans rfl, (blk_cell BK200.out 1).trans rfl⟩ (fun hHeld => ?_)
      clear hK K
      refine norm_ (a' := ?_) ?_ ?_
      rotate_left
      ·show Act.put _ (some 38) _ = _
       simp only [Act.put, sa_, sz_, ss_, i64_w, i32_w]
       rfl
      refine pure_ (i := 4) (N := some 39) (v := ?_) (a' := ?_) #[true, true, true, true, true, false, false, false, false, false, false, false, false, false] rfl rfl (any_of HT_.out (by kernel_rfl)) (fun _ _ _ h => h) (Or.inl ⟨by rfl, ?_⟩) ?_ ?_
      rotate_left
      ·intro w'
       go_simp
       with_reducible rfl
      rotate_left
      ·simp only [Act.put, sa_, sz_, ss_, i64_w, i32_w]
       rfl
      refine pure_ (i := 5) (N := some 40) (v := ?_) (a' := ?_) #[true, true, true, true, true, true, false, false, false, false, false, false, false, false] rfl rfl (any_of HT_.out (by kernel_rfl)) (fun _ _ _ h => h) (Or.inl ⟨by rfl, ?_⟩) ?_ ?_
      rotate_left
      ·intro w'
       go_simp
       with_reducible rfl
      rotate_left
      ·simp only [Act.put, sa_, sz_, ss_, i64_w, i32_w]
       rfl
      refine pure_ (i := 6) (N := some 41) (v := undef) (a' := ?_) #[true, true, true, true, true, true, true, false, false, false, false, false, false, false] rfl rfl (any_of HT_.out (by kernel_rfl)) (fun _ _ _ h => h) (Or.inr ⟨by rfl, rfl⟩) ?_ ?_
      rotate_left
      ·simp only [Act.put, sa_, sz_, ss_, i64_w, i32_w]
       rfl
      refine pure_ (i := 7) (N := some 42) (v := undef) (a' := ?_) #[true, true, true, true, true, true, true, true, false, false, false, false, false, false] rfl rfl (any_of HT_.out (by kernel_rfl)) (fun _ _ _ h => h) (Or.inr ⟨by rfl, rfl⟩) ?_ ?_
      rotate_left
      ·simp only [Act.put, sa_, sz_, ss_, i64_w, i32_w]
       rfl
      refine pure_ (i := 8) (N := some 43) (v := undef) (a' := ?_) #[true, true, true, true, true, true, true, true, true, false, false, false, false, false] rfl rfl (any_of HT_.out (by kernel_rfl)) (fun _ _ _ h => h) (Or.inr ⟨by rfl, rfl⟩) ?_ ?_
      rotate_left
      ·simp only [Act.put, sa_, sz_, ss_, i64_w, i32_w]
       rfl
      refine pure_ (i := 9) (N := some 44) (v := undef) (a' := ?_) #[true, true, true, true, true, true, true, true, true, true, false, false, false, false] rfl rfl (any_of HT_.out (by kernel_rfl)) (fun _ _ _ h => h) (Or.inr ⟨by rfl, rfl⟩) ?_ ?_
      rotate_left
      ·simp only [Act.put, sa_, sz_, ss_, i64_w, i32_w]
       rfl
      refine pure_ (i := 10) (N := some 45) (v := undef) (a' := ?_) #[true, true, true, true, true, true, true, true, true, true, true, false, false, false] rfl rfl (any_of HT_.out (by kernel_rfl)) (fun _ _ _ h => h) (Or.inr ⟨by rfl, rfl⟩) ?_ ?_
      rotate_left
      ·simp only [Act.put, sa_, sz_, ss_, i64_w, i32_w]
       rfl
      refine pure_ (i := 11) (N := some 46) (v := undef) (a' := ?_) #[true, true, true, true, true, true, true, true, true, true, true, true, false, false] rfl rfl (any_of HT_.out (by kernel_rfl)) (fun _ _ _ h => h) (Or.inr ⟨by rfl, rfl⟩) ?_ ?_
      rotate_left
      ·simp only [Act.put, sa_, sz_, ss_, i64_w, i32_w]
       rfl
      refine pure_ (i := 12) (N := some 47) (v := undef) (a' := ?_) #[true, true, true, true, true, true, true, true, true, true, true, true, true, false] rfl rfl (any_of HT_.out (by kernel_rfl)) (fun _ _ _ h => h) (Or.inr ⟨by rfl, rfl⟩) ?_ ?_
      rotate_left
      ·simp only [Act.put, sa_, sz_, ss_, i64_w, i32_w]
       rfl
      refine pure_ (i := 13) (N := some 48) (v := ?_) (a' := ?_) #[true, true, true, true, true, true, true, true, true, true, true, true, true, true] rfl rfl (any_of HT_.out (by kernel_rfl)) (fun _ _ _ h => h) (Or.inl ⟨by rfl, ?_⟩) ?_ ?_
      rotate_left
      ·intro w'
       go_simp
       with_reducible rfl
      rotate_left
      ·simp only [Act.put, sa_, sz_, ss_, i64_w, i32_w]
       rfl
      refine done_ (done_of HT_.out (by kernel_rfl)) ?_
      try go_wp2
      go_meet
      case rel => exact ⟨_, (true), jr_, H', ⟨by have := HJ4.out; first | omega | exact Nat.le_refl _⟩, ⟨pk_ BK200.out⟩, ⟨pk_ BK201.out⟩, ⟨bk_ HB.out⟩⟩
     ·rw [if_neg c34] at H
      have c34b0 : (t204 != t205) = false := by simpa using c34
      (try (have c34b1 : decide (t204 = t205) = true := by simpa using c34))
      (try (have c34b2 : (t204 == t205) = true := by simpa using c34))
      clear c34
      (first | rw [c34b0] | (simp only [i64_w, i32_w]; rw [c34b0]) | skip)
      replace H := Option.bind_eq_some_iff.mp H
      obtain ⟨t206, A380, H⟩ := H
      replace H : ((standstillref06_Fits.f kj4 a0_0 l0_1 a1_0 l1_1).bind fun t207 => (standstilllaw06_CounterRuns.j1 kj4 l2 a3 (t206 != t207) a0_0 l0_1 a1_0 l1_1)) = some r := H
      have A38 := Aside0.mk A380
      clear A380
      replace H := Option.bind_eq_some_iff.mp H
      obtain ⟨t207, A390, H⟩ := H
      replace H : (standstilllaw06_CounterRuns.j1 kj4 l2 a3 (t206 != t207) a0_0 l0_1 a1_0 l1_1) = some r := H
      have A39 := Aside0.mk A390
      clear A390
      have H' := Aside0.mk H
      clear H
      try go_wp2
      have n0_ := A_ (blk_drew BK200.out)
      have n1_ := A_ (blk_drew BK201.out)
      have n2_ := A_ (below_drew1 HB.out)
      clear BK200 BK201 HB
      have BK200 := n0_
      have BK201 := n1_
      have HB := n2_
      clear n0_ n1_ n2_
      refine start_ (n := 14) (S := fun w' => w'.cell? ⟨gb200, 0, none⟩ = some (.int .i64 a0_0) ∧ w'.cell? ⟨gb200, 1, none⟩ = some (.slice A0_1 l0_1.length c0_1) ∧ w'.cell? ⟨gb201, 0, none⟩ = some (.int .i64 a1_0) ∧ w'.cell? ⟨gb201, 1, none⟩ = some (.slice A1_1 l1_1.length c1_1)) (ds := []) #[false, false, false, false, false, false, false, false, false, false, false, false, false, false] (by kernel_rfl) rfl rfl ⟨(blk_cell BK200.out 0).trans rfl, (blk_cell BK200.out 1).trans rfl, (blk_cell BK201.out 0).trans rfl, (blk_cell BK201.out 1).trans rfl⟩ (fun hHeld => ?_); refine with_tabW standstilllaw06_CounterRuns.tab3 standstilllaw06_CounterRuns.bits3 (fun HT_ HW_ => ?_)
      generalize wc.drew = w40 at BK200 BK201 HB hHeld ⊢
      refine take_ (i := 0) (N := some 35) (v := ?_) (a' := ?_) #[true, false, false, false, false, false, false, false, false, false, false, false, false, false] rfl rfl (take_ofW HT_.out HW_.out (by kernel_rfl)) (fun _ _ _ h => h) (Or.inl ⟨by rfl, ?_⟩) hHeld ?_ ?_
      rotate_left
      ·rintro w' ⟨s0, s1, s2, s3⟩
       go_simp
       with_reducible rfl
      rotate_left
      ·simp only [Act.put, sa_, sz_, ss_, i64_w, i32_w]
       rfl
      refine take_ (i := 2) (N := some 37) (v := ?_) (a' := ?_) #[true, false, true, false, false, false, false, false, false, false, false, false, false, false] rfl rfl (take_ofW HT_.out HW_.out (by kernel_rfl)) (fun _ _ _ h => h) (Or.inl ⟨by rfl, ?_⟩) hHeld ?_ ?_
      rotate_left
      ·rintro w' ⟨s0, s1, s2, s3⟩
       go_simp
       with_reducible rfl
      rotate_left
      ·simp only [Act.put, sa_, sz_, ss_, i64_w, i32_w]
       rfl
      refine one_ (i := 1) (N := some 36) #[true, true, true, false, false, false, false, false, false, false, false, false, false, false] rfl rfl (one_of HT_.out (by kernel_rfl)) (by decide) (fun K hK => ?_)
      refine goes_ Try.func17 (by kernel_rfl) rfl #[.agg #[.int .i64 a0_0, .slice A0_1 l0_1.length c0_1]] (by rfl) rfl rfl gl_ ?_
      with_reducible refine (counter_Valid.calls kj4 a0_0 _ _ l0_1 t204 _ ?side1 ?side2 A32.out).mono ?_
      (case side1 => exact ck_ (Kd.C_below HR0_1.out HB.out))
      (case side2 => exact HC0_1.out)
      rintro e w41 ⟨rfl, hb⟩
      refine ⟨_, rfl, ?_⟩
      have n0_ := A_ (blk_below (pk_ BK200.out) hb)
      have n1_ := A_ (blk_below (pk_ BK201.out) hb)
      have n2_ := A_ (below_step (bk_ HB.out) hb)
      clear BK200 BK201 HB
      have BK200 := n0_
      have BK201 := n1_
      have HB := n2_
      clear n0_ n1_ n2_
      (try clear hb)
      (try clear hb2)
      (try clear hk)
      (try clear hi)
      refine hK.out _ _ ⟨(blk_cell BK200.out 0).trans rfl, (blk_cell BK200.out 1).trans rfl, (blk_cell BK201.out 0).trans rfl, (blk_cell BK201.out 1).trans rfl⟩ (fun hHeld => ?_)
      clear hK K
      refine norm_ (a' := ?_) ?_ ?_
      rotate_left
      ·show Act.put _ (some 36) _ = _
       simp only [Act.put, sa_, sz_, ss_, i64_w, i32_w]
       rfl
      refine one_ (i := 3) (N := some 38) #[true, true, true, true, false, false, false, false, false, false, false, false, false, false] rfl rfl (one_of HT_.out (by kernel_rfl)) (by decide) (fun K hK => ?_)
      refine goes_ Try.func13 (by kernel_rfl) rfl #[.agg #[.int .i64 a0_0, .slice A0_1 l0_1.length c0_1]] (by rfl) rfl rfl gl_ ?_
      with_reducible refine (standstillref06_Valid.calls kj4 a0_0 _ _ l0_1 t205 _ ?side1 ?side2 A33.out).mono ?_
      (case side1 => exact ck_ (Kd.C_below HR0_1.out HB.out))
      (case side2 => exact HC0_1.out)
      rintro e w42 ⟨rfl, hb⟩
      refine ⟨_, rfl, ?_⟩
      have n0_ := A_ (blk_below (pk_ BK200.out) hb)
      have n1_ := A_ (blk_below (pk_ BK201.out) hb)
      have n2_ := A_ (below_step (bk_ HB.out) hb)
      clear BK200 BK201 HB
      have BK200 := n0_
      have BK201 := n1_
      have HB := n2_
      clear n0_ n1_ n2_
      (try clear hb)
      (try clear hb2)
      (try clear hk)
      (try clear hi)
      refine hK.out _ _ ⟨(blk_cell BK200.out 0).trans rfl, (blk_cell BK200.out 1).trans rfl, (blk_cell BK201.out 0).trans rfl, (blk_cell BK201.out 1).trans rfl⟩ (fun hHeld => ?_)
      clear hK K
      refine norm_ (a' := ?_) ?_ ?_
      rotate_left
      ·show Act.put _ (some 38) _ = _
       simp only [Act.put, sa_, sz_, ss_, i64_w, i32_w]
       rfl
      refine pure_ (i := 4) (N := some 39) (v := ?_) (a' := ?_) #[true, true, true, true, true, false, false, false, false, false, false, false, false, false] rfl rfl (any_of HT_.out (by kernel_rfl)) (fun _ _ _ h => h) (Or.inl ⟨by rfl, ?_⟩) ?_ ?_
      rotate_left
      ·intro w'
       go_simp
       with_reducible rfl
      rotate_left
      ·simp only [Act.put, sa_, sz_, ss_, i64_w, i32_w]
       rfl
      refine pure_ (i := 5) (N := some 40) (v := ?_) (a' := ?_) #[true, true, true, true, true, true, false, false, false, false, false, false, false, false] rfl rfl (any_of HT_.out (by kernel_rfl)) (fun _ _ _ h => h) (Or.inl ⟨by rfl, ?_⟩) ?_ ?_
      rotate_left
      ·intro w'
       go_simp
       with_reducible rfl
      rotate_left
      ·simp only [Act.put, sa_, sz_, ss_, i64_w, i32_w]
       rfl
      refine take_ (i := 6) (N := some 41) (v := ?_) (a' := ?_) #[true, true, true, true, true, true, true, false, false, false, false, false, false, false] rfl rfl (take_ofW HT_.out HW_.out (by kernel_rfl)) (fun _ _ _ h => h) (Or.inl ⟨by rfl, ?_⟩) hHeld ?_ ?_
      rotate_left
      ·rintro w' ⟨s0, s1, s2, s3⟩
       go_simp
       with_reducible rfl
      rotate_left
      ·simp only [Act.put, sa_, sz_, ss_, i64_w, i32_w]
       rfl
      refine take_ (i := 7) (N := some 42) (v := ?_) (a' := ?_) #[true, true, true, true, true, true, true, true, false, false, false, false, false, false] rfl rfl (take_ofW HT_.out HW_.out (by kernel_rfl)) (fun _ _ _ h => h) (Or.inl ⟨by rfl, ?_⟩) hHeld ?_ ?_
      rotate_left
      ·rintro w' ⟨s0, s1, s2, s3⟩
       go_simp
       with_reducible rfl
      rotate_left
      ·simp only [Act.put, sa_, sz_, ss_, i64_w, i32_w]
       rfl
      refine take_ (i := 9) (N := some 44) (v := ?_) (a' := ?_) #[true, true, true, true, true, true, true, true, false, true, false, false, false, false] rfl rfl (take_ofW HT_.out HW_.out (by kernel_rfl)) (fun _ _ _ h => h) (Or.inl ⟨by rfl, ?_⟩) hHeld ?_ ?_
      rotate_left
      ·rintro w' ⟨s0, s1, s2, s3⟩
       go_simp
       with_reducible rfl
      rotate_left
      ·simp only [Act.put, sa_, sz_, ss_, i64_w, i32_w]
       rfl
      refine take_ (i := 10) (N := some 45) (v := ?_) (a' := ?_) #[true, true, true, true, true, true, true, true, false, true, true, false, false, false] rfl rfl (take_ofW HT_.out HW_.out (by kernel_rfl)) (fun _ _ _ h => h) (Or.inl ⟨by rfl, ?_⟩) hHeld ?_ ?_
      rotate_left
      ·rintro w' ⟨s0, s1, s2, s3⟩
       go_simp
       with_reducible rfl
      rotate_left
      ·simp only [Act.put, sa_, sz_, ss_, i64_w, i32_w]
       rfl
      refine one_ (i := 8) (N := some 43) #[true, true, true, true, true, true, true, true, true, true, true, false, false, false] rfl rfl (one_of HT_.out (by kernel_rfl)) (by decide) (fun K hK => ?_)
      refine goes_ Try.func18 (by kernel_rfl) rfl #[.agg #[.int .i64 a0_0, .slice A0_1 l0_1.length c0_1], .agg #[.int .i64 a1_0, .slice A1_1 l1_1.length c1_1]] (by rfl) rfl rfl gl_ ?_
      with_reducible refine (counter_Fits.calls kj4 a0_0 _ _ l0_1 a1_0 _ _ l1_1 t206 _ ?side1 ?side2 ?side3 ?side4 A38.out).mono ?_
      (case side1 => exact ck_ (Kd.C_below HR0_1.out HB.out))
      (case side2 => exact HC0_1.out)
      (case side3 => exact ck_ (Kd.C_below HR1_1.out HB.out))
      (case side4 => exact HC1_1.out)
      rintro e w43 ⟨rfl, hb⟩
      refine ⟨_, rfl, ?_⟩
      have n0_ := A_ (blk_below (pk_ BK200.out) hb)
      have n1_ := A_ (blk_below (pk_ BK201.out) hb)
      have n2_ := A_ (below_step (bk_ HB.out) hb)
      clear BK200 BK201 HB
      have BK200 := n0_
      have BK201 := n1_
      have HB := n2_
      clear n0_ n1_ n2_
      (try clear hb)
      (try clear hb2)
      (try clear hk)
      (try clear hi)
      refine hK.out _ _ ⟨(blk_cell BK200.out 0).trans rfl, (blk_cell BK200.out 1).trans rfl, (blk_cell BK201.out 0).trans rfl, (blk_cell BK201.out 1).trans rfl⟩ (fun hHeld => ?_)
      clear hK K
      refine norm_ (a' := ?_) ?_ ?_
      rotate_left
      ·show Act.put _ (some 43) _ = _
       simp only [Act.put, sa_, sz_, ss_, i64_w, i32_w]
       rfl
      refine one_ (i := 11) (N := some 46) #[true, true, true, true, true, true, true, true, true, true, true, true, false, false] rfl rfl (one_of HT_.out (by kernel_rfl)) (by decide) (fun K hK => ?_)
      refine goes_ Try.func9 (by kernel_rfl) rfl #[.agg #[.int .i64 a0_0, .slice A0_1 l0_1.length c0_1], .agg #[.int .i64 a1_0, .slice A1_1 l1_1.length c1_1]] (by rfl) rfl rfl gl_ ?_
      with_reducible refine (standstillref06_Fits.calls kj4 a0_0 _ _ l0_1 a1_0 _ _ l1_1 t207 _ ?side1 ?side2 ?side3 ?side4 A39.out).mono ?_
      (case side1 => exact ck_ (Kd.C_below HR0_1.out HB.out))
      (case side2 => exact HC0_1.out)
      (case side3 => exact ck_ (Kd.C_below HR1_1.out HB.out))
      (case side4 => exact HC1_1.out)
      rintro e w44 ⟨rfl, hb⟩
      refine ⟨_, rfl, ?_⟩
      have n0_ := A_ (blk_below (pk_ BK200.out) hb)
      have n1_ := A_ (blk_below (pk_ BK201.out) hb)
      have n2_ := A_ (below_step (bk_ HB.out) hb)
      clear BK200 BK201 HB
      have BK200 := n0_
      have BK201 := n1_
      have HB := n2_
      clear n0_ n1_ n2_
      (try clear hb)
      (try clear hb2)
      (try clear hk)
      (try clear hi)
      refine hK.out _ _ ⟨(blk_cell BK200.out 0).trans rfl, (blk_cell BK200.out 1).trans rfl, (blk_cell BK201.out 0).trans rfl, (blk_cell BK201.out 1).trans rfl⟩ (fun hHeld => ?_)
      clear hK K
      refine norm_ (a' := ?_) ?_ ?_
      rotate_left
      ·show Act.put _ (some 46) _ = _
       simp only [Act.put, sa_, sz_, ss_, i64_w, i32_w]
       rfl
      refine pure_ (i := 12) (N := some 47) (v := ?_) (a' := ?_) #[true, true, true, true, true, true, true, true, true, true, true, true, true, false] rfl rfl (any_of HT_.out (by kernel_rfl)) (fun _ _ _ h => h) (Or.inl ⟨by rfl, ?_⟩) ?_ ?_
      rotate_left
      ·intro w'
       go_simp
       with_reducible rfl
      rotate_left
      ·simp only [Act.put, sa_, sz_, ss_, i64_w, i32_w]
       rfl
      refine pure_ (i := 13) (N := some 48) (v := ?_) (a' := ?_) #[true, true, true, true, true, true, true, true, true, true, true, true, true, true] rfl rfl (any_of HT_.out (by kernel_rfl)) (fun _ _ _ h => h) (Or.inl ⟨by rfl, ?_⟩) ?_ ?_
      rotate_left
      ·intro w'
       go_simp
       with_reducible rfl
      rotate_left
      ·simp only [Act.put, sa_, sz_, ss_, i64_w, i32_w]
       rfl
      refine done_ (done_of HT_.out (by kernel_rfl)) ?_
      try go_wp2
      go_meet
      case rel => exact ⟨_, ((t206 != t207)), jr_, H', ⟨by have := HJ4.out; first | omega | exact Nat.le_refl _⟩, ⟨pk_ BK200.out⟩, ⟨pk_ BK201.out⟩, ⟨bk_ HB.out⟩⟩
    case rest =>
     clear HC31
     (try clear c2); (try clear c28)
     obtain ⟨kq, x48_30, rfl, HA, HJ30, BK200, BK201, HB⟩ := hcut
     cases kq with
     | zero => exact absurd HA.out (by simp [standstilllaw06_CounterRuns.j1])
     | succ kj30 =>
      have H := HA.out
      clear HA
      simp only [standstilllaw06_CounterRuns.j1] at H
      by_cases c45 : x48_30 = true
      ·subst c45
       have H1 : (none) = some r := by rw [if_pos rfl] at H; exact H
       clear H
       have H := H1
       clear H1
       exact absurd H (by simp)
      ·replace c45 := Bool.eq_false_iff.mpr c45
       subst c45
       have H1 : ((counter_Step.f kj30 a0_0 l0_1 a1_0 l1_1).bind fun bt208 => ((counter_Run.f kj30 a0_0 l0_1 a1_0 l1_1 a3).bind fun bt214 => ((counter_Until.f kj30 a0_0 l0_1 a1_0 l1_1 l2 a3).bind fun bt221 => ((standstillref06_Fits.f kj30 a0_0 l0_1 a1_0 l1_1).bind fun t229 => (if t229 = true then ((standstilllaw06_step.f kj30 a0_0 l0_1 a1_0 l1_1 bt208.1 bt208.2.1 bt208.2.2).bind fun t234 => (if t234 = true then ((standstilllaw06_run.f kj30 a0_0 l0_1 a1_0 l1_1 a3 bt214.1 bt214.2.1 bt214.2.2.1 bt214.2.2.2).bind fun t235 => (if t235 = true then ((standstilllaw06_until.f kj30 a0_0 l0_1 a1_0 l1_1 l2 a3 bt221.1 bt221.2.1 bt221.2.2.1 bt221.2.2.2).bind fun t236 => (if t236 = true then ((standstilllaw06_awake.f kj30).bind fun t237 => (some t237)) else (none))) else (none))) else (none))) else (if bt208.2.2 = 1 then (if bt214.2.2.2 = 1 then (if bt221.2.2.2 = 1 then ((standstillref06_SameCount.f kj30 bt208.1 bt208.2.1 0 ([] : List Int)).bind fun t230 => (if t230 = true then ((standstillref06_SameCount.f kj30 bt214.1 bt214.2.1 0 ([] : List Int)).bind fun t231 => (if t231 = true then ((standstillref06_SameCount.f kj30 bt221.1 bt221.2.1 0 ([] : List Int)).bind fun t232 => (if t232 = true then (if bt214.2.2.1 = 0 then (if bt221.2.2.1 = 0 then ((standstilllaw06_awake.f kj30).bind fun t233 => (some t233)) else (none)) else (none)) else (none))) else (none))) else (none))) else (none)) else (none)) else (none))))))) = some r := by rw [if_neg (show ¬ (false = true) by decide)] at H; exact H
       clear H
       have H := H1
       clear H1
       replace H := Option.bind_eq_some_iff.mp H
       obtain ⟨⟨t208, t209, t212⟩, A460, H⟩ := H
       replace H : ((counter_Run.f kj30 a0_0 l0_1 a1_0 l1_1 a3).bind fun bt214 => ((counter_Until.f kj30 a0_0 l0_1 a1_0 l1_1 l2 a3).bind fun bt221 => ((standstillref06_Fits.f kj30 a0_0 l0_1 a1_0 l1_1).bind fun t229 => (if t229 = true then ((standstilllaw06_step.f kj30 a0_0 l0_1 a1_0 l1_1 t208 t209 t212).bind fun t234 => (if t234 = true then ((standstilllaw06_run.f kj30 a0_0 l0_1 a1_0 l1_1 a3 bt214.1 bt214.2.1 bt214.2.2.1 bt214.2.2.2).bind fun t235 => (if t235 = true then ((standstilllaw06_until.f kj30 a0_0 l0_1 a1_0 l1_1 l2 a3 bt221.1 bt221.2.1 bt221.2.2.1 bt221.2.2.2).bind fun t236 => (if t236 = true then ((standstilllaw06_awake.f kj30).bind fun t237 => (some t237)) else (none))) else (none))) else (none))) else (if t212 = 1 then (if bt214.2.2.2 = 1 then (if bt221.2.2.2 = 1 then ((standstillref06_SameCount.f kj30 t208 t209 0 ([] : List Int)).bind fun t230 => (if t230 = true then ((standstillref06_SameCount.f kj30 bt214.1 bt214.2.1 0 ([] : List Int)).bind fun t231 => (if t231 = true then ((standstillref06_SameCount.f kj30 bt221.1 bt221.2.1 0 ([] : List Int)).bind fun t232 => (if t232 = true then (if bt214.2.2.1 = 0 then (if bt221.2.2.1 = 0 then ((standstilllaw06_awake.f kj30).bind fun t233 => (some t233)) else (none)) else (none)) else (none))) else (none))) else (none))) else (none)) else (none)) else (none)))))) = some r := H
       have A46 := Aside0.mk A460
       clear A460
       replace H := Option.bind_eq_some_iff.mp H
       obtain ⟨⟨t214, t215, t218, t219⟩, A470, H⟩ := H
       replace H : ((counter_Until.f kj30 a0_0 l0_1 a1_0 l1_1 l2 a3).bind fun bt221 => ((standstillref06_Fits.f kj30 a0_0 l0_1 a1_0 l1_1).bind fun t229 => (if t229 = true then ((standstilllaw06_step.f kj30 a0_0 l0_1 a1_0 l1_1 t208 t209 t212).bind fun t234 => (if t234 = true then ((standstilllaw06_run.f kj30 a0_0 l0_1 a1_0 l1_1 a3 t214 t215 t218 t219).bind fun t235 => (if t235 = true then ((standstilllaw06_until.f kj30 a0_0 l0_1 a1_0 l1_1 l2 a3 bt221.1 bt221.2.1 bt221.2.2.1 bt221.2.2.2).bind fun t236 => (if t236 = true then ((standstilllaw06_awake.f kj30).bind fun t237 => (some t237)) else (none))) else (none))) else (none))) else (if t212 = 1 then (if t219 = 1 then (if bt221.2.2.2 = 1 then ((standstillref06_SameCount.f kj30 t208 t209 0 ([] : List Int)).bind fun t230 => (if t230 = true then ((standstillref06_SameCount.f kj30 t214 t215 0 ([] : List Int)).bind fun t231 => (if t231 = true then ((standstillref06_SameCount.f kj30 bt221.1 bt221.2.1 0 ([] : List Int)).bind fun t232 => (if t232 = true then (if t218 = 0 then (if bt221.2.2.1 = 0 then ((standstilllaw06_awake.f kj30).bind fun t233 => (some t233)) else (none)) else (none)) else (none))) else (none))) else (none))) else (none)) else (none)) else (none))))) = some r := H
       have A47 := Aside0.mk A470
       clear A470
       replace H := Option.bind_eq_some_iff.mp H
       obtain ⟨⟨t221, t222, t225, t226⟩, A480, H⟩ := H
       replace H : ((standstillref06_Fits.f kj30 a0_0 l0_1 a1_0 l1_1).bind fun t229 => (if t229 = true then ((standstilllaw06_step.f kj30 a0_0 l0_1 a1_0 l1_1 t208 t209 t212).bind fun t234 => (if t234 = true then ((standstilllaw06_run.f kj30 a0_0 l0_1 a1_0 l1_1 a3 t214 t215 t218 t219).bind fun t235 => (if t235 = true then ((standstilllaw06_until.f kj30 a0_0 l0_1 a1_0 l1_1 l2 a3 t221 t222 t225 t226).bind fun t236 => (if t236 = true then ((standstilllaw06_awake.f kj30).bind fun t237 => (some t237)) else (none))) else (none))) else (none))) else (if t212 = 1 then (if t219 = 1 then (if t226 = 1 then ((standstillref06_SameCount.f kj30 t208 t209 0 ([] : List Int)).bind fun t230 => (if t230 = true then ((standstillref06_SameCount.f kj30 t214 t215 0 ([] : List Int)).bind fun t231 => (if t231 = true then ((standstillref06_SameCount.f kj30 t221 t222 0 ([] : List Int)).bind fun t232 => (if t232 = true then (if t218 = 0 then (if t225 = 0 then ((standstilllaw06_awake.f kj30).bind fun t233 => (some t233)) else (none)) else (none)) else (none))) else (none))) else (none))) else (none)) else (none)) else (none)))) = some r := H
       have A48 := Aside0.mk A480
       clear A480
       replace H := Option.bind_eq_some_iff.mp H
       obtain ⟨t229, A490, H⟩ := H
       replace H : (if t229 = true then ((standstilllaw06_step.f kj30 a0_0 l0_1 a1_0 l1_1 t208 t209 t212).bind fun t234 => (if t234 = true then ((standstilllaw06_run.f kj30 a0_0 l0_1 a1_0 l1_1 a3 t214 t215 t218 t219).bind fun t235 => (if t235 = true then ((standstilllaw06_until.f kj30 a0_0 l0_1 a1_0 l1_1 l2 a3 t221 t222 t225 t226).bind fun t236 => (if t236 = true then ((standstilllaw06_awake.f kj30).bind fun t237 => (some t237)) else (none))) else (none))) else (none))) else (if t212 = 1 then (if t219 = 1 then (if t226 = 1 then ((standstillref06_SameCount.f kj30 t208 t209 0 ([] : List Int)).bind fun t230 => (if t230 = true then ((standstillref06_SameCount.f kj30 t214 t215 0 ([] : List Int)).bind fun t231 => (if t231 = true then ((standstillref06_SameCount.f kj30 t221 t222 0 ([] : List Int)).bind fun t232 => (if t232 = true then (if t218 = 0 then (if t225 = 0 then ((standstilllaw06_awake.f kj30).bind fun t233 => (some t233)) else (none)) else (none)) else (none))) else (none))) else (none))) else (none)) else (none)) else (none))) = some r := H
       have A49 := Aside0.mk A490
       clear A490
       by_cases c50 : t229 = true
       ·subst c50
        have H1 : ((standstilllaw06_step.f kj30 a0_0 l0_1 a1_0 l1_1 t208 t209 t212).bind fun t234 => (if t234 = true then ((standstilllaw06_run.f kj30 a0_0 l0_1 a1_0 l1_1 a3 t214 t215 t218 t219).bind fun t235 => (if t235 = true then ((standstilllaw06_until.f kj30 a0_0 l0_1 a1_0 l1_1 l2 a3 t221 t222 t225 t226).bind fun t236 => (if t236 = true then ((standstilllaw06_awake.f kj30).bind fun t237 => (some t237)) else (none))) else (none))) else (none))) = some r := by rw [if_pos rfl] at H; exact H
        clear H
        have H := H1
        clear H1
        replace H := Option.bind_eq_some_iff.mp H
        obtain ⟨t234, A510, H⟩ := H
        replace H : (if t234 = true then ((standstilllaw06_run.f kj30 a0_0 l0_1 a1_0 l1_1 a3 t214 t215 t218 t219).bind fun t235 => (if t235 = true then ((standstilllaw06_until.f kj30 a0_0 l0_1 a1_0 l1_1 l2 a3 t221 t222 t225 t226).bind fun t236 => (if t236 = true then ((standstilllaw06_awake.f kj30).bind fun t237 => (some t237)) else (none))) else (none))) else (none)) = some r := H
        have A51 := Aside0.mk A510
        clear A510
        by_cases c52 : t234 = true
        ·subst c52
         have H1 : ((standstilllaw06_run.f kj30 a0_0 l0_1 a1_0 l1_1 a3 t214 t215 t218 t219).bind fun t235 => (if t235 = true then ((standstilllaw06_until.f kj30 a0_0 l0_1 a1_0 l1_1 l2 a3 t221 t222 t225 t226).bind fun t236 => (if t236 = true then ((standstilllaw06_awake.f kj30).bind fun t237 => (some t237)) else (none))) else (none))) = some r := by rw [if_pos rfl] at H; exact H
         clear H
         have H := H1
         clear H1
         replace H := Option.bind_eq_some_iff.mp H
         obtain ⟨t235, A530, H⟩ := H
         replace H : (if t235 = true then ((standstilllaw06_until.f kj30 a0_0 l0_1 a1_0 l1_1 l2 a3 t221 t222 t225 t226).bind fun t236 => (if t236 = true then ((standstilllaw06_awake.f kj30).bind fun t237 => (some t237)) else (none))) else (none)) = some r := H
         have A53 := Aside0.mk A530
         clear A530
         by_cases c54 : t235 = true
         ·subst c54
          have H1 : ((standstilllaw06_until.f kj30 a0_0 l0_1 a1_0 l1_1 l2 a3 t221 t222 t225 t226).bind fun t236 => (if t236 = true then ((standstilllaw06_awake.f kj30).bind fun t237 => (some t237)) else (none))) = some r := by rw [if_pos rfl] at H; exact H
          clear H
          have H := H1
          clear H1
          replace H := Option.bind_eq_some_iff.mp H
          obtain ⟨t236, A550, H⟩ := H
          replace H : (if t236 = true then ((standstilllaw06_awake.f kj30).bind fun t237 => (some t237)) else (none)) = some r := H
          have A55 := Aside0.mk A550
          clear A550
          by_cases c56 : t236 = true
          ·subst c56
           have H1 : ((standstilllaw06_awake.f kj30).bind fun t237 => (some t237)) = some r := by rw [if_pos rfl] at H; exact H
           clear H
           have H := H1
           clear H1
           replace H := Option.bind_eq_some_iff.mp H
           obtain ⟨t237, A570, H⟩ := H
           replace H : (some t237) = some r := H
           have A57 := Aside0.mk A570
           clear A570
           obtain rfl := Option.some.inj H
           have hnb58 := NB200_201.out
           have hnc58 := NB201_200.out
           obtain ⟨hcz59_0, hcz59_1⟩ := bc2_ BK200.out
           have hfz59_0 := blk_frozen BK200.out 0
           have hfz59_1 := blk_frozen BK200.out 1
           obtain ⟨hcz60_0, hcz60_1⟩ := bc2_ BK201.out
           have hfz60_0 := blk_frozen BK201.out 0
           have hfz60_1 := blk_frozen BK201.out 1
           go_wp2_with (first | ((with_reducible refine gate_callee (f := 19) rfl ?_); refine goesL_ (some 52) rfl rfl Try.func19 (by kernel_rfl) rfl #[.agg #[.int .i64 a0_0, .slice A0_1 l0_1.length c0_1], .agg #[.int .i64 a1_0, .slice A1_1 l1_1.length c1_1]] rfl gl_ ?_; (with_reducible refine (counter_Step.calls kj30 a0_0 _ _ l0_1 a1_0 _ _ l1_1 t208 t209 t212 _ ?side1 ?side2 ?side3 ?side4 A46.out).mono ?_); (case side1 => exact ck_ (Kd.C_below HR0_1.out HB.out)); (case side2 => exact HC0_1.out); (case side3 => exact ck_ (Kd.C_below HR1_1.out HB.out)); (case side4 => exact HC1_1.out); rintro e w61 ⟨v210, rfl, ho0, hb⟩; refine ⟨_, rfl, ?_⟩; have n0_ := A_ (Kd.R_lower ho0 (below_size (bk_ HB.out))); have n1_ := A_ (blk_below (pk_ BK200.out) hb); have n2_ := A_ (blk_below (pk_ BK201.out) hb); have n3_ := A_ (below_step (bk_ HB.out) hb); clear BK200 BK201 HB; have HO211 := n0_; have BK200 := n1_; have BK201 := n2_; have HB := n3_; clear n0_ n1_ n2_ n3_; (try clear hb); (try clear hb2); (try clear hk); (try clear hi); (try clear ho0)) | ((with_reducible refine gate_dst (N := 9) rfl ?_); (try (refine gate_guard (by rfl) ?_; dsimp only)); refine box_event ?hg (N := 9) ?hd (cs := #[.int .i64 0, .slice none 0 0]) (t := 27) ?hr ?_; (case hd => rfl); (case hg => rfl); (case hr => first | (go_simp; done) | (go_simp; rfl)); intro gb213 hg w62 hbox hb; have n0_ := A_ (Kd.R_below (rk_ HO211.out) hb); have n1_ := A_ (blk_below (pk_ BK200.out) hb); have n2_ := A_ (blk_below (pk_ BK201.out) hb); have n3_ := A_ (below_step (bk_ HB.out) hb); have n4_ := A_ (hbox); have n5_ := A_ (bz_ hg (bk_ HB.out)); have n6_ := A_ (bz_ hg (bk_ HB.out)); have n7_ := A_ (nl_ hg (pk_ BK200.out)); have n8_ := A_ (ng_ hg (pk_ BK200.out)); have n9_ := A_ (nl_ hg (pk_ BK201.out)); have n10_ := A_ (ng_ hg (pk_ BK201.out)); clear HO211 BK200 BK201 HB; have HO211 := n0_; have BK200 := n1_; have BK201 := n2_; have HB := n3_; have BK213 := n4_; have GW213 := n5_; have GE213 := n6_; have NB200_213 := n7_; have NB213_200 := n8_; have NB201_213 := n9_; have NB213_201 := n10_; clear n0_ n1_ n2_ n3_ n4_ n5_ n6_ n7_ n8_ n9_ n10_ hb hbox hg; have hnb63 := NB213_200.out; have hnc63 := NB200_213.out; have hnb64 := NB213_201.out; have hnc64 := NB201_213.out; obtain ⟨hcz65_0, hcz65_1⟩ := bc2_ BK213.out; have hfz65_0 := blk_frozen BK213.out 0; have hfz65_1 := blk_frozen BK213.out 1; obtain ⟨Ao66, co66, eo66⟩ := Kd.R_slice HO211.out; subst eo66; obtain ⟨hcz67_0, hcz67_1⟩ := bc2_ BK200.out; have hfz67_0 := blk_frozen BK200.out 0; have hfz67_1 := blk_frozen BK200.out 1; obtain ⟨hcz68_0, hcz68_1⟩ := bc2_ BK201.out; have hfz68_0 := blk_frozen BK201.out 0; have hfz68_1 := blk_frozen BK201.out 1) | ((with_reducible refine gate_callee (f := 11) rfl ?_); refine goesL_ (some 59) rfl rfl Try.func11 (by kernel_rfl) rfl #[.agg #[.int .i64 a0_0, .slice A0_1 l0_1.length c0_1], .agg #[.int .i64 a1_0, .slice A1_1 l1_1.length c1_1], .int .i64 a3] rfl gl_ ?_; (with_reducible refine (counter_Run.calls kj30 a0_0 _ _ l0_1 a1_0 _ _ l1_1 a3 t214 t215 t218 t219 _ ?side1 ?side2 ?side3 ?side4 A47.out).mono ?_); (case side1 => exact Kd.C_below HR0_1.out (bk_ HB.out)); (case side2 => exact HC0_1.out); (case side3 => exact Kd.C_below HR1_1.out (bk_ HB.out)); (case side4 => exact HC1_1.out); rintro e w69 ⟨v216, rfl, ho0, hb⟩; refine ⟨_, rfl, ?_⟩; have n0_ := A_ (Kd.R_elder' (rz_ HO211.out BK213.out) (Kd.R_base ho0) hb); have n1_ := A_ (Kd.R_lower (Kd.R_new' ho0 (Kd.R_lt (rz_ HO211.out BK213.out))) (below_size (bk_ HB.out))); have n2_ := A_ (bf_ BK200.out NB200_213.out hb); have n3_ := A_ (bf_ BK201.out NB201_213.out hb); have n4_ := A_ (blk_below (g := gb213) (o := .cells #[.int .i64 t208, .slice Ao66 t209.length co66] 27 (0, 0)) (by refine pk_ ?_; refine blk_put (cs := #[.int .i64 t208, .slice none 0 0]) ?_ 1 _ rfl; refine pk_ ?_; refine blk_put (cs := #[.int .i64 0, .slice none 0 0]) ?_ 0 _ rfl; exact pk_ BK213.out) hb); have n5_ := A_ (below_step (bk_ HB.out) hb); clear HO211 BK200 BK201 BK213 HB; have HO211 := n0_; have HO217 := n1_; have BK200 := n2_; have BK201 := n3_; have BK213 := n4_; have HB := n5_; clear n0_ n1_ n2_ n3_ n4_ n5_; (try clear hb); (try clear hb2); (try clear hk); (try clear hi); (try clear ho0)) | ((with_reducible refine gate_dst (N := 11) rfl ?_); (try (refine gate_guard (by rfl) ?_; dsimp only)); refine box_event ?hg (N := 11) ?hd (cs := #[.int .i64 0, .slice none 0 0]) (t := 27) ?hr ?_; (case hd => rfl); (case hg => rfl); (case hr => first | (go_simp; done) | (go_simp; rfl)); intro gb220 hg w70 hbox hb; have n0_ := A_ (Kd.R_below (rk_ HO211.out) hb); have n1_ := A_ (Kd.R_below (rk_ HO217.out) hb); have n2_ := A_ (blk_below (pk_ BK200.out) hb); have n3_ := A_ (blk_below (pk_ BK201.out) hb); have n4_ := A_ (blk_below (pk_ BK213.out) hb); have n5_ := A_ (below_step (bk_ HB.out) hb); have n6_ := A_ (hbox); have n7_ := A_ (bz_ hg (bk_ HB.out)); have n8_ := A_ (bz_ hg (bk_ HB.out)); have n9_ := A_ (nl_ hg (pk_ BK200.out)); have n10_ := A_ (ng_ hg (pk_ BK200.out)); have n11_ := A_ (nl_ hg (pk_ BK201.out)); have n12_ := A_ (ng_ hg (pk_ BK201.out)); have n13_ := A_ (nl_ hg (pk_ BK213.out)); have n14_ := A_ (ng_ hg (pk_ BK213.out)); clear HO211 HO217 BK200 BK201 BK213 HB; have HO211 := n0_; have HO217 := n1_; have BK200 := n2_; have BK201 := n3_; have BK213 := n4_; have HB := n5_; have BK220 := n6_; have GW220 := n7_; have GE220 := n8_; have NB200_220 := n9_; have NB220_200 := n10_; have NB201_220 := n11_; have NB220_201 := n12_; have NB213_220 := n13_; have NB220_213 := n14_; clear n0_ n1_ n2_ n3_ n4_ n5_ n6_ n7_ n8_ n9_ n10_ n11_ n12_ n13_ n14_ hb hbox hg; have hnb71 := NB220_200.out; have hnc71 := NB200_220.out; have hnb72 := NB220_201.out; have hnc72 := NB201_220.out; have hnb73 := NB220_213.out; have hnc73 := NB213_220.out; obtain ⟨hcz74_0, hcz74_1⟩ := bc2_ BK220.out; have hfz74_0 := blk_frozen BK220.out 0; have hfz74_1 := blk_frozen BK220.out 1; obtain ⟨Ao75, co75, eo75⟩ := Kd.R_slice HO217.out; subst eo75; obtain ⟨hcz76_0, hcz76_1⟩ := bc2_ BK200.out; have hfz76_0 := blk_frozen BK200.out 0; have hfz76_1 := blk_frozen BK200.out 1; obtain ⟨hcz77_0, hcz77_1⟩ := bc2_ BK201.out; have hfz77_0 := blk_frozen BK201.out 0; have hfz77_1 := blk_frozen BK201.out 1) | ((with_reducible refine gate_callee (f := 20) rfl ?_); refine goesL_ (some 68) rfl rfl Try.func20 (by kernel_rfl) rfl #[.agg #[.int .i64 a0_0, .slice A0_1 l0_1.length c0_1], .agg #[.int .i64 a1_0, .slice A1_1 l1_1.length c1_1], .slice A2 l2.length c2, .int .i64 a3] rfl gl_ ?_; (with_reducible refine (counter_Until.calls kj30 a0_0 _ _ l0_1 a1_0 _ _ l1_1 _ _ l2 a3 t221 t222 t225 t226 _ ?side1 ?side2 ?side3 ?side4 ?side5 ?side6 A48.out).mono ?_); (case side1 => exact Kd.C_below HR0_1.out (bk_ HB.out)); (case side2 => exact HC0_1.out); (case side3 => exact Kd.C_below HR1_1.out (bk_ HB.out)); (case side4 => exact HC1_1.out); (case side5 => exact Kd.C_below HR2.out (bk_ HB.out)); (case side6 => exact HC2.out); rintro e w78 ⟨v223, rfl, ho0, hb⟩; refine ⟨_, rfl, ?_⟩; have n0_ := A_ (Kd.R_elder' (rz_ HO211.out BK220.out) (Kd.R_base ho0) hb); have n1_ := A_ (Kd.R_elder' (rz_ HO217.out BK220.out) (Kd.R_base ho0) hb); have n2_ := A_ (Kd.R_lower (Kd.R_new' (Kd.R_new' ho0 (Kd.R_lt (rz_ HO211.out BK220.out))) (Kd.R_lt (rz_ HO217.out BK220.out))) (below_size (bk_ HB.out))); have n3_ := A_ (bf_ BK200.out NB200_220.out hb); have n4_ := A_ (bf_ BK201.out NB201_220.out hb); have n5_ := A_ (bf_ BK213.out NB213_220.out hb); have n6_ := A_ (blk_below (g := gb220) (o := .cells #[.int .i64 t214, .slice Ao75 t215.length co75] 27 (0, 0)) (by refine pk_ ?_; refine blk_put (cs := #[.int .i64 t214, .slice none 0 0]) ?_ 1 _ rfl; refine pk_ ?_; refine blk_put (cs := #[.int .i64 0, .slice none 0 0]) ?_ 0 _ rfl; exact pk_ BK220.out) hb); have n7_ := A_ (below_step (bk_ HB.out) hb); clear HO211 HO217 BK200 BK201 BK213 BK220 HB; have HO211 := n0_; have HO217 := n1_; have HO224 := n2_; have BK200 := n3_; have BK201 := n4_; have BK213 := n5_; have BK220 := n6_; have HB := n7_; clear n0_ n1_ n2_ n3_ n4_ n5_ n6_ n7_; (try clear hb); (try clear hb2); (try clear hk); (try clear hi); (try clear ho0)) | ((with_reducible refine gate_dst (N := 14) rfl ?_); (try (refine gate_guard (by rfl) ?_; dsimp only)); refine box_event ?hg (N := 14) ?hd (cs := #[.int .i64 0, .slice none 0 0]) (t := 27) ?hr ?_; (case hd => rfl); (case hg => rfl); (case hr => first | (go_simp; done) | (go_simp; rfl)); intro gb227 hg w79 hbox hb; have n0_ := A_ (Kd.R_below (rk_ HO211.out) hb); have n1_ := A_ (Kd.R_below (rk_ HO217.out) hb); have n2_ := A_ (Kd.R_below (rk_ HO224.out) hb); have n3_ := A_ (blk_below (pk_ BK200.out) hb); have n4_ := A_ (blk_below (pk_ BK201.out) hb); have n5_ := A_ (blk_below (pk_ BK213.out) hb); have n6_ := A_ (blk_below (pk_ BK220.out) hb); have n7_ := A_ (below_step (bk_ HB.out) hb); have n8_ := A_ (hbox); have n9_ := A_ (bz_ hg (bk_ HB.out)); have n10_ := A_ (bz_ hg (bk_ HB.out)); have n11_ := A_ (nl_ hg (pk_ BK200.out)); have n12_ := A_ (ng_ hg (pk_ BK200.out)); have n13_ := A_ (nl_ hg (pk_ BK201.out)); have n14_ := A_ (ng_ hg (pk_ BK201.out)); have n15_ := A_ (nl_ hg (pk_ BK213.out)); have n16_ := A_ (ng_ hg (pk_ BK213.out)); have n17_ := A_ (nl_ hg (pk_ BK220.out)); have n18_ := A_ (ng_ hg (pk_ BK220.out)); clear HO211 HO217 HO224 BK200 BK201 BK213 BK220 HB; have HO211 := n0_; have HO217 := n1_; have HO224 := n2_; have BK200 := n3_; have BK201 := n4_; have BK213 := n5_; have BK220 := n6_; have HB := n7_; have BK227 := n8_; have GW227 := n9_; have GE227 := n10_; have NB200_227 := n11_; have NB227_200 := n12_; have NB201_227 := n13_; have NB227_201 := n14_; have NB213_227 := n15_; have NB227_213 := n16_; have NB220_227 := n17_; have NB227_220 := n18_; clear n0_ n1_ n2_ n3_ n4_ n5_ n6_ n7_ n8_ n9_ n10_ n11_ n12_ n13_ n14_ n15_ n16_ n17_ n18_ hb hbox hg; have hnb80 := NB227_200.out; have hnc80 := NB200_227.out; have hnb81 := NB227_201.out; have hnc81 := NB201_227.out; have hnb82 := NB227_213.out; have hnc82 := NB213_227.out; have hnb83 := NB227_220.out; have hnc83 := NB220_227.out; obtain ⟨hcz84_0, hcz84_1⟩ := bc2_ BK227.out; have hfz84_0 := blk_frozen BK227.out 0; have hfz84_1 := blk_frozen BK227.out 1; obtain ⟨Ao85, co85, eo85⟩ := Kd.R_slice HO224.out; subst eo85) | ((with_reducible refine gate_dst (N := 17) rfl ?_); (try (refine gate_guard (by rfl) ?_; dsimp only)); refine box_event ?hg (N := 17) ?hd (cs := #[.int .i64 0, .slice none 0 0]) (t := 27) ?hr ?_; (case hd => rfl); (case hg => rfl); (case hr => first | (go_simp; done) | (go_simp; rfl)); intro gb228 hg w86 hbox hb; have n0_ := A_ (Kd.R_below (rz_ HO211.out BK227.out) hb); have n1_ := A_ (Kd.R_below (rz_ HO217.out BK227.out) hb); have n2_ := A_ (Kd.R_below (rz_ HO224.out BK227.out) hb); have n3_ := A_ (bf_ BK200.out NB200_227.out hb); have n4_ := A_ (bf_ BK201.out NB201_227.out hb); have n5_ := A_ (bf_ BK213.out NB213_227.out hb); have n6_ := A_ (bf_ BK220.out NB220_227.out hb); have n7_ := A_ (blk_below (g := gb227) (o := .cells #[.int .i64 t221, .slice Ao85 t222.length co85] 27 (0, 0)) (by refine pk_ ?_; refine blk_put (cs := #[.int .i64 t221, .slice none 0 0]) ?_ 1 _ rfl; refine pk_ ?_; refine blk_put (cs := #[.int .i64 0, .slice none 0 0]) ?_ 0 _ rfl; exact pk_ BK227.out) hb); have n8_ := A_ (below_step (bk_ HB.out) hb); have n9_ := A_ (hbox); have n10_ := A_ (bz_ hg (bk_ HB.out)); have n11_ := A_ (bz_ hg (bk_ HB.out)); have n12_ := A_ (nlz_ hg BK200.out); have n13_ := A_ (ngz_ hg BK200.out); have n14_ := A_ (nlz_ hg BK201.out); have n15_ := A_ (ngz_ hg BK201.out); have n16_ := A_ (nlz_ hg BK213.out); have n17_ := A_ (ngz_ hg BK213.out); have n18_ := A_ (nlz_ hg BK220.out); have n19_ := A_ (ngz_ hg BK220.out); have n20_ := A_ (nlz_ hg BK227.out); have n21_ := A_ (ngz_ hg BK227.out); clear HO211 HO217 HO224 BK200 BK201 BK213 BK220 BK227 HB; have HO211 := n0_; have HO217 := n1_; have HO224 := n2_; have BK200 := n3_; have BK201 := n4_; have BK213 := n5_; have BK220 := n6_; have BK227 := n7_; have HB := n8_; have BK228 := n9_; have GW228 := n10_; have GE228 := n11_; have NB200_228 := n12_; have NB228_200 := n13_; have NB201_228 := n14_; have NB228_201 := n15_; have NB213_228 := n16_; have NB228_213 := n17_; have NB220_228 := n18_; have NB228_220 := n19_; have NB227_228 := n20_; have NB228_227 := n21_; clear n0_ n1_ n2_ n3_ n4_ n5_ n6_ n7_ n8_ n9_ n10_ n11_ n12_ n13_ n14_ n15_ n16_ n17_ n18_ n19_ n20_ n21_ hb hbox hg; have hnb87 := NB228_200.out; have hnc87 := NB200_228.out; have hnb88 := NB228_201.out; have hnc88 := NB201_228.out; have hnb89 := NB228_213.out; have hnc89 := NB213_228.out; have hnb90 := NB228_220.out; have hnc90 := NB220_228.out; have hnb91 := NB228_227.out; have hnc91 := NB227_228.out; obtain ⟨hcz92_0, hcz92_1⟩ := bc2_ BK228.out; have hfz92_0 := blk_frozen BK228.out 0; have hfz92_1 := blk_frozen BK228.out 1; obtain ⟨hcz93_0, hcz93_1⟩ := bc2_ BK200.out; have hfz93_0 := blk_frozen BK200.out 0; have hfz93_1 := blk_frozen BK200.out 1; obtain ⟨hcz94_0, hcz94_1⟩ := bc2_ BK201.out; have hfz94_0 := blk_frozen BK201.out 0; have hfz94_1 := blk_frozen BK201.out 1) | ((with_reducible refine gate_callee (f := 9) rfl ?_); refine goesL_ (some 75) rfl rfl Try.func9 (by kernel_rfl) rfl #[.agg #[.int .i64 a0_0, .slice A0_1 l0_1.length c0_1], .agg #[.int .i64 a1_0, .slice A1_1 l1_1.length c1_1]] rfl gl_ ?_; (with_reducible refine (standstillref06_Fits.calls kj30 a0_0 _ _ l0_1 a1_0 _ _ l1_1 true _ ?side1 ?side2 ?side3 ?side4 A49.out).mono ?_); (case side1 => exact Kd.C_below HR0_1.out (bk_ HB.out)); (case side2 => exact HC0_1.out); (case side3 => exact Kd.C_below HR1_1.out (bk_ HB.out)); (case side4 => exact HC1_1.out); rintro e w95 ⟨rfl, hb⟩; refine ⟨_, rfl, ?_⟩; have n0_ := A_ (Kd.R_below (rz_ HO211.out BK228.out) hb); have n1_ := A_ (Kd.R_below (rz_ HO217.out BK228.out) hb); have n2_ := A_ (Kd.R_below (rz_ HO224.out BK228.out) hb); have n3_ := A_ (bf_ BK200.out NB200_228.out hb); have n4_ := A_ (bf_ BK201.out NB201_228.out hb); have n5_ := A_ (bf_ BK213.out NB213_228.out hb); have n6_ := A_ (bf_ BK220.out NB220_228.out hb); have n7_ := A_ (bf_ BK227.out NB227_228.out hb); have n8_ := A_ (blk_below (g := gb228) (o := .cells #[.int .i64 0, .slice none 0 0] 27 (0, 0)) (by refine pk_ ?_; refine blk_put (cs := #[.int .i64 0, .slice none 0 0]) ?_ 1 _ rfl; refine pk_ ?_; refine blk_put (cs := #[.int .i64 0, .slice none 0 0]) ?_ 0 _ rfl; exact pk_ BK228.out) hb); have n9_ := A_ (below_step (bk_ HB.out) hb); clear HO211 HO217 HO224 BK200 BK201 BK213 BK220 BK227 BK228 HB; have HO211 := n0_; have HO217 := n1_; have HO224 := n2_; have BK200 := n3_; have BK201 := n4_; have BK213 := n5_; have BK220 := n6_; have BK227 := n7_; have BK228 := n8_; have HB := n9_; clear n0_ n1_ n2_ n3_ n4_ n5_ n6_ n7_ n8_ n9_; (try clear hb); (try clear hb2); (try clear hk); (try clear hi); obtain ⟨hcz96_0, hcz96_1⟩ := bc2_ BK200.out; have hfz96_0 := blk_frozen BK200.out 0; have hfz96_1 := blk_frozen BK200.out 1; obtain ⟨hcz97_0, hcz97_1⟩ := bc2_ BK201.out; have hfz97_0 := blk_frozen BK201.out 0; have hfz97_1 := blk_frozen BK201.out 1; obtain ⟨hcz98_0, hcz98_1⟩ := bc2_ BK213.out; have hfz98_0 := blk_frozen BK213.out 0; have hfz98_1 := blk_frozen BK213.out 1) | ((with_reducible refine gate_callee (f := 21) rfl ?_); refine goesL_ (some 117) rfl rfl Try.func21 (by kernel_rfl) rfl #[.agg #[.int .i64 a0_0, .slice A0_1 l0_1.length c0_1], .agg #[.int .i64 a1_0, .slice A1_1 l1_1.length c1_1], .agg #[.int .i64 t208, .slice Ao66 t209.length co66], .int .i64 t212] rfl gl_ ?_; (with_reducible refine (standstilllaw06_step.calls kj30 a0_0 _ _ l0_1 a1_0 _ _ l1_1 t208 _ _ t209 t212 true _ ?side1 ?side2 ?side3 ?side4 ?side5 ?side6 A51.out).mono ?_); (case side1 => exact ck_ (Kd.C_below HR0_1.out HB.out)); (case side2 => exact HC0_1.out); (case side3 => exact ck_ (Kd.C_below HR1_1.out HB.out)); (case side4 => exact HC1_1.out); (case side5 => repeat (first | exact (Kd.R_reads' HO211.out).2.2 | (with_reducible refine Kd.C_alloc ?_ _) | (with_reducible refine Kd.C_drewN ?_ _) | (with_reducible refine Kd.C_drew ?_))); (case side6 => exact (Kd.R_reads' HO211.out).2.1); rintro e w99 ⟨rfl, hb⟩; refine ⟨_, rfl, ?_⟩; have n0_ := A_ (Kd.R_below (rk_ HO211.out) hb); have n1_ := A_ (Kd.R_below (rk_ HO217.out) hb); have n2_ := A_ (Kd.R_below (rk_ HO224.out) hb); have n3_ := A_ (blk_below (pk_ BK200.out) hb); have n4_ := A_ (blk_below (pk_ BK201.out) hb); have n5_ := A_ (blk_below (pk_ BK213.out) hb); have n6_ := A_ (blk_below (pk_ BK220.out) hb); have n7_ := A_ (blk_below (pk_ BK227.out) hb); have n8_ := A_ (blk_below (pk_ BK228.out) hb); have n9_ := A_ (below_step (bk_ HB.out) hb); clear HO211 HO217 HO224 BK200 BK201 BK213 BK220 BK227 BK228 HB; have HO211 := n0_; have HO217 := n1_; have HO224 := n2_; have BK200 := n3_; have BK201 := n4_; have BK213 := n5_; have BK220 := n6_; have BK227 := n7_; have BK228 := n8_; have HB := n9_; clear n0_ n1_ n2_ n3_ n4_ n5_ n6_ n7_ n8_ n9_; (try clear hb); (try clear hb2); (try clear hk); (try clear hi); obtain ⟨hcz100_0, hcz100_1⟩ := bc2_ BK200.out; have hfz100_0 := blk_frozen BK200.out 0; have hfz100_1 := blk_frozen BK200.out 1; obtain ⟨hcz101_0, hcz101_1⟩ := bc2_ BK201.out; have hfz101_0 := blk_frozen BK201.out 0; have hfz101_1 := blk_frozen BK201.out 1; obtain ⟨hcz102_0, hcz102_1⟩ := bc2_ BK220.out; have hfz102_0 := blk_frozen BK220.out 0; have hfz102_1 := blk_frozen BK220.out 1) | (go_at_call 22; (with_reducible refine (standstilllaw06_run.calls kj30 a0_0 _ _ l0_1 a1_0 _ _ l1_1 a3 t214 _ _ t215 t218 t219 true _ ?side1 ?side2 ?side3 ?side4 ?side5 ?side6 A53.out).mono ?_); (case side1 => exact ck_ (Kd.C_below HR0_1.out HB.out)); (case side2 => exact HC0_1.out); (case side3 => exact ck_ (Kd.C_below HR1_1.out HB.out)); (case side4 => exact HC1_1.out); (case side5 => repeat (first | exact (Kd.R_reads' HO217.out).2.2 | (with_reducible refine Kd.C_alloc ?_ _) | (with_reducible refine Kd.C_drewN ?_ _) | (with_reducible refine Kd.C_drew ?_))); (case side6 => exact (Kd.R_reads' HO217.out).2.1); rintro e w103 ⟨rfl, hb⟩; have n0_ := A_ (Kd.R_below (rk_ HO211.out) hb); have n1_ := A_ (Kd.R_below (rk_ HO217.out) hb); have n2_ := A_ (Kd.R_below (rk_ HO224.out) hb); have n3_ := A_ (blk_below (pk_ BK200.out) hb); have n4_ := A_ (blk_below (pk_ BK201.out) hb); have n5_ := A_ (blk_below (pk_ BK213.out) hb); have n6_ := A_ (blk_below (pk_ BK220.out) hb); have n7_ := A_ (blk_below (pk_ BK227.out) hb); have n8_ := A_ (blk_below (pk_ BK228.out) hb); have n9_ := A_ (below_step (bk_ HB.out) hb); clear HO211 HO217 HO224 BK200 BK201 BK213 BK220 BK227 BK228 HB; have HO211 := n0_; have HO217 := n1_; have HO224 := n2_; have BK200 := n3_; have BK201 := n4_; have BK213 := n5_; have BK220 := n6_; have BK227 := n7_; have BK228 := n8_; have HB := n9_; clear n0_ n1_ n2_ n3_ n4_ n5_ n6_ n7_ n8_ n9_; (try clear hb); (try clear hb2); (try clear hk); (try clear hi); obtain ⟨hcz104_0, hcz104_1⟩ := bc2_ BK200.out; have hfz104_0 := blk_frozen BK200.out 0; have hfz104_1 := blk_frozen BK200.out 1; obtain ⟨hcz105_0, hcz105_1⟩ := bc2_ BK201.out; have hfz105_0 := blk_frozen BK201.out 0; have hfz105_1 := blk_frozen BK201.out 1; obtain ⟨hcz106_0, hcz106_1⟩ := bc2_ BK227.out; have hfz106_0 := blk_frozen BK227.out 0; have hfz106_1 := blk_frozen BK227.out 1) | (go_at_call 23; (with_reducible refine (standstilllaw06_until.calls kj30 a0_0 _ _ l0_1 a1_0 _ _ l1_1 _ _ l2 a3 t221 _ _ t222 t225 t226 true _ ?side1 ?side2 ?side3 ?side4 ?side5 ?side6 ?side7 ?side8 A55.out).mono ?_); (case side1 => exact ck_ (Kd.C_below HR0_1.out HB.out)); (case side2 => exact HC0_1.out); (case side3 => exact ck_ (Kd.C_below HR1_1.out HB.out)); (case side4 => exact HC1_1.out); (case side5 => exact ck_ (Kd.C_below HR2.out HB.out)); (case side6 => exact HC2.out); (case side7 => repeat (first | exact (Kd.R_reads' HO224.out).2.2 | (with_reducible refine Kd.C_alloc ?_ _) | (with_reducible refine Kd.C_drewN ?_ _) | (with_reducible refine Kd.C_drew ?_))); (case side8 => exact (Kd.R_reads' HO224.out).2.1); rintro e w107 ⟨rfl, hb⟩; have n0_ := A_ (Kd.R_below (rk_ HO211.out) hb); have n1_ := A_ (Kd.R_below (rk_ HO217.out) hb); have n2_ := A_ (Kd.R_below (rk_ HO224.out) hb); have n3_ := A_ (blk_below (pk_ BK200.out) hb); have n4_ := A_ (blk_below (pk_ BK201.out) hb); have n5_ := A_ (blk_below (pk_ BK213.out) hb); have n6_ := A_ (blk_below (pk_ BK220.out) hb); have n7_ := A_ (blk_below (pk_ BK227.out) hb); have n8_ := A_ (blk_below (pk_ BK228.out) hb); have n9_ := A_ (below_step (bk_ HB.out) hb); clear HO211 HO217 HO224 BK200 BK201 BK213 BK220 BK227 BK228 HB; have HO211 := n0_; have HO217 := n1_; have HO224 := n2_; have BK200 := n3_; have BK201 := n4_; have BK213 := n5_; have BK220 := n6_; have BK227 := n7_; have BK228 := n8_; have HB := n9_; clear n0_ n1_ n2_ n3_ n4_ n5_ n6_ n7_ n8_ n9_; (try clear hb); (try clear hb2); (try clear hk); (try clear hi)) | (go_at_call 10; (with_reducible refine (standstilllaw06_awake.calls kj30  t237 _ A57.out).mono ?_); rintro e w108 ⟨rfl, hb⟩; have n0_ := A_ (Kd.R_below (rk_ HO211.out) hb); have n1_ := A_ (Kd.R_below (rk_ HO217.out) hb); have n2_ := A_ (Kd.R_below (rk_ HO224.out) hb); have n3_ := A_ (blk_below (pk_ BK200.out) hb); have n4_ := A_ (blk_below (pk_ BK201.out) hb); have n5_ := A_ (blk_below (pk_ BK213.out) hb); have n6_ := A_ (blk_below (pk_ BK220.out) hb); have n7_ := A_ (blk_below (pk_ BK227.out) hb); have n8_ := A_ (blk_below (pk_ BK228.out) hb); have n9_ := A_ (below_step (bk_ HB.out) hb); clear HO211 HO217 HO224 BK200 BK201 BK213 BK220 BK227 BK228 HB; have HO211 := n0_; have HO217 := n1_; have HO224 := n2_; have BK200 := n3_; have BK201 := n4_; have BK213 := n5_; have BK220 := n6_; have BK227 := n7_; have BK228 := n8_; have HB := n9_; clear n0_ n1_ n2_ n3_ n4_ n5_ n6_ n7_ n8_ n9_; (try clear hb); (try clear hb2); (try clear hk); (try clear hi)))
           go_ret
           exact ⟨er_, bk_ HB.out⟩
          ·replace c56 := Bool.eq_false_iff.mpr c56
           subst c56
           have H1 : (none) = some r := by rw [if_neg (show ¬ (false = true) by decide)] at H; exact H
           clear H
           have H := H1
           clear H1
           exact absurd H (by simp)
         ·replace c54 := Bool.eq_false_iff.mpr c54
          subst c54
          have H1 : (none) = some r := by rw [if_neg (show ¬ (false = true) by decide)] at H; exact H
          clear H
          have H := H1
          clear H1
          exact absurd H (by simp)
        ·replace c52 := Bool.eq_false_iff.mpr c52
         subst c52
         have H1 : (none) = some r := by rw [if_neg (show ¬ (false = true) by decide)] at H; exact H
         clear H
         have H := H1
         clear H1
         exact absurd H (by simp)
       ·replace c50 := Bool.eq_false_iff.mpr c50
        subst c50
        have H1 : (if t212 = 1 then (if t219 = 1 then (if t226 = 1 then ((standstillref06_SameCount.f kj30 t208 t209 0 ([] : List Int)).bind fun t230 => (if t230 = true then ((standstillref06_SameCount.f kj30 t214 t215 0 ([] : List Int)).bind fun t231 => (if t231 = true then ((standstillref06_SameCount.f kj30 t221 t222 0 ([] : List Int)).bind fun t232 => (if t232 = true then (if t218 = 0 then (if t225 = 0 then ((standstilllaw06_awake.f kj30).bind fun t233 => (some t233)) else (none)) else (none)) else (none))) else (none))) else (none))) else (none)) else (none)) else (none)) = some r := by rw [if_neg (show ¬ (false = true) by decide)] at H; exact H
        clear H
        have H := H1
        clear H1
        by_cases c109 : t212 = 1
        ·rw [if_pos c109] at H
         have c109b0 : (t212 == 1) = true := beq_iff_eq.mpr c109
         have c109b1 : (t212 != 1) = false := bne_eq_false_iff_eq.mpr c109
         clear c109
         by_cases c110 : t219 = 1
         ·rw [if_pos c110] at H
          have c110b0 : (t219 == 1) = true := beq_iff_eq.mpr c110
          have c110b1 : (t219 != 1) = false := bne_eq_false_iff_eq.mpr c110
          clear c110
          by_cases c111 : t226 = 1
          ·rw [if_pos c111] at H
           have c111b0 : (t226 == 1) = true := beq_iff_eq.mpr c111
           have c111b1 : (t226 != 1) = false := bne_eq_false_iff_eq.mpr c111
           clear c111
           replace H := Option.bind_eq_some_iff.mp H
           obtain ⟨t230, A1120, H⟩ := H
           replace H : (if t230 = true then ((standstillref06_SameCount.f kj30 t214 t215 0 ([] : List Int)).bind fun t231 => (if t231 = true then ((standstillref06_SameCount.f kj30 t221 t222 0 ([] : List Int)).bind fun t232 => (if t232 = true then (if t218 = 0 then (if t225 = 0 then ((standstilllaw06_awake.f kj30).bind fun t233 => (some t233)) else (none)) else (none)) else (none))) else (none))) else (none)) = some r := H
           have A112 := Aside0.mk A1120
           clear A1120
           by_cases c113 : t230 = true
           ·subst c113
            have H1 : ((standstillref06_SameCount.f kj30 t214 t215 0 ([] : List Int)).bind fun t231 => (if t231 = true then ((standstillref06_SameCount.f kj30 t221 t222 0 ([] : List Int)).bind fun t232 => (if t232 = true then (if t218 = 0 then (if t225 = 0 then ((standstilllaw06_awake.f kj30).bind fun t233 => (some t233)) else (none)) else (none)) else (none))) else (none))) = some r := by rw [if_pos rfl] at H; exact H
            clear H
            have H := H1
            clear H1
            replace H := Option.bind_eq_some_iff.mp H
            obtain ⟨t231, A1140, H⟩ := H
            replace H : (if t231 = true then ((standstillref06_SameCount.f kj30 t221 t222 0 ([] : List Int)).bind fun t232 => (if t232 = true then (if t218 = 0 then (if t225 = 0 then ((standstilllaw06_awake.f kj30).bind fun t233 => (some t233)) else (none)) else (none)) else (none))) else (none)) = some r := H
            have A114 := Aside0.mk A1140
            clear A1140
            by_cases c115 : t231 = true
            ·subst c115
             have H1 : ((standstillref06_SameCount.f kj30 t221 t222 0 ([] : List Int)).bind fun t232 => (if t232 = true then (if t218 = 0 then (if t225 = 0 then ((standstilllaw06_awake.f kj30).bind fun t233 => (some t233)) else (none)) else (none)) else (none))) = some r := by rw [if_pos rfl] at H; exact H
             clear H
             have H := H1
             clear H1
             replace H := Option.bind_eq_some_iff.mp H
             obtain ⟨t232, A1160, H⟩ := H
             replace H : (if t232 = true then (if t218 = 0 then (if t225 = 0 then ((standstilllaw06_awake.f kj30).bind fun t233 => (some t233)) else (none)) else (none)) else (none)) = some r := H
             have A116 := Aside0.mk A1160
             clear A1160
             by_cases c117 : t232 = true
             ·subst c117
              have H1 : (if t218 = 0 then (if t225 = 0 then ((standstilllaw06_awake.f kj30).bind fun t233 => (some t233)) else (none)) else (none)) = some r := by rw [if_pos rfl] at H; exact H
              clear H
              have H := H1
              clear H1
              by_cases c118 : t218 = 0
              ·rw [if_pos c118] at H
               have c118b0 : (t218 == 0) = true := beq_iff_eq.mpr c118
               have c118b1 : (t218 != 0) = false := bne_eq_false_iff_eq.mpr c118
               clear c118
               by_cases c119 : t225 = 0
               ·rw [if_pos c119] at H
                have c119b0 : (t225 == 0) = true := beq_iff_eq.mpr c119
                have c119b1 : (t225 != 0) = false := bne_eq_false_iff_eq.mpr c119
                clear c119
                replace H := Option.bind_eq_some_iff.mp H
                obtain ⟨t233, A1200, H⟩ := H
                replace H : (some t233) = some r := H
                have A120 := Aside0.mk A1200
                clear A1200
                obtain rfl := Option.some.inj H
                have hnb121 := NB200_201.out
                have hnc121 := NB201_200.out
                obtain ⟨hcz122_0, hcz122_1⟩ := bc2_ BK200.out
                have hfz122_0 := blk_frozen BK200.out 0
                have hfz122_1 := blk_frozen BK200.out 1
                obtain ⟨hcz123_0, hcz123_1⟩ := bc2_ BK201.out
                have hfz123_0 := blk_frozen BK201.out 0
                have hfz123_1 := blk_frozen BK201.out 1
                go_wp2_with (first | ((with_reducible refine gate_callee (f := 19) rfl ?_); refine goesL_ (some 52) rfl rfl Try.func19 (by kernel_rfl) rfl #[.agg #[.int .i64 a0_0, .slice A0_1 l0_1.length c0_1], .agg #[.int .i64 a1_0, .slice A1_1 l1_1.length c1_1]] rfl gl_ ?_; (with_reducible refine (counter_Step.calls kj30 a0_0 _ _ l0_1 a1_0 _ _ l1_1 t208 t209 t212 _ ?side1 ?side2 ?side3 ?side4 A46.out).mono ?_); (case side1 => exact ck_ (Kd.C_below HR0_1.out HB.out)); (case side2 => exact HC0_1.out); (case side3 => exact ck_ (Kd.C_below HR1_1.out HB.out)); (case side4 => exact HC1_1.out); rintro e w124 ⟨v210, rfl, ho0, hb⟩; refine ⟨_, rfl, ?_⟩; have n0_ := A_ (Kd.R_lower ho0 (below_size (bk_ HB.out))); have n1_ := A_ (blk_below (pk_ BK200.out) hb); have n2_ := A_ (blk_below (pk_ BK201.out) hb); have n3_ := A_ (below_step (bk_ HB.out) hb); clear BK200 BK201 HB; have HO211 := n0_; have BK200 := n1_; have BK201 := n2_; have HB := n3_; clear n0_ n1_ n2_ n3_; (try clear hb); (try clear hb2); (try clear hk); (try clear hi); (try clear ho0)) | ((with_reducible refine gate_dst (N := 9) rfl ?_); (try (refine gate_guard (by rfl) ?_; dsimp only)); refine box_event ?hg (N := 9) ?hd (cs := #[.int .i64 0, .slice none 0 0]) (t := 27) ?hr ?_; (case hd => rfl); (case hg => rfl); (case hr => first | (go_simp; done) | (go_simp; rfl)); intro gb213 hg w125 hbox hb; have n0_ := A_ (Kd.R_below (rk_ HO211.out) hb); have n1_ := A_ (blk_below (pk_ BK200.out) hb); have n2_ := A_ (blk_below (pk_ BK201.out) hb); have n3_ := A_ (below_step (bk_ HB.out) hb); have n4_ := A_ (hbox); have n5_ := A_ (bz_ hg (bk_ HB.out)); have n6_ := A_ (bz_ hg (bk_ HB.out)); have n7_ := A_ (nl_ hg (pk_ BK200.out)); have n8_ := A_ (ng_ hg (pk_ BK200.out)); have n9_ := A_ (nl_ hg (pk_ BK201.out)); have n10_ := A_ (ng_ hg (pk_ BK201.out)); clear HO211 BK200 BK201 HB; have HO211 := n0_; have BK200 := n1_; have BK201 := n2_; have HB := n3_; have BK213 := n4_; have GW213 := n5_; have GE213 := n6_; have NB200_213 := n7_; have NB213_200 := n8_; have NB201_213 := n9_; have NB213_201 := n10_; clear n0_ n1_ n2_ n3_ n4_ n5_ n6_ n7_ n8_ n9_ n10_ hb hbox hg; have hnb126 := NB213_200.out; have hnc126 := NB200_213.out; have hnb127 := NB213_201.out; have hnc127 := NB201_213.out; obtain ⟨hcz128_0, hcz128_1⟩ := bc2_ BK213.out; have hfz128_0 := blk_frozen BK213.out 0; have hfz128_1 := blk_frozen BK213.out 1; obtain ⟨Ao129, co129, eo129⟩ := Kd.R_slice HO211.out; subst eo129; obtain ⟨hcz130_0, hcz130_1⟩ := bc2_ BK200.out; have hfz130_0 := blk_frozen BK200.out 0; have hfz130_1 := blk_frozen BK200.out 1; obtain ⟨hcz131_0, hcz131_1⟩ := bc2_ BK201.out; have hfz131_0 := blk_frozen BK201.out 0; have hfz131_1 := blk_frozen BK201.out 1) | ((with_reducible refine gate_callee (f := 11) rfl ?_); refine goesL_ (some 59) rfl rfl Try.func11 (by kernel_rfl) rfl #[.agg #[.int .i64 a0_0, .slice A0_1 l0_1.length c0_1], .agg #[.int .i64 a1_0, .slice A1_1 l1_1.length c1_1], .int .i64 a3] rfl gl_ ?_; (with_reducible refine (counter_Run.calls kj30 a0_0 _ _ l0_1 a1_0 _ _ l1_1 a3 t214 t215 t218 t219 _ ?side1 ?side2 ?side3 ?side4 A47.out).mono ?_); (case side1 => exact Kd.C_below HR0_1.out (bk_ HB.out)); (case side2 => exact HC0_1.out); (case side3 => exact Kd.C_below HR1_1.out (bk_ HB.out)); (case side4 => exact HC1_1.out); rintro e w132 ⟨v216, rfl, ho0, hb⟩; refine ⟨_, rfl, ?_⟩; have n0_ := A_ (Kd.R_elder' (rz_ HO211.out BK213.out) (Kd.R_base ho0) hb); have n1_ := A_ (Kd.R_lower (Kd.R_new' ho0 (Kd.R_lt (rz_ HO211.out BK213.out))) (below_size (bk_ HB.out))); have n2_ := A_ (bf_ BK200.out NB200_213.out hb); have n3_ := A_ (bf_ BK201.out NB201_213.out hb); have n4_ := A_ (blk_below (g := gb213) (o := .cells #[.int .i64 t208, .slice Ao129 t209.length co129] 27 (0, 0)) (by refine pk_ ?_; refine blk_put (cs := #[.int .i64 t208, .slice none 0 0]) ?_ 1 _ rfl; refine pk_ ?_; refine blk_put (cs := #[.int .i64 0, .slice none 0 0]) ?_ 0 _ rfl; exact pk_ BK213.out) hb); have n5_ := A_ (below_step (bk_ HB.out) hb); clear HO211 BK200 BK201 BK213 HB; have HO211 := n0_; have HO217 := n1_; have BK200 := n2_; have BK201 := n3_; have BK213 := n4_; have HB := n5_; clear n0_ n1_ n2_ n3_ n4_ n5_; (try clear hb); (try clear hb2); (try clear hk); (try clear hi); (try clear ho0)) | ((with_reducible refine gate_dst (N := 11) rfl ?_); (try (refine gate_guard (by rfl) ?_; dsimp only)); refine box_event ?hg (N := 11) ?hd (cs := #[.int .i64 0, .slice none 0 0]) (t := 27) ?hr ?_; (case hd => rfl); (case hg => rfl); (case hr => first | (go_simp; done) | (go_simp; rfl)); intro gb220 hg w133 hbox hb; have n0_ := A_ (Kd.R_below (rk_ HO211.out) hb); have n1_ := A_ (Kd.R_below (rk_ HO217.out) hb); have n2_ := A_ (blk_below (pk_ BK200.out) hb); have n3_ := A_ (blk_below (pk_ BK201.out) hb); have n4_ := A_ (blk_below (pk_ BK213.out) hb); have n5_ := A_ (below_step (bk_ HB.out) hb); have n6_ := A_ (hbox); have n7_ := A_ (bz_ hg (bk_ HB.out)); have n8_ := A_ (bz_ hg (bk_ HB.out)); have n9_ := A_ (nl_ hg (pk_ BK200.out)); have n10_ := A_ (ng_ hg (pk_ BK200.out)); have n11_ := A_ (nl_ hg (pk_ BK201.out)); have n12_ := A_ (ng_ hg (pk_ BK201.out)); have n13_ := A_ (nl_ hg (pk_ BK213.out)); have n14_ := A_ (ng_ hg (pk_ BK213.out)); clear HO211 HO217 BK200 BK201 BK213 HB; have HO211 := n0_; have HO217 := n1_; have BK200 := n2_; have BK201 := n3_; have BK213 := n4_; have HB := n5_; have BK220 := n6_; have GW220 := n7_; have GE220 := n8_; have NB200_220 := n9_; have NB220_200 := n10_; have NB201_220 := n11_; have NB220_201 := n12_; have NB213_220 := n13_; have NB220_213 := n14_; clear n0_ n1_ n2_ n3_ n4_ n5_ n6_ n7_ n8_ n9_ n10_ n11_ n12_ n13_ n14_ hb hbox hg; have hnb134 := NB220_200.out; have hnc134 := NB200_220.out; have hnb135 := NB220_201.out; have hnc135 := NB201_220.out; have hnb136 := NB220_213.out; have hnc136 := NB213_220.out; obtain ⟨hcz137_0, hcz137_1⟩ := bc2_ BK220.out; have hfz137_0 := blk_frozen BK220.out 0; have hfz137_1 := blk_frozen BK220.out 1; obtain ⟨Ao138, co138, eo138⟩ := Kd.R_slice HO217.out; subst eo138; obtain ⟨hcz139_0, hcz139_1⟩ := bc2_ BK200.out; have hfz139_0 := blk_frozen BK200.out 0; have hfz139_1 := blk_frozen BK200.out 1; obtain ⟨hcz140_0, hcz140_1⟩ := bc2_ BK201.out; have hfz140_0 := blk_frozen BK201.out 0; have hfz140_1 := blk_frozen BK201.out 1) | ((with_reducible refine gate_callee (f := 20) rfl ?_); refine goesL_ (some 68) rfl rfl Try.func20 (by kernel_rfl) rfl #[.agg #[.int .i64 a0_0, .slice A0_1 l0_1.length c0_1], .agg #[.int .i64 a1_0, .slice A1_1 l1_1.length c1_1], .slice A2 l2.length c2, .int .i64 a3] rfl gl_ ?_; (with_reducible refine (counter_Until.calls kj30 a0_0 _ _ l0_1 a1_0 _ _ l1_1 _ _ l2 a3 t221 t222 t225 t226 _ ?side1 ?side2 ?side3 ?side4 ?side5 ?side6 A48.out).mono ?_); (case side1 => exact Kd.C_below HR0_1.out (bk_ HB.out)); (case side2 => exact HC0_1.out); (case side3 => exact Kd.C_below HR1_1.out (bk_ HB.out)); (case side4 => exact HC1_1.out); (case side5 => exact Kd.C_below HR2.out (bk_ HB.out)); (case side6 => exact HC2.out); rintro e w141 ⟨v223, rfl, ho0, hb⟩; refine ⟨_, rfl, ?_⟩; have n0_ := A_ (Kd.R_elder' (rz_ HO211.out BK220.out) (Kd.R_base ho0) hb); have n1_ := A_ (Kd.R_elder' (rz_ HO217.out BK220.out) (Kd.R_base ho0) hb); have n2_ := A_ (Kd.R_lower (Kd.R_new' (Kd.R_new' ho0 (Kd.R_lt (rz_ HO211.out BK220.out))) (Kd.R_lt (rz_ HO217.out BK220.out))) (below_size (bk_ HB.out))); have n3_ := A_ (bf_ BK200.out NB200_220.out hb); have n4_ := A_ (bf_ BK201.out NB201_220.out hb); have n5_ := A_ (bf_ BK213.out NB213_220.out hb); have n6_ := A_ (blk_below (g := gb220) (o := .cells #[.int .i64 t214, .slice Ao138 t215.length co138] 27 (0, 0)) (by refine pk_ ?_; refine blk_put (cs := #[.int .i64 t214, .slice none 0 0]) ?_ 1 _ rfl; refine pk_ ?_; refine blk_put (cs := #[.int .i64 0, .slice none 0 0]) ?_ 0 _ rfl; exact pk_ BK220.out) hb); have n7_ := A_ (below_step (bk_ HB.out) hb); clear HO211 HO217 BK200 BK201 BK213 BK220 HB; have HO211 := n0_; have HO217 := n1_; have HO224 := n2_; have BK200 := n3_; have BK201 := n4_; have BK213 := n5_; have BK220 := n6_; have HB := n7_; clear n0_ n1_ n2_ n3_ n4_ n5_ n6_ n7_; (try clear hb); (try clear hb2); (try clear hk); (try clear hi); (try clear ho0)) | ((with_reducible refine gate_dst (N := 14) rfl ?_); (try (refine gate_guard (by rfl) ?_; dsimp only)); refine box_event ?hg (N := 14) ?hd (cs := #[.int .i64 0, .slice none 0 0]) (t := 27) ?hr ?_; (case hd => rfl); (case hg => rfl); (case hr => first | (go_simp; done) | (go_simp; rfl)); intro gb227 hg w142 hbox hb; have n0_ := A_ (Kd.R_below (rk_ HO211.out) hb); have n1_ := A_ (Kd.R_below (rk_ HO217.out) hb); have n2_ := A_ (Kd.R_below (rk_ HO224.out) hb); have n3_ := A_ (blk_below (pk_ BK200.out) hb); have n4_ := A_ (blk_below (pk_ BK201.out) hb); have n5_ := A_ (blk_below (pk_ BK213.out) hb); have n6_ := A_ (blk_below (pk_ BK220.out) hb); have n7_ := A_ (below_step (bk_ HB.out) hb); have n8_ := A_ (hbox); have n9_ := A_ (bz_ hg (bk_ HB.out)); have n10_ := A_ (bz_ hg (bk_ HB.out)); have n11_ := A_ (nl_ hg (pk_ BK200.out)); have n12_ := A_ (ng_ hg (pk_ BK200.out)); have n13_ := A_ (nl_ hg (pk_ BK201.out)); have n14_ := A_ (ng_ hg (pk_ BK201.out)); have n15_ := A_ (nl_ hg (pk_ BK213.out)); have n16_ := A_ (ng_ hg (pk_ BK213.out)); have n17_ := A_ (nl_ hg (pk_ BK220.out)); have n18_ := A_ (ng_ hg (pk_ BK220.out)); clear HO211 HO217 HO224 BK200 BK201 BK213 BK220 HB; have HO211 := n0_; have HO217 := n1_; have HO224 := n2_; have BK200 := n3_; have BK201 := n4_; have BK213 := n5_; have BK220 := n6_; have HB := n7_; have BK227 := n8_; have GW227 := n9_; have GE227 := n10_; have NB200_227 := n11_; have NB227_200 := n12_; have NB201_227 := n13_; have NB227_201 := n14_; have NB213_227 := n15_; have NB227_213 := n16_; have NB220_227 := n17_; have NB227_220 := n18_; clear n0_ n1_ n2_ n3_ n4_ n5_ n6_ n7_ n8_ n9_ n10_ n11_ n12_ n13_ n14_ n15_ n16_ n17_ n18_ hb hbox hg; have hnb143 := NB227_200.out; have hnc143 := NB200_227.out; have hnb144 := NB227_201.out; have hnc144 := NB201_227.out; have hnb145 := NB227_213.out; have hnc145 := NB213_227.out; have hnb146 := NB227_220.out; have hnc146 := NB220_227.out; obtain ⟨hcz147_0, hcz147_1⟩ := bc2_ BK227.out; have hfz147_0 := blk_frozen BK227.out 0; have hfz147_1 := blk_frozen BK227.out 1; obtain ⟨Ao148, co148, eo148⟩ := Kd.R_slice HO224.out; subst eo148) | ((with_reducible refine gate_dst (N := 17) rfl ?_); (try (refine gate_guard (by rfl) ?_; dsimp only)); refine box_event ?hg (N := 17) ?hd (cs := #[.int .i64 0, .slice none 0 0]) (t := 27) ?hr ?_; (case hd => rfl); (case hg => rfl); (case hr => first | (go_simp; done) | (go_simp; rfl)); intro gb228 hg w149 hbox hb; have n0_ := A_ (Kd.R_below (rz_ HO211.out BK227.out) hb); have n1_ := A_ (Kd.R_below (rz_ HO217.out BK227.out) hb); have n2_ := A_ (Kd.R_below (rz_ HO224.out BK227.out) hb); have n3_ := A_ (bf_ BK200.out NB200_227.out hb); have n4_ := A_ (bf_ BK201.out NB201_227.out hb); have n5_ := A_ (bf_ BK213.out NB213_227.out hb); have n6_ := A_ (bf_ BK220.out NB220_227.out hb); have n7_ := A_ (blk_below (g := gb227) (o := .cells #[.int .i64 t221, .slice Ao148 t222.length co148] 27 (0, 0)) (by refine pk_ ?_; refine blk_put (cs := #[.int .i64 t221, .slice none 0 0]) ?_ 1 _ rfl; refine pk_ ?_; refine blk_put (cs := #[.int .i64 0, .slice none 0 0]) ?_ 0 _ rfl; exact pk_ BK227.out) hb); have n8_ := A_ (below_step (bk_ HB.out) hb); have n9_ := A_ (hbox); have n10_ := A_ (bz_ hg (bk_ HB.out)); have n11_ := A_ (bz_ hg (bk_ HB.out)); have n12_ := A_ (nlz_ hg BK200.out); have n13_ := A_ (ngz_ hg BK200.out); have n14_ := A_ (nlz_ hg BK201.out); have n15_ := A_ (ngz_ hg BK201.out); have n16_ := A_ (nlz_ hg BK213.out); have n17_ := A_ (ngz_ hg BK213.out); have n18_ := A_ (nlz_ hg BK220.out); have n19_ := A_ (ngz_ hg BK220.out); have n20_ := A_ (nlz_ hg BK227.out); have n21_ := A_ (ngz_ hg BK227.out); clear HO211 HO217 HO224 BK200 BK201 BK213 BK220 BK227 HB; have HO211 := n0_; have HO217 := n1_; have HO224 := n2_; have BK200 := n3_; have BK201 := n4_; have BK213 := n5_; have BK220 := n6_; have BK227 := n7_; have HB := n8_; have BK228 := n9_; have GW228 := n10_; have GE228 := n11_; have NB200_228 := n12_; have NB228_200 := n13_; have NB201_228 := n14_; have NB228_201 := n15_; have NB213_228 := n16_; have NB228_213 := n17_; have NB220_228 := n18_; have NB228_220 := n19_; have NB227_228 := n20_; have NB228_227 := n21_; clear n0_ n1_ n2_ n3_ n4_ n5_ n6_ n7_ n8_ n9_ n10_ n11_ n12_ n13_ n14_ n15_ n16_ n17_ n18_ n19_ n20_ n21_ hb hbox hg; have hnb150 := NB228_200.out; have hnc150 := NB200_228.out; have hnb151 := NB228_201.out; have hnc151 := NB201_228.out; have hnb152 := NB228_213.out; have hnc152 := NB213_228.out; have hnb153 := NB228_220.out; have hnc153 := NB220_228.out; have hnb154 := NB228_227.out; have hnc154 := NB227_228.out; obtain ⟨hcz155_0, hcz155_1⟩ := bc2_ BK228.out; have hfz155_0 := blk_frozen BK228.out 0; have hfz155_1 := blk_frozen BK228.out 1; obtain ⟨hcz156_0, hcz156_1⟩ := bc2_ BK200.out; have hfz156_0 := blk_frozen BK200.out 0; have hfz156_1 := blk_frozen BK200.out 1; obtain ⟨hcz157_0, hcz157_1⟩ := bc2_ BK201.out; have hfz157_0 := blk_frozen BK201.out 0; have hfz157_1 := blk_frozen BK201.out 1) | ((with_reducible refine gate_callee (f := 9) rfl ?_); refine goesL_ (some 75) rfl rfl Try.func9 (by kernel_rfl) rfl #[.agg #[.int .i64 a0_0, .slice A0_1 l0_1.length c0_1], .agg #[.int .i64 a1_0, .slice A1_1 l1_1.length c1_1]] rfl gl_ ?_; (with_reducible refine (standstillref06_Fits.calls kj30 a0_0 _ _ l0_1 a1_0 _ _ l1_1 false _ ?side1 ?side2 ?side3 ?side4 A49.out).mono ?_); (case side1 => exact Kd.C_below HR0_1.out (bk_ HB.out)); (case side2 => exact HC0_1.out); (case side3 => exact Kd.C_below HR1_1.out (bk_ HB.out)); (case side4 => exact HC1_1.out); rintro e w158 ⟨rfl, hb⟩; refine ⟨_, rfl, ?_⟩; have n0_ := A_ (Kd.R_below (rz_ HO211.out BK228.out) hb); have n1_ := A_ (Kd.R_below (rz_ HO217.out BK228.out) hb); have n2_ := A_ (Kd.R_below (rz_ HO224.out BK228.out) hb); have n5_ := A_ (bf_ BK213.out NB213_228.out hb); have n6_ := A_ (bf_ BK220.out NB220_228.out hb); have n7_ := A_ (bf_ BK227.out NB227_228.out hb); have n8_ := A_ (blk_below (g := gb228) (o := .cells #[.int .i64 0, .slice none 0 0] 27 (0, 0)) (by refine pk_ ?_; refine blk_put (cs := #[.int .i64 0, .slice none 0 0]) ?_ 1 _ rfl; refine pk_ ?_; refine blk_put (cs := #[.int .i64 0, .slice none 0 0]) ?_ 0 _ rfl; exact pk_ BK228.out) hb); have n9_ := A_ (below_step (bk_ HB.out) hb); clear HO211 HO217 HO224 BK213 BK220 BK227 BK228 HB; have HO211 := n0_; have HO217 := n1_; have HO224 := n2_; have BK213 := n5_; have BK220 := n6_; have BK227 := n7_; have BK228 := n8_; have HB := n9_; clear n0_ n1_ n2_ n5_ n6_ n7_ n8_ n9_; (try clear hb); (try clear hb2); (try clear hk); (try clear hi); obtain ⟨hcz159_0, hcz159_1⟩ := bc2_ BK213.out; have hfz159_0 := blk_frozen BK213.out 0; have hfz159_1 := blk_frozen BK213.out 1; obtain ⟨hcz160_0, hcz160_1⟩ := bc2_ BK228.out; have hfz160_0 := blk_frozen BK228.out 0; have hfz160_1 := blk_frozen BK228.out 1) | (go_at_call 16; (with_reducible show Calls _ _ #[.agg #[.int .i64 t208, _], _] _ _); (refine (standstillref06_SameCount.calls kj30 t208 _ _ t209 0 _ _ ([] : List Int) true _ ?side1 ?side2 ?side3 ?side4 A112.out).mono ?_); (case side1 => repeat (first | exact (Kd.R_reads' HO211.out).2.2 | (with_reducible refine Kd.C_alloc ?_ _) | (with_reducible refine Kd.C_drewN ?_ _) | (with_reducible refine Kd.C_drew ?_))); (case side2 => exact (Kd.R_reads' HO211.out).2.1); (case side3 => exact Kd.C_nil _ _); (case side4 => exact Nat.le_refl _); rintro e w161 ⟨rfl, hb⟩; have n1_ := A_ (Kd.R_below (rk_ HO217.out) hb); have n2_ := A_ (Kd.R_below (rk_ HO224.out) hb); have n6_ := A_ (blk_below (pk_ BK220.out) hb); have n7_ := A_ (blk_below (pk_ BK227.out) hb); have n8_ := A_ (blk_below (pk_ BK228.out) hb); have n9_ := A_ (below_step (bk_ HB.out) hb); clear HO217 HO224 BK220 BK227 BK228 HB; have HO217 := n1_; have HO224 := n2_; have BK220 := n6_; have BK227 := n7_; have BK228 := n8_; have HB := n9_; clear n1_ n2_ n6_ n7_ n8_ n9_; (try clear hb); (try clear hb2); (try clear hk); (try clear hi); obtain ⟨hcz162_0, hcz162_1⟩ := bc2_ BK220.out; have hfz162_0 := blk_frozen BK220.out 0; have hfz162_1 := blk_frozen BK220.out 1; obtain ⟨hcz163_0, hcz163_1⟩ := bc2_ BK228.out; have hfz163_0 := blk_frozen BK228.out 0; have hfz163_1 := blk_frozen BK228.out 1) | (go_at_call 16; (with_reducible show Calls _ _ #[.agg #[.int .i64 t214, _], _] _ _); (refine (standstillref06_SameCount.calls kj30 t214 _ _ t215 0 _ _ ([] : List Int) true _ ?side1 ?side2 ?side3 ?side4 A114.out).mono ?_); (case side1 => repeat (first | exact (Kd.R_reads' HO217.out).2.2 | (with_reducible refine Kd.C_alloc ?_ _) | (with_reducible refine Kd.C_drewN ?_ _) | (with_reducible refine Kd.C_drew ?_))); (case side2 => exact (Kd.R_reads' HO217.out).2.1); (case side3 => exact Kd.C_nil _ _); (case side4 => exact Nat.le_refl _); rintro e w164 ⟨rfl, hb⟩; have n2_ := A_ (Kd.R_below (rk_ HO224.out) hb); have n7_ := A_ (blk_below (pk_ BK227.out) hb); have n8_ := A_ (blk_below (pk_ BK228.out) hb); have n9_ := A_ (below_step (bk_ HB.out) hb); clear HO224 BK227 BK228 HB; have HO224 := n2_; have BK227 := n7_; have BK228 := n8_; have HB := n9_; clear n2_ n7_ n8_ n9_; (try clear hb); (try clear hb2); (try clear hk); (try clear hi); obtain ⟨hcz165_0, hcz165_1⟩ := bc2_ BK227.out; have hfz165_0 := blk_frozen BK227.out 0; have hfz165_1 := blk_frozen BK227.out 1; obtain ⟨hcz166_0, hcz166_1⟩ := bc2_ BK228.out; have hfz166_0 := blk_frozen BK228.out 0; have hfz166_1 := blk_frozen BK228.out 1) | (go_at_call 16; (with_reducible show Calls _ _ #[.agg #[.int .i64 t221, _], _] _ _); (refine (standstillref06_SameCount.calls kj30 t221 _ _ t222 0 _ _ ([] : List Int) true _ ?side1 ?side2 ?side3 ?side4 A116.out).mono ?_); (case side1 => repeat (first | exact (Kd.R_reads' HO224.out).2.2 | (with_reducible refine Kd.C_alloc ?_ _) | (with_reducible refine Kd.C_drewN ?_ _) | (with_reducible refine Kd.C_drew ?_))); (case side2 => exact (Kd.R_reads' HO224.out).2.1); (case side3 => exact Kd.C_nil _ _); (case side4 => exact Nat.le_refl _); rintro e w167 ⟨rfl, hb⟩; have n9_ := A_ (below_step (bk_ HB.out) hb); clear HB; have HB := n9_; clear n9_; (try clear hb); (try clear hb2); (try clear hk); (try clear hi)) | (go_at_call 10; (with_reducible refine (standstilllaw06_awake.calls kj30  t233 _ A120.out).mono ?_); rintro e w168 ⟨rfl, hb⟩; have n9_ := A_ (below_step (bk_ HB.out) hb); clear HB; have HB := n9_; clear n9_; (try clear hb); (try clear hb2); (try clear hk); (try clear hi)))
                go_ret
                exact ⟨er_, bk_ HB.out⟩
               ·rw [if_neg c119] at H
                exact absurd H (by simp)
              ·rw [if_neg c118] at H
               exact absurd H (by simp)
             ·replace c117 := Bool.eq_false_iff.mpr c117
              subst c117
              have H1 : (none) = some r := by rw [if_neg (show ¬ (false = true) by decide)] at H; exact H
              clear H
              have H := H1
              clear H1
              exact absurd H (by simp)
            ·replace c115 := Bool.eq_false_iff.mpr c115
             subst c115
             have H1 : (none) = some r := by rw [if_neg (show ¬ (false = true) by decide)] at H; exact H
             clear H
             have H := H1
             clear H1
             exact absurd H (by simp)
           ·replace c113 := Bool.eq_false_iff.mpr c113
            subst c113
            have H1 : (none) = some r := by rw [if_neg (show ¬ (false = true) by decide)] at H; exact H
            clear H
            have H := H1
            clear H1
            exact absurd H (by simp)
          ·rw [if_neg c111] at H
           exact absurd H (by simp)
         ·rw [if_neg c110] at H
          exact absurd H (by simp)
        ·rw [if_neg c109] at H
         exact absurd H (by simp)

/-- THE ONE PURE STATEMENT of standstilllaw06_CounterRuns. -/
def standstilllaw06_CounterRuns.Pure : Prop := ∀ (a0_0 : Int) (l0_1 : List (S33)) (a1_0 : Int) (l1_1 : List Int) (l2 : List Int) (a3 : Int), ((Lit.int .i64 a0_0).wf = true) → (l0_1.length * 32 ≤ 140737488351232 ∧ ∀ y_ ∈ l0_1, inv33 y_) → ((Lit.int .i64 a1_0).wf = true) → (l1_1.length * 8 ≤ 140737488351232 ∧ ∀ y_ ∈ l1_1, (Lit.int .i64 y_).wf = true) → (l2.length * 8 ≤ 140737488351232 ∧ ∀ y_ ∈ l2, (Lit.int .i64 y_).wf = true) → ((Lit.int .i64 a3).wf = true) → ∃ k, standstilllaw06_CounterRuns.f k a0_0 l0_1 a1_0 l1_1 l2 a3 = some true

end Go.Proofs.Ytkekehpfkfadfaa.PCounterRuns
