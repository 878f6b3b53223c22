-- out of a turned copy of the print, by a program of this session; Lean checks it
import Derived.Test.YtkekehpfkfadfaaPCounterPartsx0
import Derived.Test.YtkekehpfkfadfaaPCounterPartsx2
import Derived.Test.YtkekehpfkfadfaaPCounterPartsx3
import Derived.Test.YtkekehpfkfadfaaPCounterPartsx4
import Derived.Test.YtkekehpfkfadfaaPCounterPartsx5
namespace Go.Proofs.Ytkekehpfkfadfaa.PCounterParts
open Go.RowKit Go.Proofs.YtkekehpfkfadfaaW.PrintWords Go.Proofs.YtkekehpfkfadfaaW.PrintLast Go.Proofs.YtkekehpfkfadfaaW.PrintMore
attribute [local go_sem] max2_int min2_int max_two min_two max_three min_three max_four min_four   -- for this text's walks alone
set_option linter.unusedVariables false
set_option linter.unusedSimpArgs false

attribute [local go_sem] isSome_put_
/-! ### standstilllaw06_CounterParts: function 7 -/
mutual
def standstilllaw06_CounterParts.j0 : Nat → List Int → Int → Int → Bool → Int → List (S33) → Int → List Int → Option (Bool)
 | 0, _, _, _, _, _, _, _, _ => none
 | k + 1, x2, x3, x4, x44, x149000, x149001, x150000, x150001 => if x44 = true then ((standstilllaw06_awake.f k).bind fun t151 => (some t151)) else ((counter_Run.f k x149000 x149001 x150000 x150001 (wrap64 ((wrap64 (x3)) + (wrap64 (x4))))).bind fun bt152 => ((counter_Run.f k x149000 x149001 x150000 x150001 (wrap64 (x3))).bind fun bt159 => (if bt159.2.2.2 = 0 then ((counter_Run.f k x149000 x149001 bt159.1 bt159.2.1 (wrap64 (x4))).bind fun bt167 => (if bt152.2.2.2 = bt167.2.2.2 then ((standstillref06_SameCount.f k bt152.1 bt152.2.1 bt167.1 bt167.2.1).bind fun t174 => (if t174 = true then (if bt152.2.2.2 = 0 then (standstilllaw06_CounterParts.j1 k x2 x3 (bt152.2.2.1 != (wrap64 (bt159.2.2.1 + bt167.2.2.1))) x149000 x149001 x150000 x150001) else (standstilllaw06_CounterParts.j1 k x2 x3 false x149000 x149001 x150000 x150001)) else (standstilllaw06_CounterParts.j1 k x2 x3 true x149000 x149001 x150000 x150001))) else (standstilllaw06_CounterParts.j1 k x2 x3 true x149000 x149001 x150000 x150001))) else (if bt152.2.2.2 = bt159.2.2.2 then ((standstilllaw06_awake.f k).bind fun t166 => (some t166)) else (none)))))
def standstilllaw06_CounterParts.j1 : Nat → List Int → Int → Bool → Int → List (S33) → Int → List Int → Option (Bool)
 | 0, _, _, _, _, _, _, _ => none
 | k + 1, x2, x3, x103, x149000, x149001, x150000, x150001 => if x103 = true then (none) else ((counter_Until.f k x149000 x149001 x150000 x150001 x2 (wrap64 (x3))).bind fun bt175 => (if bt175.2.2.2 = 0 then ((counter_Run.f k x149000 x149001 x150000 x150001 bt175.2.2.1).bind fun bt184 => (if bt184.2.2.2 = 0 then (if bt184.2.2.1 = bt175.2.2.1 then ((standstillref06_SameCount.f k bt175.1 bt175.2.1 bt184.1 bt184.2.1).bind fun t191 => (if t191 = true then ((standstillref06_In.f k bt175.1 x2).bind fun t192 => (if t192 = true then (if bt175.2.2.1 < 1 then (standstilllaw06_CounterParts.j2 k x2 bt175.2.2.1 true x149000 x149001 x150000 x150001) else (standstilllaw06_CounterParts.j2 k x2 bt175.2.2.1 (decide (bt175.2.2.1 > (wrap64 (x3)))) x149000 x149001 x150000 x150001)) else (standstilllaw06_CounterParts.j2 k x2 bt175.2.2.1 true x149000 x149001 x150000 x150001))) else (standstilllaw06_CounterParts.j2 k x2 bt175.2.2.1 true x149000 x149001 x150000 x150001))) else (standstilllaw06_CounterParts.j2 k x2 bt175.2.2.1 true x149000 x149001 x150000 x150001)) else (standstilllaw06_CounterParts.j2 k x2 bt175.2.2.1 true x149000 x149001 x150000 x150001))) else (if bt175.2.2.2 = 6 then ((standstilllaw06_awake.f k).bind fun t182 => (some t182)) else (if bt175.2.2.2 = 2 then ((standstilllaw06_awake.f k).bind fun t183 => (some t183)) else (none)))))
def standstilllaw06_CounterParts.j2 : Nat → List Int → Int → Bool → Int → List (S33) → Int → List Int → Option (Bool)
 | 0, _, _, _, _, _, _, _ => none
 | k + 1, x2, x21, x162, x149000, x149001, x150000, x150001 => if x162 = true then (none) else (standstilllaw06_CounterParts.l0 k x2 x21 1 x149000 x149001 x150000 x150001)
def standstilllaw06_CounterParts.l0 : Nat → List Int → Int → Int → Int → List (S33) → Int → List Int → Option (Bool)
 | 0, _, _, _, _, _, _, _ => none
 | k + 1, x2, x21, x27, x149000, x149001, x194000, x194001 => if x27 < x21 then ((counter_Step.f k x149000 x149001 x194000 x194001).bind fun bt195 => (if bt195.2.2 = 0 then ((standstillref06_In.f k bt195.1 x2).bind fun t200 => (if t200 = true then (none) else (standstilllaw06_CounterParts.l0 k x2 x21 (wrap64 (x27 + 1)) x149000 x149001 bt195.1 bt195.2.1))) else (none))) else ((standstilllaw06_awake.f k).bind fun t194 => (some t194))
end
def standstilllaw06_CounterParts.f (k : Nat) (a0_0 : Int) (l0_1 : List (S33)) (a1_0 : Int) (l1_1 : List Int) (l2 : List Int) (a3 : Int) (a4 : Int) : Option (Bool) := (standstilllaw06_wide.f a0_0 l0_1 a1_0 l1_1).bind fun t150 => (if t150 = true then (standstilllaw06_CounterParts.j0 k l2 a3 a4 true a0_0 l0_1 a1_0 l1_1) else (if (l2.length : Int) > 4000 then (standstilllaw06_CounterParts.j0 k l2 a3 a4 true a0_0 l0_1 a1_0 l1_1) else (standstilllaw06_CounterParts.j0 k l2 a3 a4 (decide ((wrap64 ((wrap64 (a3)) + (wrap64 (a4)))) > 2000)) a0_0 l0_1 a1_0 l1_1)))
theorem standstilllaw06_CounterParts.mono_l : ∀ k, (∀ y0 y1 y2 y3 y4 y5 y6 y7, LeO (standstilllaw06_CounterParts.j0 k y0 y1 y2 y3 y4 y5 y6 y7) (standstilllaw06_CounterParts.j0 (k + 1) y0 y1 y2 y3 y4 y5 y6 y7)) ∧ (∀ y0 y1 y2 y3 y4 y5 y6, LeO (standstilllaw06_CounterParts.j1 k y0 y1 y2 y3 y4 y5 y6) (standstilllaw06_CounterParts.j1 (k + 1) y0 y1 y2 y3 y4 y5 y6)) ∧ (∀ y0 y1 y2 y3 y4 y5 y6, LeO (standstilllaw06_CounterParts.j2 k y0 y1 y2 y3 y4 y5 y6) (standstilllaw06_CounterParts.j2 (k + 1) y0 y1 y2 y3 y4 y5 y6)) ∧ (∀ y0 y1 y2 y3 y4 y5 y6, LeO (standstilllaw06_CounterParts.l0 k y0 y1 y2 y3 y4 y5 y6) (standstilllaw06_CounterParts.l0 (k + 1) y0 y1 y2 y3 y4 y5 y6))
 | 0 => ⟨fun _ _ _ _ _ _ _ _ r h => by simp [standstilllaw06_CounterParts.j0] at h, fun _ _ _ _ _ _ _ r h => by simp [standstilllaw06_CounterParts.j1] at h, fun _ _ _ _ _ _ _ r h => by simp [standstilllaw06_CounterParts.j2] at h, fun _ _ _ _ _ _ _ r h => by simp [standstilllaw06_CounterParts.l0] at h⟩
 | k + 1 => by
  obtain ⟨ih0, ih1, ih2, ih3⟩ := standstilllaw06_CounterParts.mono_l k
  refine ⟨?_, ?_, ?_, ?_⟩
  ·intro y0 y1 y2 y3 y4 y5 y6 y7
   unfold standstilllaw06_CounterParts.j0
   repeat' first
   | (with_reducible exact ih0 _ _ _ _ _ _ _ _)
   | (with_reducible exact ih1 _ _ _ _ _ _ _)
   | (with_reducible exact ih2 _ _ _ _ _ _ _)
   | (with_reducible exact ih3 _ _ _ _ _ _ _)
   | (with_reducible exact counter_Run.mono _ _ _ _ _ _)
   | (with_reducible exact counter_Step.mono _ _ _ _ _)
   | (with_reducible exact counter_Until.mono _ _ _ _ _ _ _)
   | (with_reducible exact standstilllaw06_awake.mono _)
   | (with_reducible exact standstillref06_In.mono _ _ _)
   | (with_reducible exact standstillref06_SameCount.mono _ _ _ _ _)
   | (with_reducible exact LeO.refl _)
   | (with_reducible exact LeO.none _)
   | (with_reducible refine LeO.ite ?_ ?_)
   | (with_reducible refine LeO.bind ?_ (fun _ => ?_))
   | exact ih0 _ _ _ _ _ _ _ _
   | exact ih1 _ _ _ _ _ _ _
   | exact ih2 _ _ _ _ _ _ _
   | exact ih3 _ _ _ _ _ _ _
   | exact counter_Run.mono _ _ _ _ _ _
   | exact counter_Step.mono _ _ _ _ _
   | exact counter_Until.mono _ _ _ _ _ _ _
   | exact standstilllaw06_awake.mono _
   | exact standstillref06_In.mono _ _ _
   | exact standstillref06_SameCount.mono _ _ _ _ _
   | exact LeO.none _
   | refine LeO.ite ?_ ?_
   | refine LeO.bind ?_ (fun _ => ?_)
  ·intro y0 y1 y2 y3 y4 y5 y6
   unfold standstilllaw06_CounterParts.j1
   repeat' first
   | (with_reducible exact ih0 _ _ _ _ _ _ _ _)
   | (with_reducible exact ih1 _ _ _ _ _ _ _)
   | (with_reducible exact ih2 _ _ _ _ _ _ _)
   | (with_reducible exact ih3 _ _ _ _ _ _ _)
   | (with_reducible exact counter_Run.mono _ _ _ _ _ _)
   | (with_reducible exact counter_Step.mono _ _ _ _ _)
   | (with_reducible exact counter_Until.mono _ _ _ _ _ _ _)
   | (with_reducible exact standstilllaw06_awake.mono _)
   | (with_reducible exact standstillref06_In.mono _ _ _)
   | (with_reducible exact standstillref06_SameCount.mono _ _ _ _ _)
   | (with_reducible exact LeO.refl _)
   | (with_reducible exact LeO.none _)
   | (with_reducible refine LeO.ite ?_ ?_)
   | (with_reducible refine LeO.bind ?_ (fun _ => ?_))
   | exact ih0 _ _ _ _ _ _ _ _
   | exact ih1 _ _ _ _ _ _ _
   | exact ih2 _ _ _ _ _ _ _
   | exact ih3 _ _ _ _ _ _ _
   | exact counter_Run.mono _ _ _ _ _ _
   | exact counter_Step.mono _ _ _ _ _
   | exact counter_Until.mono _ _ _ _ _ _ _
   | exact standstilllaw06_awake.mono _
   | exact standstillref06_In.mono _ _ _
   | exact standstillref06_SameCount.mono _ _ _ _ _
   | exact LeO.none _
   | refine LeO.ite ?_ ?_
   | refine LeO.bind ?_ (fun _ => ?_)
  ·intro y0 y1 y2 y3 y4 y5 y6
   unfold standstilllaw06_CounterParts.j2
   repeat' first
   | (with_reducible exact ih0 _ _ _ _ _ _ _ _)
   | (with_reducible exact ih1 _ _ _ _ _ _ _)
   | (with_reducible exact ih2 _ _ _ _ _ _ _)
   | (with_reducible exact ih3 _ _ _ _ _ _ _)
   | (with_reducible exact counter_Run.mono _ _ _ _ _ _)
   | (with_reducible exact counter_Step.mono _ _ _ _ _)
   | (with_reducible exact counter_Until.mono _ _ _ _ _ _ _)
   | (with_reducible exact standstilllaw06_awake.mono _)
   | (with_reducible exact standstillref06_In.mono _ _ _)
   | (with_reducible exact standstillref06_SameCount.mono _ _ _ _ _)
   | (with_reducible exact LeO.refl _)
   | (with_reducible exact LeO.none _)
   | (with_reducible refine LeO.ite ?_ ?_)
   | (with_reducible refine LeO.bind ?_ (fun _ => ?_))
   | exact ih0 _ _ _ _ _ _ _ _
   | exact ih1 _ _ _ _ _ _ _
   | exact ih2 _ _ _ _ _ _ _
   | exact ih3 _ _ _ _ _ _ _
   | exact counter_Run.mono _ _ _ _ _ _
   | exact counter_Step.mono _ _ _ _ _
   | exact counter_Until.mono _ _ _ _ _ _ _
   | exact standstilllaw06_awake.mono _
   | exact standstillref06_In.mono _ _ _
   | exact standstillref06_SameCount.mono _ _ _ _ _
   | exact LeO.none _
   | refine LeO.ite ?_ ?_
   | refine LeO.bind ?_ (fun _ => ?_)
  ·intro y0 y1 y2 y3 y4 y5 y6
   unfold standstilllaw06_CounterParts.l0
   repeat' first
   | (with_reducible exact ih0 _ _ _ _ _ _ _ _)
   | (with_reducible exact ih1 _ _ _ _ _ _ _)
   | (with_reducible exact ih2 _ _ _ _ _ _ _)
   | (with_reducible exact ih3 _ _ _ _ _ _ _)
   | (with_reducible exact counter_Run.mono _ _ _ _ _ _)
   | (with_reducible exact counter_Step.mono _ _ _ _ _)
   | (with_reducible exact counter_Until.mono _ _ _ _ _ _ _)
   | (with_reducible exact standstilllaw06_awake.mono _)
   | (with_reducible exact standstillref06_In.mono _ _ _)
   | (with_reducible exact standstillref06_SameCount.mono _ _ _ _ _)
   | (with_reducible exact LeO.refl _)
   | (with_reducible exact LeO.none _)
   | (with_reducible refine LeO.ite ?_ ?_)
   | (with_reducible refine LeO.bind ?_ (fun _ => ?_))
   | exact ih0 _ _ _ _ _ _ _ _
   | exact ih1 _ _ _ _ _ _ _
   | exact ih2 _ _ _ _ _ _ _
   | exact ih3 _ _ _ _ _ _ _
   | exact counter_Run.mono _ _ _ _ _ _
   | exact counter_Step.mono _ _ _ _ _
   | exact counter_Until.mono _ _ _ _ _ _ _
   | exact standstilllaw06_awake.mono _
   | exact standstillref06_In.mono _ _ _
   | exact standstillref06_SameCount.mono _ _ _ _ _
   | exact LeO.none _
   | refine LeO.ite ?_ ?_
   | refine LeO.bind ?_ (fun _ => ?_)
theorem standstilllaw06_CounterParts.mono : ∀ a0 a1 a2 a3 a4 a5 a6 k, LeO (standstilllaw06_CounterParts.f k a0 a1 a2 a3 a4 a5 a6) (standstilllaw06_CounterParts.f (k + 1) a0 a1 a2 a3 a4 a5 a6) := by
 intro a0 a1 a2 a3 a4 a5 a6 k
 obtain ⟨ih0, ih1, ih2, ih3⟩ := standstilllaw06_CounterParts.mono_l k
 unfold standstilllaw06_CounterParts.f
 repeat' first
   | (with_reducible exact ih0 _ _ _ _ _ _ _ _)
   | (with_reducible exact ih1 _ _ _ _ _ _ _)
   | (with_reducible exact ih2 _ _ _ _ _ _ _)
   | (with_reducible exact ih3 _ _ _ _ _ _ _)
   | (with_reducible exact counter_Run.mono _ _ _ _ _ _)
   | (with_reducible exact counter_Step.mono _ _ _ _ _)
   | (with_reducible exact counter_Until.mono _ _ _ _ _ _ _)
   | (with_reducible exact standstilllaw06_awake.mono _)
   | (with_reducible exact standstillref06_In.mono _ _ _)
   | (with_reducible exact standstillref06_SameCount.mono _ _ _ _ _)
   | (with_reducible exact LeO.refl _)
   | (with_reducible exact LeO.none _)
   | (with_reducible refine LeO.ite ?_ ?_)
   | (with_reducible refine LeO.bind ?_ (fun _ => ?_))
   | exact ih0 _ _ _ _ _ _ _ _
   | exact ih1 _ _ _ _ _ _ _
   | exact ih2 _ _ _ _ _ _ _
   | exact ih3 _ _ _ _ _ _ _
   | exact counter_Run.mono _ _ _ _ _ _
   | exact counter_Step.mono _ _ _ _ _
   | exact counter_Until.mono _ _ _ _ _ _ _
   | exact standstilllaw06_awake.mono _
   | exact standstillref06_In.mono _ _ _
   | exact standstillref06_SameCount.mono _ _ _ _ _
   | exact LeO.none _
   | refine LeO.ite ?_ ?_
   | refine LeO.bind ?_ (fun _ => ?_)
set_option maxHeartbeats 8000000 in
set_option maxRecDepth 100000 in
theorem standstilllaw06_CounterParts.calls (k : Nat) (a0_0 : Int) (A0_1 : Option Addr) (c0_1 : Nat) (l0_1 : List (S33)) (a1_0 : Int) (P1_1_ : Nat → Prop) (A1_1 : Option Addr) (c1_1 : Nat) (l1_1 : List Int) (A2 : Option Addr) (c2 : Nat) (l2 : List Int) (a3 : Int) (a4 : Int) (r : Bool) (w : World) (hr0_1 : Kd.C k33 w A0_1 l0_1.length l0_1) (hc0_1 : l0_1.length ≤ c0_1) (hs1_1 : Kd.V (Kd.int .i64) 3 w w.heap.size (fun k_ => P1_1_ k_) (.slice A1_1 l1_1.length c1_1) l1_1) (hr2 : Kd.C (Kd.int .i64) w A2 l2.length l2) (hc2 : l2.length ≤ c2) (h : standstilllaw06_CounterParts.f k a0_0 l0_1 a1_0 l1_1 l2 a3 a4 = some r) :
  Calls Try.prog 7 #[.agg #[.int .i64 a0_0, .slice A0_1 l0_1.length c0_1], .agg #[.int .i64 a1_0, .slice A1_1 l1_1.length c1_1], .slice A2 l2.length c2, .int .u16 a3, .int .u16 a4] w fun e w' => e = .returned (.bool r) ∧ Below w.heap.size w w' := by
 have hu24 := Try.underlying24
 have hu27 := Try.underlying27
 have HR0_1 := Aside0.mk hr0_1
 have HC0_1 := Aside0.mk hc0_1
 clear hr0_1 hc0_1
 have HO1_1 := A_ (show Kd.V (Kd.int .i64) 3 w w.heap.size (fun k_ => (P1_1_ k_ ∨ w.heap.size ≤ k_)) (.slice A1_1 l1_1.length c1_1) l1_1 from Kd.V_mono hs1_1 (fun k_ hk => .inl hk))
 have HR2 := Aside0.mk hr2
 have HC2 := Aside0.mk hc2
 clear hr2 hc2
 have HB := A_ (Below.refl w.heap.size w)
 have H : ((standstilllaw06_wide.f a0_0 l0_1 a1_0 l1_1).bind fun t150 => (if t150 = true then (standstilllaw06_CounterParts.j0 k l2 a3 a4 true a0_0 l0_1 a1_0 l1_1) else (if (l2.length : Int) > 4000 then (standstilllaw06_CounterParts.j0 k l2 a3 a4 true a0_0 l0_1 a1_0 l1_1) else (standstilllaw06_CounterParts.j0 k l2 a3 a4 (decide ((wrap64 ((wrap64 (a3)) + (wrap64 (a4)))) > 2000)) a0_0 l0_1 a1_0 l1_1)))) = some r := h
 clear h
 have HC6 := Aside0.mk H
 clear H
 go_enter Try.func7, Try.ntmps7
 go_upto_region 1 with (first | ((with_reducible refine gate_dst (N := 5) rfl ?_); (try (refine gate_guard (by rfl) ?_; dsimp only)); refine box_event ?hg (N := 5) ?hd (cs := #[.int .i64 a0_0, .slice A0_1 l0_1.length c0_1]) (t := 24) ?hr ?_; (case hd => rfl); (case hg => rfl); (case hr => first | (go_simp; done) | (go_simp; rfl)); intro gb148 hg w7 hbox hb; have n0_ := A_ (Kd.V_below (Kd.V_elderB (by (with_reducible repeat (first | apply Kd.V_alloc | apply Kd.V_drewN | apply Kd.V_drew)); exact HO1_1.out) gb148 (Nat.le_of_eq hg.symm)) hb); have n1_ := A_ (below_step (bk_ HB.out) hb); have n2_ := A_ (hbox); have n3_ := A_ (bz_ hg (bk_ HB.out)); have n4_ := A_ (bz_ hg (bk_ HB.out)); clear HO1_1 HB; have HO1_1 := n0_; have HB := n1_; have BK148 := n2_; have GW148 := n3_; have GE148 := n4_; clear n0_ n1_ n2_ n3_ n4_ hb hbox hg) | ((with_reducible refine gate_dst (N := 6) rfl ?_); (try (refine gate_guard (by rfl) ?_; dsimp only)); refine box_event ?hg (N := 6) ?hd (cs := #[.int .i64 a1_0, .slice A1_1 l1_1.length c1_1]) (t := 27) ?hr ?_; (case hd => rfl); (case hg => rfl); (case hr => first | (go_simp; done) | (go_simp; rfl)); intro gb149 hg w8 hbox hb; have n0_ := A_ (Kd.V_below (Kd.V_elderB (by (with_reducible repeat (first | apply Kd.V_alloc | apply Kd.V_drewN | apply Kd.V_drew)); exact HO1_1.out) gb149 (Nat.le_of_eq hg.symm)) hb); have n1_ := A_ (blk_below (pk_ BK148.out) hb); have n2_ := A_ (below_step (bk_ HB.out) hb); have n3_ := A_ (hbox); have n4_ := A_ (bz_ hg (bk_ HB.out)); have n5_ := A_ (bz_ hg (bk_ HB.out)); have n6_ := A_ (nl_ hg (pk_ BK148.out)); have n7_ := A_ (ng_ hg (pk_ BK148.out)); clear HO1_1 BK148 HB; have HO1_1 := n0_; have BK148 := n1_; have HB := n2_; have BK149 := n3_; have GW149 := n4_; have GE149 := n5_; have NB148_149 := n6_; have NB149_148 := n7_; clear n0_ n1_ n2_ n3_ n4_ n5_ n6_ n7_ hb hbox hg))
 (try simp only [Act.put, List.setIfInBounds_toArray, List.set_cons_zero, List.set_cons_succ])
 go_cut [44] (fun v44 wc => ∃ (kq : Nat) (x44_5 : Bool), v44 = .bool x44_5 ∧ Aside0 (standstilllaw06_CounterParts.j0 kq l2 a3 a4 x44_5 a0_0 l0_1 a1_0 l1_1 = some r) ∧ Aside0 (kq ≤ k) ∧ Aside0 (Kd.V (Kd.int .i64) 3 wc w.heap.size (fun k_ => (P1_1_ k_ ∨ w.heap.size ≤ k_) ∧ k_ ≠ gb148 ∧ k_ ≠ gb149) (.slice A1_1 l1_1.length c1_1) l1_1) ∧ Aside0 (wc.heap[gb148]? = some (.cells #[.int .i64 a0_0, (.slice A0_1 l0_1.length c0_1)] 24 (0, 0))) ∧ Aside0 (wc.heap[gb149]? = some (.cells #[.int .i64 a1_0, (.slice A1_1 l1_1.length c1_1)] 27 (0, 0))) ∧ Aside0 (Below w.heap.size w wc))
 case first => as_aux_lemma =>
  have H := HC6.out
  clear HC6
  replace H := Option.bind_eq_some_iff.mp H
  obtain ⟨t150, A90, H⟩ := H
  replace H : (if t150 = true then (standstilllaw06_CounterParts.j0 k l2 a3 a4 true a0_0 l0_1 a1_0 l1_1) else (if (l2.length : Int) > 4000 then (standstilllaw06_CounterParts.j0 k l2 a3 a4 true a0_0 l0_1 a1_0 l1_1) else (standstilllaw06_CounterParts.j0 k l2 a3 a4 (decide ((wrap64 ((wrap64 (a3)) + (wrap64 (a4)))) > 2000)) a0_0 l0_1 a1_0 l1_1))) = some r := H
  have A9 := Aside0.mk A90
  clear A90
  by_cases c10 : t150 = true
  ·subst c10
   have H1 : (standstilllaw06_CounterParts.j0 k l2 a3 a4 true a0_0 l0_1 a1_0 l1_1) = some r := by rw [if_pos rfl] at H; exact H
   clear H
   have H := H1
   clear H1
   have H' := Aside0.mk H
   clear H
   have hnb11 := NB148_149.out
   have hnc11 := NB149_148.out
   obtain ⟨hcz12_0, hcz12_1⟩ := bc2_ BK148.out
   have hfz12_0 := blk_frozen BK148.out 0
   have hfz12_1 := blk_frozen BK148.out 1
   obtain ⟨hcz13_0, hcz13_1⟩ := bc2_ BK149.out
   have hfz13_0 := blk_frozen BK149.out 0
   have hfz13_1 := blk_frozen BK149.out 1
   go_wp2_with (first | ((with_reducible refine gate_callee (f := 8) rfl ?_); refine goesL_ (some 31) rfl rfl Try.func8 (by kernel_rfl) rfl #[.agg #[.int .i64 a0_0, .slice A0_1 l0_1.length c0_1], .agg #[.int .i64 a1_0, .slice A1_1 l1_1.length c1_1]] rfl gl_ ?_; (with_reducible refine (standstilllaw06_wide.calls a0_0 _ _ l0_1 a1_0 _ _ l1_1 true _ ?side1 ?side2 ?side3 ?side4 A9.out).mono ?_); (case side1 => exact ck_ (Kd.C_below HR0_1.out HB.out)); (case side2 => exact HC0_1.out); (case side3 => repeat (first | exact (Kd.V_reads' HO1_1.out).2.2 | (with_reducible refine Kd.C_alloc ?_ _) | (with_reducible refine Kd.C_drewN ?_ _) | (with_reducible refine Kd.C_drew ?_))); (case side4 => exact (Kd.V_reads' HO1_1.out).2.1); rintro e w14 ⟨rfl, hb⟩; refine ⟨_, rfl, ?_⟩; have n0_ := A_ (Kd.V_below (by (with_reducible repeat (first | apply Kd.V_alloc | apply Kd.V_drewN | apply Kd.V_drew)); exact HO1_1.out) hb); have n1_ := A_ (blk_below (pk_ BK148.out) hb); have n2_ := A_ (blk_below (pk_ BK149.out) hb); have n3_ := A_ (below_step (bk_ HB.out) hb); clear HO1_1 BK148 BK149 HB; have HO1_1 := n0_; have BK148 := n1_; have BK149 := n2_; have HB := n3_; clear n0_ n1_ n2_ n3_; (try clear hb); (try clear hb2); (try clear hk); (try clear hi)))
   go_meet
   case rel => exact ⟨_, (true), jr_, H', ⟨by first | omega | exact Nat.le_refl _⟩, ⟨by (with_reducible repeat (first | apply Kd.V_alloc | apply Kd.V_drewN | apply Kd.V_drew)); exact Kd.V_mono HO1_1.out (fun _ hk => ⟨hk.1.1, ⟨hk.1.2, hk.2⟩⟩)⟩, ⟨pk_ BK148.out⟩, ⟨pk_ BK149.out⟩, ⟨bk_ HB.out⟩⟩
  ·replace c10 := Bool.eq_false_iff.mpr c10
   subst c10
   have H1 : (if (l2.length : Int) > 4000 then (standstilllaw06_CounterParts.j0 k l2 a3 a4 true a0_0 l0_1 a1_0 l1_1) else (standstilllaw06_CounterParts.j0 k l2 a3 a4 (decide ((wrap64 ((wrap64 (a3)) + (wrap64 (a4)))) > 2000)) a0_0 l0_1 a1_0 l1_1)) = some r := by rw [if_neg (show ¬ (false = true) by decide)] at H; exact H
   clear H
   have H := H1
   clear H1
   by_cases c15 : (l2.length : Int) > 4000
   ·rw [if_pos c15] at H
    have c15b0 : decide (4000 < (l2.length : Int)) = true := decide_eq_true c15
    have c15b1 : decide (4000 < l2.length) = true := decide_eq_true (by omega)
    clear c15
    (first | rw [c15b0] | (simp only [i64_w, i32_w]; rw [c15b0]) | skip)
    have H' := Aside0.mk H
    clear H
    have hnb16 := NB148_149.out
    have hnc16 := NB149_148.out
    obtain ⟨hcz17_0, hcz17_1⟩ := bc2_ BK148.out
    have hfz17_0 := blk_frozen BK148.out 0
    have hfz17_1 := blk_frozen BK148.out 1
    obtain ⟨hcz18_0, hcz18_1⟩ := bc2_ BK149.out
    have hfz18_0 := blk_frozen BK149.out 0
    have hfz18_1 := blk_frozen BK149.out 1
    go_wp2_with (first | ((with_reducible refine gate_callee (f := 8) rfl ?_); refine goesL_ (some 31) rfl rfl Try.func8 (by kernel_rfl) rfl #[.agg #[.int .i64 a0_0, .slice A0_1 l0_1.length c0_1], .agg #[.int .i64 a1_0, .slice A1_1 l1_1.length c1_1]] rfl gl_ ?_; (with_reducible refine (standstilllaw06_wide.calls a0_0 _ _ l0_1 a1_0 _ _ l1_1 false _ ?side1 ?side2 ?side3 ?side4 A9.out).mono ?_); (case side1 => exact ck_ (Kd.C_below HR0_1.out HB.out)); (case side2 => exact HC0_1.out); (case side3 => repeat (first | exact (Kd.V_reads' HO1_1.out).2.2 | (with_reducible refine Kd.C_alloc ?_ _) | (with_reducible refine Kd.C_drewN ?_ _) | (with_reducible refine Kd.C_drew ?_))); (case side4 => exact (Kd.V_reads' HO1_1.out).2.1); rintro e w19 ⟨rfl, hb⟩; refine ⟨_, rfl, ?_⟩; have n0_ := A_ (Kd.V_below (by (with_reducible repeat (first | apply Kd.V_alloc | apply Kd.V_drewN | apply Kd.V_drew)); exact HO1_1.out) hb); have n1_ := A_ (blk_below (pk_ BK148.out) hb); have n2_ := A_ (blk_below (pk_ BK149.out) hb); have n3_ := A_ (below_step (bk_ HB.out) hb); clear HO1_1 BK148 BK149 HB; have HO1_1 := n0_; have BK148 := n1_; have BK149 := n2_; have HB := n3_; clear n0_ n1_ n2_ n3_; (try clear hb); (try clear hb2); (try clear hk); (try clear hi)))
    go_meet
    case rel => exact ⟨_, (true), jr_, H', ⟨by first | omega | exact Nat.le_refl _⟩, ⟨by (with_reducible repeat (first | apply Kd.V_alloc | apply Kd.V_drewN | apply Kd.V_drew)); exact Kd.V_mono HO1_1.out (fun _ hk => ⟨hk.1.1, ⟨hk.1.2, hk.2⟩⟩)⟩, ⟨pk_ BK148.out⟩, ⟨pk_ BK149.out⟩, ⟨bk_ HB.out⟩⟩
   ·rw [if_neg c15] at H
    have c15b0 : decide (4000 < (l2.length : Int)) = false := decide_eq_false c15
    have c15b1 : decide (4000 < l2.length) = false := decide_eq_false (by omega)
    clear c15
    (first | rw [c15b0] | (simp only [i64_w, i32_w]; rw [c15b0]) | skip)
    have H' := Aside0.mk H
    clear H
    have hnb20 := NB148_149.out
    have hnc20 := NB149_148.out
    obtain ⟨hcz21_0, hcz21_1⟩ := bc2_ BK148.out
    have hfz21_0 := blk_frozen BK148.out 0
    have hfz21_1 := blk_frozen BK148.out 1
    obtain ⟨hcz22_0, hcz22_1⟩ := bc2_ BK149.out
    have hfz22_0 := blk_frozen BK149.out 0
    have hfz22_1 := blk_frozen BK149.out 1
    go_wp2_with (first | ((with_reducible refine gate_callee (f := 8) rfl ?_); refine goesL_ (some 31) rfl rfl Try.func8 (by kernel_rfl) rfl #[.agg #[.int .i64 a0_0, .slice A0_1 l0_1.length c0_1], .agg #[.int .i64 a1_0, .slice A1_1 l1_1.length c1_1]] rfl gl_ ?_; (with_reducible refine (standstilllaw06_wide.calls a0_0 _ _ l0_1 a1_0 _ _ l1_1 false _ ?side1 ?side2 ?side3 ?side4 A9.out).mono ?_); (case side1 => exact ck_ (Kd.C_below HR0_1.out HB.out)); (case side2 => exact HC0_1.out); (case side3 => repeat (first | exact (Kd.V_reads' HO1_1.out).2.2 | (with_reducible refine Kd.C_alloc ?_ _) | (with_reducible refine Kd.C_drewN ?_ _) | (with_reducible refine Kd.C_drew ?_))); (case side4 => exact (Kd.V_reads' HO1_1.out).2.1); rintro e w23 ⟨rfl, hb⟩; refine ⟨_, rfl, ?_⟩; have n0_ := A_ (Kd.V_below (by (with_reducible repeat (first | apply Kd.V_alloc | apply Kd.V_drewN | apply Kd.V_drew)); exact HO1_1.out) hb); have n1_ := A_ (blk_below (pk_ BK148.out) hb); have n2_ := A_ (blk_below (pk_ BK149.out) hb); have n3_ := A_ (below_step (bk_ HB.out) hb); clear HO1_1 BK148 BK149 HB; have HO1_1 := n0_; have BK148 := n1_; have BK149 := n2_; have HB := n3_; clear n0_ n1_ n2_ n3_; (try clear hb); (try clear hb2); (try clear hk); (try clear hi)))
    go_meet
    case rel => exact ⟨_, (decide ((wrap64 ((wrap64 (a3)) + (wrap64 (a4)))) > 2000)), jr_, H', ⟨by first | omega | exact Nat.le_refl _⟩, ⟨by (with_reducible repeat (first | apply Kd.V_alloc | apply Kd.V_drewN | apply Kd.V_drew)); exact Kd.V_mono HO1_1.out (fun _ hk => ⟨hk.1.1, ⟨hk.1.2, hk.2⟩⟩)⟩, ⟨pk_ BK148.out⟩, ⟨pk_ BK149.out⟩, ⟨bk_ HB.out⟩⟩
 case rest => as_aux_lemma =>
  clear HC6
  (try clear c2)
  obtain ⟨kq, x44_5, rfl, HA, HJ5, HO_150001, BK148, BK149, HB⟩ := hcut
  cases kq with
  | zero => exact absurd HA.out (by simp [standstilllaw06_CounterParts.j0])
  | succ kj5 =>
   have H := HA.out
   clear HA
   simp only [standstilllaw06_CounterParts.j0] at H
   by_cases c24 : x44_5 = true
   ·subst c24
    have H1 : ((standstilllaw06_awake.f kj5).bind fun t151 => (some t151)) = some r := by rw [if_pos rfl] at H; exact H
    clear H
    have H := H1
    clear H1
    replace H := Option.bind_eq_some_iff.mp H
    obtain ⟨t151, A250, H⟩ := H
    replace H : (some t151) = some r := H
    have A25 := Aside0.mk A250
    clear A250
    obtain rfl := Option.some.inj H
    go_wp2_with (first | ((with_reducible refine gate_callee (f := 10) rfl ?_); refine goesL_ (some 45) rfl rfl Try.func10 (by kernel_rfl) rfl #[] rfl gl_ ?_; (with_reducible refine (standstilllaw06_awake.calls kj5  t151 _ A25.out).mono ?_); rintro e w26 ⟨rfl, hb⟩; refine ⟨_, rfl, ?_⟩; have n0_ := A_ (Kd.V_below (by (with_reducible repeat (first | apply Kd.V_alloc | apply Kd.V_drewN | apply Kd.V_drew)); exact HO_150001.out) hb); have n1_ := A_ (blk_below (pk_ BK148.out) hb); have n2_ := A_ (blk_below (pk_ BK149.out) hb); have n3_ := A_ (below_step (bk_ HB.out) hb); clear HO_150001 BK148 BK149 HB; have HO_150001 := n0_; have BK148 := n1_; have BK149 := n2_; have HB := n3_; clear n0_ n1_ n2_ n3_; (try clear hb); (try clear hb2); (try clear hk); (try clear hi)))
    go_ret
    exact ⟨er_, bk_ HB.out⟩
   ·replace c24 := Bool.eq_false_iff.mpr c24
    subst c24
    have H1 : ((counter_Run.f kj5 a0_0 l0_1 a1_0 l1_1 (wrap64 ((wrap64 (a3)) + (wrap64 (a4))))).bind fun bt152 => ((counter_Run.f kj5 a0_0 l0_1 a1_0 l1_1 (wrap64 (a3))).bind fun bt159 => (if bt159.2.2.2 = 0 then ((counter_Run.f kj5 a0_0 l0_1 bt159.1 bt159.2.1 (wrap64 (a4))).bind fun bt167 => (if bt152.2.2.2 = bt167.2.2.2 then ((standstillref06_SameCount.f kj5 bt152.1 bt152.2.1 bt167.1 bt167.2.1).bind fun t174 => (if t174 = true then (if bt152.2.2.2 = 0 then (standstilllaw06_CounterParts.j1 kj5 l2 a3 (bt152.2.2.1 != (wrap64 (bt159.2.2.1 + bt167.2.2.1))) a0_0 l0_1 a1_0 l1_1) else (standstilllaw06_CounterParts.j1 kj5 l2 a3 false a0_0 l0_1 a1_0 l1_1)) else (standstilllaw06_CounterParts.j1 kj5 l2 a3 true a0_0 l0_1 a1_0 l1_1))) else (standstilllaw06_CounterParts.j1 kj5 l2 a3 true a0_0 l0_1 a1_0 l1_1))) else (if bt152.2.2.2 = bt159.2.2.2 then ((standstilllaw06_awake.f kj5).bind fun t166 => (some t166)) else (none))))) = some r := by rw [if_neg (show ¬ (false = true) by decide)] at H; exact H
    clear H
    have H := H1
    clear H1
    replace H := Option.bind_eq_some_iff.mp H
    obtain ⟨⟨t152, t153, t156, t157⟩, A270, H⟩ := H
    replace H : ((counter_Run.f kj5 a0_0 l0_1 a1_0 l1_1 (wrap64 (a3))).bind fun bt159 => (if bt159.2.2.2 = 0 then ((counter_Run.f kj5 a0_0 l0_1 bt159.1 bt159.2.1 (wrap64 (a4))).bind fun bt167 => (if t157 = bt167.2.2.2 then ((standstillref06_SameCount.f kj5 t152 t153 bt167.1 bt167.2.1).bind fun t174 => (if t174 = true then (if t157 = 0 then (standstilllaw06_CounterParts.j1 kj5 l2 a3 (t156 != (wrap64 (bt159.2.2.1 + bt167.2.2.1))) a0_0 l0_1 a1_0 l1_1) else (standstilllaw06_CounterParts.j1 kj5 l2 a3 false a0_0 l0_1 a1_0 l1_1)) else (standstilllaw06_CounterParts.j1 kj5 l2 a3 true a0_0 l0_1 a1_0 l1_1))) else (standstilllaw06_CounterParts.j1 kj5 l2 a3 true a0_0 l0_1 a1_0 l1_1))) else (if t157 = bt159.2.2.2 then ((standstilllaw06_awake.f kj5).bind fun t166 => (some t166)) else (none)))) = some r := H
    have A27 := Aside0.mk A270
    clear A270
    replace H := Option.bind_eq_some_iff.mp H
    obtain ⟨⟨t159, t160, t163, t164⟩, A280, H⟩ := H
    replace H : (if t164 = 0 then ((counter_Run.f kj5 a0_0 l0_1 t159 t160 (wrap64 (a4))).bind fun bt167 => (if t157 = bt167.2.2.2 then ((standstillref06_SameCount.f kj5 t152 t153 bt167.1 bt167.2.1).bind fun t174 => (if t174 = true then (if t157 = 0 then (standstilllaw06_CounterParts.j1 kj5 l2 a3 (t156 != (wrap64 (t163 + bt167.2.2.1))) a0_0 l0_1 a1_0 l1_1) else (standstilllaw06_CounterParts.j1 kj5 l2 a3 false a0_0 l0_1 a1_0 l1_1)) else (standstilllaw06_CounterParts.j1 kj5 l2 a3 true a0_0 l0_1 a1_0 l1_1))) else (standstilllaw06_CounterParts.j1 kj5 l2 a3 true a0_0 l0_1 a1_0 l1_1))) else (if t157 = t164 then ((standstilllaw06_awake.f kj5).bind fun t166 => (some t166)) else (none))) = some r := H
    have A28 := Aside0.mk A280
    clear A280
    by_cases c29 : t164 = 0
    ·rw [if_pos c29] at H
     have c29b0 : (t164 == 0) = true := beq_iff_eq.mpr c29
     have c29b1 : (t164 != 0) = false := bne_eq_false_iff_eq.mpr c29
     clear c29
     replace H := Option.bind_eq_some_iff.mp H
     obtain ⟨⟨t167, t168, t171, t172⟩, A300, H⟩ := H
     replace H : (if t157 = t172 then ((standstillref06_SameCount.f kj5 t152 t153 t167 t168).bind fun t174 => (if t174 = true then (if t157 = 0 then (standstilllaw06_CounterParts.j1 kj5 l2 a3 (t156 != (wrap64 (t163 + t171))) a0_0 l0_1 a1_0 l1_1) else (standstilllaw06_CounterParts.j1 kj5 l2 a3 false a0_0 l0_1 a1_0 l1_1)) else (standstilllaw06_CounterParts.j1 kj5 l2 a3 true a0_0 l0_1 a1_0 l1_1))) else (standstilllaw06_CounterParts.j1 kj5 l2 a3 true a0_0 l0_1 a1_0 l1_1)) = some r := H
     have A30 := Aside0.mk A300
     clear A300
     have HC31 := Aside0.mk H
     clear H
     have hnb32 := NB148_149.out
     have hnc32 := NB149_148.out
     obtain ⟨hcz33_0, hcz33_1⟩ := bc2_ BK148.out
     have hfz33_0 := blk_frozen BK148.out 0
     have hfz33_1 := blk_frozen BK148.out 1
     obtain ⟨hcz34_0, hcz34_1⟩ := bc2_ BK149.out
     have hfz34_0 := blk_frozen BK149.out 0
     have hfz34_1 := blk_frozen BK149.out 1
     go_upto_region 8 with (first | ((with_reducible refine gate_callee (f := 11) rfl ?_); refine goesL_ (some 54) rfl rfl Try.func11 (by kernel_rfl) rfl #[.agg #[.int .i64 a0_0, .slice A0_1 l0_1.length c0_1], .agg #[.int .i64 a1_0, .slice A1_1 l1_1.length c1_1], .int .i64 (wrap64 ((wrap64 (a3)) + (wrap64 (a4))))] rfl gl_ ?_; (with_reducible refine (counter_Run.calls kj5 a0_0 _ _ l0_1 a1_0 _ _ l1_1 (wrap64 ((wrap64 (a3)) + (wrap64 (a4)))) t152 t153 t156 t157 _ ?side1 ?side2 ?side3 ?side4 A27.out).mono ?_); (case side1 => exact ck_ (Kd.C_below HR0_1.out HB.out)); (case side2 => exact HC0_1.out); (case side3 => repeat (first | exact (Kd.V_reads' HO_150001.out).2.2 | (with_reducible refine Kd.C_alloc ?_ _) | (with_reducible refine Kd.C_drewN ?_ _) | (with_reducible refine Kd.C_drew ?_))); (case side4 => exact (Kd.V_reads' HO_150001.out).2.1); rintro e w35 ⟨v154, rfl, ho0, hb⟩; refine ⟨_, rfl, ?_⟩; have n0_ := A_ (Kd.V_elder' (by (with_reducible repeat (first | apply Kd.V_alloc | apply Kd.V_drewN | apply Kd.V_drew)); exact HO_150001.out) (Kd.R_base ho0) hb); have n1_ := A_ (Kd.R_lower (Kd.R_newM (M := fun k_ => (w.heap.size ≤ k_)) ho0 (below_size (bk_ HB.out)) (fun k_ h_ => h_)) (below_size (bk_ HB.out))); have n2_ := A_ (blk_below (pk_ BK148.out) hb); have n3_ := A_ (blk_below (pk_ BK149.out) hb); have n4_ := A_ (below_step (bk_ HB.out) hb); clear HO_150001 BK148 BK149 HB; have HO_150001 := n0_; have HO155 := n1_; have BK148 := n2_; have BK149 := n3_; have HB := n4_; clear n0_ n1_ n2_ n3_ n4_; (try clear hb); (try clear hb2); (try clear hk); (try clear hi); (try clear ho0)) | ((with_reducible refine gate_dst (N := 11) rfl ?_); (try (refine gate_guard (by rfl) ?_; dsimp only)); refine box_event ?hg (N := 11) ?hd (cs := #[.int .i64 0, .slice none 0 0]) (t := 27) ?hr ?_; (case hd => rfl); (case hg => rfl); (case hr => first | (go_simp; done) | (go_simp; rfl)); intro gb158 hg w36 hbox hb; have n0_ := A_ (Kd.V_below (Kd.V_elderB (by (with_reducible repeat (first | apply Kd.V_alloc | apply Kd.V_drewN | apply Kd.V_drew)); exact HO_150001.out) gb158 (Nat.le_of_eq hg.symm)) hb); have n1_ := A_ (Kd.R_below (rk_ HO155.out) hb); have n2_ := A_ (blk_below (pk_ BK148.out) hb); have n3_ := A_ (blk_below (pk_ BK149.out) hb); have n4_ := A_ (below_step (bk_ HB.out) hb); have n5_ := A_ (hbox); have n6_ := A_ (bz_ hg (bk_ HB.out)); have n7_ := A_ (bz_ hg (bk_ HB.out)); have n8_ := A_ (nl_ hg (pk_ BK148.out)); have n9_ := A_ (ng_ hg (pk_ BK148.out)); have n10_ := A_ (nl_ hg (pk_ BK149.out)); have n11_ := A_ (ng_ hg (pk_ BK149.out)); clear HO_150001 HO155 BK148 BK149 HB; have HO_150001 := n0_; have HO155 := n1_; have BK148 := n2_; have BK149 := n3_; have HB := n4_; have BK158 := n5_; have GW158 := n6_; have GE158 := n7_; have NB148_158 := n8_; have NB158_148 := n9_; have NB149_158 := n10_; have NB158_149 := n11_; clear n0_ n1_ n2_ n3_ n4_ n5_ n6_ n7_ n8_ n9_ n10_ n11_ hb hbox hg; have hnb37 := NB158_148.out; have hnc37 := NB148_158.out; have hnb38 := NB158_149.out; have hnc38 := NB149_158.out; obtain ⟨hcz39_0, hcz39_1⟩ := bc2_ BK158.out; have hfz39_0 := blk_frozen BK158.out 0; have hfz39_1 := blk_frozen BK158.out 1; obtain ⟨Ao40, co40, eo40⟩ := Kd.R_slice HO155.out; subst eo40; obtain ⟨hcz41_0, hcz41_1⟩ := bc2_ BK148.out; have hfz41_0 := blk_frozen BK148.out 0; have hfz41_1 := blk_frozen BK148.out 1; obtain ⟨hcz42_0, hcz42_1⟩ := bc2_ BK149.out; have hfz42_0 := blk_frozen BK149.out 0; have hfz42_1 := blk_frozen BK149.out 1) | ((with_reducible refine gate_callee (f := 11) rfl ?_); refine goesL_ (some 63) rfl rfl Try.func11 (by kernel_rfl) rfl #[.agg #[.int .i64 a0_0, .slice A0_1 l0_1.length c0_1], .agg #[.int .i64 a1_0, .slice A1_1 l1_1.length c1_1], .int .i64 (wrap64 (a3))] rfl gl_ ?_; (with_reducible refine (counter_Run.calls kj5 a0_0 _ _ l0_1 a1_0 _ _ l1_1 (wrap64 (a3)) t159 t160 t163 t164 _ ?side1 ?side2 ?side3 ?side4 A28.out).mono ?_); (case side1 => exact Kd.C_below HR0_1.out (bk_ HB.out)); (case side2 => exact HC0_1.out); (case side3 => refine (Kd.V_reads' (e := 3) (base := w.heap.size) (ok := fun k_ => ((((P1_1_ k_ ∨ w.heap.size ≤ k_) ∧ (k_ ≠ gb148 ∧ k_ ≠ gb149)) ∧ some k_ ≠ (.slice Ao40 t153.length co40 : Value).ownBlock) ∧ k_ ≠ gb158)) (n := l1_1.length) (c := c1_1) ?_).2.2; exact (by (with_reducible repeat (first | apply Kd.V_alloc | apply Kd.V_drewN | apply Kd.V_drew)); exact (Kd.V_mono (Kd.V_far (p := ⟨gb158, 1, none⟩) (Kd.V_far (p := ⟨gb158, 0, none⟩) (Kd.V_mono HO_150001.out (fun k_ hk => (⟨hk, hk.2⟩ : _ ∧ k_ ≠ gb158))) (fun _ hk => hk.2) (.int .i64 t152)) (fun _ hk => hk.2) (.slice Ao40 t153.length co40)) (fun _ h_ => h_.1)))); (case side4 => exact (Kd.V_reads' HO_150001.out).2.1); rintro e w43 ⟨v161, rfl, ho0, hb⟩; refine ⟨_, rfl, ?_⟩; have n0_ := A_ (Kd.V_elder' (by (with_reducible repeat (first | apply Kd.V_alloc | apply Kd.V_drewN | apply Kd.V_drew)); exact (Kd.V_mono (Kd.V_far (p := ⟨gb158, 1, none⟩) (Kd.V_far (p := ⟨gb158, 0, none⟩) (Kd.V_mono HO_150001.out (fun k_ hk => (⟨hk, hk.2⟩ : _ ∧ k_ ≠ gb158))) (fun _ hk => hk.2) (.int .i64 t152)) (fun _ hk => hk.2) (.slice Ao40 t153.length co40)) (fun _ h_ => h_.1))) (Kd.R_base ho0) hb); have n1_ := A_ (Kd.R_elder' (rz_ HO155.out BK158.out) (Kd.R_base ho0) hb); have n2_ := A_ (Kd.R_lower (Kd.R_new' (Kd.R_newM (M := fun k_ => (w.heap.size ≤ k_)) ho0 (below_size (bk_ HB.out)) (fun k_ h_ => h_)) (Kd.R_lt (rz_ HO155.out BK158.out))) (below_size (bk_ HB.out))); have n3_ := A_ (bf_ BK148.out NB148_158.out hb); have n4_ := A_ (bf_ BK149.out NB149_158.out hb); have n5_ := A_ (blk_below (g := gb158) (o := .cells #[.int .i64 t152, .slice Ao40 t153.length co40] 27 (0, 0)) (by refine pk_ ?_; refine blk_put (cs := #[.int .i64 t152, .slice none 0 0]) ?_ 1 _ rfl; refine pk_ ?_; refine blk_put (cs := #[.int .i64 0, .slice none 0 0]) ?_ 0 _ rfl; exact pk_ BK158.out) hb); have n6_ := A_ (below_step (bk_ HB.out) hb); clear HO_150001 HO155 BK148 BK149 BK158 HB; have HO_150001 := n0_; have HO155 := n1_; have HO162 := n2_; have BK148 := n3_; have BK149 := n4_; have BK158 := n5_; have HB := n6_; clear n0_ n1_ n2_ n3_ n4_ n5_ n6_; (try clear hb); (try clear hb2); (try clear hk); (try clear hi); (try clear ho0)) | ((with_reducible refine gate_dst (N := 14) rfl ?_); (try (refine gate_guard (by rfl) ?_; dsimp only)); refine box_event ?hg (N := 14) ?hd (cs := #[.int .i64 0, .slice none 0 0]) (t := 27) ?hr ?_; (case hd => rfl); (case hg => rfl); (case hr => first | (go_simp; done) | (go_simp; rfl)); intro gb165 hg w44 hbox hb; have n0_ := A_ (Kd.V_below (Kd.V_elderB (by (with_reducible repeat (first | apply Kd.V_alloc | apply Kd.V_drewN | apply Kd.V_drew)); exact HO_150001.out) gb165 (Nat.le_of_eq hg.symm)) hb); have n1_ := A_ (Kd.R_below (rk_ HO155.out) hb); have n2_ := A_ (Kd.R_below (rk_ HO162.out) hb); have n3_ := A_ (blk_below (pk_ BK148.out) hb); have n4_ := A_ (blk_below (pk_ BK149.out) hb); have n5_ := A_ (blk_below (pk_ BK158.out) hb); have n6_ := A_ (below_step (bk_ HB.out) hb); have n7_ := A_ (hbox); have n8_ := A_ (bz_ hg (bk_ HB.out)); have n9_ := A_ (bz_ hg (bk_ HB.out)); have n10_ := A_ (nl_ hg (pk_ BK148.out)); have n11_ := A_ (ng_ hg (pk_ BK148.out)); have n12_ := A_ (nl_ hg (pk_ BK149.out)); have n13_ := A_ (ng_ hg (pk_ BK149.out)); have n14_ := A_ (nl_ hg (pk_ BK158.out)); have n15_ := A_ (ng_ hg (pk_ BK158.out)); clear HO_150001 HO155 HO162 BK148 BK149 BK158 HB; have HO_150001 := n0_; have HO155 := n1_; have HO162 := n2_; have BK148 := n3_; have BK149 := n4_; have BK158 := n5_; have HB := n6_; have BK165 := n7_; have GW165 := n8_; have GE165 := n9_; have NB148_165 := n10_; have NB165_148 := n11_; have NB149_165 := n12_; have NB165_149 := n13_; have NB158_165 := n14_; have NB165_158 := n15_; clear n0_ n1_ n2_ n3_ n4_ n5_ n6_ n7_ n8_ n9_ n10_ n11_ n12_ n13_ n14_ n15_ hb hbox hg; have hnb45 := NB165_148.out; have hnc45 := NB148_165.out; have hnb46 := NB165_149.out; have hnc46 := NB149_165.out; have hnb47 := NB165_158.out; have hnc47 := NB158_165.out; obtain ⟨hcz48_0, hcz48_1⟩ := bc2_ BK165.out; have hfz48_0 := blk_frozen BK165.out 0; have hfz48_1 := blk_frozen BK165.out 1; obtain ⟨Ao49, co49, eo49⟩ := Kd.R_slice HO162.out; subst eo49; obtain ⟨hcz50_0, hcz50_1⟩ := bc2_ BK148.out; have hfz50_0 := blk_frozen BK148.out 0; have hfz50_1 := blk_frozen BK148.out 1) | ((with_reducible refine gate_callee (f := 11) rfl ?_); refine goesL_ (some 80) rfl rfl Try.func11 (by kernel_rfl) rfl #[.agg #[.int .i64 a0_0, .slice A0_1 l0_1.length c0_1], .agg #[.int .i64 t159, .slice Ao49 t160.length co49], .int .i64 (wrap64 (a4))] rfl gl_ ?_; (with_reducible refine (counter_Run.calls kj5 a0_0 _ _ l0_1 t159 _ _ t160 (wrap64 (a4)) t167 t168 t171 t172 _ ?side1 ?side2 ?side3 ?side4 A30.out).mono ?_); (case side1 => exact Kd.C_below HR0_1.out (bk_ HB.out)); (case side2 => exact HC0_1.out); (case side3 => refine (Kd.R_reads' (e := 3) (base := w.heap.size) (ok := fun k_ => (((w.heap.size ≤ k_) ∧ True) ∧ some k_ ≠ (.slice Ao40 t153.length co40 : Value).ownBlock)) (n := t160.length) (c := co49) ?_).2.2; exact (rz_ HO162.out BK165.out)); (case side4 => exact (Kd.R_reads' HO162.out).2.1); rintro e w51 ⟨v169, rfl, ho0, hb⟩; refine ⟨_, rfl, ?_⟩; have n0_ := A_ (Kd.V_elder' (by (with_reducible repeat (first | apply Kd.V_alloc | apply Kd.V_drewN | apply Kd.V_drew)); exact (Kd.V_mono (Kd.V_far (p := ⟨gb165, 1, none⟩) (Kd.V_far (p := ⟨gb165, 0, none⟩) (Kd.V_mono HO_150001.out (fun k_ hk => (⟨hk, hk.2⟩ : _ ∧ k_ ≠ gb165))) (fun _ hk => hk.2) (.int .i64 t159)) (fun _ hk => hk.2) (.slice Ao49 t160.length co49)) (fun _ h_ => h_.1))) (Kd.R_base ho0) hb); have n1_ := A_ (Kd.R_elder' (rz_ HO155.out BK165.out) (Kd.R_base ho0) hb); have n2_ := A_ (Kd.R_elder' (rz_ HO162.out BK165.out) (Kd.R_base ho0) hb); have n3_ := A_ (Kd.R_lower (Kd.R_new' (Kd.R_new' (Kd.R_newM (M := fun k_ => (w.heap.size ≤ k_)) ho0 (below_size (bk_ HB.out)) (fun k_ h_ => h_)) (Kd.R_lt (rz_ HO155.out BK165.out))) (Kd.R_lt (rz_ HO162.out BK165.out))) (below_size (bk_ HB.out))); have n4_ := A_ (bf_ BK148.out NB148_165.out hb); have n5_ := A_ (bf_ BK149.out NB149_165.out hb); have n6_ := A_ (bf_ BK158.out NB158_165.out hb); have n7_ := A_ (blk_below (g := gb165) (o := .cells #[.int .i64 t159, .slice Ao49 t160.length co49] 27 (0, 0)) (by refine pk_ ?_; refine blk_put (cs := #[.int .i64 t159, .slice none 0 0]) ?_ 1 _ rfl; refine pk_ ?_; refine blk_put (cs := #[.int .i64 0, .slice none 0 0]) ?_ 0 _ rfl; exact pk_ BK165.out) hb); have n8_ := A_ (below_step (bk_ HB.out) hb); clear HO_150001 HO155 HO162 BK148 BK149 BK158 BK165 HB; have HO_150001 := n0_; have HO155 := n1_; have HO162 := n2_; have HO170 := n3_; have BK148 := n4_; have BK149 := n5_; have BK158 := n6_; have BK165 := n7_; have HB := n8_; clear n0_ n1_ n2_ n3_ n4_ n5_ n6_ n7_ n8_; (try clear hb); (try clear hb2); (try clear hk); (try clear hi); (try clear ho0)) | ((with_reducible refine gate_dst (N := 17) rfl ?_); (try (refine gate_guard (by rfl) ?_; dsimp only)); refine box_event ?hg (N := 17) ?hd (cs := #[.int .i64 0, .slice none 0 0]) (t := 27) ?hr ?_; (case hd => rfl); (case hg => rfl); (case hr => first | (go_simp; done) | (go_simp; rfl)); intro gb173 hg w52 hbox hb; have n0_ := A_ (Kd.V_below (Kd.V_elderB (by (with_reducible repeat (first | apply Kd.V_alloc | apply Kd.V_drewN | apply Kd.V_drew)); exact HO_150001.out) gb173 (Nat.le_of_eq hg.symm)) hb); have n1_ := A_ (Kd.R_below (rk_ HO155.out) hb); have n2_ := A_ (Kd.R_below (rk_ HO162.out) hb); have n3_ := A_ (Kd.R_below (rk_ HO170.out) hb); have n4_ := A_ (blk_below (pk_ BK148.out) hb); have n5_ := A_ (blk_below (pk_ BK149.out) hb); have n6_ := A_ (blk_below (pk_ BK158.out) hb); have n7_ := A_ (blk_below (pk_ BK165.out) hb); have n8_ := A_ (below_step (bk_ HB.out) hb); have n9_ := A_ (hbox); have n10_ := A_ (bz_ hg (bk_ HB.out)); have n11_ := A_ (bz_ hg (bk_ HB.out)); have n12_ := A_ (nl_ hg (pk_ BK148.out)); have n13_ := A_ (ng_ hg (pk_ BK148.out)); have n14_ := A_ (nl_ hg (pk_ BK149.out)); have n15_ := A_ (ng_ hg (pk_ BK149.out)); have n16_ := A_ (nl_ hg (pk_ BK158.out)); have n17_ := A_ (ng_ hg (pk_ BK158.out)); have n18_ := A_ (nl_ hg (pk_ BK165.out)); have n19_ := A_ (ng_ hg (pk_ BK165.out)); clear HO_150001 HO155 HO162 HO170 BK148 BK149 BK158 BK165 HB; have HO_150001 := n0_; have HO155 := n1_; have HO162 := n2_; have HO170 := n3_; have BK148 := n4_; have BK149 := n5_; have BK158 := n6_; have BK165 := n7_; have HB := n8_; have BK173 := n9_; have GW173 := n10_; have GE173 := n11_; have NB148_173 := n12_; have NB173_148 := n13_; have NB149_173 := n14_; have NB173_149 := n15_; have NB158_173 := n16_; have NB173_158 := n17_; have NB165_173 := n18_; have NB173_165 := n19_; clear n0_ n1_ n2_ n3_ n4_ n5_ n6_ n7_ n8_ n9_ n10_ n11_ n12_ n13_ n14_ n15_ n16_ n17_ n18_ n19_ hb hbox hg; have hnb53 := NB173_148.out; have hnc53 := NB148_173.out; have hnb54 := NB173_149.out; have hnc54 := NB149_173.out; have hnb55 := NB173_158.out; have hnc55 := NB158_173.out; have hnb56 := NB173_165.out; have hnc56 := NB165_173.out; obtain ⟨hcz57_0, hcz57_1⟩ := bc2_ BK173.out; have hfz57_0 := blk_frozen BK173.out 0; have hfz57_1 := blk_frozen BK173.out 1; obtain ⟨Ao58, co58, eo58⟩ := Kd.R_slice HO170.out; subst eo58))
     (try simp only [Act.put, List.setIfInBounds_toArray, List.set_cons_zero, List.set_cons_succ])
     go_cut [103] (fun v103 wc => ∃ (kq : Nat) (x103_30 : Bool), v103 = .bool x103_30 ∧ Aside0 (standstilllaw06_CounterParts.j1 kq l2 a3 x103_30 a0_0 l0_1 a1_0 l1_1 = some r) ∧ Aside0 (kq ≤ kj5) ∧ Aside0 (Kd.V (Kd.int .i64) 3 wc w.heap.size (fun k_ => (P1_1_ k_ ∨ w.heap.size ≤ k_) ∧ some k_ ≠ ((.slice Ao40 t153.length co40) : Value).ownBlock ∧ some k_ ≠ ((.slice Ao49 t160.length co49) : Value).ownBlock ∧ some k_ ≠ ((.slice Ao58 t168.length co58) : Value).ownBlock ∧ k_ ≠ gb148 ∧ k_ ≠ gb149 ∧ k_ ≠ gb158 ∧ k_ ≠ gb165 ∧ k_ ≠ gb173) (.slice A1_1 l1_1.length c1_1) l1_1) ∧ Aside0 (Kd.R (Kd.int .i64) 3 wc w.heap.size (fun k_ => (w.heap.size ≤ k_) ∧ some k_ ≠ ((.slice Ao49 t160.length co49) : Value).ownBlock ∧ some k_ ≠ ((.slice Ao58 t168.length co58) : Value).ownBlock) (.slice Ao40 t153.length co40) t153) ∧ Aside0 (Kd.R (Kd.int .i64) 3 wc w.heap.size (fun k_ => (w.heap.size ≤ k_) ∧ some k_ ≠ ((.slice Ao40 t153.length co40) : Value).ownBlock ∧ some k_ ≠ ((.slice Ao58 t168.length co58) : Value).ownBlock) (.slice Ao49 t160.length co49) t160) ∧ Aside0 (Kd.R (Kd.int .i64) 3 wc w.heap.size (fun k_ => (w.heap.size ≤ k_) ∧ some k_ ≠ ((.slice Ao40 t153.length co40) : Value).ownBlock ∧ some k_ ≠ ((.slice Ao49 t160.length co49) : Value).ownBlock) (.slice Ao58 t168.length co58) t168) ∧ Aside0 (wc.heap[gb148]? = some (.cells #[.int .i64 a0_0, (.slice A0_1 l0_1.length c0_1)] 24 (0, 0))) ∧ Aside0 (wc.heap[gb149]? = some (.cells #[.int .i64 a1_0, (.slice A1_1 l1_1.length c1_1)] 27 (0, 0))) ∧ Aside0 (wc.heap[gb158]? = some (.cells #[.int .i64 t152, (.slice Ao40 t153.length co40)] 27 (0, 0))) ∧ Aside0 (wc.heap[gb165]? = some (.cells #[.int .i64 t159, (.slice Ao49 t160.length co49)] 27 (0, 0))) ∧ Aside0 (wc.heap[gb173]? = some (.cells #[.int .i64 t167, (.slice Ao58 t168.length co58)] 27 (0, 0))) ∧ Aside0 (Below w.heap.size w wc))
     case first => as_aux_lemma =>
      have H := HC31.out
      clear HC31
      by_cases c59 : t157 = t172
      ·rw [if_pos c59] at H
       have c59b0 : (t157 == t172) = true := beq_iff_eq.mpr c59
       have c59b1 : (t157 != t172) = false := bne_eq_false_iff_eq.mpr c59
       clear c59
       (first | rw [c59b0] | (simp only [i64_w, i32_w]; rw [c59b0]) | skip)
       replace H := Option.bind_eq_some_iff.mp H
       obtain ⟨t174, A600, H⟩ := H
       replace H : (if t174 = true then (if t157 = 0 then (standstilllaw06_CounterParts.j1 kj5 l2 a3 (t156 != (wrap64 (t163 + t171))) a0_0 l0_1 a1_0 l1_1) else (standstilllaw06_CounterParts.j1 kj5 l2 a3 false a0_0 l0_1 a1_0 l1_1)) else (standstilllaw06_CounterParts.j1 kj5 l2 a3 true a0_0 l0_1 a1_0 l1_1)) = some r := H
       have A60 := Aside0.mk A600
       clear A600
       by_cases c61 : t174 = true
       ·subst c61
        have H1 : (if t157 = 0 then (standstilllaw06_CounterParts.j1 kj5 l2 a3 (t156 != (wrap64 (t163 + t171))) a0_0 l0_1 a1_0 l1_1) else (standstilllaw06_CounterParts.j1 kj5 l2 a3 false a0_0 l0_1 a1_0 l1_1)) = some r := by rw [if_pos rfl] at H; exact H
        clear H
        have H := H1
        clear H1
        by_cases c62 : t157 = 0
        ·rw [if_pos c62] at H
         have c62b0 : (t157 == 0) = true := beq_iff_eq.mpr c62
         have c62b1 : (t157 != 0) = false := bne_eq_false_iff_eq.mpr c62
         clear c62
         have H' := Aside0.mk H
         clear H
         have hnb63 := NB158_148.out
         have hnc63 := NB148_158.out
         have hnb64 := NB158_149.out
         have hnc64 := NB149_158.out
         have hnb65 := NB158_165.out
         have hnc65 := NB165_158.out
         have hnb66 := NB158_173.out
         have hnc66 := NB173_158.out
         obtain ⟨hcz67_0, hcz67_1⟩ := bc2_ BK158.out
         have hfz67_0 := blk_frozen BK158.out 0
         have hfz67_1 := blk_frozen BK158.out 1
         have hnb68 := NB173_148.out
         have hnc68 := NB148_173.out
         have hnb69 := NB173_149.out
         have hnc69 := NB149_173.out
         have hnb70 := NB173_165.out
         have hnc70 := NB165_173.out
         obtain ⟨hcz71_0, hcz71_1⟩ := bc2_ BK173.out
         have hfz71_0 := blk_frozen BK173.out 0
         have hfz71_1 := blk_frozen BK173.out 1
         go_wp2_with (first | (go_at_call 16; (with_reducible refine (standstillref06_SameCount.calls kj5 t152 _ _ t153 t167 _ _ t168 true _ ?side1 ?side2 ?side3 ?side4 A60.out).mono ?_); (case side1 => refine (Kd.R_reads' (e := 3) (base := w.heap.size) (ok := fun k_ => ((((w.heap.size ≤ k_) ∧ True) ∧ some k_ ≠ (.slice Ao49 t160.length co49 : Value).ownBlock) ∧ some k_ ≠ (.slice Ao58 t168.length co58 : Value).ownBlock)) (n := t153.length) (c := co40) ?_).2.2; exact (rz_ HO155.out BK173.out)); (case side2 => exact (Kd.R_reads' HO155.out).2.1); (case side3 => refine (Kd.R_reads' (e := 3) (base := w.heap.size) (ok := fun k_ => ((((w.heap.size ≤ k_) ∧ True) ∧ some k_ ≠ (.slice Ao40 t153.length co40 : Value).ownBlock) ∧ some k_ ≠ (.slice Ao49 t160.length co49 : Value).ownBlock)) (n := t168.length) (c := co58) ?_).2.2; exact (rz_ HO170.out BK173.out)); (case side4 => exact (Kd.R_reads' HO170.out).2.1); rintro e w72 ⟨rfl, hb⟩; have n0_ := A_ (Kd.V_below (by (with_reducible repeat (first | apply Kd.V_alloc | apply Kd.V_drewN | apply Kd.V_drew)); exact (Kd.V_mono (Kd.V_far (p := ⟨gb173, 1, none⟩) (Kd.V_far (p := ⟨gb173, 0, none⟩) (Kd.V_mono HO_150001.out (fun k_ hk => (⟨hk, hk.2⟩ : _ ∧ k_ ≠ gb173))) (fun _ hk => hk.2) (.int .i64 t167)) (fun _ hk => hk.2) (.slice Ao58 t168.length co58)) (fun _ h_ => h_.1))) hb); have n1_ := A_ (Kd.R_below (rz_ HO155.out BK173.out) hb); have n2_ := A_ (Kd.R_below (rz_ HO162.out BK173.out) hb); have n3_ := A_ (Kd.R_below (rz_ HO170.out BK173.out) hb); have n4_ := A_ (bf_ BK148.out NB148_173.out hb); have n5_ := A_ (bf_ BK149.out NB149_173.out hb); have n6_ := A_ (bf_ BK158.out NB158_173.out hb); have n7_ := A_ (bf_ BK165.out NB165_173.out hb); have n8_ := A_ (blk_below (g := gb173) (o := .cells #[.int .i64 t167, .slice Ao58 t168.length co58] 27 (0, 0)) (by refine pk_ ?_; refine blk_put (cs := #[.int .i64 t167, .slice none 0 0]) ?_ 1 _ rfl; refine pk_ ?_; refine blk_put (cs := #[.int .i64 0, .slice none 0 0]) ?_ 0 _ rfl; exact pk_ BK173.out) hb); have n9_ := A_ (below_step (bk_ HB.out) hb); clear HO_150001 HO155 HO162 HO170 BK148 BK149 BK158 BK165 BK173 HB; have HO_150001 := n0_; have HO155 := n1_; have HO162 := n2_; have HO170 := n3_; have BK148 := n4_; have BK149 := n5_; have BK158 := n6_; have BK165 := n7_; have BK173 := n8_; have HB := n9_; clear n0_ n1_ n2_ n3_ n4_ n5_ n6_ n7_ n8_ n9_; (try clear hb); (try clear hb2); (try clear hk); (try clear hi)))
         go_meet
         case rel => exact ⟨_, ((t156 != (wrap64 (t163 + t171)))), jr_, H', ⟨by have := HJ5.out; first | omega | exact Nat.le_refl _⟩, ⟨by (with_reducible repeat (first | apply Kd.V_alloc | apply Kd.V_drewN | apply Kd.V_drew)); exact Kd.V_mono HO_150001.out (fun _ hk => ⟨hk.1.1.1.1.1.1.1, ⟨hk.1.1.1.1.1.2, ⟨hk.1.1.1.2, ⟨hk.1.2, ⟨hk.1.1.1.1.1.1.2.1, ⟨hk.1.1.1.1.1.1.2.2, ⟨hk.1.1.1.1.2, ⟨hk.1.1.2, hk.2⟩⟩⟩⟩⟩⟩⟩⟩)⟩, ⟨by (with_reducible repeat (first | apply Kd.R_alloc | apply Kd.R_drewN | apply Kd.R_drew)); exact Kd.R_mono HO155.out (fun _ hk => ⟨hk.1.1.1, ⟨hk.1.2, hk.2⟩⟩)⟩, ⟨by (with_reducible repeat (first | apply Kd.R_alloc | apply Kd.R_drewN | apply Kd.R_drew)); exact Kd.R_mono HO162.out (fun _ hk => ⟨hk.1.1.1, ⟨hk.1.2, hk.2⟩⟩)⟩, ⟨by (with_reducible repeat (first | apply Kd.R_alloc | apply Kd.R_drewN | apply Kd.R_drew)); exact Kd.R_mono HO170.out (fun _ hk => ⟨hk.1.1.1, ⟨hk.1.2, hk.2⟩⟩)⟩, ⟨pk_ BK148.out⟩, ⟨pk_ BK149.out⟩, ⟨pk_ BK158.out⟩, ⟨pk_ BK165.out⟩, ⟨pk_ BK173.out⟩, ⟨bk_ HB.out⟩⟩
        ·rw [if_neg c62] at H
         have c62b0 : (t157 == 0) = false := beq_eq_false_iff_ne.mpr c62
         have c62b1 : (t157 != 0) = true := bne_iff_ne.mpr c62
         have H' := Aside0.mk H
         clear H
         have hnb73 := NB158_148.out
         have hnc73 := NB148_158.out
         have hnb74 := NB158_149.out
         have hnc74 := NB149_158.out
         have hnb75 := NB158_165.out
         have hnc75 := NB165_158.out
         have hnb76 := NB158_173.out
         have hnc76 := NB173_158.out
         obtain ⟨hcz77_0, hcz77_1⟩ := bc2_ BK158.out
         have hfz77_0 := blk_frozen BK158.out 0
         have hfz77_1 := blk_frozen BK158.out 1
         have hnb78 := NB173_148.out
         have hnc78 := NB148_173.out
         have hnb79 := NB173_149.out
         have hnc79 := NB149_173.out
         have hnb80 := NB173_165.out
         have hnc80 := NB165_173.out
         obtain ⟨hcz81_0, hcz81_1⟩ := bc2_ BK173.out
         have hfz81_0 := blk_frozen BK173.out 0
         have hfz81_1 := blk_frozen BK173.out 1
         go_wp2_with (first | (go_at_call 16; (with_reducible refine (standstillref06_SameCount.calls kj5 t152 _ _ t153 t167 _ _ t168 true _ ?side1 ?side2 ?side3 ?side4 A60.out).mono ?_); (case side1 => refine (Kd.R_reads' (e := 3) (base := w.heap.size) (ok := fun k_ => ((((w.heap.size ≤ k_) ∧ True) ∧ some k_ ≠ (.slice Ao49 t160.length co49 : Value).ownBlock) ∧ some k_ ≠ (.slice Ao58 t168.length co58 : Value).ownBlock)) (n := t153.length) (c := co40) ?_).2.2; exact (rz_ HO155.out BK173.out)); (case side2 => exact (Kd.R_reads' HO155.out).2.1); (case side3 => refine (Kd.R_reads' (e := 3) (base := w.heap.size) (ok := fun k_ => ((((w.heap.size ≤ k_) ∧ True) ∧ some k_ ≠ (.slice Ao40 t153.length co40 : Value).ownBlock) ∧ some k_ ≠ (.slice Ao49 t160.length co49 : Value).ownBlock)) (n := t168.length) (c := co58) ?_).2.2; exact (rz_ HO170.out BK173.out)); (case side4 => exact (Kd.R_reads' HO170.out).2.1); rintro e w82 ⟨rfl, hb⟩; have n0_ := A_ (Kd.V_below (by (with_reducible repeat (first | apply Kd.V_alloc | apply Kd.V_drewN | apply Kd.V_drew)); exact (Kd.V_mono (Kd.V_far (p := ⟨gb173, 1, none⟩) (Kd.V_far (p := ⟨gb173, 0, none⟩) (Kd.V_mono HO_150001.out (fun k_ hk => (⟨hk, hk.2⟩ : _ ∧ k_ ≠ gb173))) (fun _ hk => hk.2) (.int .i64 t167)) (fun _ hk => hk.2) (.slice Ao58 t168.length co58)) (fun _ h_ => h_.1))) hb); have n1_ := A_ (Kd.R_below (rz_ HO155.out BK173.out) hb); have n2_ := A_ (Kd.R_below (rz_ HO162.out BK173.out) hb); have n3_ := A_ (Kd.R_below (rz_ HO170.out BK173.out) hb); have n4_ := A_ (bf_ BK148.out NB148_173.out hb); have n5_ := A_ (bf_ BK149.out NB149_173.out hb); have n6_ := A_ (bf_ BK158.out NB158_173.out hb); have n7_ := A_ (bf_ BK165.out NB165_173.out hb); have n8_ := A_ (blk_below (g := gb173) (o := .cells #[.int .i64 t167, .slice Ao58 t168.length co58] 27 (0, 0)) (by refine pk_ ?_; refine blk_put (cs := #[.int .i64 t167, .slice none 0 0]) ?_ 1 _ rfl; refine pk_ ?_; refine blk_put (cs := #[.int .i64 0, .slice none 0 0]) ?_ 0 _ rfl; exact pk_ BK173.out) hb); have n9_ := A_ (below_step (bk_ HB.out) hb); clear HO_150001 HO155 HO162 HO170 BK148 BK149 BK158 BK165 BK173 HB; have HO_150001 := n0_; have HO155 := n1_; have HO162 := n2_; have HO170 := n3_; have BK148 := n4_; have BK149 := n5_; have BK158 := n6_; have BK165 := n7_; have BK173 := n8_; have HB := n9_; clear n0_ n1_ n2_ n3_ n4_ n5_ n6_ n7_ n8_ n9_; (try clear hb); (try clear hb2); (try clear hk); (try clear hi)))
         go_meet
         case rel => exact ⟨_, (false), jr_, H', ⟨by have := HJ5.out; first | omega | exact Nat.le_refl _⟩, ⟨by (with_reducible repeat (first | apply Kd.V_alloc | apply Kd.V_drewN | apply Kd.V_drew)); exact Kd.V_mono HO_150001.out (fun _ hk => ⟨hk.1.1.1.1.1.1.1, ⟨hk.1.1.1.1.1.2, ⟨hk.1.1.1.2, ⟨hk.1.2, ⟨hk.1.1.1.1.1.1.2.1, ⟨hk.1.1.1.1.1.1.2.2, ⟨hk.1.1.1.1.2, ⟨hk.1.1.2, hk.2⟩⟩⟩⟩⟩⟩⟩⟩)⟩, ⟨by (with_reducible repeat (first | apply Kd.R_alloc | apply Kd.R_drewN | apply Kd.R_drew)); exact Kd.R_mono HO155.out (fun _ hk => ⟨hk.1.1.1, ⟨hk.1.2, hk.2⟩⟩)⟩, ⟨by (with_reducible repeat (first | apply Kd.R_alloc | apply Kd.R_drewN | apply Kd.R_drew)); exact Kd.R_mono HO162.out (fun _ hk => ⟨hk.1.1.1, ⟨hk.1.2, hk.2⟩⟩)⟩, ⟨by (with_reducible repeat (first | apply Kd.R_alloc | apply Kd.R_drewN | apply Kd.R_drew)); exact Kd.R_mono HO170.out (fun _ hk => ⟨hk.1.1.1, ⟨hk.1.2, hk.2⟩⟩)⟩, ⟨pk_ BK148.out⟩, ⟨pk_ BK149.out⟩, ⟨pk_ BK158.out⟩, ⟨pk_ BK165.out⟩, ⟨pk_ BK173.out⟩, ⟨bk_ HB.out⟩⟩
       ·replace c61 := Bool.eq_false_iff.mpr c61
        subst c61
        have H1 : (standstilllaw06_CounterParts.j1 kj5 l2 a3 true a0_0 l0_1 a1_0 l1_1) = some r := by rw [if_neg (show ¬ (false = true) by decide)] at H; exact H
        clear H
        have H := H1
        clear H1
        have H' := Aside0.mk H
        clear H
        have hnb83 := NB158_148.out
        have hnc83 := NB148_158.out
        have hnb84 := NB158_149.out
        have hnc84 := NB149_158.out
        have hnb85 := NB158_165.out
        have hnc85 := NB165_158.out
        have hnb86 := NB158_173.out
        have hnc86 := NB173_158.out
        obtain ⟨hcz87_0, hcz87_1⟩ := bc2_ BK158.out
        have hfz87_0 := blk_frozen BK158.out 0
        have hfz87_1 := blk_frozen BK158.out 1
        have hnb88 := NB173_148.out
        have hnc88 := NB148_173.out
        have hnb89 := NB173_149.out
        have hnc89 := NB149_173.out
        have hnb90 := NB173_165.out
        have hnc90 := NB165_173.out
        obtain ⟨hcz91_0, hcz91_1⟩ := bc2_ BK173.out
        have hfz91_0 := blk_frozen BK173.out 0
        have hfz91_1 := blk_frozen BK173.out 1
        go_wp2_with (first | (go_at_call 16; (with_reducible refine (standstillref06_SameCount.calls kj5 t152 _ _ t153 t167 _ _ t168 false _ ?side1 ?side2 ?side3 ?side4 A60.out).mono ?_); (case side1 => refine (Kd.R_reads' (e := 3) (base := w.heap.size) (ok := fun k_ => ((((w.heap.size ≤ k_) ∧ True) ∧ some k_ ≠ (.slice Ao49 t160.length co49 : Value).ownBlock) ∧ some k_ ≠ (.slice Ao58 t168.length co58 : Value).ownBlock)) (n := t153.length) (c := co40) ?_).2.2; exact (rz_ HO155.out BK173.out)); (case side2 => exact (Kd.R_reads' HO155.out).2.1); (case side3 => refine (Kd.R_reads' (e := 3) (base := w.heap.size) (ok := fun k_ => ((((w.heap.size ≤ k_) ∧ True) ∧ some k_ ≠ (.slice Ao40 t153.length co40 : Value).ownBlock) ∧ some k_ ≠ (.slice Ao49 t160.length co49 : Value).ownBlock)) (n := t168.length) (c := co58) ?_).2.2; exact (rz_ HO170.out BK173.out)); (case side4 => exact (Kd.R_reads' HO170.out).2.1); rintro e w92 ⟨rfl, hb⟩; have n0_ := A_ (Kd.V_below (by (with_reducible repeat (first | apply Kd.V_alloc | apply Kd.V_drewN | apply Kd.V_drew)); exact (Kd.V_mono (Kd.V_far (p := ⟨gb173, 1, none⟩) (Kd.V_far (p := ⟨gb173, 0, none⟩) (Kd.V_mono HO_150001.out (fun k_ hk => (⟨hk, hk.2⟩ : _ ∧ k_ ≠ gb173))) (fun _ hk => hk.2) (.int .i64 t167)) (fun _ hk => hk.2) (.slice Ao58 t168.length co58)) (fun _ h_ => h_.1))) hb); have n1_ := A_ (Kd.R_below (rz_ HO155.out BK173.out) hb); have n2_ := A_ (Kd.R_below (rz_ HO162.out BK173.out) hb); have n3_ := A_ (Kd.R_below (rz_ HO170.out BK173.out) hb); have n4_ := A_ (bf_ BK148.out NB148_173.out hb); have n5_ := A_ (bf_ BK149.out NB149_173.out hb); have n6_ := A_ (bf_ BK158.out NB158_173.out hb); have n7_ := A_ (bf_ BK165.out NB165_173.out hb); have n8_ := A_ (blk_below (g := gb173) (o := .cells #[.int .i64 t167, .slice Ao58 t168.length co58] 27 (0, 0)) (by refine pk_ ?_; refine blk_put (cs := #[.int .i64 t167, .slice none 0 0]) ?_ 1 _ rfl; refine pk_ ?_; refine blk_put (cs := #[.int .i64 0, .slice none 0 0]) ?_ 0 _ rfl; exact pk_ BK173.out) hb); have n9_ := A_ (below_step (bk_ HB.out) hb); clear HO_150001 HO155 HO162 HO170 BK148 BK149 BK158 BK165 BK173 HB; have HO_150001 := n0_; have HO155 := n1_; have HO162 := n2_; have HO170 := n3_; have BK148 := n4_; have BK149 := n5_; have BK158 := n6_; have BK165 := n7_; have BK173 := n8_; have HB := n9_; clear n0_ n1_ n2_ n3_ n4_ n5_ n6_ n7_ n8_ n9_; (try clear hb); (try clear hb2); (try clear hk); (try clear hi)))
        go_meet
        case rel => exact ⟨_, (true), jr_, H', ⟨by have := HJ5.out; first | omega | exact Nat.le_refl _⟩, ⟨by (with_reducible repeat (first | apply Kd.V_alloc | apply Kd.V_drewN | apply Kd.V_drew)); exact Kd.V_mono HO_150001.out (fun _ hk => ⟨hk.1.1.1.1.1.1.1, ⟨hk.1.1.1.1.1.2, ⟨hk.1.1.1.2, ⟨hk.1.2, ⟨hk.1.1.1.1.1.1.2.1, ⟨hk.1.1.1.1.1.1.2.2, ⟨hk.1.1.1.1.2, ⟨hk.1.1.2, hk.2⟩⟩⟩⟩⟩⟩⟩⟩)⟩, ⟨by (with_reducible repeat (first | apply Kd.R_alloc | apply Kd.R_drewN | apply Kd.R_drew)); exact Kd.R_mono HO155.out (fun _ hk => ⟨hk.1.1.1, ⟨hk.1.2, hk.2⟩⟩)⟩, ⟨by (with_reducible repeat (first | apply Kd.R_alloc | apply Kd.R_drewN | apply Kd.R_drew)); exact Kd.R_mono HO162.out (fun _ hk => ⟨hk.1.1.1, ⟨hk.1.2, hk.2⟩⟩)⟩, ⟨by (with_reducible repeat (first | apply Kd.R_alloc | apply Kd.R_drewN | apply Kd.R_drew)); exact Kd.R_mono HO170.out (fun _ hk => ⟨hk.1.1.1, ⟨hk.1.2, hk.2⟩⟩)⟩, ⟨pk_ BK148.out⟩, ⟨pk_ BK149.out⟩, ⟨pk_ BK158.out⟩, ⟨pk_ BK165.out⟩, ⟨pk_ BK173.out⟩, ⟨bk_ HB.out⟩⟩
      ·rw [if_neg c59] at H
       have c59b0 : (t157 == t172) = false := beq_eq_false_iff_ne.mpr c59
       have c59b1 : (t157 != t172) = true := bne_iff_ne.mpr c59
       (first | rw [c59b0] | (simp only [i64_w, i32_w]; rw [c59b0]) | skip)
       have H' := Aside0.mk H
       clear H
       go_wp2
       go_meet
       case rel => exact ⟨_, (true), jr_, H', ⟨by have := HJ5.out; first | omega | exact Nat.le_refl _⟩, ⟨by (with_reducible repeat (first | apply Kd.V_alloc | apply Kd.V_drewN | apply Kd.V_drew)); exact Kd.V_mono (Kd.V_far (p := ⟨gb173, 1, none⟩) (Kd.V_far (p := ⟨gb173, 0, none⟩) (Kd.V_mono HO_150001.out (fun k_ hk => (⟨hk, hk.2⟩ : _ ∧ k_ ≠ gb173))) (fun _ hk => hk.2) (.int .i64 t167)) (fun _ hk => hk.2) (.slice Ao58 t168.length co58)) (fun _ hk => ⟨hk.1.1.1.1.1.1.1.1, ⟨hk.1.1.1.1.1.1.2, ⟨hk.1.1.1.1.2, ⟨hk.1.1.2, ⟨hk.1.1.1.1.1.1.1.2.1, ⟨hk.1.1.1.1.1.1.1.2.2, ⟨hk.1.1.1.1.1.2, ⟨hk.1.1.1.2, hk.1.2⟩⟩⟩⟩⟩⟩⟩⟩)⟩, ⟨by (with_reducible repeat (first | apply Kd.R_alloc | apply Kd.R_drewN | apply Kd.R_drew)); exact Kd.R_mono (rf2_ (Kd.R_types HO155.out BK173.out (by decide))) (fun _ hk => ⟨hk.1.1.1.1, ⟨hk.1.1.2, hk.1.2⟩⟩)⟩, ⟨by (with_reducible repeat (first | apply Kd.R_alloc | apply Kd.R_drewN | apply Kd.R_drew)); exact Kd.R_mono (rf2_ (Kd.R_types HO162.out BK173.out (by decide))) (fun _ hk => ⟨hk.1.1.1.1, ⟨hk.1.1.2, hk.1.2⟩⟩)⟩, ⟨by (with_reducible repeat (first | apply Kd.R_alloc | apply Kd.R_drewN | apply Kd.R_drew)); exact Kd.R_mono (rf2_ (Kd.R_types HO170.out BK173.out (by decide))) (fun _ hk => ⟨hk.1.1.1.1, ⟨hk.1.1.2, hk.1.2⟩⟩)⟩, ⟨by (iterate 2 (refine pk_ ?_; refine blk_far ?_ NB148_173.out _)); exact pk_ BK148.out⟩, ⟨by (iterate 2 (refine pk_ ?_; refine blk_far ?_ NB149_173.out _)); exact pk_ BK149.out⟩, ⟨by (iterate 2 (refine pk_ ?_; refine blk_far ?_ NB158_173.out _)); exact pk_ BK158.out⟩, ⟨by (iterate 2 (refine pk_ ?_; refine blk_far ?_ NB165_173.out _)); exact pk_ BK165.out⟩, ⟨by refine pk_ ?_; refine blk_put (cs := #[.int .i64 t167, .slice none 0 0]) ?_ 1 _ rfl; refine pk_ ?_; refine blk_put (cs := #[.int .i64 0, .slice none 0 0]) ?_ 0 _ rfl; exact pk_ BK173.out⟩, ⟨bk_ HB.out⟩⟩
     case rest => as_aux_lemma =>
      clear HC31
      (try clear c2); (try clear c24); (try clear c29); (try clear c29b0); (try clear c29b1); (try clear hcz33_0); (try clear hcz33_1); (try clear hcz34_0); (try clear hcz34_1); (try clear hcz39_0); (try clear hcz39_1); (try clear hcz41_0); (try clear hcz41_1); (try clear hcz42_0); (try clear hcz42_1); (try clear hcz48_0); (try clear hcz48_1); (try clear hcz50_0); (try clear hcz50_1); (try clear hcz57_0); (try clear hcz57_1); (try clear hfz33_0); (try clear hfz33_1); (try clear hfz34_0); (try clear hfz34_1); (try clear hfz39_0); (try clear hfz39_1); (try clear hfz41_0); (try clear hfz41_1); (try clear hfz42_0); (try clear hfz42_1); (try clear hfz48_0); (try clear hfz48_1); (try clear hfz50_0); (try clear hfz50_1); (try clear hfz57_0); (try clear hfz57_1)
      obtain ⟨kq, x103_30, rfl, HA, HJ30, HO_150001, HO_159001, HO_166001, HO_174001, BK148, BK149, BK158, BK165, BK173, HB⟩ := hcut
      cases kq with
      | zero => exact absurd HA.out (by simp [standstilllaw06_CounterParts.j1])
      | succ kj30 =>
       have H := HA.out
       clear HA
       simp only [standstilllaw06_CounterParts.j1] at H
       by_cases c93 : x103_30 = true
       ·subst c93
        have H1 : (none) = some r := by rw [if_pos rfl] at H; exact H
        clear H
        have H := H1
        clear H1
        exact absurd H (by simp)
       ·replace c93 := Bool.eq_false_iff.mpr c93
        subst c93
        have H1 : ((counter_Until.f kj30 a0_0 l0_1 a1_0 l1_1 l2 (wrap64 (a3))).bind fun bt175 => (if bt175.2.2.2 = 0 then ((counter_Run.f kj30 a0_0 l0_1 a1_0 l1_1 bt175.2.2.1).bind fun bt184 => (if bt184.2.2.2 = 0 then (if bt184.2.2.1 = bt175.2.2.1 then ((standstillref06_SameCount.f kj30 bt175.1 bt175.2.1 bt184.1 bt184.2.1).bind fun t191 => (if t191 = true then ((standstillref06_In.f kj30 bt175.1 l2).bind fun t192 => (if t192 = true then (if bt175.2.2.1 < 1 then (standstilllaw06_CounterParts.j2 kj30 l2 bt175.2.2.1 true a0_0 l0_1 a1_0 l1_1) else (standstilllaw06_CounterParts.j2 kj30 l2 bt175.2.2.1 (decide (bt175.2.2.1 > (wrap64 (a3)))) a0_0 l0_1 a1_0 l1_1)) else (standstilllaw06_CounterParts.j2 kj30 l2 bt175.2.2.1 true a0_0 l0_1 a1_0 l1_1))) else (standstilllaw06_CounterParts.j2 kj30 l2 bt175.2.2.1 true a0_0 l0_1 a1_0 l1_1))) else (standstilllaw06_CounterParts.j2 kj30 l2 bt175.2.2.1 true a0_0 l0_1 a1_0 l1_1)) else (standstilllaw06_CounterParts.j2 kj30 l2 bt175.2.2.1 true a0_0 l0_1 a1_0 l1_1))) else (if bt175.2.2.2 = 6 then ((standstilllaw06_awake.f kj30).bind fun t182 => (some t182)) else (if bt175.2.2.2 = 2 then ((standstilllaw06_awake.f kj30).bind fun t183 => (some t183)) else (none))))) = some r := by rw [if_neg (show ¬ (false = true) by decide)] at H; exact H
        clear H
        have H := H1
        clear H1
        replace H := Option.bind_eq_some_iff.mp H
        obtain ⟨⟨t175, t176, t179, t180⟩, A940, H⟩ := H
        replace H : (if t180 = 0 then ((counter_Run.f kj30 a0_0 l0_1 a1_0 l1_1 t179).bind fun bt184 => (if bt184.2.2.2 = 0 then (if bt184.2.2.1 = t179 then ((standstillref06_SameCount.f kj30 t175 t176 bt184.1 bt184.2.1).bind fun t191 => (if t191 = true then ((standstillref06_In.f kj30 t175 l2).bind fun t192 => (if t192 = true then (if t179 < 1 then (standstilllaw06_CounterParts.j2 kj30 l2 t179 true a0_0 l0_1 a1_0 l1_1) else (standstilllaw06_CounterParts.j2 kj30 l2 t179 (decide (t179 > (wrap64 (a3)))) a0_0 l0_1 a1_0 l1_1)) else (standstilllaw06_CounterParts.j2 kj30 l2 t179 true a0_0 l0_1 a1_0 l1_1))) else (standstilllaw06_CounterParts.j2 kj30 l2 t179 true a0_0 l0_1 a1_0 l1_1))) else (standstilllaw06_CounterParts.j2 kj30 l2 t179 true a0_0 l0_1 a1_0 l1_1)) else (standstilllaw06_CounterParts.j2 kj30 l2 t179 true a0_0 l0_1 a1_0 l1_1))) else (if t180 = 6 then ((standstilllaw06_awake.f kj30).bind fun t182 => (some t182)) else (if t180 = 2 then ((standstilllaw06_awake.f kj30).bind fun t183 => (some t183)) else (none)))) = some r := H
        have A94 := Aside0.mk A940
        clear A940
        by_cases c95 : t180 = 0
        ·rw [if_pos c95] at H
         have c95b0 : (t180 == 0) = true := beq_iff_eq.mpr c95
         have c95b1 : (t180 != 0) = false := bne_eq_false_iff_eq.mpr c95
         clear c95
         replace H := Option.bind_eq_some_iff.mp H
         obtain ⟨⟨t184, t185, t188, t189⟩, A960, H⟩ := H
         replace H : (if t189 = 0 then (if t188 = t179 then ((standstillref06_SameCount.f kj30 t175 t176 t184 t185).bind fun t191 => (if t191 = true then ((standstillref06_In.f kj30 t175 l2).bind fun t192 => (if t192 = true then (if t179 < 1 then (standstilllaw06_CounterParts.j2 kj30 l2 t179 true a0_0 l0_1 a1_0 l1_1) else (standstilllaw06_CounterParts.j2 kj30 l2 t179 (decide (t179 > (wrap64 (a3)))) a0_0 l0_1 a1_0 l1_1)) else (standstilllaw06_CounterParts.j2 kj30 l2 t179 true a0_0 l0_1 a1_0 l1_1))) else (standstilllaw06_CounterParts.j2 kj30 l2 t179 true a0_0 l0_1 a1_0 l1_1))) else (standstilllaw06_CounterParts.j2 kj30 l2 t179 true a0_0 l0_1 a1_0 l1_1)) else (standstilllaw06_CounterParts.j2 kj30 l2 t179 true a0_0 l0_1 a1_0 l1_1)) = some r := H
         have A96 := Aside0.mk A960
         clear A960
         have HC97 := Aside0.mk H
         clear H
         have hnb98 := NB148_149.out
         have hnc98 := NB149_148.out
         have hnb99 := NB148_158.out
         have hnc99 := NB158_148.out
         have hnb100 := NB148_165.out
         have hnc100 := NB165_148.out
         have hnb101 := NB148_173.out
         have hnc101 := NB173_148.out
         obtain ⟨hcz102_0, hcz102_1⟩ := bc2_ BK148.out
         have hfz102_0 := blk_frozen BK148.out 0
         have hfz102_1 := blk_frozen BK148.out 1
         have hnb103 := NB149_158.out
         have hnc103 := NB158_149.out
         have hnb104 := NB149_165.out
         have hnc104 := NB165_149.out
         have hnb105 := NB149_173.out
         have hnc105 := NB173_149.out
         obtain ⟨hcz106_0, hcz106_1⟩ := bc2_ BK149.out
         have hfz106_0 := blk_frozen BK149.out 0
         have hfz106_1 := blk_frozen BK149.out 1
         go_upto_region 14 with (first | ((with_reducible refine gate_callee (f := 20) rfl ?_); refine goesL_ (some 110) rfl rfl Try.func20 (by kernel_rfl) rfl #[.agg #[.int .i64 a0_0, .slice A0_1 l0_1.length c0_1], .agg #[.int .i64 a1_0, .slice A1_1 l1_1.length c1_1], .slice A2 l2.length c2, .int .i64 (wrap64 (a3))] rfl gl_ ?_; (with_reducible refine (counter_Until.calls kj30 a0_0 _ _ l0_1 a1_0 _ _ l1_1 _ _ l2 (wrap64 (a3)) t175 t176 t179 t180 _ ?side1 ?side2 ?side3 ?side4 ?side5 ?side6 A94.out).mono ?_); (case side1 => exact ck_ (Kd.C_below HR0_1.out HB.out)); (case side2 => exact HC0_1.out); (case side3 => repeat (first | exact (Kd.V_reads' HO_150001.out).2.2 | (with_reducible refine Kd.C_alloc ?_ _) | (with_reducible refine Kd.C_drewN ?_ _) | (with_reducible refine Kd.C_drew ?_))); (case side4 => exact (Kd.V_reads' HO_150001.out).2.1); (case side5 => exact ck_ (Kd.C_below HR2.out HB.out)); (case side6 => exact HC2.out); rintro e w107 ⟨v177, rfl, ho0, hb⟩; refine ⟨_, rfl, ?_⟩; have n0_ := A_ (Kd.V_elder' (by (with_reducible repeat (first | apply Kd.V_alloc | apply Kd.V_drewN | apply Kd.V_drew)); exact HO_150001.out) (Kd.R_base ho0) hb); have n1_ := A_ (Kd.R_elder' (rk_ HO_159001.out) (Kd.R_base ho0) hb); have n2_ := A_ (Kd.R_elder' (rk_ HO_166001.out) (Kd.R_base ho0) hb); have n3_ := A_ (Kd.R_elder' (rk_ HO_174001.out) (Kd.R_base ho0) hb); have n4_ := A_ (Kd.R_lower (Kd.R_new' (Kd.R_new' (Kd.R_new' (Kd.R_newM (M := fun k_ => (w.heap.size ≤ k_)) ho0 (below_size (bk_ HB.out)) (fun k_ h_ => h_)) (Kd.R_lt (rk_ HO_159001.out))) (Kd.R_lt (rk_ HO_166001.out))) (Kd.R_lt (rk_ HO_174001.out))) (below_size (bk_ HB.out))); have n5_ := A_ (blk_below (pk_ BK148.out) hb); have n6_ := A_ (blk_below (pk_ BK149.out) hb); have n7_ := A_ (blk_below (pk_ BK158.out) hb); have n8_ := A_ (blk_below (pk_ BK165.out) hb); have n9_ := A_ (blk_below (pk_ BK173.out) hb); have n10_ := A_ (below_step (bk_ HB.out) hb); clear HO_150001 HO_159001 HO_166001 HO_174001 BK148 BK149 BK158 BK165 BK173 HB; have HO_150001 := n0_; have HO_159001 := n1_; have HO_166001 := n2_; have HO_174001 := n3_; have HO178 := n4_; have BK148 := n5_; have BK149 := n6_; have BK158 := n7_; have BK165 := n8_; have BK173 := n9_; have HB := n10_; clear n0_ n1_ n2_ n3_ n4_ n5_ n6_ n7_ n8_ n9_ n10_; (try clear hb); (try clear hb2); (try clear hk); (try clear hi); (try clear ho0)) | ((with_reducible refine gate_dst (N := 20) rfl ?_); (try (refine gate_guard (by rfl) ?_; dsimp only)); refine box_event ?hg (N := 20) ?hd (cs := #[.int .i64 0, .slice none 0 0]) (t := 27) ?hr ?_; (case hd => rfl); (case hg => rfl); (case hr => first | (go_simp; done) | (go_simp; rfl)); intro gb181 hg w108 hbox hb; have n0_ := A_ (Kd.V_below (Kd.V_elderB (by (with_reducible repeat (first | apply Kd.V_alloc | apply Kd.V_drewN | apply Kd.V_drew)); exact HO_150001.out) gb181 (Nat.le_of_eq hg.symm)) hb); have n1_ := A_ (Kd.R_below (rk_ HO_159001.out) hb); have n2_ := A_ (Kd.R_below (rk_ HO_166001.out) hb); have n3_ := A_ (Kd.R_below (rk_ HO_174001.out) hb); have n4_ := A_ (Kd.R_below (rk_ HO178.out) hb); have n5_ := A_ (blk_below (pk_ BK148.out) hb); have n6_ := A_ (blk_below (pk_ BK149.out) hb); have n7_ := A_ (blk_below (pk_ BK158.out) hb); have n8_ := A_ (blk_below (pk_ BK165.out) hb); have n9_ := A_ (blk_below (pk_ BK173.out) hb); have n10_ := A_ (below_step (bk_ HB.out) hb); have n11_ := A_ (hbox); have n12_ := A_ (bz_ hg (bk_ HB.out)); have n13_ := A_ (bz_ hg (bk_ HB.out)); have n14_ := A_ (nl_ hg (pk_ BK148.out)); have n15_ := A_ (ng_ hg (pk_ BK148.out)); have n16_ := A_ (nl_ hg (pk_ BK149.out)); have n17_ := A_ (ng_ hg (pk_ BK149.out)); have n18_ := A_ (nl_ hg (pk_ BK158.out)); have n19_ := A_ (ng_ hg (pk_ BK158.out)); have n20_ := A_ (nl_ hg (pk_ BK165.out)); have n21_ := A_ (ng_ hg (pk_ BK165.out)); have n22_ := A_ (nl_ hg (pk_ BK173.out)); have n23_ := A_ (ng_ hg (pk_ BK173.out)); clear HO_150001 HO_159001 HO_166001 HO_174001 HO178 BK148 BK149 BK158 BK165 BK173 HB; have HO_150001 := n0_; have HO_159001 := n1_; have HO_166001 := n2_; have HO_174001 := n3_; have HO178 := n4_; have BK148 := n5_; have BK149 := n6_; have BK158 := n7_; have BK165 := n8_; have BK173 := n9_; have HB := n10_; have BK181 := n11_; have GW181 := n12_; have GE181 := n13_; have NB148_181 := n14_; have NB181_148 := n15_; have NB149_181 := n16_; have NB181_149 := n17_; have NB158_181 := n18_; have NB181_158 := n19_; have NB165_181 := n20_; have NB181_165 := n21_; have NB173_181 := n22_; have NB181_173 := n23_; clear n0_ n1_ n2_ n3_ n4_ n5_ n6_ n7_ n8_ n9_ n10_ n11_ n12_ n13_ n14_ n15_ n16_ n17_ n18_ n19_ n20_ n21_ n22_ n23_ hb hbox hg; have hnb109 := NB181_148.out; have hnc109 := NB148_181.out; have hnb110 := NB181_149.out; have hnc110 := NB149_181.out; have hnb111 := NB181_158.out; have hnc111 := NB158_181.out; have hnb112 := NB181_165.out; have hnc112 := NB165_181.out; have hnb113 := NB181_173.out; have hnc113 := NB173_181.out; obtain ⟨hcz114_0, hcz114_1⟩ := bc2_ BK181.out; have hfz114_0 := blk_frozen BK181.out 0; have hfz114_1 := blk_frozen BK181.out 1; obtain ⟨Ao115, co115, eo115⟩ := Kd.R_slice HO178.out; subst eo115; obtain ⟨hcz116_0, hcz116_1⟩ := bc2_ BK148.out; have hfz116_0 := blk_frozen BK148.out 0; have hfz116_1 := blk_frozen BK148.out 1; obtain ⟨hcz117_0, hcz117_1⟩ := bc2_ BK149.out; have hfz117_0 := blk_frozen BK149.out 0; have hfz117_1 := blk_frozen BK149.out 1) | ((with_reducible refine gate_callee (f := 11) rfl ?_); refine goesL_ (some 129) rfl rfl Try.func11 (by kernel_rfl) rfl #[.agg #[.int .i64 a0_0, .slice A0_1 l0_1.length c0_1], .agg #[.int .i64 a1_0, .slice A1_1 l1_1.length c1_1], .int .i64 t179] rfl gl_ ?_; (with_reducible refine (counter_Run.calls kj30 a0_0 _ _ l0_1 a1_0 _ _ l1_1 t179 t184 t185 t188 t189 _ ?side1 ?side2 ?side3 ?side4 A96.out).mono ?_); (case side1 => exact Kd.C_below HR0_1.out (bk_ HB.out)); (case side2 => exact HC0_1.out); (case side3 => refine (Kd.V_reads' (e := 3) (base := w.heap.size) (ok := fun k_ => ((((P1_1_ k_ ∨ w.heap.size ≤ k_) ∧ (some k_ ≠ (.slice Ao40 t153.length co40 : Value).ownBlock ∧ (some k_ ≠ (.slice Ao49 t160.length co49 : Value).ownBlock ∧ (some k_ ≠ (.slice Ao58 t168.length co58 : Value).ownBlock ∧ (k_ ≠ gb148 ∧ (k_ ≠ gb149 ∧ (k_ ≠ gb158 ∧ (k_ ≠ gb165 ∧ k_ ≠ gb173)))))))) ∧ some k_ ≠ (.slice Ao115 t176.length co115 : Value).ownBlock) ∧ k_ ≠ gb181)) (n := l1_1.length) (c := c1_1) ?_).2.2; exact (by (with_reducible repeat (first | apply Kd.V_alloc | apply Kd.V_drewN | apply Kd.V_drew)); exact (Kd.V_mono (Kd.V_far (p := ⟨gb181, 1, none⟩) (Kd.V_far (p := ⟨gb181, 0, none⟩) (Kd.V_mono HO_150001.out (fun k_ hk => (⟨hk, hk.2⟩ : _ ∧ k_ ≠ gb181))) (fun _ hk => hk.2) (.int .i64 t175)) (fun _ hk => hk.2) (.slice Ao115 t176.length co115)) (fun _ h_ => h_.1)))); (case side4 => exact (Kd.V_reads' HO_150001.out).2.1); rintro e w118 ⟨v186, rfl, ho0, hb⟩; refine ⟨_, rfl, ?_⟩; have n0_ := A_ (Kd.V_elder' (by (with_reducible repeat (first | apply Kd.V_alloc | apply Kd.V_drewN | apply Kd.V_drew)); exact (Kd.V_mono (Kd.V_far (p := ⟨gb181, 1, none⟩) (Kd.V_far (p := ⟨gb181, 0, none⟩) (Kd.V_mono HO_150001.out (fun k_ hk => (⟨hk, hk.2⟩ : _ ∧ k_ ≠ gb181))) (fun _ hk => hk.2) (.int .i64 t175)) (fun _ hk => hk.2) (.slice Ao115 t176.length co115)) (fun _ h_ => h_.1))) (Kd.R_base ho0) hb); have n1_ := A_ (Kd.R_elder' (rz_ HO_159001.out BK181.out) (Kd.R_base ho0) hb); have n2_ := A_ (Kd.R_elder' (rz_ HO_166001.out BK181.out) (Kd.R_base ho0) hb); have n3_ := A_ (Kd.R_elder' (rz_ HO_174001.out BK181.out) (Kd.R_base ho0) hb); have n4_ := A_ (Kd.R_elder' (rz_ HO178.out BK181.out) (Kd.R_base ho0) hb); have n5_ := A_ (Kd.R_lower (Kd.R_new' (Kd.R_new' (Kd.R_new' (Kd.R_new' (Kd.R_newM (M := fun k_ => (w.heap.size ≤ k_)) ho0 (below_size (bk_ HB.out)) (fun k_ h_ => h_)) (Kd.R_lt (rz_ HO_159001.out BK181.out))) (Kd.R_lt (rz_ HO_166001.out BK181.out))) (Kd.R_lt (rz_ HO_174001.out BK181.out))) (Kd.R_lt (rz_ HO178.out BK181.out))) (below_size (bk_ HB.out))); have n6_ := A_ (bf_ BK148.out NB148_181.out hb); have n7_ := A_ (bf_ BK149.out NB149_181.out hb); have n8_ := A_ (bf_ BK158.out NB158_181.out hb); have n9_ := A_ (bf_ BK165.out NB165_181.out hb); have n10_ := A_ (bf_ BK173.out NB173_181.out hb); have n11_ := A_ (blk_below (g := gb181) (o := .cells #[.int .i64 t175, .slice Ao115 t176.length co115] 27 (0, 0)) (by refine pk_ ?_; refine blk_put (cs := #[.int .i64 t175, .slice none 0 0]) ?_ 1 _ rfl; refine pk_ ?_; refine blk_put (cs := #[.int .i64 0, .slice none 0 0]) ?_ 0 _ rfl; exact pk_ BK181.out) hb); have n12_ := A_ (below_step (bk_ HB.out) hb); clear HO_150001 HO_159001 HO_166001 HO_174001 HO178 BK148 BK149 BK158 BK165 BK173 BK181 HB; have HO_150001 := n0_; have HO_159001 := n1_; have HO_166001 := n2_; have HO_174001 := n3_; have HO178 := n4_; have HO187 := n5_; have BK148 := n6_; have BK149 := n7_; have BK158 := n8_; have BK165 := n9_; have BK173 := n10_; have BK181 := n11_; have HB := n12_; clear n0_ n1_ n2_ n3_ n4_ n5_ n6_ n7_ n8_ n9_ n10_ n11_ n12_; (try clear hb); (try clear hb2); (try clear hk); (try clear hi); (try clear ho0)) | ((with_reducible refine gate_dst (N := 23) rfl ?_); (try (refine gate_guard (by rfl) ?_; dsimp only)); refine box_event ?hg (N := 23) ?hd (cs := #[.int .i64 0, .slice none 0 0]) (t := 27) ?hr ?_; (case hd => rfl); (case hg => rfl); (case hr => first | (go_simp; done) | (go_simp; rfl)); intro gb190 hg w119 hbox hb; have n0_ := A_ (Kd.V_below (Kd.V_elderB (by (with_reducible repeat (first | apply Kd.V_alloc | apply Kd.V_drewN | apply Kd.V_drew)); exact HO_150001.out) gb190 (Nat.le_of_eq hg.symm)) hb); have n1_ := A_ (Kd.R_below (rk_ HO_159001.out) hb); have n2_ := A_ (Kd.R_below (rk_ HO_166001.out) hb); have n3_ := A_ (Kd.R_below (rk_ HO_174001.out) hb); have n4_ := A_ (Kd.R_below (rk_ HO178.out) hb); have n5_ := A_ (Kd.R_below (rk_ HO187.out) hb); have n6_ := A_ (blk_below (pk_ BK148.out) hb); have n7_ := A_ (blk_below (pk_ BK149.out) hb); have n8_ := A_ (blk_below (pk_ BK158.out) hb); have n9_ := A_ (blk_below (pk_ BK165.out) hb); have n10_ := A_ (blk_below (pk_ BK173.out) hb); have n11_ := A_ (blk_below (pk_ BK181.out) hb); have n12_ := A_ (below_step (bk_ HB.out) hb); have n13_ := A_ (hbox); have n14_ := A_ (bz_ hg (bk_ HB.out)); have n15_ := A_ (bz_ hg (bk_ HB.out)); have n16_ := A_ (nl_ hg (pk_ BK148.out)); have n17_ := A_ (ng_ hg (pk_ BK148.out)); have n18_ := A_ (nl_ hg (pk_ BK149.out)); have n19_ := A_ (ng_ hg (pk_ BK149.out)); have n20_ := A_ (nl_ hg (pk_ BK158.out)); have n21_ := A_ (ng_ hg (pk_ BK158.out)); have n22_ := A_ (nl_ hg (pk_ BK165.out)); have n23_ := A_ (ng_ hg (pk_ BK165.out)); have n24_ := A_ (nl_ hg (pk_ BK173.out)); have n25_ := A_ (ng_ hg (pk_ BK173.out)); have n26_ := A_ (nl_ hg (pk_ BK181.out)); have n27_ := A_ (ng_ hg (pk_ BK181.out)); clear HO_150001 HO_159001 HO_166001 HO_174001 HO178 HO187 BK148 BK149 BK158 BK165 BK173 BK181 HB; have HO_150001 := n0_; have HO_159001 := n1_; have HO_166001 := n2_; have HO_174001 := n3_; have HO178 := n4_; have HO187 := n5_; have BK148 := n6_; have BK149 := n7_; have BK158 := n8_; have BK165 := n9_; have BK173 := n10_; have BK181 := n11_; have HB := n12_; have BK190 := n13_; have GW190 := n14_; have GE190 := n15_; have NB148_190 := n16_; have NB190_148 := n17_; have NB149_190 := n18_; have NB190_149 := n19_; have NB158_190 := n20_; have NB190_158 := n21_; have NB165_190 := n22_; have NB190_165 := n23_; have NB173_190 := n24_; have NB190_173 := n25_; have NB181_190 := n26_; have NB190_181 := n27_; clear n0_ n1_ n2_ n3_ n4_ n5_ n6_ n7_ n8_ n9_ n10_ n11_ n12_ n13_ n14_ n15_ n16_ n17_ n18_ n19_ n20_ n21_ n22_ n23_ n24_ n25_ n26_ n27_ hb hbox hg; have hnb120 := NB190_148.out; have hnc120 := NB148_190.out; have hnb121 := NB190_149.out; have hnc121 := NB149_190.out; have hnb122 := NB190_158.out; have hnc122 := NB158_190.out; have hnb123 := NB190_165.out; have hnc123 := NB165_190.out; have hnb124 := NB190_173.out; have hnc124 := NB173_190.out; have hnb125 := NB190_181.out; have hnc125 := NB181_190.out; obtain ⟨hcz126_0, hcz126_1⟩ := bc2_ BK190.out; have hfz126_0 := blk_frozen BK190.out 0; have hfz126_1 := blk_frozen BK190.out 1; obtain ⟨Ao127, co127, eo127⟩ := Kd.R_slice HO187.out; subst eo127))
         (try simp only [Act.put, List.setIfInBounds_toArray, List.set_cons_zero, List.set_cons_succ])
         go_cut [162] (fun v162 wc => ∃ (kq : Nat) (x162_96 : Bool), v162 = .bool x162_96 ∧ Aside0 (standstilllaw06_CounterParts.j2 kq l2 t179 x162_96 a0_0 l0_1 a1_0 l1_1 = some r) ∧ Aside0 (kq ≤ kj30) ∧ Aside0 (Kd.V (Kd.int .i64) 3 wc w.heap.size (fun k_ => (P1_1_ k_ ∨ w.heap.size ≤ k_) ∧ some k_ ≠ ((.slice Ao40 t153.length co40) : Value).ownBlock ∧ some k_ ≠ ((.slice Ao49 t160.length co49) : Value).ownBlock ∧ some k_ ≠ ((.slice Ao58 t168.length co58) : Value).ownBlock ∧ some k_ ≠ ((.slice Ao115 t176.length co115) : Value).ownBlock ∧ some k_ ≠ ((.slice Ao127 t185.length co127) : Value).ownBlock ∧ k_ ≠ gb148 ∧ k_ ≠ gb149 ∧ k_ ≠ gb158 ∧ k_ ≠ gb165 ∧ k_ ≠ gb173 ∧ k_ ≠ gb181 ∧ k_ ≠ gb190) (.slice A1_1 l1_1.length c1_1) l1_1) ∧ Aside0 (Kd.R (Kd.int .i64) 3 wc w.heap.size (fun k_ => (w.heap.size ≤ k_) ∧ some k_ ≠ ((.slice Ao49 t160.length co49) : Value).ownBlock ∧ some k_ ≠ ((.slice Ao58 t168.length co58) : Value).ownBlock ∧ some k_ ≠ ((.slice Ao115 t176.length co115) : Value).ownBlock ∧ some k_ ≠ ((.slice Ao127 t185.length co127) : Value).ownBlock) (.slice Ao40 t153.length co40) t153) ∧ Aside0 (Kd.R (Kd.int .i64) 3 wc w.heap.size (fun k_ => (w.heap.size ≤ k_) ∧ some k_ ≠ ((.slice Ao40 t153.length co40) : Value).ownBlock ∧ some k_ ≠ ((.slice Ao58 t168.length co58) : Value).ownBlock ∧ some k_ ≠ ((.slice Ao115 t176.length co115) : Value).ownBlock ∧ some k_ ≠ ((.slice Ao127 t185.length co127) : Value).ownBlock) (.slice Ao49 t160.length co49) t160) ∧ Aside0 (Kd.R (Kd.int .i64) 3 wc w.heap.size (fun k_ => (w.heap.size ≤ k_) ∧ some k_ ≠ ((.slice Ao40 t153.length co40) : Value).ownBlock ∧ some k_ ≠ ((.slice Ao49 t160.length co49) : Value).ownBlock ∧ some k_ ≠ ((.slice Ao115 t176.length co115) : Value).ownBlock ∧ some k_ ≠ ((.slice Ao127 t185.length co127) : Value).ownBlock) (.slice Ao58 t168.length co58) t168) ∧ Aside0 (Kd.R (Kd.int .i64) 3 wc w.heap.size (fun k_ => (w.heap.size ≤ k_) ∧ some k_ ≠ ((.slice Ao40 t153.length co40) : Value).ownBlock ∧ some k_ ≠ ((.slice Ao49 t160.length co49) : Value).ownBlock ∧ some k_ ≠ ((.slice Ao58 t168.length co58) : Value).ownBlock ∧ some k_ ≠ ((.slice Ao127 t185.length co127) : Value).ownBlock) (.slice Ao115 t176.length co115) t176) ∧ Aside0 (Kd.R (Kd.int .i64) 3 wc w.heap.size (fun k_ => (w.heap.size ≤ k_) ∧ some k_ ≠ ((.slice Ao40 t153.length co40) : Value).ownBlock ∧ some k_ ≠ ((.slice Ao49 t160.length co49) : Value).ownBlock ∧ some k_ ≠ ((.slice Ao58 t168.length co58) : Value).ownBlock ∧ some k_ ≠ ((.slice Ao115 t176.length co115) : Value).ownBlock) (.slice Ao127 t185.length co127) t185) ∧ Aside0 (wc.heap[gb148]? = some (.cells #[.int .i64 a0_0, (.slice A0_1 l0_1.length c0_1)] 24 (0, 0))) ∧ Aside0 (wc.heap[gb149]? = some (.cells #[.int .i64 a1_0, (.slice A1_1 l1_1.length c1_1)] 27 (0, 0))) ∧ Aside0 (wc.heap[gb158]? = some (.cells #[.int .i64 t152, (.slice Ao40 t153.length co40)] 27 (0, 0))) ∧ Aside0 (wc.heap[gb165]? = some (.cells #[.int .i64 t159, (.slice Ao49 t160.length co49)] 27 (0, 0))) ∧ Aside0 (wc.heap[gb173]? = some (.cells #[.int .i64 t167, (.slice Ao58 t168.length co58)] 27 (0, 0))) ∧ Aside0 (wc.heap[gb181]? = some (.cells #[.int .i64 t175, (.slice Ao115 t176.length co115)] 27 (0, 0))) ∧ Aside0 (wc.heap[gb190]? = some (.cells #[.int .i64 t184, (.slice Ao127 t185.length co127)] 27 (0, 0))) ∧ Aside0 (Below w.heap.size w wc))
         case first => as_aux_lemma =>
          have H := HC97.out
          clear HC97
          by_cases c128 : t189 = 0
          ·rw [if_pos c128] at H
           have c128b0 : (t189 == 0) = true := beq_iff_eq.mpr c128
           have c128b1 : (t189 != 0) = false := bne_eq_false_iff_eq.mpr c128
           clear c128
           (first | rw [c128b0] | (simp only [i64_w, i32_w]; rw [c128b0]) | skip)
           by_cases c129 : t188 = t179
           ·rw [if_pos c129] at H
            have c129b0 : (t188 == t179) = true := beq_iff_eq.mpr c129
            have c129b1 : (t188 != t179) = false := bne_eq_false_iff_eq.mpr c129
            clear c129
            replace H := Option.bind_eq_some_iff.mp H
            obtain ⟨t191, A1300, H⟩ := H
            replace H : (if t191 = true then ((standstillref06_In.f kj30 t175 l2).bind fun t192 => (if t192 = true then (if t179 < 1 then (standstilllaw06_CounterParts.j2 kj30 l2 t179 true a0_0 l0_1 a1_0 l1_1) else (standstilllaw06_CounterParts.j2 kj30 l2 t179 (decide (t179 > (wrap64 (a3)))) a0_0 l0_1 a1_0 l1_1)) else (standstilllaw06_CounterParts.j2 kj30 l2 t179 true a0_0 l0_1 a1_0 l1_1))) else (standstilllaw06_CounterParts.j2 kj30 l2 t179 true a0_0 l0_1 a1_0 l1_1)) = some r := H
            have A130 := Aside0.mk A1300
            clear A1300
            by_cases c131 : t191 = true
            ·subst c131
             have H1 : ((standstillref06_In.f kj30 t175 l2).bind fun t192 => (if t192 = true then (if t179 < 1 then (standstilllaw06_CounterParts.j2 kj30 l2 t179 true a0_0 l0_1 a1_0 l1_1) else (standstilllaw06_CounterParts.j2 kj30 l2 t179 (decide (t179 > (wrap64 (a3)))) a0_0 l0_1 a1_0 l1_1)) else (standstilllaw06_CounterParts.j2 kj30 l2 t179 true a0_0 l0_1 a1_0 l1_1))) = some r := by rw [if_pos rfl] at H; exact H
             clear H
             have H := H1
             clear H1
             replace H := Option.bind_eq_some_iff.mp H
             obtain ⟨t192, A1320, H⟩ := H
             replace H : (if t192 = true then (if t179 < 1 then (standstilllaw06_CounterParts.j2 kj30 l2 t179 true a0_0 l0_1 a1_0 l1_1) else (standstilllaw06_CounterParts.j2 kj30 l2 t179 (decide (t179 > (wrap64 (a3)))) a0_0 l0_1 a1_0 l1_1)) else (standstilllaw06_CounterParts.j2 kj30 l2 t179 true a0_0 l0_1 a1_0 l1_1)) = some r := H
             have A132 := Aside0.mk A1320
             clear A1320
             by_cases c133 : t192 = true
             ·subst c133
              have H1 : (if t179 < 1 then (standstilllaw06_CounterParts.j2 kj30 l2 t179 true a0_0 l0_1 a1_0 l1_1) else (standstilllaw06_CounterParts.j2 kj30 l2 t179 (decide (t179 > (wrap64 (a3)))) a0_0 l0_1 a1_0 l1_1)) = some r := by rw [if_pos rfl] at H; exact H
              clear H
              have H := H1
              clear H1
              by_cases c134 : t179 < 1
              ·rw [if_pos c134] at H
               have c134b0 : decide (t179 < 1) = true := decide_eq_true c134
               clear c134
               have H' := Aside0.mk H
               clear H
               have hnb135 := NB181_148.out
               have hnc135 := NB148_181.out
               have hnb136 := NB181_149.out
               have hnc136 := NB149_181.out
               have hnb137 := NB181_158.out
               have hnc137 := NB158_181.out
               have hnb138 := NB181_165.out
               have hnc138 := NB165_181.out
               have hnb139 := NB181_173.out
               have hnc139 := NB173_181.out
               have hnb140 := NB181_190.out
               have hnc140 := NB190_181.out
               obtain ⟨hcz141_0, hcz141_1⟩ := bc2_ BK181.out
               have hfz141_0 := blk_frozen BK181.out 0
               have hfz141_1 := blk_frozen BK181.out 1
               have hnb142 := NB190_148.out
               have hnc142 := NB148_190.out
               have hnb143 := NB190_149.out
               have hnc143 := NB149_190.out
               have hnb144 := NB190_158.out
               have hnc144 := NB158_190.out
               have hnb145 := NB190_165.out
               have hnc145 := NB165_190.out
               have hnb146 := NB190_173.out
               have hnc146 := NB173_190.out
               obtain ⟨hcz147_0, hcz147_1⟩ := bc2_ BK190.out
               have hfz147_0 := blk_frozen BK190.out 0
               have hfz147_1 := blk_frozen BK190.out 1
               go_wp2_with (first | (go_at_call 16; (with_reducible refine (standstillref06_SameCount.calls kj30 t175 _ _ t176 t184 _ _ t185 true _ ?side1 ?side2 ?side3 ?side4 A130.out).mono ?_); (case side1 => refine (Kd.R_reads' (e := 3) (base := w.heap.size) (ok := fun k_ => ((((((w.heap.size ≤ k_) ∧ True) ∧ some k_ ≠ (.slice Ao40 t153.length co40 : Value).ownBlock) ∧ some k_ ≠ (.slice Ao49 t160.length co49 : Value).ownBlock) ∧ some k_ ≠ (.slice Ao58 t168.length co58 : Value).ownBlock) ∧ some k_ ≠ (.slice Ao127 t185.length co127 : Value).ownBlock)) (n := t176.length) (c := co115) ?_).2.2; exact (rz_ HO178.out BK190.out)); (case side2 => exact (Kd.R_reads' HO178.out).2.1); (case side3 => refine (Kd.R_reads' (e := 3) (base := w.heap.size) (ok := fun k_ => ((((((w.heap.size ≤ k_) ∧ True) ∧ some k_ ≠ (.slice Ao40 t153.length co40 : Value).ownBlock) ∧ some k_ ≠ (.slice Ao49 t160.length co49 : Value).ownBlock) ∧ some k_ ≠ (.slice Ao58 t168.length co58 : Value).ownBlock) ∧ some k_ ≠ (.slice Ao115 t176.length co115 : Value).ownBlock)) (n := t185.length) (c := co127) ?_).2.2; exact (rz_ HO187.out BK190.out)); (case side4 => exact (Kd.R_reads' HO187.out).2.1); rintro e w148 ⟨rfl, hb⟩; have n0_ := A_ (Kd.V_below (by (with_reducible repeat (first | apply Kd.V_alloc | apply Kd.V_drewN | apply Kd.V_drew)); exact (Kd.V_mono (Kd.V_far (p := ⟨gb190, 1, none⟩) (Kd.V_far (p := ⟨gb190, 0, none⟩) (Kd.V_mono HO_150001.out (fun k_ hk => (⟨hk, hk.2⟩ : _ ∧ k_ ≠ gb190))) (fun _ hk => hk.2) (.int .i64 t184)) (fun _ hk => hk.2) (.slice Ao127 t185.length co127)) (fun _ h_ => h_.1))) hb); have n1_ := A_ (Kd.R_below (rz_ HO_159001.out BK190.out) hb); have n2_ := A_ (Kd.R_below (rz_ HO_166001.out BK190.out) hb); have n3_ := A_ (Kd.R_below (rz_ HO_174001.out BK190.out) hb); have n4_ := A_ (Kd.R_below (rz_ HO178.out BK190.out) hb); have n5_ := A_ (Kd.R_below (rz_ HO187.out BK190.out) hb); have n6_ := A_ (bf_ BK148.out NB148_190.out hb); have n7_ := A_ (bf_ BK149.out NB149_190.out hb); have n8_ := A_ (bf_ BK158.out NB158_190.out hb); have n9_ := A_ (bf_ BK165.out NB165_190.out hb); have n10_ := A_ (bf_ BK173.out NB173_190.out hb); have n11_ := A_ (bf_ BK181.out NB181_190.out hb); have n12_ := A_ (blk_below (g := gb190) (o := .cells #[.int .i64 t184, .slice Ao127 t185.length co127] 27 (0, 0)) (by refine pk_ ?_; refine blk_put (cs := #[.int .i64 t184, .slice none 0 0]) ?_ 1 _ rfl; refine pk_ ?_; refine blk_put (cs := #[.int .i64 0, .slice none 0 0]) ?_ 0 _ rfl; exact pk_ BK190.out) hb); have n13_ := A_ (below_step (bk_ HB.out) hb); clear HO_150001 HO_159001 HO_166001 HO_174001 HO178 HO187 BK148 BK149 BK158 BK165 BK173 BK181 BK190 HB; have HO_150001 := n0_; have HO_159001 := n1_; have HO_166001 := n2_; have HO_174001 := n3_; have HO178 := n4_; have HO187 := n5_; have BK148 := n6_; have BK149 := n7_; have BK158 := n8_; have BK165 := n9_; have BK173 := n10_; have BK181 := n11_; have BK190 := n12_; have HB := n13_; clear n0_ n1_ n2_ n3_ n4_ n5_ n6_ n7_ n8_ n9_ n10_ n11_ n12_ n13_; (try clear hb); (try clear hb2); (try clear hk); (try clear hi); obtain ⟨hcz149_0, hcz149_1⟩ := bc2_ BK181.out; have hfz149_0 := blk_frozen BK181.out 0; have hfz149_1 := blk_frozen BK181.out 1) | (go_at_call 24; (with_reducible refine (standstillref06_In.calls kj30 t175 _ _ l2 true _ ?side1 ?side2 A132.out).mono ?_); (case side1 => exact ck_ (Kd.C_below HR2.out HB.out)); (case side2 => exact HC2.out); rintro e w' ⟨rfl, ⟨nd, rfl⟩⟩))
               go_meet
               case rel => exact ⟨_, (true), jr_, H', ⟨by have := HJ5.out; have := HJ30.out; first | omega | exact Nat.le_refl _⟩, ⟨by (with_reducible repeat (first | apply Kd.V_alloc | apply Kd.V_drewN | apply Kd.V_drew)); exact Kd.V_mono HO_150001.out (fun _ hk => ⟨hk.1.1.1.1.1, ⟨hk.1.1.1.1.2.1, ⟨hk.1.1.1.1.2.2.1, ⟨hk.1.1.1.1.2.2.2.1, ⟨hk.1.1.1.2, ⟨hk.1.2, ⟨hk.1.1.1.1.2.2.2.2.1, ⟨hk.1.1.1.1.2.2.2.2.2.1, ⟨hk.1.1.1.1.2.2.2.2.2.2.1, ⟨hk.1.1.1.1.2.2.2.2.2.2.2.1, ⟨hk.1.1.1.1.2.2.2.2.2.2.2.2, ⟨hk.1.1.2, hk.2⟩⟩⟩⟩⟩⟩⟩⟩⟩⟩⟩⟩)⟩, ⟨by (with_reducible repeat (first | apply Kd.R_alloc | apply Kd.R_drewN | apply Kd.R_drew)); exact Kd.R_mono HO_159001.out (fun _ hk => ⟨hk.1.1.1, ⟨hk.1.1.2.1, ⟨hk.1.1.2.2, ⟨hk.1.2, hk.2⟩⟩⟩⟩)⟩, ⟨by (with_reducible repeat (first | apply Kd.R_alloc | apply Kd.R_drewN | apply Kd.R_drew)); exact Kd.R_mono HO_166001.out (fun _ hk => ⟨hk.1.1.1, ⟨hk.1.1.2.1, ⟨hk.1.1.2.2, ⟨hk.1.2, hk.2⟩⟩⟩⟩)⟩, ⟨by (with_reducible repeat (first | apply Kd.R_alloc | apply Kd.R_drewN | apply Kd.R_drew)); exact Kd.R_mono HO_174001.out (fun _ hk => ⟨hk.1.1.1, ⟨hk.1.1.2.1, ⟨hk.1.1.2.2, ⟨hk.1.2, hk.2⟩⟩⟩⟩)⟩, ⟨by (with_reducible repeat (first | apply Kd.R_alloc | apply Kd.R_drewN | apply Kd.R_drew)); exact Kd.R_mono HO178.out (fun _ hk => ⟨hk.1.1.1.1.1, ⟨hk.1.1.1.2, ⟨hk.1.1.2, ⟨hk.1.2, hk.2⟩⟩⟩⟩)⟩, ⟨by (with_reducible repeat (first | apply Kd.R_alloc | apply Kd.R_drewN | apply Kd.R_drew)); exact Kd.R_mono HO187.out (fun _ hk => ⟨hk.1.1.1.1.1, ⟨hk.1.1.1.2, ⟨hk.1.1.2, ⟨hk.1.2, hk.2⟩⟩⟩⟩)⟩, ⟨pk_ BK148.out⟩, ⟨pk_ BK149.out⟩, ⟨pk_ BK158.out⟩, ⟨pk_ BK165.out⟩, ⟨pk_ BK173.out⟩, ⟨pk_ BK181.out⟩, ⟨pk_ BK190.out⟩, ⟨bk_ HB.out⟩⟩
              ·rw [if_neg c134] at H
               have c134b0 : decide (t179 < 1) = false := decide_eq_false c134
               clear c134
               have H' := Aside0.mk H
               clear H
               have hnb150 := NB181_148.out
               have hnc150 := NB148_181.out
               have hnb151 := NB181_149.out
               have hnc151 := NB149_181.out
               have hnb152 := NB181_158.out
               have hnc152 := NB158_181.out
               have hnb153 := NB181_165.out
               have hnc153 := NB165_181.out
               have hnb154 := NB181_173.out
               have hnc154 := NB173_181.out
               have hnb155 := NB181_190.out
               have hnc155 := NB190_181.out
               obtain ⟨hcz156_0, hcz156_1⟩ := bc2_ BK181.out
               have hfz156_0 := blk_frozen BK181.out 0
               have hfz156_1 := blk_frozen BK181.out 1
               have hnb157 := NB190_148.out
               have hnc157 := NB148_190.out
               have hnb158 := NB190_149.out
               have hnc158 := NB149_190.out
               have hnb159 := NB190_158.out
               have hnc159 := NB158_190.out
               have hnb160 := NB190_165.out
               have hnc160 := NB165_190.out
               have hnb161 := NB190_173.out
               have hnc161 := NB173_190.out
               obtain ⟨hcz162_0, hcz162_1⟩ := bc2_ BK190.out
               have hfz162_0 := blk_frozen BK190.out 0
               have hfz162_1 := blk_frozen BK190.out 1
               go_wp2_with (first | (go_at_call 16; (with_reducible refine (standstillref06_SameCount.calls kj30 t175 _ _ t176 t184 _ _ t185 true _ ?side1 ?side2 ?side3 ?side4 A130.out).mono ?_); (case side1 => refine (Kd.R_reads' (e := 3) (base := w.heap.size) (ok := fun k_ => ((((((w.heap.size ≤ k_) ∧ True) ∧ some k_ ≠ (.slice Ao40 t153.length co40 : Value).ownBlock) ∧ some k_ ≠ (.slice Ao49 t160.length co49 : Value).ownBlock) ∧ some k_ ≠ (.slice Ao58 t168.length co58 : Value).ownBlock) ∧ some k_ ≠ (.slice Ao127 t185.length co127 : Value).ownBlock)) (n := t176.length) (c := co115) ?_).2.2; exact (rz_ HO178.out BK190.out)); (case side2 => exact (Kd.R_reads' HO178.out).2.1); (case side3 => refine (Kd.R_reads' (e := 3) (base := w.heap.size) (ok := fun k_ => ((((((w.heap.size ≤ k_) ∧ True) ∧ some k_ ≠ (.slice Ao40 t153.length co40 : Value).ownBlock) ∧ some k_ ≠ (.slice Ao49 t160.length co49 : Value).ownBlock) ∧ some k_ ≠ (.slice Ao58 t168.length co58 : Value).ownBlock) ∧ some k_ ≠ (.slice Ao115 t176.length co115 : Value).ownBlock)) (n := t185.length) (c := co127) ?_).2.2; exact (rz_ HO187.out BK190.out)); (case side4 => exact (Kd.R_reads' HO187.out).2.1); rintro e w163 ⟨rfl, hb⟩; have n0_ := A_ (Kd.V_below (by (with_reducible repeat (first | apply Kd.V_alloc | apply Kd.V_drewN | apply Kd.V_drew)); exact (Kd.V_mono (Kd.V_far (p := ⟨gb190, 1, none⟩) (Kd.V_far (p := ⟨gb190, 0, none⟩) (Kd.V_mono HO_150001.out (fun k_ hk => (⟨hk, hk.2⟩ : _ ∧ k_ ≠ gb190))) (fun _ hk => hk.2) (.int .i64 t184)) (fun _ hk => hk.2) (.slice Ao127 t185.length co127)) (fun _ h_ => h_.1))) hb); have n1_ := A_ (Kd.R_below (rz_ HO_159001.out BK190.out) hb); have n2_ := A_ (Kd.R_below (rz_ HO_166001.out BK190.out) hb); have n3_ := A_ (Kd.R_below (rz_ HO_174001.out BK190.out) hb); have n4_ := A_ (Kd.R_below (rz_ HO178.out BK190.out) hb); have n5_ := A_ (Kd.R_below (rz_ HO187.out BK190.out) hb); have n6_ := A_ (bf_ BK148.out NB148_190.out hb); have n7_ := A_ (bf_ BK149.out NB149_190.out hb); have n8_ := A_ (bf_ BK158.out NB158_190.out hb); have n9_ := A_ (bf_ BK165.out NB165_190.out hb); have n10_ := A_ (bf_ BK173.out NB173_190.out hb); have n11_ := A_ (bf_ BK181.out NB181_190.out hb); have n12_ := A_ (blk_below (g := gb190) (o := .cells #[.int .i64 t184, .slice Ao127 t185.length co127] 27 (0, 0)) (by refine pk_ ?_; refine blk_put (cs := #[.int .i64 t184, .slice none 0 0]) ?_ 1 _ rfl; refine pk_ ?_; refine blk_put (cs := #[.int .i64 0, .slice none 0 0]) ?_ 0 _ rfl; exact pk_ BK190.out) hb); have n13_ := A_ (below_step (bk_ HB.out) hb); clear HO_150001 HO_159001 HO_166001 HO_174001 HO178 HO187 BK148 BK149 BK158 BK165 BK173 BK181 BK190 HB; have HO_150001 := n0_; have HO_159001 := n1_; have HO_166001 := n2_; have HO_174001 := n3_; have HO178 := n4_; have HO187 := n5_; have BK148 := n6_; have BK149 := n7_; have BK158 := n8_; have BK165 := n9_; have BK173 := n10_; have BK181 := n11_; have BK190 := n12_; have HB := n13_; clear n0_ n1_ n2_ n3_ n4_ n5_ n6_ n7_ n8_ n9_ n10_ n11_ n12_ n13_; (try clear hb); (try clear hb2); (try clear hk); (try clear hi); obtain ⟨hcz164_0, hcz164_1⟩ := bc2_ BK181.out; have hfz164_0 := blk_frozen BK181.out 0; have hfz164_1 := blk_frozen BK181.out 1) | (go_at_call 24; (with_reducible refine (standstillref06_In.calls kj30 t175 _ _ l2 true _ ?side1 ?side2 A132.out).mono ?_); (case side1 => exact ck_ (Kd.C_below HR2.out HB.out)); (case side2 => exact HC2.out); rintro e w' ⟨rfl, ⟨nd, rfl⟩⟩))
               go_meet
               case rel => exact ⟨_, (decide (t179 > (wrap64 (a3)))), jr_, H', ⟨by have := HJ5.out; have := HJ30.out; first | omega | exact Nat.le_refl _⟩, ⟨by (with_reducible repeat (first | apply Kd.V_alloc | apply Kd.V_drewN | apply Kd.V_drew)); exact Kd.V_mono HO_150001.out (fun _ hk => ⟨hk.1.1.1.1.1, ⟨hk.1.1.1.1.2.1, ⟨hk.1.1.1.1.2.2.1, ⟨hk.1.1.1.1.2.2.2.1, ⟨hk.1.1.1.2, ⟨hk.1.2, ⟨hk.1.1.1.1.2.2.2.2.1, ⟨hk.1.1.1.1.2.2.2.2.2.1, ⟨hk.1.1.1.1.2.2.2.2.2.2.1, ⟨hk.1.1.1.1.2.2.2.2.2.2.2.1, ⟨hk.1.1.1.1.2.2.2.2.2.2.2.2, ⟨hk.1.1.2, hk.2⟩⟩⟩⟩⟩⟩⟩⟩⟩⟩⟩⟩)⟩, ⟨by (with_reducible repeat (first | apply Kd.R_alloc | apply Kd.R_drewN | apply Kd.R_drew)); exact Kd.R_mono HO_159001.out (fun _ hk => ⟨hk.1.1.1, ⟨hk.1.1.2.1, ⟨hk.1.1.2.2, ⟨hk.1.2, hk.2⟩⟩⟩⟩)⟩, ⟨by (with_reducible repeat (first | apply Kd.R_alloc | apply Kd.R_drewN | apply Kd.R_drew)); exact Kd.R_mono HO_166001.out (fun _ hk => ⟨hk.1.1.1, ⟨hk.1.1.2.1, ⟨hk.1.1.2.2, ⟨hk.1.2, hk.2⟩⟩⟩⟩)⟩, ⟨by (with_reducible repeat (first | apply Kd.R_alloc | apply Kd.R_drewN | apply Kd.R_drew)); exact Kd.R_mono HO_174001.out (fun _ hk => ⟨hk.1.1.1, ⟨hk.1.1.2.1, ⟨hk.1.1.2.2, ⟨hk.1.2, hk.2⟩⟩⟩⟩)⟩, ⟨by (with_reducible repeat (first | apply Kd.R_alloc | apply Kd.R_drewN | apply Kd.R_drew)); exact Kd.R_mono HO178.out (fun _ hk => ⟨hk.1.1.1.1.1, ⟨hk.1.1.1.2, ⟨hk.1.1.2, ⟨hk.1.2, hk.2⟩⟩⟩⟩)⟩, ⟨by (with_reducible repeat (first | apply Kd.R_alloc | apply Kd.R_drewN | apply Kd.R_drew)); exact Kd.R_mono HO187.out (fun _ hk => ⟨hk.1.1.1.1.1, ⟨hk.1.1.1.2, ⟨hk.1.1.2, ⟨hk.1.2, hk.2⟩⟩⟩⟩)⟩, ⟨pk_ BK148.out⟩, ⟨pk_ BK149.out⟩, ⟨pk_ BK158.out⟩, ⟨pk_ BK165.out⟩, ⟨pk_ BK173.out⟩, ⟨pk_ BK181.out⟩, ⟨pk_ BK190.out⟩, ⟨bk_ HB.out⟩⟩
             ·replace c133 := Bool.eq_false_iff.mpr c133
              subst c133
              have H1 : (standstilllaw06_CounterParts.j2 kj30 l2 t179 true a0_0 l0_1 a1_0 l1_1) = some r := by rw [if_neg (show ¬ (false = true) by decide)] at H; exact H
              clear H
              have H := H1
              clear H1
              have H' := Aside0.mk H
              clear H
              have hnb165 := NB181_148.out
              have hnc165 := NB148_181.out
              have hnb166 := NB181_149.out
              have hnc166 := NB149_181.out
              have hnb167 := NB181_158.out
              have hnc167 := NB158_181.out
              have hnb168 := NB181_165.out
              have hnc168 := NB165_181.out
              have hnb169 := NB181_173.out
              have hnc169 := NB173_181.out
              have hnb170 := NB181_190.out
              have hnc170 := NB190_181.out
              obtain ⟨hcz171_0, hcz171_1⟩ := bc2_ BK181.out
              have hfz171_0 := blk_frozen BK181.out 0
              have hfz171_1 := blk_frozen BK181.out 1
              have hnb172 := NB190_148.out
              have hnc172 := NB148_190.out
              have hnb173 := NB190_149.out
              have hnc173 := NB149_190.out
              have hnb174 := NB190_158.out
              have hnc174 := NB158_190.out
              have hnb175 := NB190_165.out
              have hnc175 := NB165_190.out
              have hnb176 := NB190_173.out
              have hnc176 := NB173_190.out
              obtain ⟨hcz177_0, hcz177_1⟩ := bc2_ BK190.out
              have hfz177_0 := blk_frozen BK190.out 0
              have hfz177_1 := blk_frozen BK190.out 1
              go_wp2_with (first | (go_at_call 16; (with_reducible refine (standstillref06_SameCount.calls kj30 t175 _ _ t176 t184 _ _ t185 true _ ?side1 ?side2 ?side3 ?side4 A130.out).mono ?_); (case side1 => refine (Kd.R_reads' (e := 3) (base := w.heap.size) (ok := fun k_ => ((((((w.heap.size ≤ k_) ∧ True) ∧ some k_ ≠ (.slice Ao40 t153.length co40 : Value).ownBlock) ∧ some k_ ≠ (.slice Ao49 t160.length co49 : Value).ownBlock) ∧ some k_ ≠ (.slice Ao58 t168.length co58 : Value).ownBlock) ∧ some k_ ≠ (.slice Ao127 t185.length co127 : Value).ownBlock)) (n := t176.length) (c := co115) ?_).2.2; exact (rz_ HO178.out BK190.out)); (case side2 => exact (Kd.R_reads' HO178.out).2.1); (case side3 => refine (Kd.R_reads' (e := 3) (base := w.heap.size) (ok := fun k_ => ((((((w.heap.size ≤ k_) ∧ True) ∧ some k_ ≠ (.slice Ao40 t153.length co40 : Value).ownBlock) ∧ some k_ ≠ (.slice Ao49 t160.length co49 : Value).ownBlock) ∧ some k_ ≠ (.slice Ao58 t168.length co58 : Value).ownBlock) ∧ some k_ ≠ (.slice Ao115 t176.length co115 : Value).ownBlock)) (n := t185.length) (c := co127) ?_).2.2; exact (rz_ HO187.out BK190.out)); (case side4 => exact (Kd.R_reads' HO187.out).2.1); rintro e w178 ⟨rfl, hb⟩; have n0_ := A_ (Kd.V_below (by (with_reducible repeat (first | apply Kd.V_alloc | apply Kd.V_drewN | apply Kd.V_drew)); exact (Kd.V_mono (Kd.V_far (p := ⟨gb190, 1, none⟩) (Kd.V_far (p := ⟨gb190, 0, none⟩) (Kd.V_mono HO_150001.out (fun k_ hk => (⟨hk, hk.2⟩ : _ ∧ k_ ≠ gb190))) (fun _ hk => hk.2) (.int .i64 t184)) (fun _ hk => hk.2) (.slice Ao127 t185.length co127)) (fun _ h_ => h_.1))) hb); have n1_ := A_ (Kd.R_below (rz_ HO_159001.out BK190.out) hb); have n2_ := A_ (Kd.R_below (rz_ HO_166001.out BK190.out) hb); have n3_ := A_ (Kd.R_below (rz_ HO_174001.out BK190.out) hb); have n4_ := A_ (Kd.R_below (rz_ HO178.out BK190.out) hb); have n5_ := A_ (Kd.R_below (rz_ HO187.out BK190.out) hb); have n6_ := A_ (bf_ BK148.out NB148_190.out hb); have n7_ := A_ (bf_ BK149.out NB149_190.out hb); have n8_ := A_ (bf_ BK158.out NB158_190.out hb); have n9_ := A_ (bf_ BK165.out NB165_190.out hb); have n10_ := A_ (bf_ BK173.out NB173_190.out hb); have n11_ := A_ (bf_ BK181.out NB181_190.out hb); have n12_ := A_ (blk_below (g := gb190) (o := .cells #[.int .i64 t184, .slice Ao127 t185.length co127] 27 (0, 0)) (by refine pk_ ?_; refine blk_put (cs := #[.int .i64 t184, .slice none 0 0]) ?_ 1 _ rfl; refine pk_ ?_; refine blk_put (cs := #[.int .i64 0, .slice none 0 0]) ?_ 0 _ rfl; exact pk_ BK190.out) hb); have n13_ := A_ (below_step (bk_ HB.out) hb); clear HO_150001 HO_159001 HO_166001 HO_174001 HO178 HO187 BK148 BK149 BK158 BK165 BK173 BK181 BK190 HB; have HO_150001 := n0_; have HO_159001 := n1_; have HO_166001 := n2_; have HO_174001 := n3_; have HO178 := n4_; have HO187 := n5_; have BK148 := n6_; have BK149 := n7_; have BK158 := n8_; have BK165 := n9_; have BK173 := n10_; have BK181 := n11_; have BK190 := n12_; have HB := n13_; clear n0_ n1_ n2_ n3_ n4_ n5_ n6_ n7_ n8_ n9_ n10_ n11_ n12_ n13_; (try clear hb); (try clear hb2); (try clear hk); (try clear hi); obtain ⟨hcz179_0, hcz179_1⟩ := bc2_ BK181.out; have hfz179_0 := blk_frozen BK181.out 0; have hfz179_1 := blk_frozen BK181.out 1) | (go_at_call 24; (with_reducible refine (standstillref06_In.calls kj30 t175 _ _ l2 false _ ?side1 ?side2 A132.out).mono ?_); (case side1 => exact ck_ (Kd.C_below HR2.out HB.out)); (case side2 => exact HC2.out); rintro e w' ⟨rfl, ⟨nd, rfl⟩⟩))
              go_meet
              case rel => exact ⟨_, (true), jr_, H', ⟨by have := HJ5.out; have := HJ30.out; first | omega | exact Nat.le_refl _⟩, ⟨by (with_reducible repeat (first | apply Kd.V_alloc | apply Kd.V_drewN | apply Kd.V_drew)); exact Kd.V_mono HO_150001.out (fun _ hk => ⟨hk.1.1.1.1.1, ⟨hk.1.1.1.1.2.1, ⟨hk.1.1.1.1.2.2.1, ⟨hk.1.1.1.1.2.2.2.1, ⟨hk.1.1.1.2, ⟨hk.1.2, ⟨hk.1.1.1.1.2.2.2.2.1, ⟨hk.1.1.1.1.2.2.2.2.2.1, ⟨hk.1.1.1.1.2.2.2.2.2.2.1, ⟨hk.1.1.1.1.2.2.2.2.2.2.2.1, ⟨hk.1.1.1.1.2.2.2.2.2.2.2.2, ⟨hk.1.1.2, hk.2⟩⟩⟩⟩⟩⟩⟩⟩⟩⟩⟩⟩)⟩, ⟨by (with_reducible repeat (first | apply Kd.R_alloc | apply Kd.R_drewN | apply Kd.R_drew)); exact Kd.R_mono HO_159001.out (fun _ hk => ⟨hk.1.1.1, ⟨hk.1.1.2.1, ⟨hk.1.1.2.2, ⟨hk.1.2, hk.2⟩⟩⟩⟩)⟩, ⟨by (with_reducible repeat (first | apply Kd.R_alloc | apply Kd.R_drewN | apply Kd.R_drew)); exact Kd.R_mono HO_166001.out (fun _ hk => ⟨hk.1.1.1, ⟨hk.1.1.2.1, ⟨hk.1.1.2.2, ⟨hk.1.2, hk.2⟩⟩⟩⟩)⟩, ⟨by (with_reducible repeat (first | apply Kd.R_alloc | apply Kd.R_drewN | apply Kd.R_drew)); exact Kd.R_mono HO_174001.out (fun _ hk => ⟨hk.1.1.1, ⟨hk.1.1.2.1, ⟨hk.1.1.2.2, ⟨hk.1.2, hk.2⟩⟩⟩⟩)⟩, ⟨by (with_reducible repeat (first | apply Kd.R_alloc | apply Kd.R_drewN | apply Kd.R_drew)); exact Kd.R_mono HO178.out (fun _ hk => ⟨hk.1.1.1.1.1, ⟨hk.1.1.1.2, ⟨hk.1.1.2, ⟨hk.1.2, hk.2⟩⟩⟩⟩)⟩, ⟨by (with_reducible repeat (first | apply Kd.R_alloc | apply Kd.R_drewN | apply Kd.R_drew)); exact Kd.R_mono HO187.out (fun _ hk => ⟨hk.1.1.1.1.1, ⟨hk.1.1.1.2, ⟨hk.1.1.2, ⟨hk.1.2, hk.2⟩⟩⟩⟩)⟩, ⟨pk_ BK148.out⟩, ⟨pk_ BK149.out⟩, ⟨pk_ BK158.out⟩, ⟨pk_ BK165.out⟩, ⟨pk_ BK173.out⟩, ⟨pk_ BK181.out⟩, ⟨pk_ BK190.out⟩, ⟨bk_ HB.out⟩⟩
            ·replace c131 := Bool.eq_false_iff.mpr c131
             subst c131
             have H1 : (standstilllaw06_CounterParts.j2 kj30 l2 t179 true a0_0 l0_1 a1_0 l1_1) = some r := by rw [if_neg (show ¬ (false = true) by decide)] at H; exact H
             clear H
             have H := H1
             clear H1
             have H' := Aside0.mk H
             clear H
             have hnb180 := NB181_148.out
             have hnc180 := NB148_181.out
             have hnb181 := NB181_149.out
             have hnc181 := NB149_181.out
             have hnb182 := NB181_158.out
             have hnc182 := NB158_181.out
             have hnb183 := NB181_165.out
             have hnc183 := NB165_181.out
             have hnb184 := NB181_173.out
             have hnc184 := NB173_181.out
             have hnb185 := NB181_190.out
             have hnc185 := NB190_181.out
             obtain ⟨hcz186_0, hcz186_1⟩ := bc2_ BK181.out
             have hfz186_0 := blk_frozen BK181.out 0
             have hfz186_1 := blk_frozen BK181.out 1
             have hnb187 := NB190_148.out
             have hnc187 := NB148_190.out
             have hnb188 := NB190_149.out
             have hnc188 := NB149_190.out
             have hnb189 := NB190_158.out
             have hnc189 := NB158_190.out
             have hnb190 := NB190_165.out
             have hnc190 := NB165_190.out
             have hnb191 := NB190_173.out
             have hnc191 := NB173_190.out
             obtain ⟨hcz192_0, hcz192_1⟩ := bc2_ BK190.out
             have hfz192_0 := blk_frozen BK190.out 0
             have hfz192_1 := blk_frozen BK190.out 1
             go_wp2_with (first | (go_at_call 16; (with_reducible refine (standstillref06_SameCount.calls kj30 t175 _ _ t176 t184 _ _ t185 false _ ?side1 ?side2 ?side3 ?side4 A130.out).mono ?_); (case side1 => refine (Kd.R_reads' (e := 3) (base := w.heap.size) (ok := fun k_ => ((((((w.heap.size ≤ k_) ∧ True) ∧ some k_ ≠ (.slice Ao40 t153.length co40 : Value).ownBlock) ∧ some k_ ≠ (.slice Ao49 t160.length co49 : Value).ownBlock) ∧ some k_ ≠ (.slice Ao58 t168.length co58 : Value).ownBlock) ∧ some k_ ≠ (.slice Ao127 t185.length co127 : Value).ownBlock)) (n := t176.length) (c := co115) ?_).2.2; exact (rz_ HO178.out BK190.out)); (case side2 => exact (Kd.R_reads' HO178.out).2.1); (case side3 => refine (Kd.R_reads' (e := 3) (base := w.heap.size) (ok := fun k_ => ((((((w.heap.size ≤ k_) ∧ True) ∧ some k_ ≠ (.slice Ao40 t153.length co40 : Value).ownBlock) ∧ some k_ ≠ (.slice Ao49 t160.length co49 : Value).ownBlock) ∧ some k_ ≠ (.slice Ao58 t168.length co58 : Value).ownBlock) ∧ some k_ ≠ (.slice Ao115 t176.length co115 : Value).ownBlock)) (n := t185.length) (c := co127) ?_).2.2; exact (rz_ HO187.out BK190.out)); (case side4 => exact (Kd.R_reads' HO187.out).2.1); rintro e w193 ⟨rfl, hb⟩; have n0_ := A_ (Kd.V_below (by (with_reducible repeat (first | apply Kd.V_alloc | apply Kd.V_drewN | apply Kd.V_drew)); exact (Kd.V_mono (Kd.V_far (p := ⟨gb190, 1, none⟩) (Kd.V_far (p := ⟨gb190, 0, none⟩) (Kd.V_mono HO_150001.out (fun k_ hk => (⟨hk, hk.2⟩ : _ ∧ k_ ≠ gb190))) (fun _ hk => hk.2) (.int .i64 t184)) (fun _ hk => hk.2) (.slice Ao127 t185.length co127)) (fun _ h_ => h_.1))) hb); have n1_ := A_ (Kd.R_below (rz_ HO_159001.out BK190.out) hb); have n2_ := A_ (Kd.R_below (rz_ HO_166001.out BK190.out) hb); have n3_ := A_ (Kd.R_below (rz_ HO_174001.out BK190.out) hb); have n4_ := A_ (Kd.R_below (rz_ HO178.out BK190.out) hb); have n5_ := A_ (Kd.R_below (rz_ HO187.out BK190.out) hb); have n6_ := A_ (bf_ BK148.out NB148_190.out hb); have n7_ := A_ (bf_ BK149.out NB149_190.out hb); have n8_ := A_ (bf_ BK158.out NB158_190.out hb); have n9_ := A_ (bf_ BK165.out NB165_190.out hb); have n10_ := A_ (bf_ BK173.out NB173_190.out hb); have n11_ := A_ (bf_ BK181.out NB181_190.out hb); have n12_ := A_ (blk_below (g := gb190) (o := .cells #[.int .i64 t184, .slice Ao127 t185.length co127] 27 (0, 0)) (by refine pk_ ?_; refine blk_put (cs := #[.int .i64 t184, .slice none 0 0]) ?_ 1 _ rfl; refine pk_ ?_; refine blk_put (cs := #[.int .i64 0, .slice none 0 0]) ?_ 0 _ rfl; exact pk_ BK190.out) hb); have n13_ := A_ (below_step (bk_ HB.out) hb); clear HO_150001 HO_159001 HO_166001 HO_174001 HO178 HO187 BK148 BK149 BK158 BK165 BK173 BK181 BK190 HB; have HO_150001 := n0_; have HO_159001 := n1_; have HO_166001 := n2_; have HO_174001 := n3_; have HO178 := n4_; have HO187 := n5_; have BK148 := n6_; have BK149 := n7_; have BK158 := n8_; have BK165 := n9_; have BK173 := n10_; have BK181 := n11_; have BK190 := n12_; have HB := n13_; clear n0_ n1_ n2_ n3_ n4_ n5_ n6_ n7_ n8_ n9_ n10_ n11_ n12_ n13_; (try clear hb); (try clear hb2); (try clear hk); (try clear hi)))
             go_meet
             case rel => exact ⟨_, (true), jr_, H', ⟨by have := HJ5.out; have := HJ30.out; first | omega | exact Nat.le_refl _⟩, ⟨by (with_reducible repeat (first | apply Kd.V_alloc | apply Kd.V_drewN | apply Kd.V_drew)); exact Kd.V_mono HO_150001.out (fun _ hk => ⟨hk.1.1.1.1.1, ⟨hk.1.1.1.1.2.1, ⟨hk.1.1.1.1.2.2.1, ⟨hk.1.1.1.1.2.2.2.1, ⟨hk.1.1.1.2, ⟨hk.1.2, ⟨hk.1.1.1.1.2.2.2.2.1, ⟨hk.1.1.1.1.2.2.2.2.2.1, ⟨hk.1.1.1.1.2.2.2.2.2.2.1, ⟨hk.1.1.1.1.2.2.2.2.2.2.2.1, ⟨hk.1.1.1.1.2.2.2.2.2.2.2.2, ⟨hk.1.1.2, hk.2⟩⟩⟩⟩⟩⟩⟩⟩⟩⟩⟩⟩)⟩, ⟨by (with_reducible repeat (first | apply Kd.R_alloc | apply Kd.R_drewN | apply Kd.R_drew)); exact Kd.R_mono HO_159001.out (fun _ hk => ⟨hk.1.1.1, ⟨hk.1.1.2.1, ⟨hk.1.1.2.2, ⟨hk.1.2, hk.2⟩⟩⟩⟩)⟩, ⟨by (with_reducible repeat (first | apply Kd.R_alloc | apply Kd.R_drewN | apply Kd.R_drew)); exact Kd.R_mono HO_166001.out (fun _ hk => ⟨hk.1.1.1, ⟨hk.1.1.2.1, ⟨hk.1.1.2.2, ⟨hk.1.2, hk.2⟩⟩⟩⟩)⟩, ⟨by (with_reducible repeat (first | apply Kd.R_alloc | apply Kd.R_drewN | apply Kd.R_drew)); exact Kd.R_mono HO_174001.out (fun _ hk => ⟨hk.1.1.1, ⟨hk.1.1.2.1, ⟨hk.1.1.2.2, ⟨hk.1.2, hk.2⟩⟩⟩⟩)⟩, ⟨by (with_reducible repeat (first | apply Kd.R_alloc | apply Kd.R_drewN | apply Kd.R_drew)); exact Kd.R_mono HO178.out (fun _ hk => ⟨hk.1.1.1.1.1, ⟨hk.1.1.1.2, ⟨hk.1.1.2, ⟨hk.1.2, hk.2⟩⟩⟩⟩)⟩, ⟨by (with_reducible repeat (first | apply Kd.R_alloc | apply Kd.R_drewN | apply Kd.R_drew)); exact Kd.R_mono HO187.out (fun _ hk => ⟨hk.1.1.1.1.1, ⟨hk.1.1.1.2, ⟨hk.1.1.2, ⟨hk.1.2, hk.2⟩⟩⟩⟩)⟩, ⟨pk_ BK148.out⟩, ⟨pk_ BK149.out⟩, ⟨pk_ BK158.out⟩, ⟨pk_ BK165.out⟩, ⟨pk_ BK173.out⟩, ⟨pk_ BK181.out⟩, ⟨pk_ BK190.out⟩, ⟨bk_ HB.out⟩⟩
           ·rw [if_neg c129] at H
            have c129b0 : (t188 == t179) = false := beq_eq_false_iff_ne.mpr c129
            have c129b1 : (t188 != t179) = true := bne_iff_ne.mpr c129
            have H' := Aside0.mk H
            clear H
            go_wp2
            go_meet
            case rel => exact ⟨_, (true), jr_, H', ⟨by have := HJ5.out; have := HJ30.out; first | omega | exact Nat.le_refl _⟩, ⟨by (with_reducible repeat (first | apply Kd.V_alloc | apply Kd.V_drewN | apply Kd.V_drew)); exact Kd.V_mono (Kd.V_far (p := ⟨gb190, 1, none⟩) (Kd.V_far (p := ⟨gb190, 0, none⟩) (Kd.V_mono HO_150001.out (fun k_ hk => (⟨hk, hk.2⟩ : _ ∧ k_ ≠ gb190))) (fun _ hk => hk.2) (.int .i64 t184)) (fun _ hk => hk.2) (.slice Ao127 t185.length co127)) (fun _ hk => ⟨hk.1.1.1.1.1.1, ⟨hk.1.1.1.1.1.2.1, ⟨hk.1.1.1.1.1.2.2.1, ⟨hk.1.1.1.1.1.2.2.2.1, ⟨hk.1.1.1.1.2, ⟨hk.1.1.2, ⟨hk.1.1.1.1.1.2.2.2.2.1, ⟨hk.1.1.1.1.1.2.2.2.2.2.1, ⟨hk.1.1.1.1.1.2.2.2.2.2.2.1, ⟨hk.1.1.1.1.1.2.2.2.2.2.2.2.1, ⟨hk.1.1.1.1.1.2.2.2.2.2.2.2.2, ⟨hk.1.1.1.2, hk.1.2⟩⟩⟩⟩⟩⟩⟩⟩⟩⟩⟩⟩)⟩, ⟨by (with_reducible repeat (first | apply Kd.R_alloc | apply Kd.R_drewN | apply Kd.R_drew)); exact Kd.R_mono (rf2_ (Kd.R_types HO_159001.out BK190.out (by decide))) (fun _ hk => ⟨hk.1.1.1.1, ⟨hk.1.1.1.2.1, ⟨hk.1.1.1.2.2, ⟨hk.1.1.2, hk.1.2⟩⟩⟩⟩)⟩, ⟨by (with_reducible repeat (first | apply Kd.R_alloc | apply Kd.R_drewN | apply Kd.R_drew)); exact Kd.R_mono (rf2_ (Kd.R_types HO_166001.out BK190.out (by decide))) (fun _ hk => ⟨hk.1.1.1.1, ⟨hk.1.1.1.2.1, ⟨hk.1.1.1.2.2, ⟨hk.1.1.2, hk.1.2⟩⟩⟩⟩)⟩, ⟨by (with_reducible repeat (first | apply Kd.R_alloc | apply Kd.R_drewN | apply Kd.R_drew)); exact Kd.R_mono (rf2_ (Kd.R_types HO_174001.out BK190.out (by decide))) (fun _ hk => ⟨hk.1.1.1.1, ⟨hk.1.1.1.2.1, ⟨hk.1.1.1.2.2, ⟨hk.1.1.2, hk.1.2⟩⟩⟩⟩)⟩, ⟨by (with_reducible repeat (first | apply Kd.R_alloc | apply Kd.R_drewN | apply Kd.R_drew)); exact Kd.R_mono (rf2_ (Kd.R_types HO178.out BK190.out (by decide))) (fun _ hk => ⟨hk.1.1.1.1.1.1, ⟨hk.1.1.1.1.2, ⟨hk.1.1.1.2, ⟨hk.1.1.2, hk.1.2⟩⟩⟩⟩)⟩, ⟨by (with_reducible repeat (first | apply Kd.R_alloc | apply Kd.R_drewN | apply Kd.R_drew)); exact Kd.R_mono (rf2_ (Kd.R_types HO187.out BK190.out (by decide))) (fun _ hk => ⟨hk.1.1.1.1.1.1, ⟨hk.1.1.1.1.2, ⟨hk.1.1.1.2, ⟨hk.1.1.2, hk.1.2⟩⟩⟩⟩)⟩, ⟨by (iterate 2 (refine pk_ ?_; refine blk_far ?_ NB148_190.out _)); exact pk_ BK148.out⟩, ⟨by (iterate 2 (refine pk_ ?_; refine blk_far ?_ NB149_190.out _)); exact pk_ BK149.out⟩, ⟨by (iterate 2 (refine pk_ ?_; refine blk_far ?_ NB158_190.out _)); exact pk_ BK158.out⟩, ⟨by (iterate 2 (refine pk_ ?_; refine blk_far ?_ NB165_190.out _)); exact pk_ BK165.out⟩, ⟨by (iterate 2 (refine pk_ ?_; refine blk_far ?_ NB173_190.out _)); exact pk_ BK173.out⟩, ⟨by (iterate 2 (refine pk_ ?_; refine blk_far ?_ NB181_190.out _)); exact pk_ BK181.out⟩, ⟨by refine pk_ ?_; refine blk_put (cs := #[.int .i64 t184, .slice none 0 0]) ?_ 1 _ rfl; refine pk_ ?_; refine blk_put (cs := #[.int .i64 0, .slice none 0 0]) ?_ 0 _ rfl; exact pk_ BK190.out⟩, ⟨bk_ HB.out⟩⟩
          ·rw [if_neg c128] at H
           have c128b0 : (t189 == 0) = false := beq_eq_false_iff_ne.mpr c128
           have c128b1 : (t189 != 0) = true := bne_iff_ne.mpr c128
           (first | rw [c128b0] | (simp only [i64_w, i32_w]; rw [c128b0]) | skip)
           have H' := Aside0.mk H
           clear H
           go_wp2
           go_meet
           case rel => exact ⟨_, (true), jr_, H', ⟨by have := HJ5.out; have := HJ30.out; first | omega | exact Nat.le_refl _⟩, ⟨by (with_reducible repeat (first | apply Kd.V_alloc | apply Kd.V_drewN | apply Kd.V_drew)); exact Kd.V_mono (Kd.V_far (p := ⟨gb190, 1, none⟩) (Kd.V_far (p := ⟨gb190, 0, none⟩) (Kd.V_mono HO_150001.out (fun k_ hk => (⟨hk, hk.2⟩ : _ ∧ k_ ≠ gb190))) (fun _ hk => hk.2) (.int .i64 t184)) (fun _ hk => hk.2) (.slice Ao127 t185.length co127)) (fun _ hk => ⟨hk.1.1.1.1.1.1, ⟨hk.1.1.1.1.1.2.1, ⟨hk.1.1.1.1.1.2.2.1, ⟨hk.1.1.1.1.1.2.2.2.1, ⟨hk.1.1.1.1.2, ⟨hk.1.1.2, ⟨hk.1.1.1.1.1.2.2.2.2.1, ⟨hk.1.1.1.1.1.2.2.2.2.2.1, ⟨hk.1.1.1.1.1.2.2.2.2.2.2.1, ⟨hk.1.1.1.1.1.2.2.2.2.2.2.2.1, ⟨hk.1.1.1.1.1.2.2.2.2.2.2.2.2, ⟨hk.1.1.1.2, hk.1.2⟩⟩⟩⟩⟩⟩⟩⟩⟩⟩⟩⟩)⟩, ⟨by (with_reducible repeat (first | apply Kd.R_alloc | apply Kd.R_drewN | apply Kd.R_drew)); exact Kd.R_mono (rf2_ (Kd.R_types HO_159001.out BK190.out (by decide))) (fun _ hk => ⟨hk.1.1.1.1, ⟨hk.1.1.1.2.1, ⟨hk.1.1.1.2.2, ⟨hk.1.1.2, hk.1.2⟩⟩⟩⟩)⟩, ⟨by (with_reducible repeat (first | apply Kd.R_alloc | apply Kd.R_drewN | apply Kd.R_drew)); exact Kd.R_mono (rf2_ (Kd.R_types HO_166001.out BK190.out (by decide))) (fun _ hk => ⟨hk.1.1.1.1, ⟨hk.1.1.1.2.1, ⟨hk.1.1.1.2.2, ⟨hk.1.1.2, hk.1.2⟩⟩⟩⟩)⟩, ⟨by (with_reducible repeat (first | apply Kd.R_alloc | apply Kd.R_drewN | apply Kd.R_drew)); exact Kd.R_mono (rf2_ (Kd.R_types HO_174001.out BK190.out (by decide))) (fun _ hk => ⟨hk.1.1.1.1, ⟨hk.1.1.1.2.1, ⟨hk.1.1.1.2.2, ⟨hk.1.1.2, hk.1.2⟩⟩⟩⟩)⟩, ⟨by (with_reducible repeat (first | apply Kd.R_alloc | apply Kd.R_drewN | apply Kd.R_drew)); exact Kd.R_mono (rf2_ (Kd.R_types HO178.out BK190.out (by decide))) (fun _ hk => ⟨hk.1.1.1.1.1.1, ⟨hk.1.1.1.1.2, ⟨hk.1.1.1.2, ⟨hk.1.1.2, hk.1.2⟩⟩⟩⟩)⟩, ⟨by (with_reducible repeat (first | apply Kd.R_alloc | apply Kd.R_drewN | apply Kd.R_drew)); exact Kd.R_mono (rf2_ (Kd.R_types HO187.out BK190.out (by decide))) (fun _ hk => ⟨hk.1.1.1.1.1.1, ⟨hk.1.1.1.1.2, ⟨hk.1.1.1.2, ⟨hk.1.1.2, hk.1.2⟩⟩⟩⟩)⟩, ⟨by (iterate 2 (refine pk_ ?_; refine blk_far ?_ NB148_190.out _)); exact pk_ BK148.out⟩, ⟨by (iterate 2 (refine pk_ ?_; refine blk_far ?_ NB149_190.out _)); exact pk_ BK149.out⟩, ⟨by (iterate 2 (refine pk_ ?_; refine blk_far ?_ NB158_190.out _)); exact pk_ BK158.out⟩, ⟨by (iterate 2 (refine pk_ ?_; refine blk_far ?_ NB165_190.out _)); exact pk_ BK165.out⟩, ⟨by (iterate 2 (refine pk_ ?_; refine blk_far ?_ NB173_190.out _)); exact pk_ BK173.out⟩, ⟨by (iterate 2 (refine pk_ ?_; refine blk_far ?_ NB181_190.out _)); exact pk_ BK181.out⟩, ⟨by refine pk_ ?_; refine blk_put (cs := #[.int .i64 t184, .slice none 0 0]) ?_ 1 _ rfl; refine pk_ ?_; refine blk_put (cs := #[.int .i64 0, .slice none 0 0]) ?_ 0 _ rfl; exact pk_ BK190.out⟩, ⟨bk_ HB.out⟩⟩
         case rest => as_aux_lemma =>
          clear HC97
          (try clear c2); (try clear c24); (try clear c29); (try clear c29b0); (try clear c29b1); (try clear c93); (try clear c95); (try clear c95b0); (try clear c95b1); (try clear hcz102_0); (try clear hcz102_1); (try clear hcz106_0); (try clear hcz106_1); (try clear hcz114_0); (try clear hcz114_1); (try clear hcz116_0); (try clear hcz116_1); (try clear hcz117_0); (try clear hcz117_1); (try clear hcz126_0); (try clear hcz126_1); (try clear hcz33_0); (try clear hcz33_1); (try clear hcz34_0); (try clear hcz34_1); (try clear hcz39_0); (try clear hcz39_1); (try clear hcz41_0); (try clear hcz41_1); (try clear hcz42_0); (try clear hcz42_1); (try clear hcz48_0); (try clear hcz48_1); (try clear hcz50_0); (try clear hcz50_1); (try clear hcz57_0); (try clear hcz57_1); (try clear hfz102_0); (try clear hfz102_1); (try clear hfz106_0); (try clear hfz106_1); (try clear hfz114_0); (try clear hfz114_1); (try clear hfz116_0); (try clear hfz116_1); (try clear hfz117_0); (try clear hfz117_1); (try clear hfz126_0); (try clear hfz126_1); (try clear hfz33_0); (try clear hfz33_1); (try clear hfz34_0); (try clear hfz34_1); (try clear hfz39_0); (try clear hfz39_1); (try clear hfz41_0); (try clear hfz41_1); (try clear hfz42_0); (try clear hfz42_1); (try clear hfz48_0); (try clear hfz48_1); (try clear hfz50_0); (try clear hfz50_1); (try clear hfz57_0); (try clear hfz57_1)
          obtain ⟨kq, x162_96, rfl, HA, HJ96, HO_150001, HO_159001, HO_166001, HO_174001, HO_182001, HO_191001, BK148, BK149, BK158, BK165, BK173, BK181, BK190, HB⟩ := hcut
          cases kq with
          | zero => exact absurd HA.out (by simp [standstilllaw06_CounterParts.j2])
          | succ kj96 =>
           have H := HA.out
           clear HA
           simp only [standstilllaw06_CounterParts.j2] at H
           by_cases c194 : x162_96 = true
           ·subst c194
            have H1 : (none) = some r := by rw [if_pos rfl] at H; exact H
            clear H
            have H := H1
            clear H1
            exact absurd H (by simp)
           ·replace c194 := Bool.eq_false_iff.mpr c194
            subst c194
            have H1 : (standstilllaw06_CounterParts.l0 kj96 l2 t179 1 a0_0 l0_1 a1_0 l1_1) = some r := by rw [if_neg (show ¬ (false = true) by decide)] at H; exact H
            clear H
            have H := H1
            clear H1
            have H' := Aside0.mk H
            clear H
            have hnb195 := NB149_148.out
            have hnc195 := NB148_149.out
            have hnb196 := NB149_158.out
            have hnc196 := NB158_149.out
            have hnb197 := NB149_165.out
            have hnc197 := NB165_149.out
            have hnb198 := NB149_173.out
            have hnc198 := NB173_149.out
            have hnb199 := NB149_181.out
            have hnc199 := NB181_149.out
            have hnb200 := NB149_190.out
            have hnc200 := NB190_149.out
            obtain ⟨hcz201_0, hcz201_1⟩ := bc2_ BK149.out
            have hfz201_0 := blk_frozen BK149.out 0
            have hfz201_1 := blk_frozen BK149.out 1
            go_wp2_with (first | ((with_reducible refine gate_dst (N := 26) rfl ?_); (try (refine gate_guard (by rfl) ?_; dsimp only)); refine box_event ?hg (N := 26) ?hd (cs := #[.int .i64 0, .slice none 0 0]) (t := 27) ?hr ?_; (case hd => rfl); (case hg => rfl); (case hr => first | (go_simp; done) | (go_simp; rfl)); intro gb193 hg w202 hbox hb; have n0_ := A_ (Kd.V_below (Kd.V_elderB (by (with_reducible repeat (first | apply Kd.V_alloc | apply Kd.V_drewN | apply Kd.V_drew)); exact HO_150001.out) gb193 (Nat.le_of_eq hg.symm)) hb); have n1_ := A_ (Kd.R_below (rk_ HO_159001.out) hb); have n2_ := A_ (Kd.R_below (rk_ HO_166001.out) hb); have n3_ := A_ (Kd.R_below (rk_ HO_174001.out) hb); have n4_ := A_ (Kd.R_below (rk_ HO_182001.out) hb); have n5_ := A_ (Kd.R_below (rk_ HO_191001.out) hb); have n6_ := A_ (blk_below (pk_ BK148.out) hb); have n7_ := A_ (blk_below (pk_ BK149.out) hb); have n8_ := A_ (blk_below (pk_ BK158.out) hb); have n9_ := A_ (blk_below (pk_ BK165.out) hb); have n10_ := A_ (blk_below (pk_ BK173.out) hb); have n11_ := A_ (blk_below (pk_ BK181.out) hb); have n12_ := A_ (blk_below (pk_ BK190.out) hb); have n13_ := A_ (below_step (bk_ HB.out) hb); have n14_ := A_ (hbox); have n15_ := A_ (bz_ hg (bk_ HB.out)); have n16_ := A_ (bz_ hg (bk_ HB.out)); have n17_ := A_ (nl_ hg (pk_ BK148.out)); have n18_ := A_ (ng_ hg (pk_ BK148.out)); have n19_ := A_ (nl_ hg (pk_ BK149.out)); have n20_ := A_ (ng_ hg (pk_ BK149.out)); have n21_ := A_ (nl_ hg (pk_ BK158.out)); have n22_ := A_ (ng_ hg (pk_ BK158.out)); have n23_ := A_ (nl_ hg (pk_ BK165.out)); have n24_ := A_ (ng_ hg (pk_ BK165.out)); have n25_ := A_ (nl_ hg (pk_ BK173.out)); have n26_ := A_ (ng_ hg (pk_ BK173.out)); have n27_ := A_ (nl_ hg (pk_ BK181.out)); have n28_ := A_ (ng_ hg (pk_ BK181.out)); have n29_ := A_ (nl_ hg (pk_ BK190.out)); have n30_ := A_ (ng_ hg (pk_ BK190.out)); clear HO_150001 HO_159001 HO_166001 HO_174001 HO_182001 HO_191001 BK148 BK149 BK158 BK165 BK173 BK181 BK190 HB; have HO_150001 := n0_; have HO_159001 := n1_; have HO_166001 := n2_; have HO_174001 := n3_; have HO_182001 := n4_; have HO_191001 := n5_; have BK148 := n6_; have BK149 := n7_; have BK158 := n8_; have BK165 := n9_; have BK173 := n10_; have BK181 := n11_; have BK190 := n12_; have HB := n13_; have BK193 := n14_; have GW193 := n15_; have GE193 := n16_; have NB148_193 := n17_; have NB193_148 := n18_; have NB149_193 := n19_; have NB193_149 := n20_; have NB158_193 := n21_; have NB193_158 := n22_; have NB165_193 := n23_; have NB193_165 := n24_; have NB173_193 := n25_; have NB193_173 := n26_; have NB181_193 := n27_; have NB193_181 := n28_; have NB190_193 := n29_; have NB193_190 := n30_; clear n0_ n1_ n2_ n3_ n4_ n5_ n6_ n7_ n8_ n9_ n10_ n11_ n12_ n13_ n14_ n15_ n16_ n17_ n18_ n19_ n20_ n21_ n22_ n23_ n24_ n25_ n26_ n27_ n28_ n29_ n30_ hb hbox hg; have hnb203 := NB193_148.out; have hnc203 := NB148_193.out; have hnb204 := NB193_149.out; have hnc204 := NB149_193.out; have hnb205 := NB193_158.out; have hnc205 := NB158_193.out; have hnb206 := NB193_165.out; have hnc206 := NB165_193.out; have hnb207 := NB193_173.out; have hnc207 := NB173_193.out; have hnb208 := NB193_181.out; have hnc208 := NB181_193.out; have hnb209 := NB193_190.out; have hnc209 := NB190_193.out; obtain ⟨hcz210_0, hcz210_1⟩ := bc2_ BK193.out; have hfz210_0 := blk_frozen BK193.out 0; have hfz210_1 := blk_frozen BK193.out 1))
            go_loopg [27] kj96 (fun kq v27 w' => ∃ (x27_4 : Int) (x194000_4 : Int) (x194001_4 : List Int) (u194001 : Value), v27 = .int .i64 x27_4 ∧ Aside0 (standstilllaw06_CounterParts.l0 kq l2 t179 x27_4 a0_0 l0_1 x194000_4 x194001_4 = some r) ∧ Aside0 (kq ≤ kj96) ∧ Aside0 (Kd.V (Kd.int .i64) 3 w' w.heap.size (fun k_ => (P1_1_ k_ ∨ w.heap.size ≤ k_) ∧ some k_ ≠ ((.slice Ao40 t153.length co40) : Value).ownBlock ∧ some k_ ≠ ((.slice Ao49 t160.length co49) : Value).ownBlock ∧ some k_ ≠ ((.slice Ao58 t168.length co58) : Value).ownBlock ∧ some k_ ≠ ((.slice Ao115 t176.length co115) : Value).ownBlock ∧ some k_ ≠ ((.slice Ao127 t185.length co127) : Value).ownBlock ∧ k_ ≠ gb148 ∧ k_ ≠ gb149 ∧ k_ ≠ gb158 ∧ k_ ≠ gb165 ∧ k_ ≠ gb173 ∧ k_ ≠ gb181 ∧ k_ ≠ gb190 ∧ k_ ≠ gb193) (.slice A1_1 l1_1.length c1_1) l1_1) ∧ Aside0 (Kd.R (Kd.int .i64) 3 w' w.heap.size (fun k_ => (w.heap.size ≤ k_) ∧ some k_ ≠ ((.slice Ao49 t160.length co49) : Value).ownBlock ∧ some k_ ≠ ((.slice Ao58 t168.length co58) : Value).ownBlock ∧ some k_ ≠ ((.slice Ao115 t176.length co115) : Value).ownBlock ∧ some k_ ≠ ((.slice Ao127 t185.length co127) : Value).ownBlock) (.slice Ao40 t153.length co40) t153) ∧ Aside0 (Kd.R (Kd.int .i64) 3 w' w.heap.size (fun k_ => (w.heap.size ≤ k_) ∧ some k_ ≠ ((.slice Ao40 t153.length co40) : Value).ownBlock ∧ some k_ ≠ ((.slice Ao58 t168.length co58) : Value).ownBlock ∧ some k_ ≠ ((.slice Ao115 t176.length co115) : Value).ownBlock ∧ some k_ ≠ ((.slice Ao127 t185.length co127) : Value).ownBlock) (.slice Ao49 t160.length co49) t160) ∧ Aside0 (Kd.R (Kd.int .i64) 3 w' w.heap.size (fun k_ => (w.heap.size ≤ k_) ∧ some k_ ≠ ((.slice Ao40 t153.length co40) : Value).ownBlock ∧ some k_ ≠ ((.slice Ao49 t160.length co49) : Value).ownBlock ∧ some k_ ≠ ((.slice Ao115 t176.length co115) : Value).ownBlock ∧ some k_ ≠ ((.slice Ao127 t185.length co127) : Value).ownBlock) (.slice Ao58 t168.length co58) t168) ∧ Aside0 (Kd.R (Kd.int .i64) 3 w' w.heap.size (fun k_ => (w.heap.size ≤ k_) ∧ some k_ ≠ ((.slice Ao40 t153.length co40) : Value).ownBlock ∧ some k_ ≠ ((.slice Ao49 t160.length co49) : Value).ownBlock ∧ some k_ ≠ ((.slice Ao58 t168.length co58) : Value).ownBlock ∧ some k_ ≠ ((.slice Ao127 t185.length co127) : Value).ownBlock) (.slice Ao115 t176.length co115) t176) ∧ Aside0 (Kd.R (Kd.int .i64) 3 w' w.heap.size (fun k_ => (w.heap.size ≤ k_) ∧ some k_ ≠ ((.slice Ao40 t153.length co40) : Value).ownBlock ∧ some k_ ≠ ((.slice Ao49 t160.length co49) : Value).ownBlock ∧ some k_ ≠ ((.slice Ao58 t168.length co58) : Value).ownBlock ∧ some k_ ≠ ((.slice Ao115 t176.length co115) : Value).ownBlock) (.slice Ao127 t185.length co127) t185) ∧ Aside0 (Kd.V (Kd.int .i64) 3 w' w.heap.size (fun k_ => (P1_1_ k_ ∨ w.heap.size ≤ k_) ∧ some k_ ≠ ((.slice Ao40 t153.length co40) : Value).ownBlock ∧ some k_ ≠ ((.slice Ao49 t160.length co49) : Value).ownBlock ∧ some k_ ≠ ((.slice Ao58 t168.length co58) : Value).ownBlock ∧ some k_ ≠ ((.slice Ao115 t176.length co115) : Value).ownBlock ∧ some k_ ≠ ((.slice Ao127 t185.length co127) : Value).ownBlock ∧ k_ ≠ gb148 ∧ k_ ≠ gb149 ∧ k_ ≠ gb158 ∧ k_ ≠ gb165 ∧ k_ ≠ gb173 ∧ k_ ≠ gb181 ∧ k_ ≠ gb190 ∧ k_ ≠ gb193) u194001 x194001_4) ∧ Aside0 (w'.heap[gb148]? = some (.cells #[.int .i64 a0_0, (.slice A0_1 l0_1.length c0_1)] 24 (0, 0))) ∧ Aside0 (w'.heap[gb149]? = some (.cells #[.int .i64 a1_0, (.slice A1_1 l1_1.length c1_1)] 27 (0, 0))) ∧ Aside0 (w'.heap[gb158]? = some (.cells #[.int .i64 t152, (.slice Ao40 t153.length co40)] 27 (0, 0))) ∧ Aside0 (w'.heap[gb165]? = some (.cells #[.int .i64 t159, (.slice Ao49 t160.length co49)] 27 (0, 0))) ∧ Aside0 (w'.heap[gb173]? = some (.cells #[.int .i64 t167, (.slice Ao58 t168.length co58)] 27 (0, 0))) ∧ Aside0 (w'.heap[gb181]? = some (.cells #[.int .i64 t175, (.slice Ao115 t176.length co115)] 27 (0, 0))) ∧ Aside0 (w'.heap[gb190]? = some (.cells #[.int .i64 t184, (.slice Ao127 t185.length co127)] 27 (0, 0))) ∧ Aside0 (w'.heap[gb193]? = some (.cells #[.int .i64 x194000_4, u194001] 27 (0, 0))) ∧ Aside0 (Below w.heap.size w w'))
            case atStart => exact ⟨(1), (a1_0), (l1_1), (.slice A1_1 l1_1.length c1_1), jr_, H', ⟨Nat.le_refl _⟩, ⟨by (with_reducible repeat (first | apply Kd.V_alloc | apply Kd.V_drewN | apply Kd.V_drew)); exact Kd.V_mono (Kd.V_far (p := ⟨gb193, 1, none⟩) (Kd.V_far (p := ⟨gb193, 0, none⟩) (Kd.V_mono HO_150001.out (fun k_ hk => (⟨hk, hk.2⟩ : _ ∧ k_ ≠ gb193))) (fun _ hk => hk.2) (.int .i64 a1_0)) (fun _ hk => hk.2) (.slice A1_1 l1_1.length c1_1)) (fun _ hk => ⟨hk.1.1.1, ⟨hk.1.1.2.1, ⟨hk.1.1.2.2.1, ⟨hk.1.1.2.2.2.1, ⟨hk.1.1.2.2.2.2.1, ⟨hk.1.1.2.2.2.2.2.1, ⟨hk.1.1.2.2.2.2.2.2.1, ⟨hk.1.1.2.2.2.2.2.2.2.1, ⟨hk.1.1.2.2.2.2.2.2.2.2.1, ⟨hk.1.1.2.2.2.2.2.2.2.2.2.1, ⟨hk.1.1.2.2.2.2.2.2.2.2.2.2.1, ⟨hk.1.1.2.2.2.2.2.2.2.2.2.2.2.1, ⟨hk.1.1.2.2.2.2.2.2.2.2.2.2.2.2, hk.1.2⟩⟩⟩⟩⟩⟩⟩⟩⟩⟩⟩⟩⟩)⟩, ⟨by (with_reducible repeat (first | apply Kd.R_alloc | apply Kd.R_drewN | apply Kd.R_drew)); exact Kd.R_mono (rf2_ (Kd.R_types HO_159001.out BK193.out (by decide))) (fun _ hk => ⟨hk.1.1, ⟨hk.1.2.1, ⟨hk.1.2.2.1, ⟨hk.1.2.2.2.1, hk.1.2.2.2.2⟩⟩⟩⟩)⟩, ⟨by (with_reducible repeat (first | apply Kd.R_alloc | apply Kd.R_drewN | apply Kd.R_drew)); exact Kd.R_mono (rf2_ (Kd.R_types HO_166001.out BK193.out (by decide))) (fun _ hk => ⟨hk.1.1, ⟨hk.1.2.1, ⟨hk.1.2.2.1, ⟨hk.1.2.2.2.1, hk.1.2.2.2.2⟩⟩⟩⟩)⟩, ⟨by (with_reducible repeat (first | apply Kd.R_alloc | apply Kd.R_drewN | apply Kd.R_drew)); exact Kd.R_mono (rf2_ (Kd.R_types HO_174001.out BK193.out (by decide))) (fun _ hk => ⟨hk.1.1, ⟨hk.1.2.1, ⟨hk.1.2.2.1, ⟨hk.1.2.2.2.1, hk.1.2.2.2.2⟩⟩⟩⟩)⟩, ⟨by (with_reducible repeat (first | apply Kd.R_alloc | apply Kd.R_drewN | apply Kd.R_drew)); exact Kd.R_mono (rf2_ (Kd.R_types HO_182001.out BK193.out (by decide))) (fun _ hk => ⟨hk.1.1, ⟨hk.1.2.1, ⟨hk.1.2.2.1, ⟨hk.1.2.2.2.1, hk.1.2.2.2.2⟩⟩⟩⟩)⟩, ⟨by (with_reducible repeat (first | apply Kd.R_alloc | apply Kd.R_drewN | apply Kd.R_drew)); exact Kd.R_mono (rf2_ (Kd.R_types HO_191001.out BK193.out (by decide))) (fun _ hk => ⟨hk.1.1, ⟨hk.1.2.1, ⟨hk.1.2.2.1, ⟨hk.1.2.2.2.1, hk.1.2.2.2.2⟩⟩⟩⟩)⟩, ⟨by (with_reducible repeat (first | apply Kd.V_alloc | apply Kd.V_drewN | apply Kd.V_drew)); exact Kd.V_mono (Kd.V_far (p := ⟨gb193, 1, none⟩) (Kd.V_far (p := ⟨gb193, 0, none⟩) (Kd.V_mono HO_150001.out (fun k_ hk => (⟨hk, hk.2⟩ : _ ∧ k_ ≠ gb193))) (fun _ hk => hk.2) (.int .i64 a1_0)) (fun _ hk => hk.2) (.slice A1_1 l1_1.length c1_1)) (fun _ hk => ⟨hk.1.1.1, ⟨hk.1.1.2.1, ⟨hk.1.1.2.2.1, ⟨hk.1.1.2.2.2.1, ⟨hk.1.1.2.2.2.2.1, ⟨hk.1.1.2.2.2.2.2.1, ⟨hk.1.1.2.2.2.2.2.2.1, ⟨hk.1.1.2.2.2.2.2.2.2.1, ⟨hk.1.1.2.2.2.2.2.2.2.2.1, ⟨hk.1.1.2.2.2.2.2.2.2.2.2.1, ⟨hk.1.1.2.2.2.2.2.2.2.2.2.2.1, ⟨hk.1.1.2.2.2.2.2.2.2.2.2.2.2.1, ⟨hk.1.1.2.2.2.2.2.2.2.2.2.2.2.2, hk.1.2⟩⟩⟩⟩⟩⟩⟩⟩⟩⟩⟩⟩⟩)⟩, ⟨by (iterate 2 (refine pk_ ?_; refine blk_far ?_ NB148_193.out _)); exact pk_ BK148.out⟩, ⟨by (iterate 2 (refine pk_ ?_; refine blk_far ?_ NB149_193.out _)); exact pk_ BK149.out⟩, ⟨by (iterate 2 (refine pk_ ?_; refine blk_far ?_ NB158_193.out _)); exact pk_ BK158.out⟩, ⟨by (iterate 2 (refine pk_ ?_; refine blk_far ?_ NB165_193.out _)); exact pk_ BK165.out⟩, ⟨by (iterate 2 (refine pk_ ?_; refine blk_far ?_ NB173_193.out _)); exact pk_ BK173.out⟩, ⟨by (iterate 2 (refine pk_ ?_; refine blk_far ?_ NB181_193.out _)); exact pk_ BK181.out⟩, ⟨by (iterate 2 (refine pk_ ?_; refine blk_far ?_ NB190_193.out _)); exact pk_ BK190.out⟩, ⟨by refine pk_ ?_; refine blk_put (cs := #[.int .i64 a1_0, .slice none 0 0]) ?_ 1 _ rfl; refine pk_ ?_; refine blk_put (cs := #[.int .i64 0, .slice none 0 0]) ?_ 0 _ rfl; exact pk_ BK193.out⟩, ⟨bk_ HB.out⟩⟩
            case round => as_aux_lemma =>
             clear H'
             (try clear c2); (try clear c24); (try clear c29); (try clear c29b0); (try clear c29b1); (try clear c93); (try clear c95); (try clear c95b0); (try clear c95b1); (try clear c194); (try clear hcz102_0); (try clear hcz102_1); (try clear hcz106_0); (try clear hcz106_1); (try clear hcz114_0); (try clear hcz114_1); (try clear hcz116_0); (try clear hcz116_1); (try clear hcz117_0); (try clear hcz117_1); (try clear hcz126_0); (try clear hcz126_1); (try clear hcz201_0); (try clear hcz201_1); (try clear hcz210_0); (try clear hcz210_1); (try clear hcz33_0); (try clear hcz33_1); (try clear hcz34_0); (try clear hcz34_1); (try clear hcz39_0); (try clear hcz39_1); (try clear hcz41_0); (try clear hcz41_1); (try clear hcz42_0); (try clear hcz42_1); (try clear hcz48_0); (try clear hcz48_1); (try clear hcz50_0); (try clear hcz50_1); (try clear hcz57_0); (try clear hcz57_1); (try clear hfz102_0); (try clear hfz102_1); (try clear hfz106_0); (try clear hfz106_1); (try clear hfz114_0); (try clear hfz114_1); (try clear hfz116_0); (try clear hfz116_1); (try clear hfz117_0); (try clear hfz117_1); (try clear hfz126_0); (try clear hfz126_1); (try clear hfz201_0); (try clear hfz201_1); (try clear hfz210_0); (try clear hfz210_1); (try clear hfz33_0); (try clear hfz33_1); (try clear hfz34_0); (try clear hfz34_1); (try clear hfz39_0); (try clear hfz39_1); (try clear hfz41_0); (try clear hfz41_1); (try clear hfz42_0); (try clear hfz42_1); (try clear hfz48_0); (try clear hfz48_1); (try clear hfz50_0); (try clear hfz50_1); (try clear hfz57_0); (try clear hfz57_1)
             obtain ⟨x27_4, x194000_4, x194001_4, u194001, rfl, HA, HK4, HO_150001, HO_159001, HO_166001, HO_174001, HO_182001, HO_191001, HO_194001, BK148, BK149, BK158, BK165, BK173, BK181, BK190, BK193, HB⟩ := hrel
             cases gk with
             | zero => exact absurd HA.out (by simp [standstilllaw06_CounterParts.l0])
             | succ k4 =>
              have H := HA.out
              clear HA
              simp only [standstilllaw06_CounterParts.l0] at H
              by_cases c211 : x27_4 < t179
              ·rw [if_pos c211] at H
               have c211b0 : decide (x27_4 < t179) = true := decide_eq_true c211
               clear c211
               replace H := Option.bind_eq_some_iff.mp H
               obtain ⟨⟨t195, t196, t199⟩, A2120, H⟩ := H
               replace H : (if t199 = 0 then ((standstillref06_In.f k4 t195 l2).bind fun t200 => (if t200 = true then (none) else (standstilllaw06_CounterParts.l0 k4 l2 t179 (wrap64 (x27_4 + 1)) a0_0 l0_1 t195 t196))) else (none)) = some r := H
               have A212 := Aside0.mk A2120
               clear A2120
               by_cases c213 : t199 = 0
               ·rw [if_pos c213] at H
                have c213b0 : (t199 == 0) = true := beq_iff_eq.mpr c213
                have c213b1 : (t199 != 0) = false := bne_eq_false_iff_eq.mpr c213
                clear c213
                replace H := Option.bind_eq_some_iff.mp H
                obtain ⟨t200, A2140, H⟩ := H
                replace H : (if t200 = true then (none) else (standstilllaw06_CounterParts.l0 k4 l2 t179 (wrap64 (x27_4 + 1)) a0_0 l0_1 t195 t196)) = some r := H
                have A214 := Aside0.mk A2140
                clear A2140
                by_cases c215 : t200 = true
                ·subst c215
                 have H1 : (none) = some r := by rw [if_pos rfl] at H; exact H
                 clear H
                 have H := H1
                 clear H1
                 exact absurd H (by simp)
                ·replace c215 := Bool.eq_false_iff.mpr c215
                 subst c215
                 have H1 : (standstilllaw06_CounterParts.l0 k4 l2 t179 (wrap64 (x27_4 + 1)) a0_0 l0_1 t195 t196) = some r := by rw [if_neg (show ¬ (false = true) by decide)] at H; exact H
                 clear H
                 have H := H1
                 clear H1
                 have H' := Aside0.mk H
                 clear H
                 have hnb216 := NB148_149.out
                 have hnc216 := NB149_148.out
                 have hnb217 := NB148_158.out
                 have hnc217 := NB158_148.out
                 have hnb218 := NB148_165.out
                 have hnc218 := NB165_148.out
                 have hnb219 := NB148_173.out
                 have hnc219 := NB173_148.out
                 have hnb220 := NB148_181.out
                 have hnc220 := NB181_148.out
                 have hnb221 := NB148_190.out
                 have hnc221 := NB190_148.out
                 have hnb222 := NB148_193.out
                 have hnc222 := NB193_148.out
                 obtain ⟨hcz223_0, hcz223_1⟩ := bc2_ BK148.out
                 have hfz223_0 := blk_frozen BK148.out 0
                 have hfz223_1 := blk_frozen BK148.out 1
                 have hnb224 := NB193_149.out
                 have hnc224 := NB149_193.out
                 have hnb225 := NB193_158.out
                 have hnc225 := NB158_193.out
                 have hnb226 := NB193_165.out
                 have hnc226 := NB165_193.out
                 have hnb227 := NB193_173.out
                 have hnc227 := NB173_193.out
                 have hnb228 := NB193_181.out
                 have hnc228 := NB181_193.out
                 have hnb229 := NB193_190.out
                 have hnc229 := NB190_193.out
                 obtain ⟨hcz230_0, hcz230_1⟩ := bc2_ BK193.out
                 have hfz230_0 := blk_frozen BK193.out 0
                 have hfz230_1 := blk_frozen BK193.out 1
                 obtain ⟨Ao231, co231, eo231⟩ := Kd.V_slice HO_194001.out
                 subst eo231
                 go_wp2_with (first | ((with_reducible refine gate_callee (f := 19) rfl ?_); refine goesL_ (some 172) rfl rfl Try.func19 (by kernel_rfl) rfl #[.agg #[.int .i64 a0_0, .slice A0_1 l0_1.length c0_1], .agg #[.int .i64 x194000_4, .slice Ao231 x194001_4.length co231]] rfl gl_ ?_; (with_reducible refine (counter_Step.calls k4 a0_0 _ _ l0_1 x194000_4 _ _ x194001_4 t195 t196 t199 _ ?side1 ?side2 ?side3 ?side4 A212.out).mono ?_); (case side1 => exact ck_ (Kd.C_below HR0_1.out HB.out)); (case side2 => exact HC0_1.out); (case side3 => repeat (first | exact (Kd.V_reads' HO_194001.out).2.2 | (with_reducible refine Kd.C_alloc ?_ _) | (with_reducible refine Kd.C_drewN ?_ _) | (with_reducible refine Kd.C_drew ?_))); (case side4 => exact (Kd.V_reads' HO_194001.out).2.1); rintro e w232 ⟨v197, rfl, ho0, hb⟩; refine ⟨_, rfl, ?_⟩; have n0_ := A_ (Kd.V_elder' (by (with_reducible repeat (first | apply Kd.V_alloc | apply Kd.V_drewN | apply Kd.V_drew)); exact HO_150001.out) (Kd.R_base ho0) hb); have n1_ := A_ (Kd.R_elder' (rk_ HO_159001.out) (Kd.R_base ho0) hb); have n2_ := A_ (Kd.R_elder' (rk_ HO_166001.out) (Kd.R_base ho0) hb); have n3_ := A_ (Kd.R_elder' (rk_ HO_174001.out) (Kd.R_base ho0) hb); have n4_ := A_ (Kd.R_elder' (rk_ HO_182001.out) (Kd.R_base ho0) hb); have n5_ := A_ (Kd.R_elder' (rk_ HO_191001.out) (Kd.R_base ho0) hb); have n7_ := A_ (Kd.R_lower (Kd.R_new' (Kd.R_new' (Kd.R_new' (Kd.R_new' (Kd.R_new' (Kd.R_newM (M := fun k_ => (w.heap.size ≤ k_)) ho0 (below_size (bk_ HB.out)) (fun k_ h_ => h_)) (Kd.R_lt (rk_ HO_159001.out))) (Kd.R_lt (rk_ HO_166001.out))) (Kd.R_lt (rk_ HO_174001.out))) (Kd.R_lt (rk_ HO_182001.out))) (Kd.R_lt (rk_ HO_191001.out))) (below_size (bk_ HB.out))); have n8_ := A_ (blk_below (pk_ BK148.out) hb); have n9_ := A_ (blk_below (pk_ BK149.out) hb); have n10_ := A_ (blk_below (pk_ BK158.out) hb); have n11_ := A_ (blk_below (pk_ BK165.out) hb); have n12_ := A_ (blk_below (pk_ BK173.out) hb); have n13_ := A_ (blk_below (pk_ BK181.out) hb); have n14_ := A_ (blk_below (pk_ BK190.out) hb); have n15_ := A_ (blk_below (pk_ BK193.out) hb); have n16_ := A_ (below_step (bk_ HB.out) hb); clear HO_150001 HO_159001 HO_166001 HO_174001 HO_182001 HO_191001 BK148 BK149 BK158 BK165 BK173 BK181 BK190 BK193 HB; have HO_150001 := n0_; have HO_159001 := n1_; have HO_166001 := n2_; have HO_174001 := n3_; have HO_182001 := n4_; have HO_191001 := n5_; have HO198 := n7_; have BK148 := n8_; have BK149 := n9_; have BK158 := n10_; have BK165 := n11_; have BK173 := n12_; have BK181 := n13_; have BK190 := n14_; have BK193 := n15_; have HB := n16_; clear n0_ n1_ n2_ n3_ n4_ n5_ n7_ n8_ n9_ n10_ n11_ n12_ n13_ n14_ n15_ n16_; (try clear hb); (try clear hb2); (try clear hk); (try clear hi); (try clear ho0); obtain ⟨hcz233_0, hcz233_1⟩ := bc2_ BK193.out; have hfz233_0 := blk_frozen BK193.out 0; have hfz233_1 := blk_frozen BK193.out 1; obtain ⟨Ao234, co234, eo234⟩ := Kd.R_slice HO198.out; subst eo234) | (go_at_call 24; (with_reducible refine (standstillref06_In.calls k4 t195 _ _ l2 false _ ?side1 ?side2 A214.out).mono ?_); (case side1 => exact Kd.C_below HR2.out (bk_ HB.out)); (case side2 => exact HC2.out); rintro e w' ⟨rfl, ⟨nd, rfl⟩⟩))
                 go_roundg k4
                 case measure => have := HJ5.out; have := HJ30.out; have := HJ96.out; have := HK4.out; omega
                 case rel => exact ⟨(wrap64 (x27_4 + 1)), (t195), (t196), (.slice Ao234 t196.length co234), jr_, H', ⟨by have := HJ5.out; have := HJ30.out; have := HJ96.out; have := HK4.out; omega⟩, ⟨by (with_reducible repeat (first | apply Kd.V_alloc | apply Kd.V_drewN | apply Kd.V_drew)); exact Kd.V_mono (Kd.V_far (p := ⟨gb193, 1, none⟩) (Kd.V_far (p := ⟨gb193, 0, none⟩) (Kd.V_mono HO_150001.out (fun k_ hk => (⟨hk, hk.1.2.2.2.2.2.2.2.2.2.2.2.2.2⟩ : _ ∧ k_ ≠ gb193))) (fun _ hk => hk.2) (.int .i64 t195)) (fun _ hk => hk.2) (.slice Ao234 t196.length co234)) (fun _ hk => ⟨hk.1.1.1, ⟨hk.1.1.2.1, ⟨hk.1.1.2.2.1, ⟨hk.1.1.2.2.2.1, ⟨hk.1.1.2.2.2.2.1, ⟨hk.1.1.2.2.2.2.2.1, ⟨hk.1.1.2.2.2.2.2.2.1, ⟨hk.1.1.2.2.2.2.2.2.2.1, ⟨hk.1.1.2.2.2.2.2.2.2.2.1, ⟨hk.1.1.2.2.2.2.2.2.2.2.2.1, ⟨hk.1.1.2.2.2.2.2.2.2.2.2.2.1, ⟨hk.1.1.2.2.2.2.2.2.2.2.2.2.2.1, ⟨hk.1.1.2.2.2.2.2.2.2.2.2.2.2.2.1, hk.1.1.2.2.2.2.2.2.2.2.2.2.2.2.2⟩⟩⟩⟩⟩⟩⟩⟩⟩⟩⟩⟩⟩)⟩, ⟨by (with_reducible repeat (first | apply Kd.R_alloc | apply Kd.R_drewN | apply Kd.R_drew)); exact Kd.R_mono (rf2_ (Kd.R_types HO_159001.out BK193.out (by decide))) (fun _ hk => ⟨hk.1.1.1, ⟨hk.1.1.2.1, ⟨hk.1.1.2.2.1, ⟨hk.1.1.2.2.2.1, hk.1.1.2.2.2.2⟩⟩⟩⟩)⟩, ⟨by (with_reducible repeat (first | apply Kd.R_alloc | apply Kd.R_drewN | apply Kd.R_drew)); exact Kd.R_mono (rf2_ (Kd.R_types HO_166001.out BK193.out (by decide))) (fun _ hk => ⟨hk.1.1.1, ⟨hk.1.1.2.1, ⟨hk.1.1.2.2.1, ⟨hk.1.1.2.2.2.1, hk.1.1.2.2.2.2⟩⟩⟩⟩)⟩, ⟨by (with_reducible repeat (first | apply Kd.R_alloc | apply Kd.R_drewN | apply Kd.R_drew)); exact Kd.R_mono (rf2_ (Kd.R_types HO_174001.out BK193.out (by decide))) (fun _ hk => ⟨hk.1.1.1, ⟨hk.1.1.2.1, ⟨hk.1.1.2.2.1, ⟨hk.1.1.2.2.2.1, hk.1.1.2.2.2.2⟩⟩⟩⟩)⟩, ⟨by (with_reducible repeat (first | apply Kd.R_alloc | apply Kd.R_drewN | apply Kd.R_drew)); exact Kd.R_mono (rf2_ (Kd.R_types HO_182001.out BK193.out (by decide))) (fun _ hk => ⟨hk.1.1.1, ⟨hk.1.1.2.1, ⟨hk.1.1.2.2.1, ⟨hk.1.1.2.2.2.1, hk.1.1.2.2.2.2⟩⟩⟩⟩)⟩, ⟨by (with_reducible repeat (first | apply Kd.R_alloc | apply Kd.R_drewN | apply Kd.R_drew)); exact Kd.R_mono (rf2_ (Kd.R_types HO_191001.out BK193.out (by decide))) (fun _ hk => ⟨hk.1.1.1, ⟨hk.1.1.2.1, ⟨hk.1.1.2.2.1, ⟨hk.1.1.2.2.2.1, hk.1.1.2.2.2.2⟩⟩⟩⟩)⟩, ⟨Kd.V_mono (ok := fun k_ => (w.heap.size ≤ k_) ∧ some k_ ≠ ((.slice Ao40 t153.length co40) : Value).ownBlock ∧ some k_ ≠ ((.slice Ao49 t160.length co49) : Value).ownBlock ∧ some k_ ≠ ((.slice Ao58 t168.length co58) : Value).ownBlock ∧ some k_ ≠ ((.slice Ao115 t176.length co115) : Value).ownBlock ∧ some k_ ≠ ((.slice Ao127 t185.length co127) : Value).ownBlock ∧ k_ ≠ gb148 ∧ k_ ≠ gb149 ∧ k_ ≠ gb158 ∧ k_ ≠ gb165 ∧ k_ ≠ gb173 ∧ k_ ≠ gb181 ∧ k_ ≠ gb190 ∧ k_ ≠ gb193) (Kd.R_V (by (with_reducible repeat (first | apply Kd.R_alloc | apply Kd.R_drewN | apply Kd.R_drew)); exact Kd.R_mono (rf2_ (Kd.R_types (Kd.R_types (Kd.R_types (Kd.R_types (Kd.R_types (Kd.R_types (Kd.R_types (Kd.R_types (Kd.R_types HO198.out BK148.out (by decide)) BK149.out (by decide)) BK158.out (by decide)) BK165.out (by decide)) BK173.out (by decide)) BK181.out (by decide)) BK190.out (by decide)) BK193.out (by decide)) BK193.out (by decide))) (fun _ hk => ⟨hk.1.1.1.1.1.1.1.1.1.1.1.1.1.1.1, ⟨hk.1.1.1.1.1.1.1.1.1.1.1.1.1.2, ⟨hk.1.1.1.1.1.1.1.1.1.1.1.1.2, ⟨hk.1.1.1.1.1.1.1.1.1.1.1.2, ⟨hk.1.1.1.1.1.1.1.1.1.1.2, ⟨hk.1.1.1.1.1.1.1.1.1.2, ⟨hk.1.1.1.1.1.1.1.1.2, ⟨hk.1.1.1.1.1.1.1.2, ⟨hk.1.1.1.1.1.1.2, ⟨hk.1.1.1.1.1.2, ⟨hk.1.1.1.1.2, ⟨hk.1.1.1.2, ⟨hk.1.1.2, hk.1.2⟩⟩⟩⟩⟩⟩⟩⟩⟩⟩⟩⟩⟩))) (fun k_ hk => by first | exact ⟨(.inr (hk.1)), hk.2⟩ | exact (.inr (hk)))⟩, ⟨by (iterate 2 (refine pk_ ?_; refine blk_far ?_ NB148_193.out _)); exact pk_ BK148.out⟩, ⟨by (iterate 2 (refine pk_ ?_; refine blk_far ?_ NB149_193.out _)); exact pk_ BK149.out⟩, ⟨by (iterate 2 (refine pk_ ?_; refine blk_far ?_ NB158_193.out _)); exact pk_ BK158.out⟩, ⟨by (iterate 2 (refine pk_ ?_; refine blk_far ?_ NB165_193.out _)); exact pk_ BK165.out⟩, ⟨by (iterate 2 (refine pk_ ?_; refine blk_far ?_ NB173_193.out _)); exact pk_ BK173.out⟩, ⟨by (iterate 2 (refine pk_ ?_; refine blk_far ?_ NB181_193.out _)); exact pk_ BK181.out⟩, ⟨by (iterate 2 (refine pk_ ?_; refine blk_far ?_ NB190_193.out _)); exact pk_ BK190.out⟩, ⟨by refine pk_ ?_; refine blk_put (cs := #[.int .i64 t195, .slice Ao231 x194001_4.length co231]) ?_ 1 _ rfl; refine pk_ ?_; refine blk_put (cs := #[.int .i64 x194000_4, .slice Ao231 x194001_4.length co231]) ?_ 0 _ rfl; exact pk_ BK193.out⟩, ⟨bk_ HB.out⟩⟩
               ·rw [if_neg c213] at H
                exact absurd H (by simp)
              ·rw [if_neg c211] at H
               have c211b0 : decide (x27_4 < t179) = false := decide_eq_false c211
               clear c211
               replace H := Option.bind_eq_some_iff.mp H
               obtain ⟨t194, A2350, H⟩ := H
               replace H : (some t194) = some r := H
               have A235 := Aside0.mk A2350
               clear A2350
               obtain rfl := Option.some.inj H
               go_wp2_with (first | ((with_reducible refine gate_callee (f := 10) rfl ?_); refine goesL_ (some 183) rfl rfl Try.func10 (by kernel_rfl) rfl #[] rfl gl_ ?_; (with_reducible refine (standstilllaw06_awake.calls k4  t194 _ A235.out).mono ?_); rintro e w236 ⟨rfl, hb⟩; refine ⟨_, rfl, ?_⟩; have n0_ := A_ (Kd.V_below (by (with_reducible repeat (first | apply Kd.V_alloc | apply Kd.V_drewN | apply Kd.V_drew)); exact HO_150001.out) hb); have n1_ := A_ (Kd.R_below (rk_ HO_159001.out) hb); have n2_ := A_ (Kd.R_below (rk_ HO_166001.out) hb); have n3_ := A_ (Kd.R_below (rk_ HO_174001.out) hb); have n7_ := A_ (blk_below (pk_ BK148.out) hb); have n8_ := A_ (blk_below (pk_ BK149.out) hb); have n9_ := A_ (blk_below (pk_ BK158.out) hb); have n10_ := A_ (blk_below (pk_ BK165.out) hb); have n12_ := A_ (blk_below (pk_ BK181.out) hb); have n15_ := A_ (below_step (bk_ HB.out) hb); clear HO_150001 HO_159001 HO_166001 HO_174001 BK148 BK149 BK158 BK165 BK181 HB; have HO_150001 := n0_; have HO_159001 := n1_; have HO_166001 := n2_; have HO_174001 := n3_; have BK148 := n7_; have BK149 := n8_; have BK158 := n9_; have BK165 := n10_; have BK181 := n12_; have HB := n15_; clear n0_ n1_ n2_ n3_ n7_ n8_ n9_ n10_ n12_ n15_; (try clear hb); (try clear hb2); (try clear hk); (try clear hi)))
               go_ret
               exact ⟨er_, bk_ HB.out⟩
        ·rw [if_neg c95] at H
         have c95b0 : (t180 == 0) = false := beq_eq_false_iff_ne.mpr c95
         have c95b1 : (t180 != 0) = true := bne_iff_ne.mpr c95
         by_cases c237 : t180 = 6
         ·rw [if_pos c237] at H
          have c237b0 : (t180 == 6) = true := beq_iff_eq.mpr c237
          have c237b1 : (t180 != 6) = false := bne_eq_false_iff_eq.mpr c237
          clear c237
          replace H := Option.bind_eq_some_iff.mp H
          obtain ⟨t182, A2380, H⟩ := H
          replace H : (some t182) = some r := H
          have A238 := Aside0.mk A2380
          clear A2380
          obtain rfl := Option.some.inj H
          have hnb239 := NB148_149.out
          have hnc239 := NB149_148.out
          have hnb240 := NB148_158.out
          have hnc240 := NB158_148.out
          have hnb241 := NB148_165.out
          have hnc241 := NB165_148.out
          obtain ⟨hcz243_0, hcz243_1⟩ := bc2_ BK148.out
          have hfz243_0 := blk_frozen BK148.out 0
          have hfz243_1 := blk_frozen BK148.out 1
          have hnb244 := NB149_158.out
          have hnc244 := NB158_149.out
          have hnb245 := NB149_165.out
          have hnc245 := NB165_149.out
          obtain ⟨hcz247_0, hcz247_1⟩ := bc2_ BK149.out
          have hfz247_0 := blk_frozen BK149.out 0
          have hfz247_1 := blk_frozen BK149.out 1
          go_wp2_with (first | ((with_reducible refine gate_callee (f := 20) rfl ?_); refine goesL_ (some 110) rfl rfl Try.func20 (by kernel_rfl) rfl #[.agg #[.int .i64 a0_0, .slice A0_1 l0_1.length c0_1], .agg #[.int .i64 a1_0, .slice A1_1 l1_1.length c1_1], .slice A2 l2.length c2, .int .i64 (wrap64 (a3))] rfl gl_ ?_; (with_reducible refine (counter_Until.calls kj30 a0_0 _ _ l0_1 a1_0 _ _ l1_1 _ _ l2 (wrap64 (a3)) t175 t176 t179 t180 _ ?side1 ?side2 ?side3 ?side4 ?side5 ?side6 A94.out).mono ?_); (case side1 => exact ck_ (Kd.C_below HR0_1.out HB.out)); (case side2 => exact HC0_1.out); (case side3 => repeat (first | exact (Kd.V_reads' HO_150001.out).2.2 | (with_reducible refine Kd.C_alloc ?_ _) | (with_reducible refine Kd.C_drewN ?_ _) | (with_reducible refine Kd.C_drew ?_))); (case side4 => exact (Kd.V_reads' HO_150001.out).2.1); (case side5 => exact ck_ (Kd.C_below HR2.out HB.out)); (case side6 => exact HC2.out); rintro e w248 ⟨v177, rfl, ho0, hb⟩; refine ⟨_, rfl, ?_⟩; have n0_ := A_ (Kd.V_elder' (by (with_reducible repeat (first | apply Kd.V_alloc | apply Kd.V_drewN | apply Kd.V_drew)); exact HO_150001.out) (Kd.R_base ho0) hb); have n1_ := A_ (Kd.R_elder' (rk_ HO_159001.out) (Kd.R_base ho0) hb); have n2_ := A_ (Kd.R_elder' (rk_ HO_166001.out) (Kd.R_base ho0) hb); have n3_ := A_ (Kd.R_elder' (rk_ HO_174001.out) (Kd.R_base ho0) hb); have n4_ := A_ (Kd.R_lower (Kd.R_new' (Kd.R_new' (Kd.R_new' (Kd.R_newM (M := fun k_ => (w.heap.size ≤ k_)) ho0 (below_size (bk_ HB.out)) (fun k_ h_ => h_)) (Kd.R_lt (rk_ HO_159001.out))) (Kd.R_lt (rk_ HO_166001.out))) (Kd.R_lt (rk_ HO_174001.out))) (below_size (bk_ HB.out))); have n5_ := A_ (blk_below (pk_ BK148.out) hb); have n6_ := A_ (blk_below (pk_ BK149.out) hb); have n7_ := A_ (blk_below (pk_ BK158.out) hb); have n8_ := A_ (blk_below (pk_ BK165.out) hb); have n10_ := A_ (below_step (bk_ HB.out) hb); clear HO_150001 HO_159001 HO_166001 HO_174001 BK148 BK149 BK158 BK165 HB; have HO_150001 := n0_; have HO_159001 := n1_; have HO_166001 := n2_; have HO_174001 := n3_; have HO178 := n4_; have BK148 := n5_; have BK149 := n6_; have BK158 := n7_; have BK165 := n8_; have HB := n10_; clear n0_ n1_ n2_ n3_ n4_ n5_ n6_ n7_ n8_ n10_; (try clear hb); (try clear hb2); (try clear hk); (try clear hi); (try clear ho0)) | ((with_reducible refine gate_dst (N := 20) rfl ?_); (try (refine gate_guard (by rfl) ?_; dsimp only)); refine box_event ?hg (N := 20) ?hd (cs := #[.int .i64 0, .slice none 0 0]) (t := 27) ?hr ?_; (case hd => rfl); (case hg => rfl); (case hr => first | (go_simp; done) | (go_simp; rfl)); intro gb181 hg w249 hbox hb; have n0_ := A_ (Kd.V_below (Kd.V_elderB (by (with_reducible repeat (first | apply Kd.V_alloc | apply Kd.V_drewN | apply Kd.V_drew)); exact HO_150001.out) gb181 (Nat.le_of_eq hg.symm)) hb); have n1_ := A_ (Kd.R_below (rk_ HO_159001.out) hb); have n2_ := A_ (Kd.R_below (rk_ HO_166001.out) hb); have n3_ := A_ (Kd.R_below (rk_ HO_174001.out) hb); have n4_ := A_ (Kd.R_below (rk_ HO178.out) hb); have n5_ := A_ (blk_below (pk_ BK148.out) hb); have n6_ := A_ (blk_below (pk_ BK149.out) hb); have n7_ := A_ (blk_below (pk_ BK158.out) hb); have n8_ := A_ (blk_below (pk_ BK165.out) hb); have n10_ := A_ (below_step (bk_ HB.out) hb); have n11_ := A_ (hbox); have n12_ := A_ (bz_ hg (bk_ HB.out)); have n13_ := A_ (bz_ hg (bk_ HB.out)); have n14_ := A_ (nl_ hg (pk_ BK148.out)); have n15_ := A_ (ng_ hg (pk_ BK148.out)); have n16_ := A_ (nl_ hg (pk_ BK149.out)); have n17_ := A_ (ng_ hg (pk_ BK149.out)); have n18_ := A_ (nl_ hg (pk_ BK158.out)); have n19_ := A_ (ng_ hg (pk_ BK158.out)); have n20_ := A_ (nl_ hg (pk_ BK165.out)); have n21_ := A_ (ng_ hg (pk_ BK165.out)); clear HO_150001 HO_159001 HO_166001 HO_174001 HO178 BK148 BK149 BK158 BK165 HB; have HO_150001 := n0_; have HO_159001 := n1_; have HO_166001 := n2_; have HO_174001 := n3_; have HO178 := n4_; have BK148 := n5_; have BK149 := n6_; have BK158 := n7_; have BK165 := n8_; have HB := n10_; have BK181 := n11_; have GW181 := n12_; have GE181 := n13_; have NB148_181 := n14_; have NB181_148 := n15_; have NB149_181 := n16_; have NB181_149 := n17_; have NB158_181 := n18_; have NB181_158 := n19_; have NB165_181 := n20_; have NB181_165 := n21_; clear n0_ n1_ n2_ n3_ n4_ n5_ n6_ n7_ n8_ n10_ n11_ n12_ n13_ n14_ n15_ n16_ n17_ n18_ n19_ n20_ n21_ hb hbox hg; have hnb250 := NB181_148.out; have hnc250 := NB148_181.out; have hnb251 := NB181_149.out; have hnc251 := NB149_181.out; have hnb252 := NB181_158.out; have hnc252 := NB158_181.out; have hnb253 := NB181_165.out; have hnc253 := NB165_181.out; obtain ⟨hcz255_0, hcz255_1⟩ := bc2_ BK181.out; have hfz255_0 := blk_frozen BK181.out 0; have hfz255_1 := blk_frozen BK181.out 1; obtain ⟨Ao256, co256, eo256⟩ := Kd.R_slice HO178.out; subst eo256) | (go_at_call 10; (with_reducible refine (standstilllaw06_awake.calls kj30  t182 _ A238.out).mono ?_); rintro e w257 ⟨rfl, hb⟩; have n0_ := A_ (Kd.V_below (by (with_reducible repeat (first | apply Kd.V_alloc | apply Kd.V_drewN | apply Kd.V_drew)); exact (Kd.V_mono (Kd.V_far (p := ⟨gb181, 1, none⟩) (Kd.V_far (p := ⟨gb181, 0, none⟩) (Kd.V_mono HO_150001.out (fun k_ hk => (⟨hk, hk.2⟩ : _ ∧ k_ ≠ gb181))) (fun _ hk => hk.2) (.int .i64 t175)) (fun _ hk => hk.2) (.slice Ao256 t176.length co256)) (fun _ h_ => h_.1))) hb); have n1_ := A_ (Kd.R_below (rz_ HO_159001.out BK181.out) hb); have n2_ := A_ (Kd.R_below (rz_ HO_166001.out BK181.out) hb); have n3_ := A_ (Kd.R_below (rz_ HO_174001.out BK181.out) hb); have n4_ := A_ (Kd.R_below (rz_ HO178.out BK181.out) hb); have n5_ := A_ (bf_ BK148.out NB148_181.out hb); have n6_ := A_ (bf_ BK149.out NB149_181.out hb); have n7_ := A_ (bf_ BK158.out NB158_181.out hb); have n8_ := A_ (bf_ BK165.out NB165_181.out hb); have n10_ := A_ (blk_below (g := gb181) (o := .cells #[.int .i64 t175, .slice Ao256 t176.length co256] 27 (0, 0)) (by refine pk_ ?_; refine blk_put (cs := #[.int .i64 t175, .slice none 0 0]) ?_ 1 _ rfl; refine pk_ ?_; refine blk_put (cs := #[.int .i64 0, .slice none 0 0]) ?_ 0 _ rfl; exact pk_ BK181.out) hb); have n11_ := A_ (below_step (bk_ HB.out) hb); clear HO_150001 HO_159001 HO_166001 HO_174001 HO178 BK148 BK149 BK158 BK165 BK181 HB; have HO_150001 := n0_; have HO_159001 := n1_; have HO_166001 := n2_; have HO_174001 := n3_; have HO178 := n4_; have BK148 := n5_; have BK149 := n6_; have BK158 := n7_; have BK165 := n8_; have BK181 := n10_; have HB := n11_; clear n0_ n1_ n2_ n3_ n4_ n5_ n6_ n7_ n8_ n10_ n11_; (try clear hb); (try clear hb2); (try clear hk); (try clear hi)))
          go_ret
          exact ⟨er_, bk_ HB.out⟩
         ·rw [if_neg c237] at H
          have c237b0 : (t180 == 6) = false := beq_eq_false_iff_ne.mpr c237
          have c237b1 : (t180 != 6) = true := bne_iff_ne.mpr c237
          by_cases c258 : t180 = 2
          ·rw [if_pos c258] at H
           have c258b0 : (t180 == 2) = true := beq_iff_eq.mpr c258
           have c258b1 : (t180 != 2) = false := bne_eq_false_iff_eq.mpr c258
           clear c258
           replace H := Option.bind_eq_some_iff.mp H
           obtain ⟨t183, A2590, H⟩ := H
           replace H : (some t183) = some r := H
           have A259 := Aside0.mk A2590
           clear A2590
           obtain rfl := Option.some.inj H
           have hnb260 := NB148_149.out
           have hnc260 := NB149_148.out
           have hnb261 := NB148_158.out
           have hnc261 := NB158_148.out
           have hnb262 := NB148_165.out
           have hnc262 := NB165_148.out
           obtain ⟨hcz264_0, hcz264_1⟩ := bc2_ BK148.out
           have hfz264_0 := blk_frozen BK148.out 0
           have hfz264_1 := blk_frozen BK148.out 1
           have hnb265 := NB149_158.out
           have hnc265 := NB158_149.out
           have hnb266 := NB149_165.out
           have hnc266 := NB165_149.out
           obtain ⟨hcz268_0, hcz268_1⟩ := bc2_ BK149.out
           have hfz268_0 := blk_frozen BK149.out 0
           have hfz268_1 := blk_frozen BK149.out 1
           go_wp2_with (first | ((with_reducible refine gate_callee (f := 20) rfl ?_); refine goesL_ (some 110) rfl rfl Try.func20 (by kernel_rfl) rfl #[.agg #[.int .i64 a0_0, .slice A0_1 l0_1.length c0_1], .agg #[.int .i64 a1_0, .slice A1_1 l1_1.length c1_1], .slice A2 l2.length c2, .int .i64 (wrap64 (a3))] rfl gl_ ?_; (with_reducible refine (counter_Until.calls kj30 a0_0 _ _ l0_1 a1_0 _ _ l1_1 _ _ l2 (wrap64 (a3)) t175 t176 t179 t180 _ ?side1 ?side2 ?side3 ?side4 ?side5 ?side6 A94.out).mono ?_); (case side1 => exact ck_ (Kd.C_below HR0_1.out HB.out)); (case side2 => exact HC0_1.out); (case side3 => repeat (first | exact (Kd.V_reads' HO_150001.out).2.2 | (with_reducible refine Kd.C_alloc ?_ _) | (with_reducible refine Kd.C_drewN ?_ _) | (with_reducible refine Kd.C_drew ?_))); (case side4 => exact (Kd.V_reads' HO_150001.out).2.1); (case side5 => exact ck_ (Kd.C_below HR2.out HB.out)); (case side6 => exact HC2.out); rintro e w269 ⟨v177, rfl, ho0, hb⟩; refine ⟨_, rfl, ?_⟩; have n0_ := A_ (Kd.V_elder' (by (with_reducible repeat (first | apply Kd.V_alloc | apply Kd.V_drewN | apply Kd.V_drew)); exact HO_150001.out) (Kd.R_base ho0) hb); have n4_ := A_ (Kd.R_lower (Kd.R_new' (Kd.R_new' (Kd.R_new' (Kd.R_newM (M := fun k_ => (w.heap.size ≤ k_)) ho0 (below_size (bk_ HB.out)) (fun k_ h_ => h_)) (Kd.R_lt (rk_ HO_159001.out))) (Kd.R_lt (rk_ HO_166001.out))) (Kd.R_lt (rk_ HO_174001.out))) (below_size (bk_ HB.out))); have n5_ := A_ (blk_below (pk_ BK148.out) hb); have n6_ := A_ (blk_below (pk_ BK149.out) hb); have n7_ := A_ (blk_below (pk_ BK158.out) hb); have n8_ := A_ (blk_below (pk_ BK165.out) hb); have n10_ := A_ (below_step (bk_ HB.out) hb); clear HO_150001 BK148 BK149 BK158 BK165 HB; have HO_150001 := n0_; have HO178 := n4_; have BK148 := n5_; have BK149 := n6_; have BK158 := n7_; have BK165 := n8_; have HB := n10_; clear n0_ n4_ n5_ n6_ n7_ n8_ n10_; (try clear hb); (try clear hb2); (try clear hk); (try clear hi); (try clear ho0)) | ((with_reducible refine gate_dst (N := 20) rfl ?_); (try (refine gate_guard (by rfl) ?_; dsimp only)); refine box_event ?hg (N := 20) ?hd (cs := #[.int .i64 0, .slice none 0 0]) (t := 27) ?hr ?_; (case hd => rfl); (case hg => rfl); (case hr => first | (go_simp; done) | (go_simp; rfl)); intro gb181 hg w270 hbox hb; have n0_ := A_ (Kd.V_below (Kd.V_elderB (by (with_reducible repeat (first | apply Kd.V_alloc | apply Kd.V_drewN | apply Kd.V_drew)); exact HO_150001.out) gb181 (Nat.le_of_eq hg.symm)) hb); have n4_ := A_ (Kd.R_below (rk_ HO178.out) hb); have n5_ := A_ (blk_below (pk_ BK148.out) hb); have n6_ := A_ (blk_below (pk_ BK149.out) hb); have n7_ := A_ (blk_below (pk_ BK158.out) hb); have n8_ := A_ (blk_below (pk_ BK165.out) hb); have n10_ := A_ (below_step (bk_ HB.out) hb); have n11_ := A_ (hbox); have n12_ := A_ (bz_ hg (bk_ HB.out)); have n13_ := A_ (bz_ hg (bk_ HB.out)); have n14_ := A_ (nl_ hg (pk_ BK148.out)); have n15_ := A_ (ng_ hg (pk_ BK148.out)); have n16_ := A_ (nl_ hg (pk_ BK149.out)); have n17_ := A_ (ng_ hg (pk_ BK149.out)); have n18_ := A_ (nl_ hg (pk_ BK158.out)); have n19_ := A_ (ng_ hg (pk_ BK158.out)); have n20_ := A_ (nl_ hg (pk_ BK165.out)); have n21_ := A_ (ng_ hg (pk_ BK165.out)); clear HO_150001 HO178 BK148 BK149 BK158 BK165 HB; have HO_150001 := n0_; have HO178 := n4_; have BK148 := n5_; have BK149 := n6_; have BK158 := n7_; have BK165 := n8_; have HB := n10_; have BK181 := n11_; have GW181 := n12_; have GE181 := n13_; have NB148_181 := n14_; have NB181_148 := n15_; have NB149_181 := n16_; have NB181_149 := n17_; have NB158_181 := n18_; have NB181_158 := n19_; have NB165_181 := n20_; have NB181_165 := n21_; clear n0_ n4_ n5_ n6_ n7_ n8_ n10_ n11_ n12_ n13_ n14_ n15_ n16_ n17_ n18_ n19_ n20_ n21_ hb hbox hg; have hnb271 := NB181_148.out; have hnc271 := NB148_181.out; have hnb272 := NB181_149.out; have hnc272 := NB149_181.out; have hnb273 := NB181_158.out; have hnc273 := NB158_181.out; have hnb274 := NB181_165.out; have hnc274 := NB165_181.out; obtain ⟨hcz276_0, hcz276_1⟩ := bc2_ BK181.out; have hfz276_0 := blk_frozen BK181.out 0; have hfz276_1 := blk_frozen BK181.out 1; obtain ⟨Ao277, co277, eo277⟩ := Kd.R_slice HO178.out; subst eo277) | (go_at_call 10; (with_reducible refine (standstilllaw06_awake.calls kj30  t183 _ A259.out).mono ?_); rintro e w278 ⟨rfl, hb⟩; have n0_ := A_ (Kd.V_below (by (with_reducible repeat (first | apply Kd.V_alloc | apply Kd.V_drewN | apply Kd.V_drew)); exact (Kd.V_mono (Kd.V_far (p := ⟨gb181, 1, none⟩) (Kd.V_far (p := ⟨gb181, 0, none⟩) (Kd.V_mono HO_150001.out (fun k_ hk => (⟨hk, hk.2⟩ : _ ∧ k_ ≠ gb181))) (fun _ hk => hk.2) (.int .i64 t175)) (fun _ hk => hk.2) (.slice Ao277 t176.length co277)) (fun _ h_ => h_.1))) hb); have n5_ := A_ (bf_ BK148.out NB148_181.out hb); have n6_ := A_ (bf_ BK149.out NB149_181.out hb); have n7_ := A_ (bf_ BK158.out NB158_181.out hb); have n8_ := A_ (bf_ BK165.out NB165_181.out hb); have n11_ := A_ (below_step (bk_ HB.out) hb); clear HO_150001 BK148 BK149 BK158 BK165 HB; have HO_150001 := n0_; have BK148 := n5_; have BK149 := n6_; have BK158 := n7_; have BK165 := n8_; have HB := n11_; clear n0_ n5_ n6_ n7_ n8_ n11_; (try clear hb); (try clear hb2); (try clear hk); (try clear hi)))
           go_ret
           exact ⟨er_, bk_ HB.out⟩
          ·rw [if_neg c258] at H
           exact absurd H (by simp)
    ·rw [if_neg c29] at H
     have c29b0 : (t164 == 0) = false := beq_eq_false_iff_ne.mpr c29
     have c29b1 : (t164 != 0) = true := bne_iff_ne.mpr c29
     by_cases c279 : t157 = t164
     ·rw [if_pos c279] at H
      have c279b0 : (t157 == t164) = true := beq_iff_eq.mpr c279
      have c279b1 : (t157 != t164) = false := bne_eq_false_iff_eq.mpr c279
      clear c279
      replace H := Option.bind_eq_some_iff.mp H
      obtain ⟨t166, A2800, H⟩ := H
      replace H : (some t166) = some r := H
      have A280 := Aside0.mk A2800
      clear A2800
      obtain rfl := Option.some.inj H
      have hnb281 := NB148_149.out
      have hnc281 := NB149_148.out
      obtain ⟨hcz282_0, hcz282_1⟩ := bc2_ BK148.out
      have hfz282_0 := blk_frozen BK148.out 0
      have hfz282_1 := blk_frozen BK148.out 1
      obtain ⟨hcz283_0, hcz283_1⟩ := bc2_ BK149.out
      have hfz283_0 := blk_frozen BK149.out 0
      have hfz283_1 := blk_frozen BK149.out 1
      go_wp2_with (first | ((with_reducible refine gate_callee (f := 11) rfl ?_); refine goesL_ (some 54) rfl rfl Try.func11 (by kernel_rfl) rfl #[.agg #[.int .i64 a0_0, .slice A0_1 l0_1.length c0_1], .agg #[.int .i64 a1_0, .slice A1_1 l1_1.length c1_1], .int .i64 (wrap64 ((wrap64 (a3)) + (wrap64 (a4))))] rfl gl_ ?_; (with_reducible refine (counter_Run.calls kj5 a0_0 _ _ l0_1 a1_0 _ _ l1_1 (wrap64 ((wrap64 (a3)) + (wrap64 (a4)))) t152 t153 t156 t157 _ ?side1 ?side2 ?side3 ?side4 A27.out).mono ?_); (case side1 => exact ck_ (Kd.C_below HR0_1.out HB.out)); (case side2 => exact HC0_1.out); (case side3 => repeat (first | exact (Kd.V_reads' HO_150001.out).2.2 | (with_reducible refine Kd.C_alloc ?_ _) | (with_reducible refine Kd.C_drewN ?_ _) | (with_reducible refine Kd.C_drew ?_))); (case side4 => exact (Kd.V_reads' HO_150001.out).2.1); rintro e w284 ⟨v154, rfl, ho0, hb⟩; refine ⟨_, rfl, ?_⟩; have n0_ := A_ (Kd.V_elder' (by (with_reducible repeat (first | apply Kd.V_alloc | apply Kd.V_drewN | apply Kd.V_drew)); exact HO_150001.out) (Kd.R_base ho0) hb); have n1_ := A_ (Kd.R_lower (Kd.R_newM (M := fun k_ => (w.heap.size ≤ k_)) ho0 (below_size (bk_ HB.out)) (fun k_ h_ => h_)) (below_size (bk_ HB.out))); have n2_ := A_ (blk_below (pk_ BK148.out) hb); have n3_ := A_ (blk_below (pk_ BK149.out) hb); have n4_ := A_ (below_step (bk_ HB.out) hb); clear HO_150001 BK148 BK149 HB; have HO_150001 := n0_; have HO155 := n1_; have BK148 := n2_; have BK149 := n3_; have HB := n4_; clear n0_ n1_ n2_ n3_ n4_; (try clear hb); (try clear hb2); (try clear hk); (try clear hi); (try clear ho0)) | ((with_reducible refine gate_dst (N := 11) rfl ?_); (try (refine gate_guard (by rfl) ?_; dsimp only)); refine box_event ?hg (N := 11) ?hd (cs := #[.int .i64 0, .slice none 0 0]) (t := 27) ?hr ?_; (case hd => rfl); (case hg => rfl); (case hr => first | (go_simp; done) | (go_simp; rfl)); intro gb158 hg w285 hbox hb; have n0_ := A_ (Kd.V_below (Kd.V_elderB (by (with_reducible repeat (first | apply Kd.V_alloc | apply Kd.V_drewN | apply Kd.V_drew)); exact HO_150001.out) gb158 (Nat.le_of_eq hg.symm)) hb); have n1_ := A_ (Kd.R_below (rk_ HO155.out) hb); have n2_ := A_ (blk_below (pk_ BK148.out) hb); have n3_ := A_ (blk_below (pk_ BK149.out) hb); have n4_ := A_ (below_step (bk_ HB.out) hb); have n5_ := A_ (hbox); have n6_ := A_ (bz_ hg (bk_ HB.out)); have n7_ := A_ (bz_ hg (bk_ HB.out)); have n8_ := A_ (nl_ hg (pk_ BK148.out)); have n9_ := A_ (ng_ hg (pk_ BK148.out)); have n10_ := A_ (nl_ hg (pk_ BK149.out)); have n11_ := A_ (ng_ hg (pk_ BK149.out)); clear HO_150001 HO155 BK148 BK149 HB; have HO_150001 := n0_; have HO155 := n1_; have BK148 := n2_; have BK149 := n3_; have HB := n4_; have BK158 := n5_; have GW158 := n6_; have GE158 := n7_; have NB148_158 := n8_; have NB158_148 := n9_; have NB149_158 := n10_; have NB158_149 := n11_; clear n0_ n1_ n2_ n3_ n4_ n5_ n6_ n7_ n8_ n9_ n10_ n11_ hb hbox hg; have hnb286 := NB158_148.out; have hnc286 := NB148_158.out; have hnb287 := NB158_149.out; have hnc287 := NB149_158.out; obtain ⟨hcz288_0, hcz288_1⟩ := bc2_ BK158.out; have hfz288_0 := blk_frozen BK158.out 0; have hfz288_1 := blk_frozen BK158.out 1; obtain ⟨Ao289, co289, eo289⟩ := Kd.R_slice HO155.out; subst eo289; obtain ⟨hcz290_0, hcz290_1⟩ := bc2_ BK148.out; have hfz290_0 := blk_frozen BK148.out 0; have hfz290_1 := blk_frozen BK148.out 1; obtain ⟨hcz291_0, hcz291_1⟩ := bc2_ BK149.out; have hfz291_0 := blk_frozen BK149.out 0; have hfz291_1 := blk_frozen BK149.out 1) | ((with_reducible refine gate_callee (f := 11) rfl ?_); refine goesL_ (some 63) rfl rfl Try.func11 (by kernel_rfl) rfl #[.agg #[.int .i64 a0_0, .slice A0_1 l0_1.length c0_1], .agg #[.int .i64 a1_0, .slice A1_1 l1_1.length c1_1], .int .i64 (wrap64 (a3))] rfl gl_ ?_; (with_reducible refine (counter_Run.calls kj5 a0_0 _ _ l0_1 a1_0 _ _ l1_1 (wrap64 (a3)) t159 t160 t163 t164 _ ?side1 ?side2 ?side3 ?side4 A28.out).mono ?_); (case side1 => exact Kd.C_below HR0_1.out (bk_ HB.out)); (case side2 => exact HC0_1.out); (case side3 => refine (Kd.V_reads' (e := 3) (base := w.heap.size) (ok := fun k_ => ((((P1_1_ k_ ∨ w.heap.size ≤ k_) ∧ (k_ ≠ gb148 ∧ k_ ≠ gb149)) ∧ some k_ ≠ (.slice Ao289 t153.length co289 : Value).ownBlock) ∧ k_ ≠ gb158)) (n := l1_1.length) (c := c1_1) ?_).2.2; exact (by (with_reducible repeat (first | apply Kd.V_alloc | apply Kd.V_drewN | apply Kd.V_drew)); exact (Kd.V_mono (Kd.V_far (p := ⟨gb158, 1, none⟩) (Kd.V_far (p := ⟨gb158, 0, none⟩) (Kd.V_mono HO_150001.out (fun k_ hk => (⟨hk, hk.2⟩ : _ ∧ k_ ≠ gb158))) (fun _ hk => hk.2) (.int .i64 t152)) (fun _ hk => hk.2) (.slice Ao289 t153.length co289)) (fun _ h_ => h_.1)))); (case side4 => exact (Kd.V_reads' HO_150001.out).2.1); rintro e w292 ⟨v161, rfl, ho0, hb⟩; refine ⟨_, rfl, ?_⟩; have n2_ := A_ (Kd.R_lower (Kd.R_new' (Kd.R_newM (M := fun k_ => (w.heap.size ≤ k_)) ho0 (below_size (bk_ HB.out)) (fun k_ h_ => h_)) (Kd.R_lt (rz_ HO155.out BK158.out))) (below_size (bk_ HB.out))); have n6_ := A_ (below_step (bk_ HB.out) hb); clear HB; have HO162 := n2_; have HB := n6_; clear n2_ n6_; (try clear hb); (try clear hb2); (try clear hk); (try clear hi); (try clear ho0)) | ((with_reducible refine gate_dst (N := 14) rfl ?_); (try (refine gate_guard (by rfl) ?_; dsimp only)); refine box_event ?hg (N := 14) ?hd (cs := #[.int .i64 0, .slice none 0 0]) (t := 27) ?hr ?_; (case hd => rfl); (case hg => rfl); (case hr => first | (go_simp; done) | (go_simp; rfl)); intro gb165 hg w293 hbox hb; have n2_ := A_ (Kd.R_below (rk_ HO162.out) hb); have n6_ := A_ (below_step (bk_ HB.out) hb); have n7_ := A_ (hbox); have n8_ := A_ (bz_ hg (bk_ HB.out)); have n9_ := A_ (bz_ hg (bk_ HB.out)); clear HO162 HB; have HO162 := n2_; have HB := n6_; have BK165 := n7_; have GW165 := n8_; have GE165 := n9_; clear n2_ n6_ n7_ n8_ n9_ hb hbox hg; obtain ⟨hcz297_0, hcz297_1⟩ := bc2_ BK165.out; have hfz297_0 := blk_frozen BK165.out 0; have hfz297_1 := blk_frozen BK165.out 1; obtain ⟨Ao298, co298, eo298⟩ := Kd.R_slice HO162.out; subst eo298) | (go_at_call 10; (with_reducible refine (standstilllaw06_awake.calls kj5  t166 _ A280.out).mono ?_); rintro e w299 ⟨rfl, hb⟩; have n7_ := A_ (below_step (bk_ HB.out) hb); clear HB; have HB := n7_; clear n7_; (try clear hb); (try clear hb2); (try clear hk); (try clear hi)))
      go_ret
      exact ⟨er_, bk_ HB.out⟩
     ·rw [if_neg c279] at H
      exact absurd H (by simp)

/-- THE ONE PURE STATEMENT of standstilllaw06_CounterParts. -/
def standstilllaw06_CounterParts.Pure : Prop := ∀ (a0_0 : Int) (l0_1 : List (S33)) (a1_0 : Int) (l1_1 : List Int) (l2 : List Int) (a3 : Int) (a4 : Int), ((Lit.int .i64 a0_0).wf = true) → (l0_1.length * 32 ≤ 140737488351232 ∧ ∀ y_ ∈ l0_1, inv33 y_) → ((Lit.int .i64 a1_0).wf = true) → (l1_1.length * 8 ≤ 140737488351232 ∧ ∀ y_ ∈ l1_1, (Lit.int .i64 y_).wf = true) → (l2.length * 8 ≤ 140737488351232 ∧ ∀ y_ ∈ l2, (Lit.int .i64 y_).wf = true) → ((Lit.int .u16 a3).wf = true) → ((Lit.int .u16 a4).wf = true) → ∃ k, standstilllaw06_CounterParts.f k a0_0 l0_1 a1_0 l1_1 l2 a3 a4 = some true

end Go.Proofs.Ytkekehpfkfadfaa.PCounterParts
