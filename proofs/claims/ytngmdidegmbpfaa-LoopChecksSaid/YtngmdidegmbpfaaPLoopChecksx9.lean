-- out of a turned copy of the print, by a program of this session; Lean checks it
import Derived.Test.YtngmdidegmbpfaaPLoopChecksx0
import Derived.Test.YtngmdidegmbpfaaPLoopChecksx4
import Derived.Test.YtngmdidegmbpfaaPLoopChecksx5
import Derived.Test.YtngmdidegmbpfaaPLoopChecksx6
import Derived.Test.YtngmdidegmbpfaaPLoopChecksx7
import Derived.Test.YtngmdidegmbpfaaPLoopChecksx8
namespace Go.Proofs.Ytngmdidegmbpfaa.PLoopChecks
open Go.RowKit Go.Proofs.YtngmdidegmbpfaaW.PrintWords Go.Proofs.YtngmdidegmbpfaaW.PrintLast Go.Proofs.YtngmdidegmbpfaaW.PrintMore
attribute [local go_sem] max2_int min2_int max_two min_two max_three min_three max_four min_four   -- for this text's walks alone
set_option linter.unusedVariables false
set_option linter.unusedSimpArgs false

attribute [local go_sem] isSome_put_
/-! ### standstillref10_Side: function 12 -/
def standstillref10_Side.f (k : Nat) (a0_0 : Int) (a0_1 : Int) (l0_2 : List (List (S52))) (a1 : Int) (a2 : Int) (a3 : Bool) : Option (Bool) := if a3 = true then ((standstillref10_Check.f a0_0 a0_1 l0_2 a1 a2).bind fun t167 => (some t167)) else ((standstillref10_Mirror.f k a0_0 a0_1 l0_2).bind fun bt168 => ((standstillref10_Check.f bt168.1 bt168.2.1 bt168.2.2 a1 a2).bind fun t173 => (some t173)))
theorem standstillref10_Side.mono : ∀ a0 a1 a2 a3 a4 a5 k, LeO (standstillref10_Side.f k a0 a1 a2 a3 a4 a5) (standstillref10_Side.f (k + 1) a0 a1 a2 a3 a4 a5) := by
 intro a0 a1 a2 a3 a4 a5 k
 unfold standstillref10_Side.f
 repeat' first
   | (with_reducible exact standstillref10_Mirror.mono _ _ _ _)
   | (with_reducible exact LeO.refl _)
   | (with_reducible exact LeO.none _)
   | (with_reducible refine LeO.ite ?_ ?_)
   | (with_reducible refine LeO.bind ?_ (fun _ => ?_))
   | exact standstillref10_Mirror.mono _ _ _ _
   | exact LeO.none _
   | refine LeO.ite ?_ ?_
   | refine LeO.bind ?_ (fun _ => ?_)
set_option maxHeartbeats 8000000 in
set_option maxRecDepth 100000 in
theorem standstillref10_Side.calls (k : Nat) (a0_0 : Int) (a0_1 : Int) (A0_2 : Option Addr) (c0_2 : Nat) (l0_2 : List (List (S52))) (a1 : Int) (a2 : Int) (a3 : Bool) (r : Bool) (w : World) (hr0_2 : Kd.C (Kd.slice 52 k52) w A0_2 l0_2.length l0_2) (hc0_2 : l0_2.length ≤ c0_2) (h : standstillref10_Side.f k a0_0 a0_1 l0_2 a1 a2 a3 = some r) :
  Calls Try.prog 12 #[.agg #[.int .i64 a0_0, .int .i64 a0_1, .slice A0_2 l0_2.length c0_2], .int .i64 a1, .int .i64 a2, .bool a3] w fun e w' => e = .returned (.bool r) ∧ Below w.heap.size w w' := by
 have hu24 := Try.underlying24
 have HR0_2 := Aside0.mk hr0_2
 have HC0_2 := Aside0.mk hc0_2
 clear hr0_2 hc0_2
 have HB := A_ (Below.refl w.heap.size w)
 have H : (if a3 = true then ((standstillref10_Check.f a0_0 a0_1 l0_2 a1 a2).bind fun t167 => (some t167)) else ((standstillref10_Mirror.f k a0_0 a0_1 l0_2).bind fun bt168 => ((standstillref10_Check.f bt168.1 bt168.2.1 bt168.2.2 a1 a2).bind fun t173 => (some t173)))) = some r := h
 clear h
 by_cases c5 : a3 = true
 ·subst c5
  have H1 : ((standstillref10_Check.f a0_0 a0_1 l0_2 a1 a2).bind fun t167 => (some t167)) = some r := by rw [if_pos rfl] at H; exact H
  clear H
  have H := H1
  clear H1
  replace H := Option.bind_eq_some_iff.mp H
  obtain ⟨t167, A60, H⟩ := H
  replace H : (some t167) = some r := H
  have A6 := Aside0.mk A60
  clear A60
  obtain rfl := Option.some.inj H
  go_enter Try.func12, Try.ntmps12
  go_wp2_with (first | ((with_reducible refine gate_dst (N := 4) rfl ?_); refine box_event ?hg (N := 4) ?hd (cs := #[.int .i64 a0_0, .int .i64 a0_1, .slice A0_2 l0_2.length c0_2]) (t := 24) ?hr ?_; (case hd => rfl); (case hg => rfl); (case hr => first | (go_simp; done) | (go_simp; rfl)); intro gb166 hg w7 hbox hb; have n0_ := A_ (below_step (bk_ HB.out) hb); have n1_ := A_ (hbox); have n2_ := A_ ((by rw [hg]; exact (below_size (bk_ HB.out)) : w.heap.size ≤ gb166)); have n3_ := A_ ((by rw [hg]; exact (below_size (bk_ HB.out)) : w.heap.size ≤ gb166)); clear HB; have HB := n0_; have BK166 := n1_; have GW166 := n2_; have GE166 := n3_; clear n0_ n1_ n2_ n3_ hb hbox hg; have hcz8_0 : w7.cell? ⟨gb166, 0, none⟩ = some (.int .i64 a0_0) := (blk_cell BK166.out 0).trans rfl; have hcz8_1 : w7.cell? ⟨gb166, 1, none⟩ = some (.int .i64 a0_1) := (blk_cell BK166.out 1).trans rfl; have hcz8_2 : w7.cell? ⟨gb166, 2, none⟩ = some (.slice A0_2 l0_2.length c0_2) := (blk_cell BK166.out 2).trans rfl; have hfz8_0 := blk_frozen BK166.out 0; have hfz8_1 := blk_frozen BK166.out 1; have hfz8_2 := blk_frozen BK166.out 2) | ((with_reducible refine gate_callee (f := 23) rfl ?_); refine goesL_ (some 16) rfl rfl Try.func23 (by kernel_rfl) rfl #[.agg #[.int .i64 a0_0, .int .i64 a0_1, .slice A0_2 l0_2.length c0_2], .int .i64 a1, .int .i64 a2] rfl gl_ ?_; (with_reducible refine (standstillref10_Check.calls a0_0 a0_1 _ _ l0_2 a1 a2 t167 _ ?side1 ?side2 A6.out).mono ?_); (case side1 => exact ck_ (Kd.C_below HR0_2.out HB.out)); (case side2 => exact HC0_2.out); rintro e w9 ⟨rfl, hb⟩; refine ⟨_, rfl, ?_⟩; have n0_ := A_ (blk_below (pk_ BK166.out) hb); have n1_ := A_ (below_step (bk_ HB.out) hb); clear BK166 HB; have BK166 := n0_; have HB := n1_; clear n0_ n1_; (try clear hb); (try clear hb2); (try clear hk); (try clear hi)))
  go_ret
  exact ⟨er_, bk_ HB.out⟩
 ·replace c5 := Bool.eq_false_iff.mpr c5
  subst c5
  have H1 : ((standstillref10_Mirror.f k a0_0 a0_1 l0_2).bind fun bt168 => ((standstillref10_Check.f bt168.1 bt168.2.1 bt168.2.2 a1 a2).bind fun t173 => (some t173))) = some r := by rw [if_neg (show ¬ (false = true) by decide)] at H; exact H
  clear H
  have H := H1
  clear H1
  replace H := Option.bind_eq_some_iff.mp H
  obtain ⟨⟨t168, t169, t170⟩, A100, H⟩ := H
  replace H : ((standstillref10_Check.f t168 t169 t170 a1 a2).bind fun t173 => (some t173)) = some r := H
  have A10 := Aside0.mk A100
  clear A100
  replace H := Option.bind_eq_some_iff.mp H
  obtain ⟨t173, A110, H⟩ := H
  replace H : (some t173) = some r := H
  have A11 := Aside0.mk A110
  clear A110
  obtain rfl := Option.some.inj H
  go_enter Try.func12, Try.ntmps12
  go_wp2_with (first | ((with_reducible refine gate_dst (N := 4) rfl ?_); refine box_event ?hg (N := 4) ?hd (cs := #[.int .i64 a0_0, .int .i64 a0_1, .slice A0_2 l0_2.length c0_2]) (t := 24) ?hr ?_; (case hd => rfl); (case hg => rfl); (case hr => first | (go_simp; done) | (go_simp; rfl)); intro gb166 hg w12 hbox hb; have n0_ := A_ (below_step (bk_ HB.out) hb); have n1_ := A_ (hbox); have n2_ := A_ ((by rw [hg]; exact (below_size (bk_ HB.out)) : w.heap.size ≤ gb166)); have n3_ := A_ ((by rw [hg]; exact (below_size (bk_ HB.out)) : w.heap.size ≤ gb166)); clear HB; have HB := n0_; have BK166 := n1_; have GW166 := n2_; have GE166 := n3_; clear n0_ n1_ n2_ n3_ hb hbox hg; have hcz13_0 : w12.cell? ⟨gb166, 0, none⟩ = some (.int .i64 a0_0) := (blk_cell BK166.out 0).trans rfl; have hcz13_1 : w12.cell? ⟨gb166, 1, none⟩ = some (.int .i64 a0_1) := (blk_cell BK166.out 1).trans rfl; have hcz13_2 : w12.cell? ⟨gb166, 2, none⟩ = some (.slice A0_2 l0_2.length c0_2) := (blk_cell BK166.out 2).trans rfl; have hfz13_0 := blk_frozen BK166.out 0; have hfz13_1 := blk_frozen BK166.out 1; have hfz13_2 := blk_frozen BK166.out 2) | ((with_reducible refine gate_callee (f := 14) rfl ?_); refine goesL_ (some 12) rfl rfl Try.func14 (by kernel_rfl) rfl #[.agg #[.int .i64 a0_0, .int .i64 a0_1, .slice A0_2 l0_2.length c0_2]] rfl gl_ ?_; (with_reducible refine (standstillref10_Mirror.calls k a0_0 a0_1 _ _ l0_2 t168 t169 t170 _ ?side1 ?side2 A10.out).mono ?_); (case side1 => exact ck_ (Kd.C_below HR0_2.out HB.out)); (case side2 => exact HC0_2.out); rintro e w14 ⟨v171, rfl, ho0, hb⟩; refine ⟨_, rfl, ?_⟩; have n0_ := A_ (Kd.S_lower ho0 (below_size (bk_ HB.out))); have n1_ := A_ (blk_below (pk_ BK166.out) hb); have n2_ := A_ (below_step (bk_ HB.out) hb); clear BK166 HB; have HO172 := n0_; have BK166 := n1_; have HB := n2_; clear n0_ n1_ n2_; (try clear hb); (try clear hb2); (try clear hk); (try clear hi); (try clear ho0); have hcz15_0 : w14.cell? ⟨gb166, 0, none⟩ = some (.int .i64 a0_0) := (blk_cell BK166.out 0).trans rfl; have hcz15_1 : w14.cell? ⟨gb166, 1, none⟩ = some (.int .i64 a0_1) := (blk_cell BK166.out 1).trans rfl; have hcz15_2 : w14.cell? ⟨gb166, 2, none⟩ = some (.slice A0_2 l0_2.length c0_2) := (blk_cell BK166.out 2).trans rfl; have hfz15_0 := blk_frozen BK166.out 0; have hfz15_1 := blk_frozen BK166.out 1; have hfz15_2 := blk_frozen BK166.out 2; obtain ⟨Ao16, co16, eo16⟩ := Kd.S_slice HO172.out; subst eo16) | ((with_reducible refine gate_callee (f := 23) rfl ?_); refine goesL_ (some 16) rfl rfl Try.func23 (by kernel_rfl) rfl #[.agg #[.int .i64 t168, .int .i64 t169, .slice Ao16 t170.length co16], .int .i64 a1, .int .i64 a2] rfl gl_ ?_; (with_reducible refine (standstillref10_Check.calls t168 t169 _ _ t170 a1 a2 t173 _ ?side1 ?side2 A11.out).mono ?_); (case side1 => refine (Kd.S_reads' (e := 53) (base := w.heap.size) (ok := fun k_ => True) (n := t170.length) (c := co16) ?_).2.2; exact (by (with_reducible repeat (first | apply Kd.S_alloc | apply Kd.S_drewN | apply Kd.S_drew)); exact (Kd.S_mono (Kd.S_far (p := ⟨gb166, 2, none⟩) (Kd.S_far (p := ⟨gb166, 1, none⟩) (Kd.S_far (p := ⟨gb166, 0, none⟩) (Kd.S_types HO172.out BK166.out (by decide)) (fun _ hk => hk.2) (.int .i64 t168)) (fun _ hk => hk.2) (.int .i64 t169)) (fun _ hk => hk.2) (.slice Ao16 t170.length co16)) (fun _ h_ => h_.1)))); (case side2 => exact (Kd.S_reads' HO172.out).2.1); rintro e w17 ⟨rfl, hb⟩; refine ⟨_, rfl, ?_⟩; have n0_ := A_ (Kd.S_below (by (with_reducible repeat (first | apply Kd.S_alloc | apply Kd.S_drewN | apply Kd.S_drew)); exact (Kd.S_mono (Kd.S_far (p := ⟨gb166, 2, none⟩) (Kd.S_far (p := ⟨gb166, 1, none⟩) (Kd.S_far (p := ⟨gb166, 0, none⟩) (Kd.S_types HO172.out BK166.out (by decide)) (fun _ hk => hk.2) (.int .i64 t168)) (fun _ hk => hk.2) (.int .i64 t169)) (fun _ hk => hk.2) (.slice Ao16 t170.length co16)) (fun _ h_ => h_.1))) hb); have n1_ := A_ (blk_below (g := gb166) (o := .cells #[.int .i64 t168, .int .i64 t169, .slice Ao16 t170.length co16] 24 (0, 0)) (by refine pk_ ?_; refine blk_put (cs := #[.int .i64 t168, .int .i64 t169, .slice A0_2 l0_2.length c0_2]) ?_ 2 _ rfl; refine pk_ ?_; refine blk_put (cs := #[.int .i64 t168, .int .i64 a0_1, .slice A0_2 l0_2.length c0_2]) ?_ 1 _ rfl; refine pk_ ?_; refine blk_put (cs := #[.int .i64 a0_0, .int .i64 a0_1, .slice A0_2 l0_2.length c0_2]) ?_ 0 _ rfl; exact pk_ BK166.out) hb); have n2_ := A_ (below_step (bk_ HB.out) hb); clear HO172 BK166 HB; have HO172 := n0_; have BK166 := n1_; have HB := n2_; clear n0_ n1_ n2_; (try clear hb); (try clear hb2); (try clear hk); (try clear hi)))
  go_ret
  exact ⟨er_, bk_ HB.out⟩

/-! ### standstilllaw10_LoopChecks: function 3 -/
mutual
def standstilllaw10_LoopChecks.j0 : Nat → Int → Int → Bool → Bool → Int → Int → List (List (S52)) → Option (Bool)
 | 0, _, _, _, _, _, _, _ => none
 | k + 1, x1, x2, x3, x16, x175000, x175001, x175002 => if x16 = true then ((standstilllaw10_awake.f k).bind fun t175 => (some t175)) else ((loop_Check.f k x175000 x175001 x175002 x1 x2 x3).bind fun bt176 => ((standstillref10_Valid.f k x175000 x175001 x175002).bind fun t178 => (if t178 = true then (if x1 < 0 then (standstilllaw10_LoopChecks.j1 k x1 x2 x3 bt176.1 bt176.2 true x175000 x175001 x175002) else (if x1 ≥ x2 then (standstilllaw10_LoopChecks.j1 k x1 x2 x3 bt176.1 bt176.2 true x175000 x175001 x175002) else (standstilllaw10_LoopChecks.j1 k x1 x2 x3 bt176.1 bt176.2 (decide (x2 > 1000000)) x175000 x175001 x175002))) else (if bt176.2 = 1 then (if bt176.1 = true then (some false) else ((standstilllaw10_awake.f k).bind fun t182 => (some t182))) else (some false)))))
def standstilllaw10_LoopChecks.j1 : Nat → Int → Int → Bool → Bool → Int → Bool → Int → Int → List (List (S52)) → Option (Bool)
 | 0, _, _, _, _, _, _, _, _, _ => none
 | k + 1, x1, x2, x3, x9, x10, x39, x175000, x175001, x175002 => if x39 = true then (if x10 = 2 then (if x9 = true then (some false) else ((standstilllaw10_awake.f k).bind fun t179 => (some t179))) else (some false)) else (if x10 = 0 then ((standstillref10_Side.f k x175000 x175001 x175002 x1 x2 x3).bind fun t180 => (if (x9 == t180) = true then ((standstilllaw10_awake.f k).bind fun t181 => (some t181)) else (some false))) else (some false))
end
def standstilllaw10_LoopChecks.f (k : Nat) (a0_0 : Int) (a0_1 : Int) (l0_2 : List (List (S52))) (a1 : Int) (a2 : Int) (a3 : Bool) : Option (Bool) := if a2 > 3000 then (standstilllaw10_LoopChecks.j0 k a1 a2 a3 (decide (a2 ≤ 1000000)) a0_0 a0_1 l0_2) else (standstilllaw10_LoopChecks.j0 k a1 a2 a3 false a0_0 a0_1 l0_2)
theorem standstilllaw10_LoopChecks.mono_l : ∀ k, (∀ y0 y1 y2 y3 y4 y5 y6, LeO (standstilllaw10_LoopChecks.j0 k y0 y1 y2 y3 y4 y5 y6) (standstilllaw10_LoopChecks.j0 (k + 1) y0 y1 y2 y3 y4 y5 y6)) ∧ (∀ y0 y1 y2 y3 y4 y5 y6 y7 y8, LeO (standstilllaw10_LoopChecks.j1 k y0 y1 y2 y3 y4 y5 y6 y7 y8) (standstilllaw10_LoopChecks.j1 (k + 1) y0 y1 y2 y3 y4 y5 y6 y7 y8))
 | 0 => ⟨fun _ _ _ _ _ _ _ r h => by simp [standstilllaw10_LoopChecks.j0] at h, fun _ _ _ _ _ _ _ _ _ r h => by simp [standstilllaw10_LoopChecks.j1] at h⟩
 | k + 1 => by
  obtain ⟨ih0, ih1⟩ := standstilllaw10_LoopChecks.mono_l k
  refine ⟨?_, ?_⟩
  ·intro y0 y1 y2 y3 y4 y5 y6
   unfold standstilllaw10_LoopChecks.j0
   repeat' first
   | (with_reducible exact ih0 _ _ _ _ _ _ _)
   | (with_reducible exact ih1 _ _ _ _ _ _ _ _ _)
   | (with_reducible exact loop_Check.mono _ _ _ _ _ _ _)
   | (with_reducible exact standstilllaw10_awake.mono _)
   | (with_reducible exact standstillref10_Side.mono _ _ _ _ _ _ _)
   | (with_reducible exact standstillref10_Valid.mono _ _ _ _)
   | (with_reducible exact LeO.refl _)
   | (with_reducible exact LeO.none _)
   | (with_reducible refine LeO.ite ?_ ?_)
   | (with_reducible refine LeO.bind ?_ (fun _ => ?_))
   | exact ih0 _ _ _ _ _ _ _
   | exact ih1 _ _ _ _ _ _ _ _ _
   | exact loop_Check.mono _ _ _ _ _ _ _
   | exact standstilllaw10_awake.mono _
   | exact standstillref10_Side.mono _ _ _ _ _ _ _
   | exact standstillref10_Valid.mono _ _ _ _
   | exact LeO.none _
   | refine LeO.ite ?_ ?_
   | refine LeO.bind ?_ (fun _ => ?_)
  ·intro y0 y1 y2 y3 y4 y5 y6 y7 y8
   unfold standstilllaw10_LoopChecks.j1
   repeat' first
   | (with_reducible exact ih0 _ _ _ _ _ _ _)
   | (with_reducible exact ih1 _ _ _ _ _ _ _ _ _)
   | (with_reducible exact loop_Check.mono _ _ _ _ _ _ _)
   | (with_reducible exact standstilllaw10_awake.mono _)
   | (with_reducible exact standstillref10_Side.mono _ _ _ _ _ _ _)
   | (with_reducible exact standstillref10_Valid.mono _ _ _ _)
   | (with_reducible exact LeO.refl _)
   | (with_reducible exact LeO.none _)
   | (with_reducible refine LeO.ite ?_ ?_)
   | (with_reducible refine LeO.bind ?_ (fun _ => ?_))
   | exact ih0 _ _ _ _ _ _ _
   | exact ih1 _ _ _ _ _ _ _ _ _
   | exact loop_Check.mono _ _ _ _ _ _ _
   | exact standstilllaw10_awake.mono _
   | exact standstillref10_Side.mono _ _ _ _ _ _ _
   | exact standstillref10_Valid.mono _ _ _ _
   | exact LeO.none _
   | refine LeO.ite ?_ ?_
   | refine LeO.bind ?_ (fun _ => ?_)
theorem standstilllaw10_LoopChecks.mono : ∀ a0 a1 a2 a3 a4 a5 k, LeO (standstilllaw10_LoopChecks.f k a0 a1 a2 a3 a4 a5) (standstilllaw10_LoopChecks.f (k + 1) a0 a1 a2 a3 a4 a5) := by
 intro a0 a1 a2 a3 a4 a5 k
 obtain ⟨ih0, ih1⟩ := standstilllaw10_LoopChecks.mono_l k
 unfold standstilllaw10_LoopChecks.f
 repeat' first
   | (with_reducible exact ih0 _ _ _ _ _ _ _)
   | (with_reducible exact ih1 _ _ _ _ _ _ _ _ _)
   | (with_reducible exact loop_Check.mono _ _ _ _ _ _ _)
   | (with_reducible exact standstilllaw10_awake.mono _)
   | (with_reducible exact standstillref10_Side.mono _ _ _ _ _ _ _)
   | (with_reducible exact standstillref10_Valid.mono _ _ _ _)
   | (with_reducible exact LeO.refl _)
   | (with_reducible exact LeO.none _)
   | (with_reducible refine LeO.ite ?_ ?_)
   | (with_reducible refine LeO.bind ?_ (fun _ => ?_))
   | exact ih0 _ _ _ _ _ _ _
   | exact ih1 _ _ _ _ _ _ _ _ _
   | exact loop_Check.mono _ _ _ _ _ _ _
   | exact standstilllaw10_awake.mono _
   | exact standstillref10_Side.mono _ _ _ _ _ _ _
   | exact standstillref10_Valid.mono _ _ _ _
   | exact LeO.none _
   | refine LeO.ite ?_ ?_
   | refine LeO.bind ?_ (fun _ => ?_)
set_option maxHeartbeats 8000000 in
set_option maxRecDepth 100000 in
theorem standstilllaw10_LoopChecks.calls (k : Nat) (a0_0 : Int) (a0_1 : Int) (A0_2 : Option Addr) (c0_2 : Nat) (l0_2 : List (List (S52))) (a1 : Int) (a2 : Int) (a3 : Bool) (r : Bool) (w : World) (hr0_2 : Kd.C (Kd.slice 52 k52) w A0_2 l0_2.length l0_2) (hc0_2 : l0_2.length ≤ c0_2) (h : standstilllaw10_LoopChecks.f k a0_0 a0_1 l0_2 a1 a2 a3 = some r) :
  Calls Try.prog 3 #[.agg #[.int .i64 a0_0, .int .i64 a0_1, .slice A0_2 l0_2.length c0_2], .int .i64 a1, .int .i64 a2, .bool a3] w fun e w' => e = .returned (.bool r) ∧ Below w.heap.size w w' := by
 have hu24 := Try.underlying24
 have HR0_2 := Aside0.mk hr0_2
 have HC0_2 := Aside0.mk hc0_2
 clear hr0_2 hc0_2
 have HB := A_ (Below.refl w.heap.size w)
 have H : (if a2 > 3000 then (standstilllaw10_LoopChecks.j0 k a1 a2 a3 (decide (a2 ≤ 1000000)) a0_0 a0_1 l0_2) else (standstilllaw10_LoopChecks.j0 k a1 a2 a3 false a0_0 a0_1 l0_2)) = some r := h
 clear h
 have HC5 := Aside0.mk H
 clear H
 go_enter Try.func3, Try.ntmps3
 go_upto_region 1 with (first | ((with_reducible refine gate_dst (N := 4) rfl ?_); refine box_event ?hg (N := 4) ?hd (cs := #[.int .i64 a0_0, .int .i64 a0_1, .slice A0_2 l0_2.length c0_2]) (t := 24) ?hr ?_; (case hd => rfl); (case hg => rfl); (case hr => first | (go_simp; done) | (go_simp; rfl)); intro gb174 hg w6 hbox hb; have n0_ := A_ (below_step (bk_ HB.out) hb); have n1_ := A_ (hbox); have n2_ := A_ ((by rw [hg]; exact (below_size (bk_ HB.out)) : w.heap.size ≤ gb174)); have n3_ := A_ ((by rw [hg]; exact (below_size (bk_ HB.out)) : w.heap.size ≤ gb174)); clear HB; have HB := n0_; have BK174 := n1_; have GW174 := n2_; have GE174 := n3_; clear n0_ n1_ n2_ n3_ hb hbox hg))
 (try simp only [Act.put, List.setIfInBounds_toArray, List.set_cons_zero, List.set_cons_succ])
 go_cut [16] (fun v16 wc => ∃ (kq : Nat) (x16_4 : Bool), v16 = .bool x16_4 ∧ Aside0 (standstilllaw10_LoopChecks.j0 kq a1 a2 a3 x16_4 a0_0 a0_1 l0_2 = some r) ∧ Aside0 (kq ≤ k) ∧ Aside0 (wc.heap[gb174]? = some (.cells #[.int .i64 a0_0, .int .i64 a0_1, (.slice A0_2 l0_2.length c0_2)] 24 (0, 0))) ∧ Aside0 (Below w.heap.size w wc))
 case first =>
  have H := HC5.out
  clear HC5
  by_cases c7 : a2 > 3000
  ·rw [if_pos c7] at H
   have c7b0 : decide (3000 < a2) = true := decide_eq_true c7
   clear c7
   (first | rw [c7b0] | (simp only [i64_w, i32_w]; rw [c7b0]) | skip)
   have H' := Aside0.mk H
   clear H
   go_wp2
   go_meet
   case rel => exact ⟨_, (decide (a2 ≤ 1000000)), jr_, H', ⟨by first | omega | exact Nat.le_refl _⟩, ⟨pk_ BK174.out⟩, ⟨bk_ HB.out⟩⟩
  ·rw [if_neg c7] at H
   have c7b0 : decide (3000 < a2) = false := decide_eq_false c7
   clear c7
   (first | rw [c7b0] | (simp only [i64_w, i32_w]; rw [c7b0]) | skip)
   have H' := Aside0.mk H
   clear H
   go_wp2
   go_meet
   case rel => exact ⟨_, (false), jr_, H', ⟨by first | omega | exact Nat.le_refl _⟩, ⟨pk_ BK174.out⟩, ⟨bk_ HB.out⟩⟩
 case rest =>
  clear HC5
  obtain ⟨kq, x16_4, rfl, HA, HJ4, BK174, HB⟩ := hcut
  cases kq with
  | zero => exact absurd HA.out (by simp [standstilllaw10_LoopChecks.j0])
  | succ kj4 =>
   have H := HA.out
   clear HA
   simp only [standstilllaw10_LoopChecks.j0] at H
   by_cases c8 : x16_4 = true
   ·subst c8
    have H1 : ((standstilllaw10_awake.f kj4).bind fun t175 => (some t175)) = some r := by rw [if_pos rfl] at H; exact H
    clear H
    have H := H1
    clear H1
    replace H := Option.bind_eq_some_iff.mp H
    obtain ⟨t175, A90, H⟩ := H
    replace H : (some t175) = some r := H
    have A9 := Aside0.mk A90
    clear A90
    obtain rfl := Option.some.inj H
    go_wp2_with (first | ((with_reducible refine gate_callee (f := 9) rfl ?_); refine goesL_ (some 17) rfl rfl Try.func9 (by kernel_rfl) rfl #[] rfl gl_ ?_; (with_reducible refine (standstilllaw10_awake.calls kj4  t175 _ A9.out).mono ?_); rintro e w10 ⟨rfl, hb⟩; refine ⟨_, rfl, ?_⟩; have n0_ := A_ (blk_below (pk_ BK174.out) hb); have n1_ := A_ (below_step (bk_ HB.out) hb); clear BK174 HB; have BK174 := n0_; have HB := n1_; clear n0_ n1_; (try clear hb); (try clear hb2); (try clear hk); (try clear hi)))
    go_ret
    exact ⟨er_, bk_ HB.out⟩
   ·replace c8 := Bool.eq_false_iff.mpr c8
    subst c8
    have H1 : ((loop_Check.f kj4 a0_0 a0_1 l0_2 a1 a2 a3).bind fun bt176 => ((standstillref10_Valid.f kj4 a0_0 a0_1 l0_2).bind fun t178 => (if t178 = true then (if a1 < 0 then (standstilllaw10_LoopChecks.j1 kj4 a1 a2 a3 bt176.1 bt176.2 true a0_0 a0_1 l0_2) else (if a1 ≥ a2 then (standstilllaw10_LoopChecks.j1 kj4 a1 a2 a3 bt176.1 bt176.2 true a0_0 a0_1 l0_2) else (standstilllaw10_LoopChecks.j1 kj4 a1 a2 a3 bt176.1 bt176.2 (decide (a2 > 1000000)) a0_0 a0_1 l0_2))) else (if bt176.2 = 1 then (if bt176.1 = true then (some false) else ((standstilllaw10_awake.f kj4).bind fun t182 => (some t182))) else (some false))))) = some r := by rw [if_neg (show ¬ (false = true) by decide)] at H; exact H
    clear H
    have H := H1
    clear H1
    replace H := Option.bind_eq_some_iff.mp H
    obtain ⟨⟨t176, t177⟩, A110, H⟩ := H
    replace H : ((standstillref10_Valid.f kj4 a0_0 a0_1 l0_2).bind fun t178 => (if t178 = true then (if a1 < 0 then (standstilllaw10_LoopChecks.j1 kj4 a1 a2 a3 t176 t177 true a0_0 a0_1 l0_2) else (if a1 ≥ a2 then (standstilllaw10_LoopChecks.j1 kj4 a1 a2 a3 t176 t177 true a0_0 a0_1 l0_2) else (standstilllaw10_LoopChecks.j1 kj4 a1 a2 a3 t176 t177 (decide (a2 > 1000000)) a0_0 a0_1 l0_2))) else (if t177 = 1 then (if t176 = true then (some false) else ((standstilllaw10_awake.f kj4).bind fun t182 => (some t182))) else (some false)))) = some r := H
    have A11 := Aside0.mk A110
    clear A110
    replace H := Option.bind_eq_some_iff.mp H
    obtain ⟨t178, A120, H⟩ := H
    replace H : (if t178 = true then (if a1 < 0 then (standstilllaw10_LoopChecks.j1 kj4 a1 a2 a3 t176 t177 true a0_0 a0_1 l0_2) else (if a1 ≥ a2 then (standstilllaw10_LoopChecks.j1 kj4 a1 a2 a3 t176 t177 true a0_0 a0_1 l0_2) else (standstilllaw10_LoopChecks.j1 kj4 a1 a2 a3 t176 t177 (decide (a2 > 1000000)) a0_0 a0_1 l0_2))) else (if t177 = 1 then (if t176 = true then (some false) else ((standstilllaw10_awake.f kj4).bind fun t182 => (some t182))) else (some false))) = some r := H
    have A12 := Aside0.mk A120
    clear A120
    by_cases c13 : t178 = true
    ·subst c13
     have H1 : (if a1 < 0 then (standstilllaw10_LoopChecks.j1 kj4 a1 a2 a3 t176 t177 true a0_0 a0_1 l0_2) else (if a1 ≥ a2 then (standstilllaw10_LoopChecks.j1 kj4 a1 a2 a3 t176 t177 true a0_0 a0_1 l0_2) else (standstilllaw10_LoopChecks.j1 kj4 a1 a2 a3 t176 t177 (decide (a2 > 1000000)) a0_0 a0_1 l0_2))) = some r := by rw [if_pos rfl] at H; exact H
     clear H
     have H := H1
     clear H1
     have HC14 := Aside0.mk H
     clear H
     have hcz15_0 : wc.cell? ⟨gb174, 0, none⟩ = some (.int .i64 a0_0) := (blk_cell BK174.out 0).trans rfl
     have hcz15_1 : wc.cell? ⟨gb174, 1, none⟩ = some (.int .i64 a0_1) := (blk_cell BK174.out 1).trans rfl
     have hcz15_2 : wc.cell? ⟨gb174, 2, none⟩ = some (.slice A0_2 l0_2.length c0_2) := (blk_cell BK174.out 2).trans rfl
     have hfz15_0 := blk_frozen BK174.out 0
     have hfz15_1 := blk_frozen BK174.out 1
     have hfz15_2 := blk_frozen BK174.out 2
     go_upto_region 6 with (first | ((with_reducible refine gate_callee (f := 10) rfl ?_); refine goesL_ (some 23) rfl rfl Try.func10 (by kernel_rfl) rfl #[.agg #[.int .i64 a0_0, .int .i64 a0_1, .slice A0_2 l0_2.length c0_2], .int .i64 a1, .int .i64 a2, .bool a3] rfl gl_ ?_; (with_reducible refine (loop_Check.calls kj4 a0_0 a0_1 _ _ l0_2 a1 a2 a3 t176 t177 _ ?side1 ?side2 A11.out).mono ?_); (case side1 => exact ck_ (Kd.C_below HR0_2.out HB.out)); (case side2 => exact HC0_2.out); rintro e w16 ⟨rfl, hb⟩; refine ⟨_, rfl, ?_⟩; have n0_ := A_ (blk_below (pk_ BK174.out) hb); have n1_ := A_ (below_step (bk_ HB.out) hb); clear BK174 HB; have BK174 := n0_; have HB := n1_; clear n0_ n1_; (try clear hb); (try clear hb2); (try clear hk); (try clear hi); have hcz17_0 : w16.cell? ⟨gb174, 0, none⟩ = some (.int .i64 a0_0) := (blk_cell BK174.out 0).trans rfl; have hcz17_1 : w16.cell? ⟨gb174, 1, none⟩ = some (.int .i64 a0_1) := (blk_cell BK174.out 1).trans rfl; have hcz17_2 : w16.cell? ⟨gb174, 2, none⟩ = some (.slice A0_2 l0_2.length c0_2) := (blk_cell BK174.out 2).trans rfl; have hfz17_0 := blk_frozen BK174.out 0; have hfz17_1 := blk_frozen BK174.out 1; have hfz17_2 := blk_frozen BK174.out 2) | ((with_reducible refine gate_callee (f := 11) rfl ?_); refine goesL_ (some 28) rfl rfl Try.func11 (by kernel_rfl) rfl #[.agg #[.int .i64 a0_0, .int .i64 a0_1, .slice A0_2 l0_2.length c0_2]] rfl gl_ ?_; (with_reducible refine (standstillref10_Valid.calls kj4 a0_0 a0_1 _ _ l0_2 true _ ?side1 ?side2 A12.out).mono ?_); (case side1 => exact ck_ (Kd.C_below HR0_2.out HB.out)); (case side2 => exact HC0_2.out); rintro e w18 ⟨rfl, hb⟩; refine ⟨_, rfl, ?_⟩; have n0_ := A_ (blk_below (pk_ BK174.out) hb); have n1_ := A_ (below_step (bk_ HB.out) hb); clear BK174 HB; have BK174 := n0_; have HB := n1_; clear n0_ n1_; (try clear hb); (try clear hb2); (try clear hk); (try clear hi)))
     (try simp only [Act.put, List.setIfInBounds_toArray, List.set_cons_zero, List.set_cons_succ])
     go_cut [39] (fun v39 wc => ∃ (kq : Nat) (x39_13 : Bool), v39 = .bool x39_13 ∧ Aside0 (standstilllaw10_LoopChecks.j1 kq a1 a2 a3 t176 t177 x39_13 a0_0 a0_1 l0_2 = some r) ∧ Aside0 (kq ≤ kj4) ∧ Aside0 (wc.heap[gb174]? = some (.cells #[.int .i64 a0_0, .int .i64 a0_1, (.slice A0_2 l0_2.length c0_2)] 24 (0, 0))) ∧ Aside0 (Below w.heap.size w wc))
     case first =>
      have H := HC14.out
      clear HC14
      by_cases c19 : a1 < 0
      ·rw [if_pos c19] at H
       have c19b0 : decide (a1 < 0) = true := decide_eq_true c19
       clear c19
       (first | rw [c19b0] | (simp only [i64_w, i32_w]; rw [c19b0]) | skip)
       have H' := Aside0.mk H
       clear H
       go_wp2
       go_meet
       case rel => exact ⟨_, (true), jr_, H', ⟨by have := HJ4.out; first | omega | exact Nat.le_refl _⟩, ⟨pk_ BK174.out⟩, ⟨bk_ HB.out⟩⟩
      ·rw [if_neg c19] at H
       have c19b0 : decide (a1 < 0) = false := decide_eq_false c19
       clear c19
       (first | rw [c19b0] | (simp only [i64_w, i32_w]; rw [c19b0]) | skip)
       by_cases c20 : a1 ≥ a2
       ·rw [if_pos c20] at H
        have c20b0 : decide (a2 ≤ a1) = true := decide_eq_true c20
        clear c20
        have H' := Aside0.mk H
        clear H
        go_wp2
        go_meet
        case rel => exact ⟨_, (true), jr_, H', ⟨by have := HJ4.out; first | omega | exact Nat.le_refl _⟩, ⟨pk_ BK174.out⟩, ⟨bk_ HB.out⟩⟩
       ·rw [if_neg c20] at H
        have c20b0 : decide (a2 ≤ a1) = false := decide_eq_false c20
        clear c20
        have H' := Aside0.mk H
        clear H
        go_wp2
        go_meet
        case rel => exact ⟨_, (decide (a2 > 1000000)), jr_, H', ⟨by have := HJ4.out; first | omega | exact Nat.le_refl _⟩, ⟨pk_ BK174.out⟩, ⟨bk_ HB.out⟩⟩
     case rest =>
      clear HC14
      (try clear c8); (try clear c13); (try clear hcz15_0); (try clear hcz15_1); (try clear hcz15_2); (try clear hcz17_0); (try clear hcz17_1); (try clear hcz17_2); (try clear hfz15_0); (try clear hfz15_1); (try clear hfz15_2); (try clear hfz17_0); (try clear hfz17_1); (try clear hfz17_2)
      obtain ⟨kq, x39_13, rfl, HA, HJ13, BK174, HB⟩ := hcut
      cases kq with
      | zero => exact absurd HA.out (by simp [standstilllaw10_LoopChecks.j1])
      | succ kj13 =>
       have H := HA.out
       clear HA
       simp only [standstilllaw10_LoopChecks.j1] at H
       by_cases c21 : x39_13 = true
       ·subst c21
        have H1 : (if t177 = 2 then (if t176 = true then (some false) else ((standstilllaw10_awake.f kj13).bind fun t179 => (some t179))) else (some false)) = some r := by rw [if_pos rfl] at H; exact H
        clear H
        have H := H1
        clear H1
        by_cases c22 : t177 = 2
        ·rw [if_pos c22] at H
         have c22b0 : (t177 == 2) = true := beq_iff_eq.mpr c22
         have c22b1 : (t177 != 2) = false := bne_eq_false_iff_eq.mpr c22
         clear c22
         by_cases c23 : t176 = true
         ·subst c23
          have H1 : (some false) = some r := by rw [if_pos rfl] at H; exact H
          clear H
          have H := H1
          clear H1
          obtain rfl := Option.some.inj H
          go_wp2
          go_ret
          exact ⟨er_, bk_ HB.out⟩
         ·replace c23 := Bool.eq_false_iff.mpr c23
          subst c23
          have H1 : ((standstilllaw10_awake.f kj13).bind fun t179 => (some t179)) = some r := by rw [if_neg (show ¬ (false = true) by decide)] at H; exact H
          clear H
          have H := H1
          clear H1
          replace H := Option.bind_eq_some_iff.mp H
          obtain ⟨t179, A240, H⟩ := H
          replace H : (some t179) = some r := H
          have A24 := Aside0.mk A240
          clear A240
          obtain rfl := Option.some.inj H
          go_wp2_with (first | (go_at_call 9; (with_reducible refine (standstilllaw10_awake.calls kj13  t179 _ A24.out).mono ?_); rintro e w25 ⟨rfl, hb⟩; have n0_ := A_ (blk_below (pk_ BK174.out) hb); have n1_ := A_ (below_step (bk_ HB.out) hb); clear BK174 HB; have BK174 := n0_; have HB := n1_; clear n0_ n1_; (try clear hb); (try clear hb2); (try clear hk); (try clear hi)))
          go_ret
          exact ⟨er_, bk_ HB.out⟩
        ·rw [if_neg c22] at H
         have c22b0 : (t177 == 2) = false := beq_eq_false_iff_ne.mpr c22
         have c22b1 : (t177 != 2) = true := bne_iff_ne.mpr c22
         obtain rfl := Option.some.inj H
         go_wp2
         go_ret
         exact ⟨er_, bk_ HB.out⟩
       ·replace c21 := Bool.eq_false_iff.mpr c21
        subst c21
        have H1 : (if t177 = 0 then ((standstillref10_Side.f kj13 a0_0 a0_1 l0_2 a1 a2 a3).bind fun t180 => (if (t176 == t180) = true then ((standstilllaw10_awake.f kj13).bind fun t181 => (some t181)) else (some false))) else (some false)) = some r := by rw [if_neg (show ¬ (false = true) by decide)] at H; exact H
        clear H
        have H := H1
        clear H1
        by_cases c26 : t177 = 0
        ·rw [if_pos c26] at H
         have c26b0 : (t177 == 0) = true := beq_iff_eq.mpr c26
         have c26b1 : (t177 != 0) = false := bne_eq_false_iff_eq.mpr c26
         clear c26
         replace H := Option.bind_eq_some_iff.mp H
         obtain ⟨t180, A270, H⟩ := H
         replace H : (if (t176 == t180) = true then ((standstilllaw10_awake.f kj13).bind fun t181 => (some t181)) else (some false)) = some r := H
         have A27 := Aside0.mk A270
         clear A270
         by_cases c28 : (t176 == t180) = true
         ·rw [if_pos c28] at H
          have c28b0 : (t176 == t180) = true := c28
          (try (have c28b1 : decide (t176 = t180) = true := by simpa using c28))
          (try (have c28b2 : (t176 == t180) = true := by simpa using c28))
          clear c28
          replace H := Option.bind_eq_some_iff.mp H
          obtain ⟨t181, A290, H⟩ := H
          replace H : (some t181) = some r := H
          have A29 := Aside0.mk A290
          clear A290
          obtain rfl := Option.some.inj H
          have hcz30_0 : wc.cell? ⟨gb174, 0, none⟩ = some (.int .i64 a0_0) := (blk_cell BK174.out 0).trans rfl
          have hcz30_1 : wc.cell? ⟨gb174, 1, none⟩ = some (.int .i64 a0_1) := (blk_cell BK174.out 1).trans rfl
          have hcz30_2 : wc.cell? ⟨gb174, 2, none⟩ = some (.slice A0_2 l0_2.length c0_2) := (blk_cell BK174.out 2).trans rfl
          have hfz30_0 := blk_frozen BK174.out 0
          have hfz30_1 := blk_frozen BK174.out 1
          have hfz30_2 := blk_frozen BK174.out 2
          go_wp2_with (first | (go_at_call 12; (with_reducible refine (standstillref10_Side.calls kj13 a0_0 a0_1 _ _ l0_2 a1 a2 a3 t180 _ ?side1 ?side2 A27.out).mono ?_); (case side1 => exact ck_ (Kd.C_below HR0_2.out HB.out)); (case side2 => exact HC0_2.out); rintro e w31 ⟨rfl, hb⟩; have n0_ := A_ (blk_below (pk_ BK174.out) hb); have n1_ := A_ (below_step (bk_ HB.out) hb); clear BK174 HB; have BK174 := n0_; have HB := n1_; clear n0_ n1_; (try clear hb); (try clear hb2); (try clear hk); (try clear hi)) | (go_at_call 9; (with_reducible refine (standstilllaw10_awake.calls kj13  t181 _ A29.out).mono ?_); rintro e w32 ⟨rfl, hb⟩; have n0_ := A_ (blk_below (pk_ BK174.out) hb); have n1_ := A_ (below_step (bk_ HB.out) hb); clear BK174 HB; have BK174 := n0_; have HB := n1_; clear n0_ n1_; (try clear hb); (try clear hb2); (try clear hk); (try clear hi)))
          go_ret
          exact ⟨er_, bk_ HB.out⟩
         ·rw [if_neg c28] at H
          have c28b0 : (t176 == t180) = false := by simpa using c28
          (try (have c28b1 : decide (t176 = t180) = false := by simpa using c28))
          (try (have c28b2 : (t176 == t180) = false := by simpa using c28))
          (try (have c28b3 : ¬ (t176 = t180) := by simpa using c28))
          clear c28
          obtain rfl := Option.some.inj H
          have hcz33_0 : wc.cell? ⟨gb174, 0, none⟩ = some (.int .i64 a0_0) := (blk_cell BK174.out 0).trans rfl
          have hcz33_1 : wc.cell? ⟨gb174, 1, none⟩ = some (.int .i64 a0_1) := (blk_cell BK174.out 1).trans rfl
          have hcz33_2 : wc.cell? ⟨gb174, 2, none⟩ = some (.slice A0_2 l0_2.length c0_2) := (blk_cell BK174.out 2).trans rfl
          have hfz33_0 := blk_frozen BK174.out 0
          have hfz33_1 := blk_frozen BK174.out 1
          have hfz33_2 := blk_frozen BK174.out 2
          go_wp2_with (first | (go_at_call 12; (with_reducible refine (standstillref10_Side.calls kj13 a0_0 a0_1 _ _ l0_2 a1 a2 a3 t180 _ ?side1 ?side2 A27.out).mono ?_); (case side1 => exact ck_ (Kd.C_below HR0_2.out HB.out)); (case side2 => exact HC0_2.out); rintro e w34 ⟨rfl, hb⟩; have n0_ := A_ (blk_below (pk_ BK174.out) hb); have n1_ := A_ (below_step (bk_ HB.out) hb); clear BK174 HB; have BK174 := n0_; have HB := n1_; clear n0_ n1_; (try clear hb); (try clear hb2); (try clear hk); (try clear hi)))
          go_ret
          exact ⟨er_, bk_ HB.out⟩
        ·rw [if_neg c26] at H
         have c26b0 : (t177 == 0) = false := beq_eq_false_iff_ne.mpr c26
         have c26b1 : (t177 != 0) = true := bne_iff_ne.mpr c26
         obtain rfl := Option.some.inj H
         go_wp2
         go_ret
         exact ⟨er_, bk_ HB.out⟩
    ·replace c13 := Bool.eq_false_iff.mpr c13
     subst c13
     have H1 : (if t177 = 1 then (if t176 = true then (some false) else ((standstilllaw10_awake.f kj4).bind fun t182 => (some t182))) else (some false)) = some r := by rw [if_neg (show ¬ (false = true) by decide)] at H; exact H
     clear H
     have H := H1
     clear H1
     by_cases c35 : t177 = 1
     ·rw [if_pos c35] at H
      have c35b0 : (t177 == 1) = true := beq_iff_eq.mpr c35
      have c35b1 : (t177 != 1) = false := bne_eq_false_iff_eq.mpr c35
      clear c35
      by_cases c36 : t176 = true
      ·subst c36
       have H1 : (some false) = some r := by rw [if_pos rfl] at H; exact H
       clear H
       have H := H1
       clear H1
       obtain rfl := Option.some.inj H
       have hcz37_0 : wc.cell? ⟨gb174, 0, none⟩ = some (.int .i64 a0_0) := (blk_cell BK174.out 0).trans rfl
       have hcz37_1 : wc.cell? ⟨gb174, 1, none⟩ = some (.int .i64 a0_1) := (blk_cell BK174.out 1).trans rfl
       have hcz37_2 : wc.cell? ⟨gb174, 2, none⟩ = some (.slice A0_2 l0_2.length c0_2) := (blk_cell BK174.out 2).trans rfl
       have hfz37_0 := blk_frozen BK174.out 0
       have hfz37_1 := blk_frozen BK174.out 1
       have hfz37_2 := blk_frozen BK174.out 2
       go_wp2_with (first | ((with_reducible refine gate_callee (f := 10) rfl ?_); refine goesL_ (some 23) rfl rfl Try.func10 (by kernel_rfl) rfl #[.agg #[.int .i64 a0_0, .int .i64 a0_1, .slice A0_2 l0_2.length c0_2], .int .i64 a1, .int .i64 a2, .bool a3] rfl gl_ ?_; (with_reducible refine (loop_Check.calls kj4 a0_0 a0_1 _ _ l0_2 a1 a2 a3 true t177 _ ?side1 ?side2 A11.out).mono ?_); (case side1 => exact ck_ (Kd.C_below HR0_2.out HB.out)); (case side2 => exact HC0_2.out); rintro e w38 ⟨rfl, hb⟩; refine ⟨_, rfl, ?_⟩; have n0_ := A_ (blk_below (pk_ BK174.out) hb); have n1_ := A_ (below_step (bk_ HB.out) hb); clear BK174 HB; have BK174 := n0_; have HB := n1_; clear n0_ n1_; (try clear hb); (try clear hb2); (try clear hk); (try clear hi); have hcz39_0 : w38.cell? ⟨gb174, 0, none⟩ = some (.int .i64 a0_0) := (blk_cell BK174.out 0).trans rfl; have hcz39_1 : w38.cell? ⟨gb174, 1, none⟩ = some (.int .i64 a0_1) := (blk_cell BK174.out 1).trans rfl; have hcz39_2 : w38.cell? ⟨gb174, 2, none⟩ = some (.slice A0_2 l0_2.length c0_2) := (blk_cell BK174.out 2).trans rfl; have hfz39_0 := blk_frozen BK174.out 0; have hfz39_1 := blk_frozen BK174.out 1; have hfz39_2 := blk_frozen BK174.out 2) | ((with_reducible refine gate_callee (f := 11) rfl ?_); refine goesL_ (some 28) rfl rfl Try.func11 (by kernel_rfl) rfl #[.agg #[.int .i64 a0_0, .int .i64 a0_1, .slice A0_2 l0_2.length c0_2]] rfl gl_ ?_; (with_reducible refine (standstillref10_Valid.calls kj4 a0_0 a0_1 _ _ l0_2 false _ ?side1 ?side2 A12.out).mono ?_); (case side1 => exact ck_ (Kd.C_below HR0_2.out HB.out)); (case side2 => exact HC0_2.out); rintro e w40 ⟨rfl, hb⟩; refine ⟨_, rfl, ?_⟩; have n0_ := A_ (blk_below (pk_ BK174.out) hb); have n1_ := A_ (below_step (bk_ HB.out) hb); clear BK174 HB; have BK174 := n0_; have HB := n1_; clear n0_ n1_; (try clear hb); (try clear hb2); (try clear hk); (try clear hi)))
       go_ret
       exact ⟨er_, bk_ HB.out⟩
      ·replace c36 := Bool.eq_false_iff.mpr c36
       subst c36
       have H1 : ((standstilllaw10_awake.f kj4).bind fun t182 => (some t182)) = some r := by rw [if_neg (show ¬ (false = true) by decide)] at H; exact H
       clear H
       have H := H1
       clear H1
       replace H := Option.bind_eq_some_iff.mp H
       obtain ⟨t182, A410, H⟩ := H
       replace H : (some t182) = some r := H
       have A41 := Aside0.mk A410
       clear A410
       obtain rfl := Option.some.inj H
       have hcz42_0 : wc.cell? ⟨gb174, 0, none⟩ = some (.int .i64 a0_0) := (blk_cell BK174.out 0).trans rfl
       have hcz42_1 : wc.cell? ⟨gb174, 1, none⟩ = some (.int .i64 a0_1) := (blk_cell BK174.out 1).trans rfl
       have hcz42_2 : wc.cell? ⟨gb174, 2, none⟩ = some (.slice A0_2 l0_2.length c0_2) := (blk_cell BK174.out 2).trans rfl
       have hfz42_0 := blk_frozen BK174.out 0
       have hfz42_1 := blk_frozen BK174.out 1
       have hfz42_2 := blk_frozen BK174.out 2
       go_wp2_with (first | ((with_reducible refine gate_callee (f := 10) rfl ?_); refine goesL_ (some 23) rfl rfl Try.func10 (by kernel_rfl) rfl #[.agg #[.int .i64 a0_0, .int .i64 a0_1, .slice A0_2 l0_2.length c0_2], .int .i64 a1, .int .i64 a2, .bool a3] rfl gl_ ?_; (with_reducible refine (loop_Check.calls kj4 a0_0 a0_1 _ _ l0_2 a1 a2 a3 false t177 _ ?side1 ?side2 A11.out).mono ?_); (case side1 => exact ck_ (Kd.C_below HR0_2.out HB.out)); (case side2 => exact HC0_2.out); rintro e w43 ⟨rfl, hb⟩; refine ⟨_, rfl, ?_⟩; have n0_ := A_ (blk_below (pk_ BK174.out) hb); have n1_ := A_ (below_step (bk_ HB.out) hb); clear BK174 HB; have BK174 := n0_; have HB := n1_; clear n0_ n1_; (try clear hb); (try clear hb2); (try clear hk); (try clear hi); have hcz44_0 : w43.cell? ⟨gb174, 0, none⟩ = some (.int .i64 a0_0) := (blk_cell BK174.out 0).trans rfl; have hcz44_1 : w43.cell? ⟨gb174, 1, none⟩ = some (.int .i64 a0_1) := (blk_cell BK174.out 1).trans rfl; have hcz44_2 : w43.cell? ⟨gb174, 2, none⟩ = some (.slice A0_2 l0_2.length c0_2) := (blk_cell BK174.out 2).trans rfl; have hfz44_0 := blk_frozen BK174.out 0; have hfz44_1 := blk_frozen BK174.out 1; have hfz44_2 := blk_frozen BK174.out 2) | ((with_reducible refine gate_callee (f := 11) rfl ?_); refine goesL_ (some 28) rfl rfl Try.func11 (by kernel_rfl) rfl #[.agg #[.int .i64 a0_0, .int .i64 a0_1, .slice A0_2 l0_2.length c0_2]] rfl gl_ ?_; (with_reducible refine (standstillref10_Valid.calls kj4 a0_0 a0_1 _ _ l0_2 false _ ?side1 ?side2 A12.out).mono ?_); (case side1 => exact ck_ (Kd.C_below HR0_2.out HB.out)); (case side2 => exact HC0_2.out); rintro e w45 ⟨rfl, hb⟩; refine ⟨_, rfl, ?_⟩; have n0_ := A_ (blk_below (pk_ BK174.out) hb); have n1_ := A_ (below_step (bk_ HB.out) hb); clear BK174 HB; have BK174 := n0_; have HB := n1_; clear n0_ n1_; (try clear hb); (try clear hb2); (try clear hk); (try clear hi)) | (go_at_call 9; (with_reducible refine (standstilllaw10_awake.calls kj4  t182 _ A41.out).mono ?_); rintro e w46 ⟨rfl, hb⟩; have n0_ := A_ (blk_below (pk_ BK174.out) hb); have n1_ := A_ (below_step (bk_ HB.out) hb); clear BK174 HB; have BK174 := n0_; have HB := n1_; clear n0_ n1_; (try clear hb); (try clear hb2); (try clear hk); (try clear hi)))
       go_ret
       exact ⟨er_, bk_ HB.out⟩
     ·rw [if_neg c35] at H
      have c35b0 : (t177 == 1) = false := beq_eq_false_iff_ne.mpr c35
      have c35b1 : (t177 != 1) = true := bne_iff_ne.mpr c35
      obtain rfl := Option.some.inj H
      have hcz47_0 : wc.cell? ⟨gb174, 0, none⟩ = some (.int .i64 a0_0) := (blk_cell BK174.out 0).trans rfl
      have hcz47_1 : wc.cell? ⟨gb174, 1, none⟩ = some (.int .i64 a0_1) := (blk_cell BK174.out 1).trans rfl
      have hcz47_2 : wc.cell? ⟨gb174, 2, none⟩ = some (.slice A0_2 l0_2.length c0_2) := (blk_cell BK174.out 2).trans rfl
      have hfz47_0 := blk_frozen BK174.out 0
      have hfz47_1 := blk_frozen BK174.out 1
      have hfz47_2 := blk_frozen BK174.out 2
      go_wp2_with (first | ((with_reducible refine gate_callee (f := 10) rfl ?_); refine goesL_ (some 23) rfl rfl Try.func10 (by kernel_rfl) rfl #[.agg #[.int .i64 a0_0, .int .i64 a0_1, .slice A0_2 l0_2.length c0_2], .int .i64 a1, .int .i64 a2, .bool a3] rfl gl_ ?_; (with_reducible refine (loop_Check.calls kj4 a0_0 a0_1 _ _ l0_2 a1 a2 a3 t176 t177 _ ?side1 ?side2 A11.out).mono ?_); (case side1 => exact ck_ (Kd.C_below HR0_2.out HB.out)); (case side2 => exact HC0_2.out); rintro e w48 ⟨rfl, hb⟩; refine ⟨_, rfl, ?_⟩; have n0_ := A_ (blk_below (pk_ BK174.out) hb); have n1_ := A_ (below_step (bk_ HB.out) hb); clear BK174 HB; have BK174 := n0_; have HB := n1_; clear n0_ n1_; (try clear hb); (try clear hb2); (try clear hk); (try clear hi); have hcz49_0 : w48.cell? ⟨gb174, 0, none⟩ = some (.int .i64 a0_0) := (blk_cell BK174.out 0).trans rfl; have hcz49_1 : w48.cell? ⟨gb174, 1, none⟩ = some (.int .i64 a0_1) := (blk_cell BK174.out 1).trans rfl; have hcz49_2 : w48.cell? ⟨gb174, 2, none⟩ = some (.slice A0_2 l0_2.length c0_2) := (blk_cell BK174.out 2).trans rfl; have hfz49_0 := blk_frozen BK174.out 0; have hfz49_1 := blk_frozen BK174.out 1; have hfz49_2 := blk_frozen BK174.out 2) | ((with_reducible refine gate_callee (f := 11) rfl ?_); refine goesL_ (some 28) rfl rfl Try.func11 (by kernel_rfl) rfl #[.agg #[.int .i64 a0_0, .int .i64 a0_1, .slice A0_2 l0_2.length c0_2]] rfl gl_ ?_; (with_reducible refine (standstillref10_Valid.calls kj4 a0_0 a0_1 _ _ l0_2 false _ ?side1 ?side2 A12.out).mono ?_); (case side1 => exact ck_ (Kd.C_below HR0_2.out HB.out)); (case side2 => exact HC0_2.out); rintro e w50 ⟨rfl, hb⟩; refine ⟨_, rfl, ?_⟩; have n0_ := A_ (blk_below (pk_ BK174.out) hb); have n1_ := A_ (below_step (bk_ HB.out) hb); clear BK174 HB; have BK174 := n0_; have HB := n1_; clear n0_ n1_; (try clear hb); (try clear hb2); (try clear hk); (try clear hi)))
      go_ret
      exact ⟨er_, bk_ HB.out⟩

/-- THE ONE PURE STATEMENT of standstilllaw10_LoopChecks. -/
def standstilllaw10_LoopChecks.Pure : Prop := ∀ (a0_0 : Int) (a0_1 : Int) (l0_2 : List (List (S52))) (a1 : Int) (a2 : Int) (a3 : Bool), ((Lit.int .i64 a0_0).wf = true) → ((Lit.int .i64 a0_1).wf = true) → (l0_2.length * 24 ≤ 140737488351232 ∧ ∀ y_ ∈ l0_2, (y_.length * 24 ≤ 140737488351232 ∧ ∀ y__ ∈ y_, inv52 y__)) → ((Lit.int .i64 a1).wf = true) → ((Lit.int .i64 a2).wf = true) → ∃ k, standstilllaw10_LoopChecks.f k a0_0 a0_1 l0_2 a1 a2 a3 = some true

end Go.Proofs.Ytngmdidegmbpfaa.PLoopChecks
