-- out of a turned copy of the print, by a program of this session; Lean checks it
import Derived.Test.YtkinnaegedbanaaPTagTurnsx0
import Derived.Test.YtkinnaegedbanaaPTagTurnsx1
import Derived.Test.YtkinnaegedbanaaPTagTurnsx2
import Derived.Test.YtkinnaegedbanaaPTagTurnsx4
namespace Go.Proofs.Ytkinnaegedbanaa.PTagTurns
open Go.RowKit Go.Proofs.YtkinnaegedbanaaW.PrintWords Go.Proofs.YtkinnaegedbanaaW.PrintLast Go.Proofs.YtkinnaegedbanaaW.PrintMore
attribute [local go_sem] max2_int min2_int max_two min_two max_three min_three max_four min_four   -- for this text's walks alone
set_option linter.unusedVariables false
set_option linter.unusedSimpArgs false

attribute [local go_sem] isSome_put_
/-! ### tag_FitsCyclic: function 26 -/
def tag_FitsCyclic.f (k : Nat) (l0_0 : List (List Int)) (a1_0 : Int) (l1_1 : List Int) : Option (Bool) := (tag_ValidCyclic.f k l0_0).bind fun t202 => (if t202 = true then (if a1_0 ≥ 0 then (if a1_0 < (l0_0.length : Int) then (if (l1_1.length : Int) ≤ 1000000 then ((tag_letters.f k l1_1 2).bind fun t203 => (some t203)) else (some false)) else (some false)) else (some false)) else (some false))
theorem tag_FitsCyclic.mono : ∀ a0 a1 a2 k, LeO (tag_FitsCyclic.f k a0 a1 a2) (tag_FitsCyclic.f (k + 1) a0 a1 a2) := by
 intro a0 a1 a2 k
 unfold tag_FitsCyclic.f
 repeat' first
   | (with_reducible exact tag_ValidCyclic.mono _ _)
   | (with_reducible exact tag_letters.mono _ _ _)
   | (with_reducible exact LeO.refl _)
   | (with_reducible exact LeO.none _)
   | (with_reducible refine LeO.ite ?_ ?_)
   | (with_reducible refine LeO.bind ?_ (fun _ => ?_))
   | exact tag_ValidCyclic.mono _ _
   | exact tag_letters.mono _ _ _
   | exact LeO.none _
   | refine LeO.ite ?_ ?_
   | refine LeO.bind ?_ (fun _ => ?_)
set_option maxHeartbeats 8000000 in
set_option maxRecDepth 100000 in
theorem tag_FitsCyclic.calls (k : Nat) (A0_0 : Option Addr) (c0_0 : Nat) (l0_0 : List (List Int)) (a1_0 : Int) (A1_1 : Option Addr) (c1_1 : Nat) (l1_1 : List Int) (r : Bool) (w : World) (hr0_0 : Kd.C (Kd.slice 3 (Kd.int .i64)) w A0_0 l0_0.length l0_0) (hc0_0 : l0_0.length ≤ c0_0) (hr1_1 : Kd.C (Kd.int .i64) w A1_1 l1_1.length l1_1) (hc1_1 : l1_1.length ≤ c1_1) (h : tag_FitsCyclic.f k l0_0 a1_0 l1_1 = some r) :
  Calls Try.prog 26 #[.agg #[.slice A0_0 l0_0.length c0_0], .agg #[.int .i64 a1_0, .slice A1_1 l1_1.length c1_1]] w fun e w' => e = .returned (.bool r) ∧ Below w.heap.size w w' := by
 have hu45 := Try.underlying45
 have hu47 := Try.underlying47
 have HR0_0 := Aside0.mk hr0_0
 have HC0_0 := Aside0.mk hc0_0
 clear hr0_0 hc0_0
 have HR1_1 := Aside0.mk hr1_1
 have HC1_1 := Aside0.mk hc1_1
 clear hr1_1 hc1_1
 have HB := A_ (Below.refl w.heap.size w)
 have H : ((tag_ValidCyclic.f k l0_0).bind fun t202 => (if t202 = true then (if a1_0 ≥ 0 then (if a1_0 < (l0_0.length : Int) then (if (l1_1.length : Int) ≤ 1000000 then ((tag_letters.f k l1_1 2).bind fun t203 => (some t203)) else (some false)) else (some false)) else (some false)) else (some false))) = some r := h
 clear h
 replace H := Option.bind_eq_some_iff.mp H
 obtain ⟨t202, A30, H⟩ := H
 replace H : (if t202 = true then (if a1_0 ≥ 0 then (if a1_0 < (l0_0.length : Int) then (if (l1_1.length : Int) ≤ 1000000 then ((tag_letters.f k l1_1 2).bind fun t203 => (some t203)) else (some false)) else (some false)) else (some false)) else (some false)) = some r := H
 have A3 := Aside0.mk A30
 clear A30
 by_cases c4 : t202 = true
 ·subst c4
  have H1 : (if a1_0 ≥ 0 then (if a1_0 < (l0_0.length : Int) then (if (l1_1.length : Int) ≤ 1000000 then ((tag_letters.f k l1_1 2).bind fun t203 => (some t203)) else (some false)) else (some false)) else (some false)) = some r := by rw [if_pos rfl] at H; exact H
  clear H
  have H := H1
  clear H1
  by_cases c5 : a1_0 ≥ 0
  ·rw [if_pos c5] at H
   have c5b0 : decide (0 ≤ a1_0) = true := decide_eq_true c5
   clear c5
   by_cases c6 : a1_0 < (l0_0.length : Int)
   ·rw [if_pos c6] at H
    have c6b0 : decide (a1_0 < (l0_0.length : Int)) = true := decide_eq_true c6
    clear c6
    by_cases c7 : (l1_1.length : Int) ≤ 1000000
    ·rw [if_pos c7] at H
     have c7b0 : decide ((l1_1.length : Int) ≤ 1000000) = true := decide_eq_true c7
     have c7b1 : decide (l1_1.length ≤ 1000000) = true := decide_eq_true (by omega)
     clear c7
     replace H := Option.bind_eq_some_iff.mp H
     obtain ⟨t203, A80, H⟩ := H
     replace H : (some t203) = some r := H
     have A8 := Aside0.mk A80
     clear A80
     obtain rfl := Option.some.inj H
     go_enter Try.func26, Try.ntmps26
     go_wp2_with (first | ((with_reducible refine gate_dst (N := 2) rfl ?_); (try (refine gate_guard (by rfl) ?_; dsimp only)); refine box_event ?hg (N := 2) ?hd (cs := #[.slice A0_0 l0_0.length c0_0]) (t := 45) ?hr ?_; (case hd => rfl); (case hg => rfl); (case hr => first | (go_simp; done) | (go_simp; rfl)); intro gb200 hg w9 hbox hb; have n0_ := A_ (below_step (bk_ HB.out) hb); have n1_ := A_ (hbox); have n2_ := A_ ((by rw [hg]; exact (below_size (bk_ HB.out)) : w.heap.size ≤ gb200)); have n3_ := A_ ((by rw [hg]; exact (below_size (bk_ HB.out)) : w.heap.size ≤ gb200)); clear HB; have HB := n0_; have BK200 := n1_; have GW200 := n2_; have GE200 := n3_; clear n0_ n1_ n2_ n3_ hb hbox hg) | ((with_reducible refine gate_dst (N := 3) rfl ?_); (try (refine gate_guard (by rfl) ?_; dsimp only)); refine box_event ?hg (N := 3) ?hd (cs := #[.int .i64 a1_0, .slice A1_1 l1_1.length c1_1]) (t := 47) ?hr ?_; (case hd => rfl); (case hg => rfl); (case hr => first | (go_simp; done) | (go_simp; rfl)); intro gb201 hg w10 hbox hb; have n0_ := A_ (blk_below (pk_ BK200.out) hb); have n1_ := A_ (below_step (bk_ HB.out) hb); have n2_ := A_ (hbox); have n3_ := A_ ((by rw [hg]; exact (below_size (bk_ HB.out)) : w.heap.size ≤ gb201)); have n4_ := A_ ((by rw [hg]; exact (below_size (bk_ HB.out)) : w.heap.size ≤ gb201)); have n5_ := A_ ((by rw [hg]; exact Nat.ne_of_lt (blk_lt (pk_ BK200.out)) : gb200 ≠ gb201)); have n6_ := A_ ((by rw [hg]; exact Nat.ne_of_gt (blk_lt (pk_ BK200.out)) : gb201 ≠ gb200)); clear BK200 HB; have BK200 := n0_; have HB := n1_; have BK201 := n2_; have GW201 := n3_; have GE201 := n4_; have NB200_201 := n5_; have NB201_200 := n6_; clear n0_ n1_ n2_ n3_ n4_ n5_ n6_ hb hbox hg; have hnb11 := NB200_201.out; have hnc11 := NB201_200.out; have hcz12_0 : w10.cell? ⟨gb200, 0, none⟩ = some (.slice A0_0 l0_0.length c0_0) := (blk_cell BK200.out 0).trans rfl; have hfz12_0 := blk_frozen BK200.out 0) | ((with_reducible refine gate_callee (f := 24) rfl ?_); refine goesL_ (some 6) rfl rfl Try.func24 (by kernel_rfl) rfl #[.agg #[.slice A0_0 l0_0.length c0_0]] rfl gl_ ?_; (with_reducible refine (tag_ValidCyclic.calls k _ _ l0_0 true _ ?side1 ?side2 A3.out).mono ?_); (case side1 => exact ck_ (Kd.C_below HR0_0.out HB.out)); (case side2 => exact HC0_0.out); rintro e w13 ⟨rfl, hb⟩; refine ⟨_, rfl, ?_⟩; have n0_ := A_ (blk_below (pk_ BK200.out) hb); have n1_ := A_ (blk_below (pk_ BK201.out) hb); have n2_ := A_ (below_step (bk_ HB.out) hb); clear BK200 BK201 HB; have BK200 := n0_; have BK201 := n1_; have HB := n2_; clear n0_ n1_ n2_; (try clear hb); (try clear hb2); (try clear hk); (try clear hi); have hcz14_0 : w13.cell? ⟨gb201, 0, none⟩ = some (.int .i64 a1_0) := (blk_cell BK201.out 0).trans rfl; have hcz14_1 : w13.cell? ⟨gb201, 1, none⟩ = some (.slice A1_1 l1_1.length c1_1) := (blk_cell BK201.out 1).trans rfl; have hfz14_0 := blk_frozen BK201.out 0; have hfz14_1 := blk_frozen BK201.out 1; have hcz15_0 : w13.cell? ⟨gb200, 0, none⟩ = some (.slice A0_0 l0_0.length c0_0) := (blk_cell BK200.out 0).trans rfl; have hfz15_0 := blk_frozen BK200.out 0) | (go_at_call 49; (with_reducible refine (tag_letters.calls k _ _ l1_1 2 t203 _ ?side1 ?side2 A8.out).mono ?_); (case side1 => exact ck_ (Kd.C_below HR1_1.out HB.out)); (case side2 => exact HC1_1.out); rintro e w' ⟨rfl, ⟨nd, rfl⟩⟩))
     go_ret
     exact ⟨er_, bk_ HB.out⟩
    ·rw [if_neg c7] at H
     have c7b0 : decide ((l1_1.length : Int) ≤ 1000000) = false := decide_eq_false c7
     have c7b1 : decide (l1_1.length ≤ 1000000) = false := decide_eq_false (by omega)
     clear c7
     obtain rfl := Option.some.inj H
     go_enter Try.func26, Try.ntmps26
     go_wp2_with (first | ((with_reducible refine gate_dst (N := 2) rfl ?_); (try (refine gate_guard (by rfl) ?_; dsimp only)); refine box_event ?hg (N := 2) ?hd (cs := #[.slice A0_0 l0_0.length c0_0]) (t := 45) ?hr ?_; (case hd => rfl); (case hg => rfl); (case hr => first | (go_simp; done) | (go_simp; rfl)); intro gb200 hg w16 hbox hb; have n0_ := A_ (below_step (bk_ HB.out) hb); have n1_ := A_ (hbox); have n2_ := A_ ((by rw [hg]; exact (below_size (bk_ HB.out)) : w.heap.size ≤ gb200)); have n3_ := A_ ((by rw [hg]; exact (below_size (bk_ HB.out)) : w.heap.size ≤ gb200)); clear HB; have HB := n0_; have BK200 := n1_; have GW200 := n2_; have GE200 := n3_; clear n0_ n1_ n2_ n3_ hb hbox hg) | ((with_reducible refine gate_dst (N := 3) rfl ?_); (try (refine gate_guard (by rfl) ?_; dsimp only)); refine box_event ?hg (N := 3) ?hd (cs := #[.int .i64 a1_0, .slice A1_1 l1_1.length c1_1]) (t := 47) ?hr ?_; (case hd => rfl); (case hg => rfl); (case hr => first | (go_simp; done) | (go_simp; rfl)); intro gb201 hg w17 hbox hb; have n0_ := A_ (blk_below (pk_ BK200.out) hb); have n1_ := A_ (below_step (bk_ HB.out) hb); have n2_ := A_ (hbox); have n3_ := A_ ((by rw [hg]; exact (below_size (bk_ HB.out)) : w.heap.size ≤ gb201)); have n4_ := A_ ((by rw [hg]; exact (below_size (bk_ HB.out)) : w.heap.size ≤ gb201)); have n5_ := A_ ((by rw [hg]; exact Nat.ne_of_lt (blk_lt (pk_ BK200.out)) : gb200 ≠ gb201)); have n6_ := A_ ((by rw [hg]; exact Nat.ne_of_gt (blk_lt (pk_ BK200.out)) : gb201 ≠ gb200)); clear BK200 HB; have BK200 := n0_; have HB := n1_; have BK201 := n2_; have GW201 := n3_; have GE201 := n4_; have NB200_201 := n5_; have NB201_200 := n6_; clear n0_ n1_ n2_ n3_ n4_ n5_ n6_ hb hbox hg; have hnb18 := NB200_201.out; have hnc18 := NB201_200.out; have hcz19_0 : w17.cell? ⟨gb200, 0, none⟩ = some (.slice A0_0 l0_0.length c0_0) := (blk_cell BK200.out 0).trans rfl; have hfz19_0 := blk_frozen BK200.out 0) | ((with_reducible refine gate_callee (f := 24) rfl ?_); refine goesL_ (some 6) rfl rfl Try.func24 (by kernel_rfl) rfl #[.agg #[.slice A0_0 l0_0.length c0_0]] rfl gl_ ?_; (with_reducible refine (tag_ValidCyclic.calls k _ _ l0_0 true _ ?side1 ?side2 A3.out).mono ?_); (case side1 => exact ck_ (Kd.C_below HR0_0.out HB.out)); (case side2 => exact HC0_0.out); rintro e w20 ⟨rfl, hb⟩; refine ⟨_, rfl, ?_⟩; have n0_ := A_ (blk_below (pk_ BK200.out) hb); have n1_ := A_ (blk_below (pk_ BK201.out) hb); have n2_ := A_ (below_step (bk_ HB.out) hb); clear BK200 BK201 HB; have BK200 := n0_; have BK201 := n1_; have HB := n2_; clear n0_ n1_ n2_; (try clear hb); (try clear hb2); (try clear hk); (try clear hi); have hcz21_0 : w20.cell? ⟨gb201, 0, none⟩ = some (.int .i64 a1_0) := (blk_cell BK201.out 0).trans rfl; have hcz21_1 : w20.cell? ⟨gb201, 1, none⟩ = some (.slice A1_1 l1_1.length c1_1) := (blk_cell BK201.out 1).trans rfl; have hfz21_0 := blk_frozen BK201.out 0; have hfz21_1 := blk_frozen BK201.out 1; have hcz22_0 : w20.cell? ⟨gb200, 0, none⟩ = some (.slice A0_0 l0_0.length c0_0) := (blk_cell BK200.out 0).trans rfl; have hfz22_0 := blk_frozen BK200.out 0))
     go_ret
     exact ⟨er_, bk_ HB.out⟩
   ·rw [if_neg c6] at H
    have c6b0 : decide (a1_0 < (l0_0.length : Int)) = false := decide_eq_false c6
    clear c6
    obtain rfl := Option.some.inj H
    go_enter Try.func26, Try.ntmps26
    go_wp2_with (first | ((with_reducible refine gate_dst (N := 2) rfl ?_); (try (refine gate_guard (by rfl) ?_; dsimp only)); refine box_event ?hg (N := 2) ?hd (cs := #[.slice A0_0 l0_0.length c0_0]) (t := 45) ?hr ?_; (case hd => rfl); (case hg => rfl); (case hr => first | (go_simp; done) | (go_simp; rfl)); intro gb200 hg w23 hbox hb; have n0_ := A_ (below_step (bk_ HB.out) hb); have n1_ := A_ (hbox); have n2_ := A_ ((by rw [hg]; exact (below_size (bk_ HB.out)) : w.heap.size ≤ gb200)); have n3_ := A_ ((by rw [hg]; exact (below_size (bk_ HB.out)) : w.heap.size ≤ gb200)); clear HB; have HB := n0_; have BK200 := n1_; have GW200 := n2_; have GE200 := n3_; clear n0_ n1_ n2_ n3_ hb hbox hg) | ((with_reducible refine gate_dst (N := 3) rfl ?_); (try (refine gate_guard (by rfl) ?_; dsimp only)); refine box_event ?hg (N := 3) ?hd (cs := #[.int .i64 a1_0, .slice A1_1 l1_1.length c1_1]) (t := 47) ?hr ?_; (case hd => rfl); (case hg => rfl); (case hr => first | (go_simp; done) | (go_simp; rfl)); intro gb201 hg w24 hbox hb; have n0_ := A_ (blk_below (pk_ BK200.out) hb); have n1_ := A_ (below_step (bk_ HB.out) hb); have n2_ := A_ (hbox); have n3_ := A_ ((by rw [hg]; exact (below_size (bk_ HB.out)) : w.heap.size ≤ gb201)); have n4_ := A_ ((by rw [hg]; exact (below_size (bk_ HB.out)) : w.heap.size ≤ gb201)); have n5_ := A_ ((by rw [hg]; exact Nat.ne_of_lt (blk_lt (pk_ BK200.out)) : gb200 ≠ gb201)); have n6_ := A_ ((by rw [hg]; exact Nat.ne_of_gt (blk_lt (pk_ BK200.out)) : gb201 ≠ gb200)); clear BK200 HB; have BK200 := n0_; have HB := n1_; have BK201 := n2_; have GW201 := n3_; have GE201 := n4_; have NB200_201 := n5_; have NB201_200 := n6_; clear n0_ n1_ n2_ n3_ n4_ n5_ n6_ hb hbox hg; have hnb25 := NB200_201.out; have hnc25 := NB201_200.out; have hcz26_0 : w24.cell? ⟨gb200, 0, none⟩ = some (.slice A0_0 l0_0.length c0_0) := (blk_cell BK200.out 0).trans rfl; have hfz26_0 := blk_frozen BK200.out 0) | ((with_reducible refine gate_callee (f := 24) rfl ?_); refine goesL_ (some 6) rfl rfl Try.func24 (by kernel_rfl) rfl #[.agg #[.slice A0_0 l0_0.length c0_0]] rfl gl_ ?_; (with_reducible refine (tag_ValidCyclic.calls k _ _ l0_0 true _ ?side1 ?side2 A3.out).mono ?_); (case side1 => exact ck_ (Kd.C_below HR0_0.out HB.out)); (case side2 => exact HC0_0.out); rintro e w27 ⟨rfl, hb⟩; refine ⟨_, rfl, ?_⟩; have n0_ := A_ (blk_below (pk_ BK200.out) hb); have n1_ := A_ (blk_below (pk_ BK201.out) hb); have n2_ := A_ (below_step (bk_ HB.out) hb); clear BK200 BK201 HB; have BK200 := n0_; have BK201 := n1_; have HB := n2_; clear n0_ n1_ n2_; (try clear hb); (try clear hb2); (try clear hk); (try clear hi); have hcz28_0 : w27.cell? ⟨gb201, 0, none⟩ = some (.int .i64 a1_0) := (blk_cell BK201.out 0).trans rfl; have hcz28_1 : w27.cell? ⟨gb201, 1, none⟩ = some (.slice A1_1 l1_1.length c1_1) := (blk_cell BK201.out 1).trans rfl; have hfz28_0 := blk_frozen BK201.out 0; have hfz28_1 := blk_frozen BK201.out 1; have hcz29_0 : w27.cell? ⟨gb200, 0, none⟩ = some (.slice A0_0 l0_0.length c0_0) := (blk_cell BK200.out 0).trans rfl; have hfz29_0 := blk_frozen BK200.out 0))
    go_ret
    exact ⟨er_, bk_ HB.out⟩
  ·rw [if_neg c5] at H
   have c5b0 : decide (0 ≤ a1_0) = false := decide_eq_false c5
   clear c5
   obtain rfl := Option.some.inj H
   go_enter Try.func26, Try.ntmps26
   go_wp2_with (first | ((with_reducible refine gate_dst (N := 2) rfl ?_); (try (refine gate_guard (by rfl) ?_; dsimp only)); refine box_event ?hg (N := 2) ?hd (cs := #[.slice A0_0 l0_0.length c0_0]) (t := 45) ?hr ?_; (case hd => rfl); (case hg => rfl); (case hr => first | (go_simp; done) | (go_simp; rfl)); intro gb200 hg w30 hbox hb; have n0_ := A_ (below_step (bk_ HB.out) hb); have n1_ := A_ (hbox); have n2_ := A_ ((by rw [hg]; exact (below_size (bk_ HB.out)) : w.heap.size ≤ gb200)); have n3_ := A_ ((by rw [hg]; exact (below_size (bk_ HB.out)) : w.heap.size ≤ gb200)); clear HB; have HB := n0_; have BK200 := n1_; have GW200 := n2_; have GE200 := n3_; clear n0_ n1_ n2_ n3_ hb hbox hg) | ((with_reducible refine gate_dst (N := 3) rfl ?_); (try (refine gate_guard (by rfl) ?_; dsimp only)); refine box_event ?hg (N := 3) ?hd (cs := #[.int .i64 a1_0, .slice A1_1 l1_1.length c1_1]) (t := 47) ?hr ?_; (case hd => rfl); (case hg => rfl); (case hr => first | (go_simp; done) | (go_simp; rfl)); intro gb201 hg w31 hbox hb; have n0_ := A_ (blk_below (pk_ BK200.out) hb); have n1_ := A_ (below_step (bk_ HB.out) hb); have n2_ := A_ (hbox); have n3_ := A_ ((by rw [hg]; exact (below_size (bk_ HB.out)) : w.heap.size ≤ gb201)); have n4_ := A_ ((by rw [hg]; exact (below_size (bk_ HB.out)) : w.heap.size ≤ gb201)); have n5_ := A_ ((by rw [hg]; exact Nat.ne_of_lt (blk_lt (pk_ BK200.out)) : gb200 ≠ gb201)); have n6_ := A_ ((by rw [hg]; exact Nat.ne_of_gt (blk_lt (pk_ BK200.out)) : gb201 ≠ gb200)); clear BK200 HB; have BK200 := n0_; have HB := n1_; have BK201 := n2_; have GW201 := n3_; have GE201 := n4_; have NB200_201 := n5_; have NB201_200 := n6_; clear n0_ n1_ n2_ n3_ n4_ n5_ n6_ hb hbox hg; have hnb32 := NB200_201.out; have hnc32 := NB201_200.out; have hcz33_0 : w31.cell? ⟨gb200, 0, none⟩ = some (.slice A0_0 l0_0.length c0_0) := (blk_cell BK200.out 0).trans rfl; have hfz33_0 := blk_frozen BK200.out 0) | ((with_reducible refine gate_callee (f := 24) rfl ?_); refine goesL_ (some 6) rfl rfl Try.func24 (by kernel_rfl) rfl #[.agg #[.slice A0_0 l0_0.length c0_0]] rfl gl_ ?_; (with_reducible refine (tag_ValidCyclic.calls k _ _ l0_0 true _ ?side1 ?side2 A3.out).mono ?_); (case side1 => exact ck_ (Kd.C_below HR0_0.out HB.out)); (case side2 => exact HC0_0.out); rintro e w34 ⟨rfl, hb⟩; refine ⟨_, rfl, ?_⟩; have n0_ := A_ (blk_below (pk_ BK200.out) hb); have n1_ := A_ (blk_below (pk_ BK201.out) hb); have n2_ := A_ (below_step (bk_ HB.out) hb); clear BK200 BK201 HB; have BK200 := n0_; have BK201 := n1_; have HB := n2_; clear n0_ n1_ n2_; (try clear hb); (try clear hb2); (try clear hk); (try clear hi); have hcz35_0 : w34.cell? ⟨gb201, 0, none⟩ = some (.int .i64 a1_0) := (blk_cell BK201.out 0).trans rfl; have hcz35_1 : w34.cell? ⟨gb201, 1, none⟩ = some (.slice A1_1 l1_1.length c1_1) := (blk_cell BK201.out 1).trans rfl; have hfz35_0 := blk_frozen BK201.out 0; have hfz35_1 := blk_frozen BK201.out 1))
   go_ret
   exact ⟨er_, bk_ HB.out⟩
 ·replace c4 := Bool.eq_false_iff.mpr c4
  subst c4
  have H1 : (some false) = some r := by rw [if_neg (show ¬ (false = true) by decide)] at H; exact H
  clear H
  have H := H1
  clear H1
  obtain rfl := Option.some.inj H
  go_enter Try.func26, Try.ntmps26
  go_wp2_with (first | ((with_reducible refine gate_dst (N := 2) rfl ?_); (try (refine gate_guard (by rfl) ?_; dsimp only)); refine box_event ?hg (N := 2) ?hd (cs := #[.slice A0_0 l0_0.length c0_0]) (t := 45) ?hr ?_; (case hd => rfl); (case hg => rfl); (case hr => first | (go_simp; done) | (go_simp; rfl)); intro gb200 hg w36 hbox hb; have n0_ := A_ (below_step (bk_ HB.out) hb); have n1_ := A_ (hbox); have n2_ := A_ ((by rw [hg]; exact (below_size (bk_ HB.out)) : w.heap.size ≤ gb200)); have n3_ := A_ ((by rw [hg]; exact (below_size (bk_ HB.out)) : w.heap.size ≤ gb200)); clear HB; have HB := n0_; have BK200 := n1_; have GW200 := n2_; have GE200 := n3_; clear n0_ n1_ n2_ n3_ hb hbox hg) | ((with_reducible refine gate_dst (N := 3) rfl ?_); (try (refine gate_guard (by rfl) ?_; dsimp only)); refine box_event ?hg (N := 3) ?hd (cs := #[.int .i64 a1_0, .slice A1_1 l1_1.length c1_1]) (t := 47) ?hr ?_; (case hd => rfl); (case hg => rfl); (case hr => first | (go_simp; done) | (go_simp; rfl)); intro gb201 hg w37 hbox hb; have n0_ := A_ (blk_below (pk_ BK200.out) hb); have n1_ := A_ (below_step (bk_ HB.out) hb); have n2_ := A_ (hbox); have n3_ := A_ ((by rw [hg]; exact (below_size (bk_ HB.out)) : w.heap.size ≤ gb201)); have n4_ := A_ ((by rw [hg]; exact (below_size (bk_ HB.out)) : w.heap.size ≤ gb201)); have n5_ := A_ ((by rw [hg]; exact Nat.ne_of_lt (blk_lt (pk_ BK200.out)) : gb200 ≠ gb201)); have n6_ := A_ ((by rw [hg]; exact Nat.ne_of_gt (blk_lt (pk_ BK200.out)) : gb201 ≠ gb200)); clear BK200 HB; have BK200 := n0_; have HB := n1_; have BK201 := n2_; have GW201 := n3_; have GE201 := n4_; have NB200_201 := n5_; have NB201_200 := n6_; clear n0_ n1_ n2_ n3_ n4_ n5_ n6_ hb hbox hg; have hnb38 := NB200_201.out; have hnc38 := NB201_200.out; have hcz39_0 : w37.cell? ⟨gb200, 0, none⟩ = some (.slice A0_0 l0_0.length c0_0) := (blk_cell BK200.out 0).trans rfl; have hfz39_0 := blk_frozen BK200.out 0) | ((with_reducible refine gate_callee (f := 24) rfl ?_); refine goesL_ (some 6) rfl rfl Try.func24 (by kernel_rfl) rfl #[.agg #[.slice A0_0 l0_0.length c0_0]] rfl gl_ ?_; (with_reducible refine (tag_ValidCyclic.calls k _ _ l0_0 false _ ?side1 ?side2 A3.out).mono ?_); (case side1 => exact ck_ (Kd.C_below HR0_0.out HB.out)); (case side2 => exact HC0_0.out); rintro e w40 ⟨rfl, hb⟩; refine ⟨_, rfl, ?_⟩; have n0_ := A_ (blk_below (pk_ BK200.out) hb); have n1_ := A_ (blk_below (pk_ BK201.out) hb); have n2_ := A_ (below_step (bk_ HB.out) hb); clear BK200 BK201 HB; have BK200 := n0_; have BK201 := n1_; have HB := n2_; clear n0_ n1_ n2_; (try clear hb); (try clear hb2); (try clear hk); (try clear hi)))
  go_ret
  exact ⟨er_, bk_ HB.out⟩

/-! ### standstillref07_FitsCyclic: function 27 -/
def standstillref07_FitsCyclic.f (k : Nat) (l0_0 : List (List Int)) (a1_0 : Int) (l1_1 : List Int) : Option (Bool) := (standstillref07_ValidCyclic.f k l0_0).bind fun t206 => (if t206 = true then (if a1_0 ≥ 0 then (if a1_0 < (l0_0.length : Int) then (if (l1_1.length : Int) ≤ 1000000 then ((standstillref07_letters.f k l1_1 2).bind fun t207 => (some t207)) else (some false)) else (some false)) else (some false)) else (some false))
theorem standstillref07_FitsCyclic.mono : ∀ a0 a1 a2 k, LeO (standstillref07_FitsCyclic.f k a0 a1 a2) (standstillref07_FitsCyclic.f (k + 1) a0 a1 a2) := by
 intro a0 a1 a2 k
 unfold standstillref07_FitsCyclic.f
 repeat' first
   | (with_reducible exact standstillref07_ValidCyclic.mono _ _)
   | (with_reducible exact standstillref07_letters.mono _ _ _)
   | (with_reducible exact LeO.refl _)
   | (with_reducible exact LeO.none _)
   | (with_reducible refine LeO.ite ?_ ?_)
   | (with_reducible refine LeO.bind ?_ (fun _ => ?_))
   | exact standstillref07_ValidCyclic.mono _ _
   | exact standstillref07_letters.mono _ _ _
   | exact LeO.none _
   | refine LeO.ite ?_ ?_
   | refine LeO.bind ?_ (fun _ => ?_)
set_option maxHeartbeats 8000000 in
set_option maxRecDepth 100000 in
theorem standstillref07_FitsCyclic.calls (k : Nat) (A0_0 : Option Addr) (c0_0 : Nat) (l0_0 : List (List Int)) (a1_0 : Int) (A1_1 : Option Addr) (c1_1 : Nat) (l1_1 : List Int) (r : Bool) (w : World) (hr0_0 : Kd.C (Kd.slice 3 (Kd.int .i64)) w A0_0 l0_0.length l0_0) (hc0_0 : l0_0.length ≤ c0_0) (hr1_1 : Kd.C (Kd.int .i64) w A1_1 l1_1.length l1_1) (hc1_1 : l1_1.length ≤ c1_1) (h : standstillref07_FitsCyclic.f k l0_0 a1_0 l1_1 = some r) :
  Calls Try.prog 27 #[.agg #[.slice A0_0 l0_0.length c0_0], .agg #[.int .i64 a1_0, .slice A1_1 l1_1.length c1_1]] w fun e w' => e = .returned (.bool r) ∧ Below w.heap.size w w' := by
 have hu45 := Try.underlying45
 have hu47 := Try.underlying47
 have HR0_0 := Aside0.mk hr0_0
 have HC0_0 := Aside0.mk hc0_0
 clear hr0_0 hc0_0
 have HR1_1 := Aside0.mk hr1_1
 have HC1_1 := Aside0.mk hc1_1
 clear hr1_1 hc1_1
 have HB := A_ (Below.refl w.heap.size w)
 have H : ((standstillref07_ValidCyclic.f k l0_0).bind fun t206 => (if t206 = true then (if a1_0 ≥ 0 then (if a1_0 < (l0_0.length : Int) then (if (l1_1.length : Int) ≤ 1000000 then ((standstillref07_letters.f k l1_1 2).bind fun t207 => (some t207)) else (some false)) else (some false)) else (some false)) else (some false))) = some r := h
 clear h
 replace H := Option.bind_eq_some_iff.mp H
 obtain ⟨t206, A30, H⟩ := H
 replace H : (if t206 = true then (if a1_0 ≥ 0 then (if a1_0 < (l0_0.length : Int) then (if (l1_1.length : Int) ≤ 1000000 then ((standstillref07_letters.f k l1_1 2).bind fun t207 => (some t207)) else (some false)) else (some false)) else (some false)) else (some false)) = some r := H
 have A3 := Aside0.mk A30
 clear A30
 by_cases c4 : t206 = true
 ·subst c4
  have H1 : (if a1_0 ≥ 0 then (if a1_0 < (l0_0.length : Int) then (if (l1_1.length : Int) ≤ 1000000 then ((standstillref07_letters.f k l1_1 2).bind fun t207 => (some t207)) else (some false)) else (some false)) else (some false)) = some r := by rw [if_pos rfl] at H; exact H
  clear H
  have H := H1
  clear H1
  by_cases c5 : a1_0 ≥ 0
  ·rw [if_pos c5] at H
   have c5b0 : decide (0 ≤ a1_0) = true := decide_eq_true c5
   clear c5
   by_cases c6 : a1_0 < (l0_0.length : Int)
   ·rw [if_pos c6] at H
    have c6b0 : decide (a1_0 < (l0_0.length : Int)) = true := decide_eq_true c6
    clear c6
    by_cases c7 : (l1_1.length : Int) ≤ 1000000
    ·rw [if_pos c7] at H
     have c7b0 : decide ((l1_1.length : Int) ≤ 1000000) = true := decide_eq_true c7
     have c7b1 : decide (l1_1.length ≤ 1000000) = true := decide_eq_true (by omega)
     clear c7
     replace H := Option.bind_eq_some_iff.mp H
     obtain ⟨t207, A80, H⟩ := H
     replace H : (some t207) = some r := H
     have A8 := Aside0.mk A80
     clear A80
     obtain rfl := Option.some.inj H
     go_enter Try.func27, Try.ntmps27
     go_wp2_with (first | ((with_reducible refine gate_dst (N := 2) rfl ?_); (try (refine gate_guard (by rfl) ?_; dsimp only)); refine box_event ?hg (N := 2) ?hd (cs := #[.slice A0_0 l0_0.length c0_0]) (t := 45) ?hr ?_; (case hd => rfl); (case hg => rfl); (case hr => first | (go_simp; done) | (go_simp; rfl)); intro gb204 hg w9 hbox hb; have n0_ := A_ (below_step (bk_ HB.out) hb); have n1_ := A_ (hbox); have n2_ := A_ ((by rw [hg]; exact (below_size (bk_ HB.out)) : w.heap.size ≤ gb204)); have n3_ := A_ ((by rw [hg]; exact (below_size (bk_ HB.out)) : w.heap.size ≤ gb204)); clear HB; have HB := n0_; have BK204 := n1_; have GW204 := n2_; have GE204 := n3_; clear n0_ n1_ n2_ n3_ hb hbox hg) | ((with_reducible refine gate_dst (N := 3) rfl ?_); (try (refine gate_guard (by rfl) ?_; dsimp only)); refine box_event ?hg (N := 3) ?hd (cs := #[.int .i64 a1_0, .slice A1_1 l1_1.length c1_1]) (t := 47) ?hr ?_; (case hd => rfl); (case hg => rfl); (case hr => first | (go_simp; done) | (go_simp; rfl)); intro gb205 hg w10 hbox hb; have n0_ := A_ (blk_below (pk_ BK204.out) hb); have n1_ := A_ (below_step (bk_ HB.out) hb); have n2_ := A_ (hbox); have n3_ := A_ ((by rw [hg]; exact (below_size (bk_ HB.out)) : w.heap.size ≤ gb205)); have n4_ := A_ ((by rw [hg]; exact (below_size (bk_ HB.out)) : w.heap.size ≤ gb205)); have n5_ := A_ ((by rw [hg]; exact Nat.ne_of_lt (blk_lt (pk_ BK204.out)) : gb204 ≠ gb205)); have n6_ := A_ ((by rw [hg]; exact Nat.ne_of_gt (blk_lt (pk_ BK204.out)) : gb205 ≠ gb204)); clear BK204 HB; have BK204 := n0_; have HB := n1_; have BK205 := n2_; have GW205 := n3_; have GE205 := n4_; have NB204_205 := n5_; have NB205_204 := n6_; clear n0_ n1_ n2_ n3_ n4_ n5_ n6_ hb hbox hg; have hnb11 := NB204_205.out; have hnc11 := NB205_204.out; have hcz12_0 : w10.cell? ⟨gb204, 0, none⟩ = some (.slice A0_0 l0_0.length c0_0) := (blk_cell BK204.out 0).trans rfl; have hfz12_0 := blk_frozen BK204.out 0) | ((with_reducible refine gate_callee (f := 25) rfl ?_); refine goesL_ (some 6) rfl rfl Try.func25 (by kernel_rfl) rfl #[.agg #[.slice A0_0 l0_0.length c0_0]] rfl gl_ ?_; (with_reducible refine (standstillref07_ValidCyclic.calls k _ _ l0_0 true _ ?side1 ?side2 A3.out).mono ?_); (case side1 => exact ck_ (Kd.C_below HR0_0.out HB.out)); (case side2 => exact HC0_0.out); rintro e w13 ⟨rfl, hb⟩; refine ⟨_, rfl, ?_⟩; have n0_ := A_ (blk_below (pk_ BK204.out) hb); have n1_ := A_ (blk_below (pk_ BK205.out) hb); have n2_ := A_ (below_step (bk_ HB.out) hb); clear BK204 BK205 HB; have BK204 := n0_; have BK205 := n1_; have HB := n2_; clear n0_ n1_ n2_; (try clear hb); (try clear hb2); (try clear hk); (try clear hi); have hcz14_0 : w13.cell? ⟨gb205, 0, none⟩ = some (.int .i64 a1_0) := (blk_cell BK205.out 0).trans rfl; have hcz14_1 : w13.cell? ⟨gb205, 1, none⟩ = some (.slice A1_1 l1_1.length c1_1) := (blk_cell BK205.out 1).trans rfl; have hfz14_0 := blk_frozen BK205.out 0; have hfz14_1 := blk_frozen BK205.out 1; have hcz15_0 : w13.cell? ⟨gb204, 0, none⟩ = some (.slice A0_0 l0_0.length c0_0) := (blk_cell BK204.out 0).trans rfl; have hfz15_0 := blk_frozen BK204.out 0) | (go_at_call 41; (with_reducible refine (standstillref07_letters.calls k _ _ l1_1 2 t207 _ ?side1 ?side2 A8.out).mono ?_); (case side1 => exact ck_ (Kd.C_below HR1_1.out HB.out)); (case side2 => exact HC1_1.out); rintro e w' ⟨rfl, ⟨nd, rfl⟩⟩))
     go_ret
     exact ⟨er_, bk_ HB.out⟩
    ·rw [if_neg c7] at H
     have c7b0 : decide ((l1_1.length : Int) ≤ 1000000) = false := decide_eq_false c7
     have c7b1 : decide (l1_1.length ≤ 1000000) = false := decide_eq_false (by omega)
     clear c7
     obtain rfl := Option.some.inj H
     go_enter Try.func27, Try.ntmps27
     go_wp2_with (first | ((with_reducible refine gate_dst (N := 2) rfl ?_); (try (refine gate_guard (by rfl) ?_; dsimp only)); refine box_event ?hg (N := 2) ?hd (cs := #[.slice A0_0 l0_0.length c0_0]) (t := 45) ?hr ?_; (case hd => rfl); (case hg => rfl); (case hr => first | (go_simp; done) | (go_simp; rfl)); intro gb204 hg w16 hbox hb; have n0_ := A_ (below_step (bk_ HB.out) hb); have n1_ := A_ (hbox); have n2_ := A_ ((by rw [hg]; exact (below_size (bk_ HB.out)) : w.heap.size ≤ gb204)); have n3_ := A_ ((by rw [hg]; exact (below_size (bk_ HB.out)) : w.heap.size ≤ gb204)); clear HB; have HB := n0_; have BK204 := n1_; have GW204 := n2_; have GE204 := n3_; clear n0_ n1_ n2_ n3_ hb hbox hg) | ((with_reducible refine gate_dst (N := 3) rfl ?_); (try (refine gate_guard (by rfl) ?_; dsimp only)); refine box_event ?hg (N := 3) ?hd (cs := #[.int .i64 a1_0, .slice A1_1 l1_1.length c1_1]) (t := 47) ?hr ?_; (case hd => rfl); (case hg => rfl); (case hr => first | (go_simp; done) | (go_simp; rfl)); intro gb205 hg w17 hbox hb; have n0_ := A_ (blk_below (pk_ BK204.out) hb); have n1_ := A_ (below_step (bk_ HB.out) hb); have n2_ := A_ (hbox); have n3_ := A_ ((by rw [hg]; exact (below_size (bk_ HB.out)) : w.heap.size ≤ gb205)); have n4_ := A_ ((by rw [hg]; exact (below_size (bk_ HB.out)) : w.heap.size ≤ gb205)); have n5_ := A_ ((by rw [hg]; exact Nat.ne_of_lt (blk_lt (pk_ BK204.out)) : gb204 ≠ gb205)); have n6_ := A_ ((by rw [hg]; exact Nat.ne_of_gt (blk_lt (pk_ BK204.out)) : gb205 ≠ gb204)); clear BK204 HB; have BK204 := n0_; have HB := n1_; have BK205 := n2_; have GW205 := n3_; have GE205 := n4_; have NB204_205 := n5_; have NB205_204 := n6_; clear n0_ n1_ n2_ n3_ n4_ n5_ n6_ hb hbox hg; have hnb18 := NB204_205.out; have hnc18 := NB205_204.out; have hcz19_0 : w17.cell? ⟨gb204, 0, none⟩ = some (.slice A0_0 l0_0.length c0_0) := (blk_cell BK204.out 0).trans rfl; have hfz19_0 := blk_frozen BK204.out 0) | ((with_reducible refine gate_callee (f := 25) rfl ?_); refine goesL_ (some 6) rfl rfl Try.func25 (by kernel_rfl) rfl #[.agg #[.slice A0_0 l0_0.length c0_0]] rfl gl_ ?_; (with_reducible refine (standstillref07_ValidCyclic.calls k _ _ l0_0 true _ ?side1 ?side2 A3.out).mono ?_); (case side1 => exact ck_ (Kd.C_below HR0_0.out HB.out)); (case side2 => exact HC0_0.out); rintro e w20 ⟨rfl, hb⟩; refine ⟨_, rfl, ?_⟩; have n0_ := A_ (blk_below (pk_ BK204.out) hb); have n1_ := A_ (blk_below (pk_ BK205.out) hb); have n2_ := A_ (below_step (bk_ HB.out) hb); clear BK204 BK205 HB; have BK204 := n0_; have BK205 := n1_; have HB := n2_; clear n0_ n1_ n2_; (try clear hb); (try clear hb2); (try clear hk); (try clear hi); have hcz21_0 : w20.cell? ⟨gb205, 0, none⟩ = some (.int .i64 a1_0) := (blk_cell BK205.out 0).trans rfl; have hcz21_1 : w20.cell? ⟨gb205, 1, none⟩ = some (.slice A1_1 l1_1.length c1_1) := (blk_cell BK205.out 1).trans rfl; have hfz21_0 := blk_frozen BK205.out 0; have hfz21_1 := blk_frozen BK205.out 1; have hcz22_0 : w20.cell? ⟨gb204, 0, none⟩ = some (.slice A0_0 l0_0.length c0_0) := (blk_cell BK204.out 0).trans rfl; have hfz22_0 := blk_frozen BK204.out 0))
     go_ret
     exact ⟨er_, bk_ HB.out⟩
   ·rw [if_neg c6] at H
    have c6b0 : decide (a1_0 < (l0_0.length : Int)) = false := decide_eq_false c6
    clear c6
    obtain rfl := Option.some.inj H
    go_enter Try.func27, Try.ntmps27
    go_wp2_with (first | ((with_reducible refine gate_dst (N := 2) rfl ?_); (try (refine gate_guard (by rfl) ?_; dsimp only)); refine box_event ?hg (N := 2) ?hd (cs := #[.slice A0_0 l0_0.length c0_0]) (t := 45) ?hr ?_; (case hd => rfl); (case hg => rfl); (case hr => first | (go_simp; done) | (go_simp; rfl)); intro gb204 hg w23 hbox hb; have n0_ := A_ (below_step (bk_ HB.out) hb); have n1_ := A_ (hbox); have n2_ := A_ ((by rw [hg]; exact (below_size (bk_ HB.out)) : w.heap.size ≤ gb204)); have n3_ := A_ ((by rw [hg]; exact (below_size (bk_ HB.out)) : w.heap.size ≤ gb204)); clear HB; have HB := n0_; have BK204 := n1_; have GW204 := n2_; have GE204 := n3_; clear n0_ n1_ n2_ n3_ hb hbox hg) | ((with_reducible refine gate_dst (N := 3) rfl ?_); (try (refine gate_guard (by rfl) ?_; dsimp only)); refine box_event ?hg (N := 3) ?hd (cs := #[.int .i64 a1_0, .slice A1_1 l1_1.length c1_1]) (t := 47) ?hr ?_; (case hd => rfl); (case hg => rfl); (case hr => first | (go_simp; done) | (go_simp; rfl)); intro gb205 hg w24 hbox hb; have n0_ := A_ (blk_below (pk_ BK204.out) hb); have n1_ := A_ (below_step (bk_ HB.out) hb); have n2_ := A_ (hbox); have n3_ := A_ ((by rw [hg]; exact (below_size (bk_ HB.out)) : w.heap.size ≤ gb205)); have n4_ := A_ ((by rw [hg]; exact (below_size (bk_ HB.out)) : w.heap.size ≤ gb205)); have n5_ := A_ ((by rw [hg]; exact Nat.ne_of_lt (blk_lt (pk_ BK204.out)) : gb204 ≠ gb205)); have n6_ := A_ ((by rw [hg]; exact Nat.ne_of_gt (blk_lt (pk_ BK204.out)) : gb205 ≠ gb204)); clear BK204 HB; have BK204 := n0_; have HB := n1_; have BK205 := n2_; have GW205 := n3_; have GE205 := n4_; have NB204_205 := n5_; have NB205_204 := n6_; clear n0_ n1_ n2_ n3_ n4_ n5_ n6_ hb hbox hg; have hnb25 := NB204_205.out; have hnc25 := NB205_204.out; have hcz26_0 : w24.cell? ⟨gb204, 0, none⟩ = some (.slice A0_0 l0_0.length c0_0) := (blk_cell BK204.out 0).trans rfl; have hfz26_0 := blk_frozen BK204.out 0) | ((with_reducible refine gate_callee (f := 25) rfl ?_); refine goesL_ (some 6) rfl rfl Try.func25 (by kernel_rfl) rfl #[.agg #[.slice A0_0 l0_0.length c0_0]] rfl gl_ ?_; (with_reducible refine (standstillref07_ValidCyclic.calls k _ _ l0_0 true _ ?side1 ?side2 A3.out).mono ?_); (case side1 => exact ck_ (Kd.C_below HR0_0.out HB.out)); (case side2 => exact HC0_0.out); rintro e w27 ⟨rfl, hb⟩; refine ⟨_, rfl, ?_⟩; have n0_ := A_ (blk_below (pk_ BK204.out) hb); have n1_ := A_ (blk_below (pk_ BK205.out) hb); have n2_ := A_ (below_step (bk_ HB.out) hb); clear BK204 BK205 HB; have BK204 := n0_; have BK205 := n1_; have HB := n2_; clear n0_ n1_ n2_; (try clear hb); (try clear hb2); (try clear hk); (try clear hi); have hcz28_0 : w27.cell? ⟨gb205, 0, none⟩ = some (.int .i64 a1_0) := (blk_cell BK205.out 0).trans rfl; have hcz28_1 : w27.cell? ⟨gb205, 1, none⟩ = some (.slice A1_1 l1_1.length c1_1) := (blk_cell BK205.out 1).trans rfl; have hfz28_0 := blk_frozen BK205.out 0; have hfz28_1 := blk_frozen BK205.out 1; have hcz29_0 : w27.cell? ⟨gb204, 0, none⟩ = some (.slice A0_0 l0_0.length c0_0) := (blk_cell BK204.out 0).trans rfl; have hfz29_0 := blk_frozen BK204.out 0))
    go_ret
    exact ⟨er_, bk_ HB.out⟩
  ·rw [if_neg c5] at H
   have c5b0 : decide (0 ≤ a1_0) = false := decide_eq_false c5
   clear c5
   obtain rfl := Option.some.inj H
   go_enter Try.func27, Try.ntmps27
   go_wp2_with (first | ((with_reducible refine gate_dst (N := 2) rfl ?_); (try (refine gate_guard (by rfl) ?_; dsimp only)); refine box_event ?hg (N := 2) ?hd (cs := #[.slice A0_0 l0_0.length c0_0]) (t := 45) ?hr ?_; (case hd => rfl); (case hg => rfl); (case hr => first | (go_simp; done) | (go_simp; rfl)); intro gb204 hg w30 hbox hb; have n0_ := A_ (below_step (bk_ HB.out) hb); have n1_ := A_ (hbox); have n2_ := A_ ((by rw [hg]; exact (below_size (bk_ HB.out)) : w.heap.size ≤ gb204)); have n3_ := A_ ((by rw [hg]; exact (below_size (bk_ HB.out)) : w.heap.size ≤ gb204)); clear HB; have HB := n0_; have BK204 := n1_; have GW204 := n2_; have GE204 := n3_; clear n0_ n1_ n2_ n3_ hb hbox hg) | ((with_reducible refine gate_dst (N := 3) rfl ?_); (try (refine gate_guard (by rfl) ?_; dsimp only)); refine box_event ?hg (N := 3) ?hd (cs := #[.int .i64 a1_0, .slice A1_1 l1_1.length c1_1]) (t := 47) ?hr ?_; (case hd => rfl); (case hg => rfl); (case hr => first | (go_simp; done) | (go_simp; rfl)); intro gb205 hg w31 hbox hb; have n0_ := A_ (blk_below (pk_ BK204.out) hb); have n1_ := A_ (below_step (bk_ HB.out) hb); have n2_ := A_ (hbox); have n3_ := A_ ((by rw [hg]; exact (below_size (bk_ HB.out)) : w.heap.size ≤ gb205)); have n4_ := A_ ((by rw [hg]; exact (below_size (bk_ HB.out)) : w.heap.size ≤ gb205)); have n5_ := A_ ((by rw [hg]; exact Nat.ne_of_lt (blk_lt (pk_ BK204.out)) : gb204 ≠ gb205)); have n6_ := A_ ((by rw [hg]; exact Nat.ne_of_gt (blk_lt (pk_ BK204.out)) : gb205 ≠ gb204)); clear BK204 HB; have BK204 := n0_; have HB := n1_; have BK205 := n2_; have GW205 := n3_; have GE205 := n4_; have NB204_205 := n5_; have NB205_204 := n6_; clear n0_ n1_ n2_ n3_ n4_ n5_ n6_ hb hbox hg; have hnb32 := NB204_205.out; have hnc32 := NB205_204.out; have hcz33_0 : w31.cell? ⟨gb204, 0, none⟩ = some (.slice A0_0 l0_0.length c0_0) := (blk_cell BK204.out 0).trans rfl; have hfz33_0 := blk_frozen BK204.out 0) | ((with_reducible refine gate_callee (f := 25) rfl ?_); refine goesL_ (some 6) rfl rfl Try.func25 (by kernel_rfl) rfl #[.agg #[.slice A0_0 l0_0.length c0_0]] rfl gl_ ?_; (with_reducible refine (standstillref07_ValidCyclic.calls k _ _ l0_0 true _ ?side1 ?side2 A3.out).mono ?_); (case side1 => exact ck_ (Kd.C_below HR0_0.out HB.out)); (case side2 => exact HC0_0.out); rintro e w34 ⟨rfl, hb⟩; refine ⟨_, rfl, ?_⟩; have n0_ := A_ (blk_below (pk_ BK204.out) hb); have n1_ := A_ (blk_below (pk_ BK205.out) hb); have n2_ := A_ (below_step (bk_ HB.out) hb); clear BK204 BK205 HB; have BK204 := n0_; have BK205 := n1_; have HB := n2_; clear n0_ n1_ n2_; (try clear hb); (try clear hb2); (try clear hk); (try clear hi); have hcz35_0 : w34.cell? ⟨gb205, 0, none⟩ = some (.int .i64 a1_0) := (blk_cell BK205.out 0).trans rfl; have hcz35_1 : w34.cell? ⟨gb205, 1, none⟩ = some (.slice A1_1 l1_1.length c1_1) := (blk_cell BK205.out 1).trans rfl; have hfz35_0 := blk_frozen BK205.out 0; have hfz35_1 := blk_frozen BK205.out 1))
   go_ret
   exact ⟨er_, bk_ HB.out⟩
 ·replace c4 := Bool.eq_false_iff.mpr c4
  subst c4
  have H1 : (some false) = some r := by rw [if_neg (show ¬ (false = true) by decide)] at H; exact H
  clear H
  have H := H1
  clear H1
  obtain rfl := Option.some.inj H
  go_enter Try.func27, Try.ntmps27
  go_wp2_with (first | ((with_reducible refine gate_dst (N := 2) rfl ?_); (try (refine gate_guard (by rfl) ?_; dsimp only)); refine box_event ?hg (N := 2) ?hd (cs := #[.slice A0_0 l0_0.length c0_0]) (t := 45) ?hr ?_; (case hd => rfl); (case hg => rfl); (case hr => first | (go_simp; done) | (go_simp; rfl)); intro gb204 hg w36 hbox hb; have n0_ := A_ (below_step (bk_ HB.out) hb); have n1_ := A_ (hbox); have n2_ := A_ ((by rw [hg]; exact (below_size (bk_ HB.out)) : w.heap.size ≤ gb204)); have n3_ := A_ ((by rw [hg]; exact (below_size (bk_ HB.out)) : w.heap.size ≤ gb204)); clear HB; have HB := n0_; have BK204 := n1_; have GW204 := n2_; have GE204 := n3_; clear n0_ n1_ n2_ n3_ hb hbox hg) | ((with_reducible refine gate_dst (N := 3) rfl ?_); (try (refine gate_guard (by rfl) ?_; dsimp only)); refine box_event ?hg (N := 3) ?hd (cs := #[.int .i64 a1_0, .slice A1_1 l1_1.length c1_1]) (t := 47) ?hr ?_; (case hd => rfl); (case hg => rfl); (case hr => first | (go_simp; done) | (go_simp; rfl)); intro gb205 hg w37 hbox hb; have n0_ := A_ (blk_below (pk_ BK204.out) hb); have n1_ := A_ (below_step (bk_ HB.out) hb); have n2_ := A_ (hbox); have n3_ := A_ ((by rw [hg]; exact (below_size (bk_ HB.out)) : w.heap.size ≤ gb205)); have n4_ := A_ ((by rw [hg]; exact (below_size (bk_ HB.out)) : w.heap.size ≤ gb205)); have n5_ := A_ ((by rw [hg]; exact Nat.ne_of_lt (blk_lt (pk_ BK204.out)) : gb204 ≠ gb205)); have n6_ := A_ ((by rw [hg]; exact Nat.ne_of_gt (blk_lt (pk_ BK204.out)) : gb205 ≠ gb204)); clear BK204 HB; have BK204 := n0_; have HB := n1_; have BK205 := n2_; have GW205 := n3_; have GE205 := n4_; have NB204_205 := n5_; have NB205_204 := n6_; clear n0_ n1_ n2_ n3_ n4_ n5_ n6_ hb hbox hg; have hnb38 := NB204_205.out; have hnc38 := NB205_204.out; have hcz39_0 : w37.cell? ⟨gb204, 0, none⟩ = some (.slice A0_0 l0_0.length c0_0) := (blk_cell BK204.out 0).trans rfl; have hfz39_0 := blk_frozen BK204.out 0) | ((with_reducible refine gate_callee (f := 25) rfl ?_); refine goesL_ (some 6) rfl rfl Try.func25 (by kernel_rfl) rfl #[.agg #[.slice A0_0 l0_0.length c0_0]] rfl gl_ ?_; (with_reducible refine (standstillref07_ValidCyclic.calls k _ _ l0_0 false _ ?side1 ?side2 A3.out).mono ?_); (case side1 => exact ck_ (Kd.C_below HR0_0.out HB.out)); (case side2 => exact HC0_0.out); rintro e w40 ⟨rfl, hb⟩; refine ⟨_, rfl, ?_⟩; have n0_ := A_ (blk_below (pk_ BK204.out) hb); have n1_ := A_ (blk_below (pk_ BK205.out) hb); have n2_ := A_ (below_step (bk_ HB.out) hb); clear BK204 BK205 HB; have BK204 := n0_; have BK205 := n1_; have HB := n2_; clear n0_ n1_ n2_; (try clear hb); (try clear hb2); (try clear hk); (try clear hi)))
  go_ret
  exact ⟨er_, bk_ HB.out⟩

/-! ### tag_Roll: function 29 (by hand) -/
def troll (words : List (List Int)) : Nat → Int → List Int → Int → Option (Int × List Int × Int × Int)
  | 0, at_, q, i => some (at_, q, i, 0)
  | d + 1, at_, q, i =>
    if (q.length : Int) = 0 then some (at_, [], i, 0)
    else if 0 ≤ at_ ∧ at_ < (words.length : Int) ∧ (words.length : Int) ≤ 1048576 ∧ (rd_L1 words at_).length ≤ 1048576 then
      if rd q 0 = 1 then
        if (((q ++ rd_L1 words at_).drop 1).length : Int) > 1000000 then some (0, [], 0, 4)
        else troll words d (Int.tmod (at_ + 1) (words.length : Int)) ((q ++ rd_L1 words at_).drop 1) (i + 1)
      else
        if ((q.drop 1).length : Int) > 1000000 then some (0, [], 0, 4)
        else troll words d (Int.tmod (at_ + 1) (words.length : Int)) (q.drop 1) (i + 1)
    else none
def tag_Roll.f (k : Nat) (l0_0 : List (List Int)) (a1_0 : Int) (l1_1 : List Int) (a2 : Int) : Option (Int × List Int × Int × Int) :=
  (tag_FitsCyclic.f k l0_0 a1_0 l1_1).bind fun b => if b = true then (if a2 < 0 then some (0, [], 0, 2) else if a2 > 1000000 then some (0, [], 0, 2) else if l1_1.length ≤ 1073741824 then troll l0_0 a2.toNat a1_0 l1_1 0 else none) else some (0, [], 0, 1)
theorem tag_Roll.mono : ∀ a0 a1 a2 a3 k, LeO (tag_Roll.f k a0 a1 a2 a3) (tag_Roll.f (k + 1) a0 a1 a2 a3) := by
  intro a0 a1 a2 a3 k
  unfold tag_Roll.f
  exact LeO.bind (tag_FitsCyclic.mono _ _ _ _) (fun _ => LeO.refl _)
set_option maxHeartbeats 4000000 in
set_option maxRecDepth 100000 in
theorem tag_Roll.calls (k : Nat) (A0_0 : Option Addr) (c0_0 : Nat) (l0_0 : List (List Int)) (a1_0 : Int) (A1_1 : Option Addr) (c1_1 : Nat) (l1_1 : List Int) (a2 : Int) (r1 : Int) (r2 : List Int) (r3 : Int) (r4 : Int) (w : World) (hr0_0 : Kd.C (Kd.slice 3 (Kd.int .i64)) w A0_0 l0_0.length l0_0) (hc0_0 : l0_0.length ≤ c0_0) (hr1_1 : Kd.C (Kd.int .i64) w A1_1 l1_1.length l1_1) (hc1_1 : l1_1.length ≤ c1_1) (h : tag_Roll.f k l0_0 a1_0 l1_1 a2 = some (r1, r2, r3, r4)) :
    Calls Try.prog 29 #[.agg #[.slice A0_0 l0_0.length c0_0], .agg #[.int .i64 a1_0, .slice A1_1 l1_1.length c1_1], .int .i64 a2] w fun e w' => ∃ v1_ : Value, e = .returned (.tuple #[.agg #[.int .i64 r1, v1_], .int .i64 r3, .int .i64 r4]) ∧ Kd.R (Kd.int .i64) 3 w' w.heap.size (fun _ => True) v1_ r2 ∧ Below w.heap.size w w' := by
  have hu45 := Try.underlying45
  have hu47 := Try.underlying47
  have hu75 := Try.underlying75
  have HR0_0 := Aside0.mk hr0_0
  have HC0_0 := Aside0.mk hc0_0
  have HR1_1 := Aside0.mk hr1_1
  have HC1_1 := Aside0.mk hc1_1
  clear hr0_0 hc0_0 hr1_1 hc1_1
  unfold tag_Roll.f at h
  obtain ⟨b, hb, h⟩ := Option.bind_eq_some_iff.1 h
  have hF : ∀ W : World, Below w.heap.size w W → Calls Try.prog 26 #[.agg #[.slice A0_0 l0_0.length c0_0], .agg #[.int .i64 a1_0, .slice A1_1 l1_1.length c1_1]] W fun e w' => e = .returned (.bool b) ∧ Below W.heap.size W w' := fun W hW => tag_FitsCyclic.calls k A0_0 c0_0 l0_0 a1_0 A1_1 c1_1 l1_1 b W (Kd.C_below HR0_0.out hW) HC0_0.out (Kd.C_below HR1_1.out hW) HC1_1.out hb
  have HF := Aside0.mk hF
  have H := Aside0.mk h
  clear h hF hb
  clear h
  go_enter Try.func29, Try.ntmps29
  go_wp2_with fail
  obtain ⟨W1, hW1⟩ : ∃ W1 : World, W1 = (((w.alloc (.cells #[.slice A0_0 l0_0.length c0_0] 45)).alloc (.cells #[.int .i64 a1_0, .slice A1_1 l1_1.length c1_1] 47)).alloc (.cells #[.int .i64 0, .slice none 0 0] 47)) := ⟨_, rfl⟩
  have hBW1 : Below w.heap.size w W1 := by rw [hW1]; exact below_alloc (below_alloc (below_alloc (Below.refl _ _) _) _) _
  have hb3 : W1.heap[w.heap.size]? = some (.cells #[.slice A0_0 l0_0.length c0_0] 45 (0, 0)) := by rw [hW1]; exact blk_alloc (blk_alloc (blk_new _ _) _) _
  have hb4 : W1.heap[w.heap.size + 1]? = some (.cells #[.int .i64 a1_0, .slice A1_1 l1_1.length c1_1] 47 (0, 0)) := by rw [hW1]; exact blk_alloc (by have h_ := blk_new (w.alloc (.cells #[.slice A0_0 l0_0.length c0_0] 45)) (.cells #[.int .i64 a1_0, .slice A1_1 l1_1.length c1_1] 47); simpa using h_) _
  have hb6 : W1.heap[w.heap.size + 1 + 1]? = some (.cells #[.int .i64 0, .slice none 0 0] 47 (0, 0)) := by rw [hW1]; have h_ := blk_new ((w.alloc (.cells #[.slice A0_0 l0_0.length c0_0] 45)).alloc (.cells #[.int .i64 a1_0, .slice A1_1 l1_1.length c1_1] 47)) (.cells #[.int .i64 0, .slice none 0 0] 47); simpa using h_
  rw [← hW1]
  clear hW1
  refine (HF.out _ hBW1).mono ?_
  rintro e w2 ⟨rfl, hB2⟩
  have HB := Aside0.mk (below_step hBW1 hB2)
  have HB3 := Aside0.mk (blk_below hb3 hB2)
  have HB4 := Aside0.mk (blk_below hb4 hB2)
  have HB6 := Aside0.mk (blk_below hb6 hB2)
  clear hb3 hb4 hb6 hBW1 hB2 HF
  have hz40 := (blk_cell HB3.out 0).trans rfl
  have hz50 := (blk_cell HB4.out 0).trans rfl
  have hz51 := (blk_cell HB4.out 1).trans rfl
  have hz60 := (blk_cell HB6.out 0).trans rfl
  have hz61 := (blk_cell HB6.out 1).trans rfl
  have hf60 := blk_frozen HB6.out 0
  have hf61 := blk_frozen HB6.out 1
  cases b with
  | false =>
    have h := H.out
    rw [if_neg (by simp)] at h
    simp only [Option.some.injEq, Prod.mk.injEq] at h
    obtain ⟨rfl, rfl, rfl, rfl⟩ := h
    clear H
    go_wp2
    refine bodyPost_ret (results_list (rs := [.cell 6 47, .tmp 7, .tmp 8]) (vs := [.agg #[.int .i64 0, .slice none 0 0], .int .i64 0, .int .i64 1]) rfl (by simp) (Vals.cell (w.heap.size + 1 + 1) 47 #[.int .i64 0, .slice none 0 0] (0, 0) _ rfl (by refine blk_put (cs := #[.int .i64 0, .slice none 0 0]) ?_ 1 _ rfl; refine blk_put (cs := #[.int .i64 0, .slice none 0 0]) ?_ 0 _ rfl; exact HB6.out) Try.underlying47 rfl (by kernel_rfl) (Vals.tmp (Vals.tmp Vals.nil)))) rfl ?_
    exact ⟨_, rfl, Kd.R_nil _ _ _ _ _, below_set (below_set HB.out (by omega)) (by omega)⟩
  | true =>
    replace H := Aside0.mk ((if_pos rfl).symm.trans H.out)
    by_cases hn0 : a2 < 0
    · have h := H.out
      rw [if_pos hn0] at h
      simp only [Option.some.injEq, Prod.mk.injEq] at h
      obtain ⟨rfl, rfl, rfl, rfl⟩ := h
      clear H
      go_wp2
      refine bodyPost_ret (results_list (rs := [.cell 6 47, .tmp 7, .tmp 8]) (vs := [.agg #[.int .i64 0, .slice none 0 0], .int .i64 0, .int .i64 2]) rfl (by simp) (Vals.cell (w.heap.size + 1 + 1) 47 #[.int .i64 0, .slice none 0 0] (0, 0) _ rfl (by refine blk_put (cs := #[.int .i64 0, .slice none 0 0]) ?_ 1 _ rfl; refine blk_put (cs := #[.int .i64 0, .slice none 0 0]) ?_ 0 _ rfl; exact HB6.out) Try.underlying47 rfl (by kernel_rfl) (Vals.tmp (Vals.tmp Vals.nil)))) rfl ?_
      exact ⟨_, rfl, Kd.R_nil _ _ _ _ _, below_set (below_set HB.out (by omega)) (by omega)⟩
    replace H := Aside0.mk ((if_neg hn0).symm.trans H.out)
    by_cases hn1 : a2 > 1000000
    · have h := H.out
      rw [if_pos hn1] at h
      simp only [Option.some.injEq, Prod.mk.injEq] at h
      obtain ⟨rfl, rfl, rfl, rfl⟩ := h
      clear H
      go_wp2
      refine bodyPost_ret (results_list (rs := [.cell 6 47, .tmp 7, .tmp 8]) (vs := [.agg #[.int .i64 0, .slice none 0 0], .int .i64 0, .int .i64 2]) rfl (by simp) (Vals.cell (w.heap.size + 1 + 1) 47 #[.int .i64 0, .slice none 0 0] (0, 0) _ rfl (by refine blk_put (cs := #[.int .i64 0, .slice none 0 0]) ?_ 1 _ rfl; refine blk_put (cs := #[.int .i64 0, .slice none 0 0]) ?_ 0 _ rfl; exact HB6.out) Try.underlying47 rfl (by kernel_rfl) (Vals.tmp (Vals.tmp Vals.nil)))) rfl ?_
      exact ⟨_, rfl, Kd.R_nil _ _ _ _ _, below_set (below_set HB.out (by omega)) (by omega)⟩
    replace H := Aside0.mk ((if_neg hn1).symm.trans H.out)
    by_cases hL0 : l1_1.length ≤ 1073741824
    rotate_left
    · have h := H.out
      rw [if_neg hL0] at h
      cases h
    replace H := Aside0.mk ((if_pos hL0).symm.trans H.out)
    have HCL := Aside0.mk (slices_Clone_int_int.calls A1_1 c1_1 l1_1 l1_1 w2.drew (Kd.C_below HR1_1.out (below_drew HB.out)) HC1_1.out (by unfold slices_Clone_int_int.f; rw [if_pos (by omega)]))
    have HB4d := Aside0.mk (show w2.drew.heap[w.heap.size + 1]? = _ from HB4.out)
    go_wp2
    refine start_ (n := 9) (S := fun w' => w'.cell? ⟨w.heap.size + 1, 1, none⟩ = some (.slice A1_1 l1_1.length c1_1) ∧ w'.cell? ⟨w.heap.size + 1, 0, none⟩ = some (.int .i64 a1_0)) (ds := []) #[false, false, false, false, false, false, false, false, false] (by kernel_rfl) rfl rfl ⟨hz51, hz50⟩ (fun hHeld => ?_)
    refine pure_ (i := 0) (N := some 24) (v := ?_) (a' := ?_) #[true, false, false, false, false, false, false, false, false] rfl rfl (by kernel_rfl) (fun _ _ _ h => h) (Or.inl ⟨by rfl, ?_⟩) ?_ ?_
    rotate_left
    ·intro w'
     go_simp
     with_reducible rfl
    rotate_left
    ·simp only [Act.put, sa_, sz_, ss_, i64_w, i32_w]
     rfl
    refine pure_ (i := 5) (N := some 29) (v := ?_) (a' := ?_) #[true, false, false, false, false, true, false, false, false] rfl rfl (by kernel_rfl) (fun _ _ _ h => h) (Or.inl ⟨by rfl, ?_⟩) ?_ ?_
    rotate_left
    ·intro w'
     go_simp
     with_reducible rfl
    rotate_left
    ·simp only [Act.put, sa_, sz_, ss_, i64_w, i32_w]
     rfl
    refine take_ (i := 1) (N := some 25) (v := ?_) (a' := ?_) #[true, true, false, false, false, true, false, false, false] rfl rfl (by kernel_rfl) (fun _ _ _ h => h) (Or.inl ⟨by rfl, ?_⟩) hHeld ?_ ?_
    rotate_left
    ·rintro w' ⟨s0, s1⟩
     go_simp
     with_reducible rfl
    rotate_left
    ·simp only [Act.put, sa_, sz_, ss_, i64_w, i32_w]
     rfl
    refine take_ (i := 6) (N := some 30) (v := ?_) (a' := ?_) #[true, true, false, false, false, true, true, false, false] rfl rfl (by kernel_rfl) (fun _ _ _ h => h) (Or.inl ⟨by rfl, ?_⟩) hHeld ?_ ?_
    rotate_left
    ·rintro w' ⟨s0, s1⟩
     go_simp
     with_reducible rfl
    rotate_left
    ·simp only [Act.put, sa_, sz_, ss_, i64_w, i32_w]
     rfl
    refine one_ (i := 2) (N := some 26) #[true, true, true, false, false, true, true, false, false] rfl rfl (by kernel_rfl) (by decide) (fun K hK => ?_)
    refine goes_ Try.func43 (by kernel_rfl) rfl #[.slice A1_1 l1_1.length c1_1] (by rfl) rfl rfl (by first | rfl | (simp only [List.map_toArray, List.map_cons, List.map_nil]; rfl) | (simp [Act.eval]; done)) ?_
    refine (HCL.out).mono ?_
    rintro e3 w3 ⟨v0, rfl, hR3, hB3⟩
    refine ⟨_, rfl, ?_⟩
    obtain ⟨A9, c9, rfl⟩ := Kd.R_slice hR3
    have HB4w := Aside0.mk (blk_below HB4d.out hB3)
    have hz4a := (blk_cell HB4w.out 0).trans rfl
    have hz4b := (blk_cell HB4w.out 1).trans rfl
    refine hK.out _ _ ⟨hz4b, hz4a⟩ (fun hHeld => ?_)
    clear hK K
    refine norm_ (a' := ?_) ?_ ?_
    rotate_left
    ·show Act.put _ (some 26) _ = _
     simp only [Act.put, sa_, sz_, ss_, i64_w, i32_w]
     rfl
    refine pure_ (i := 3) (N := some 27) (v := ?_) (a' := ?_) #[true, true, true, true, false, true, true, false, false] rfl rfl (by kernel_rfl) (fun _ _ _ h => h) (Or.inl ⟨by rfl, ?_⟩) ?_ ?_
    rotate_left
    ·intro w'
     go_simp
     with_reducible rfl
    rotate_left
    ·simp only [Act.put, sa_, sz_, ss_, i64_w, i32_w]
     rfl
    refine one_ (i := 4) (N := some 28) #[true, true, true, true, true, true, true, false, false] rfl rfl (by kernel_rfl) (by decide) (fun K hK => ?_)
    refine value_ (v := .pointer (some ⟨w3.heap.size, 0, none⟩)) (w1 := w3.alloc (.cells #[.slice A9 l1_1.length c9, .int .i64 0] 75)) (by rfl) rfl ?_ ?_
    ·go_simp
     try rfl
    have hz4c := (blk_cell (blk_alloc HB4w.out (.cells #[.slice A9 l1_1.length c9, .int .i64 0] 75)) 0).trans rfl
    have hz4d := (blk_cell (blk_alloc HB4w.out (.cells #[.slice A9 l1_1.length c9, .int .i64 0] 75)) 1).trans rfl
    refine hK.out _ _ ⟨hz4d, hz4c⟩ (fun hHeld => ?_)
    clear hK K
    refine norm_ (a' := ?_) ?_ ?_
    rotate_left
    ·show Act.put _ (some 28) _ = _
     simp only [Act.put, sa_, sz_, ss_, i64_w, i32_w]
     rfl
    refine pure_ (i := 7) (N := some 9) (v := ?_) (a' := ?_) #[true, true, true, true, true, true, true, true, false] rfl rfl (by kernel_rfl) (fun _ _ _ h => h) (Or.inl ⟨by rfl, ?_⟩) ?_ ?_
    rotate_left
    ·intro w'
     go_simp
     with_reducible rfl
    rotate_left
    ·simp only [Act.put, sa_, sz_, ss_, i64_w, i32_w]
     rfl
    refine pure_ (i := 8) (N := some 10) (v := ?_) (a' := ?_) #[true, true, true, true, true, true, true, true, true] rfl rfl (by kernel_rfl) (fun _ _ _ h => h) (Or.inl ⟨by rfl, ?_⟩) ?_ ?_
    rotate_left
    ·intro w'
     go_simp
     with_reducible rfl
    rotate_left
    ·simp only [Act.put, sa_, sz_, ss_, i64_w, i32_w]
     rfl
    refine done_ (by kernel_rfl) ?_
    have HR3 := Aside0.mk hR3
    have hB3' : Below w2.heap.size w2 w3 := below_then (below_drew (Below.refl _ w2)) (Nat.le_refl _) hB3
    have HB' := Aside0.mk (below_alloc (below_step HB.out hB3') (.cells #[.slice A9 l1_1.length c9, .int .i64 0] 75))
    have HB3' := Aside0.mk (blk_alloc (blk_below HB3.out hB3') (.cells #[.slice A9 l1_1.length c9, .int .i64 0] 75))
    have HB6' := Aside0.mk (blk_alloc (blk_below HB6.out hB3') (.cells #[.slice A9 l1_1.length c9, .int .i64 0] 75))
    have HK := Aside0.mk (blk_new w3 (.cells #[.slice A9 l1_1.length c9, .int .i64 0] 75))
    have HR := Aside0.mk (Kd.R_lower (base' := w.heap.size) (Kd.R_alloc (Kd.R_of_own (h1 := fun _ => rfl) (ok := fun k => k ≠ w3.heap.size) (Kd.own_of_R HR3.out) (fun k hk => Nat.ne_of_lt (Kd.R_lt HR3.out k hk))) (.cells #[.slice A9 l1_1.length c9, .int .i64 0] 75)) (below_size (below_drew HB.out)))
    have hG : w.heap.size ≤ w3.heap.size := Nat.le_trans (below_size HB.out) hB3'.size
    obtain ⟨W4, hW4⟩ : ∃ W : World, W = w3.alloc (.cells #[.slice A9 l1_1.length c9, .int .i64 0] 75) := ⟨_, rfl⟩
    rw [← hW4] at HB' HB3' HB6' HK HR hHeld
    try simp only [← hW4]
    clear hW4 hR3 HR3 HCL HB4 HB3 HB6 HB HB4d HB4w hz40 hz50 hz51 hz60 hz61 hf60 hf61 hz4a hz4b hz4c hz4d hHeld
    obtain ⟨g9, hg9⟩ : ∃ g, g = w3.heap.size := ⟨_, rfl⟩
    rw [← hg9] at HK HR hG ⊢
    clear hg9 hB3 hB3'
    go_wp2
    go_loopg [10, 32] (a2.toNat) (fun kq v10 v32 w' => ∃ (at_ i : Int) (q l : List Int) (v : Value) (m : Nat), v10 = .int .i64 at_ ∧ v32 = .int .i64 i ∧ Aside0 (0 ≤ i ∧ i ≤ a2 ∧ (a2 - i).toNat = kq) ∧ Aside0 (troll l0_0 kq at_ q i = some (r1, r2, r3, r4)) ∧ Aside0 (w'.heap[g9]? = some (.cells #[v, .int .i64 (m : Int)] 75 (0, 0))) ∧ Aside0 (Kd.R (Kd.int .i64) 3 w' w.heap.size (fun k => k ≠ g9) v l) ∧ Aside0 (l.drop m = q ∧ m ≤ l.length ∧ (l.length : Int) ≤ 1073741824 + i * 1048576) ∧ Aside0 (w'.heap[w.heap.size]? = some (.cells #[.slice A0_0 l0_0.length c0_0] 45 (0, 0))) ∧ Aside0 (w'.heap[w.heap.size + 1 + 1]? = some (.cells #[.int .i64 0, .slice none 0 0] 47 (0, 0))) ∧ Aside0 (Below w.heap.size w w'))
    case atStart => exact ⟨a1_0, 0, l1_1, l1_1, _, 0, rfl, rfl, ⟨by omega, by omega, by omega⟩, H, HK, HR, ⟨rfl, by omega, by omega⟩, HB3', HB6', HB'⟩
    case round =>
      clear H HK HR HB3' HB6' HB'
      obtain ⟨at_, i, q, l, v, m, rfl, rfl, HI, H, HK, HR, HQ, HB3, HB6, HB⟩ := hrel
      obtain ⟨hi0, hi1, hi2⟩ := HI.out
      obtain ⟨hq, hm, hll⟩ := HQ.out
      have hl44 : l.length < 17592186044416 := by omega
      obtain ⟨A9, c9, rfl⟩ := Kd.R_slice HR.out
      have hRD := Kd.R_reads' HR.out
      have hz60 := (blk_cell HB6.out 0).trans rfl
      have hz61 := (blk_cell HB6.out 1).trans rfl
      have hf60 := blk_frozen HB6.out 0
      have hf61 := blk_frozen HB6.out 1
      cases gk with
      | zero =>
        have hin : i = a2 := by omega
        subst hin
        have h := H.out
        simp only [troll, Option.some.injEq, Prod.mk.injEq] at h
        obtain ⟨rfl, rfl, rfl, rfl⟩ := h
        clear H hz60 hz61 hf60 hf61
        have HCL := Aside0.mk (q_list wr g9 A9 c9 m l HK.out hRD.2.1 hRD.2.2 hm hl44)
        go_wp2_with (first | (go_at_call 46; refine HCL.out.mono ?_; rintro e w3 ⟨v0, rfl, hR3, hB3⟩; obtain ⟨A8, c8, rfl⟩ := Kd.R_slice hR3; have hb6 := blk_below HB6.out hB3; have hz60 := (blk_cell hb6 0).trans rfl; have hz61 := (blk_cell hb6 1).trans rfl; have hf60 := blk_frozen hb6 0; have hf61 := blk_frozen hb6 1))
        rw [hq] at hR3
        refine bodyPost_ret (results_list (rs := [.cell 6 47, .tmp 7, .tmp 8]) (vs := [.agg #[.int .i64 at_, .slice A8 q.length c8], .int .i64 i, .int .i64 0]) rfl (by simp) (Vals.cell (w.heap.size + 1 + 1) 47 #[.int .i64 at_, .slice A8 q.length c8] (0, 0) _ rfl (by refine blk_put (cs := #[.int .i64 at_, .slice none 0 0]) ?_ 1 _ rfl; refine blk_put (cs := #[.int .i64 0, .slice none 0 0]) ?_ 0 _ rfl; exact blk_below HB6.out hB3) Try.underlying47 rfl (by kernel_rfl) (Vals.tmp (Vals.tmp Vals.nil)))) rfl ?_
        exact ⟨_, rfl, Kd.R_mono (Kd.R_far (Kd.R_far (Kd.R_of_own (h1 := fun _ => rfl) (ok := fun k => k ≠ w.heap.size + 1 + 1) (Kd.own_of_R (Kd.R_lower hR3 (below_size HB.out))) (fun k hk => by have h1 := Kd.R_base hR3 k hk; have h2 := blk_lt HB6.out; omega)) (fun k hk => hk) _) (fun k hk => hk) _) (fun _ _ => trivial), below_set (below_set (below_step HB.out hB3) (by omega)) (by omega)⟩
      | succ d =>
        have hin : i < a2 := by omega
        have h := H.out
        simp only [troll] at h
        have hz40 := (blk_cell HB3.out 0).trans rfl
        have hql : wrap64 ((l.length : Int) - (m : Int)) = (q.length : Int) := by rw [← hq, List.length_drop]; unfold wrap64; omega
        have HSZ : Aside0 (Calls Try.prog 44 #[.pointer (some ⟨g9, 0, none⟩)] wr fun e w' => e = .returned (.int .i64 (q.length : Int)) ∧ ∃ m, w' = wr.drewN m) := ⟨by have := q_size wr g9 A9 l.length c9 m HK.out; rwa [hql] at this⟩
        clear hql
        by_cases hlt : (q.length : Int) = 0
        · rw [if_pos hlt] at h
          simp only [Option.some.injEq, Prod.mk.injEq] at h
          obtain ⟨rfl, rfl, rfl, rfl⟩ := h
          clear H
          go_wp2_with (first | (go_at_call 44; refine HSZ.out.mono ?_; rintro e8 w8 ⟨rfl, m8, rfl⟩; have hz60 := (blk_cell (show (wr.drewN m8).heap[w.heap.size + 1 + 1]? = _ from HB6.out) 0).trans rfl; have hz61 := (blk_cell (show (wr.drewN m8).heap[w.heap.size + 1 + 1]? = _ from HB6.out) 1).trans rfl))
          refine bodyPost_ret (results_list (rs := [.cell 6 47, .tmp 7, .tmp 8]) (vs := [.agg #[.int .i64 at_, .slice none 0 0], .int .i64 i, .int .i64 0]) rfl (by simp) (Vals.cell (w.heap.size + 1 + 1) 47 #[.int .i64 at_, .slice none 0 0] (0, 0) _ rfl (by refine blk_put (cs := #[.int .i64 at_, .slice none 0 0]) ?_ 1 _ rfl; refine blk_put (cs := #[.int .i64 0, .slice none 0 0]) ?_ 0 _ rfl; exact (show (wr.drewN m8).heap[w.heap.size + 1 + 1]? = _ from HB6.out)) Try.underlying47 rfl (by kernel_rfl) (Vals.tmp (Vals.tmp Vals.nil)))) rfl ?_
          exact ⟨_, rfl, Kd.R_nil _ _ _ _ _, below_set (below_set (pw_below_drewN HB.out m8) (by omega)) (by omega)⟩
        · rw [if_neg hlt] at h
          by_cases hx : 0 ≤ at_ ∧ at_ < (l0_0.length : Int) ∧ (l0_0.length : Int) ≤ 1048576 ∧ (rd_L1 l0_0 at_).length ≤ 1048576
          rotate_left
          · rw [if_neg hx] at h; cases h
          rw [if_pos hx] at h
          obtain ⟨hx0, hx1, hx2, hx3⟩ := hx
          have hqp : 0 < q.length := by omega
          have hlq : l.length = m + q.length := by rw [← hq, List.length_drop]; omega
          have hm1 : (m : Int) < (l.length : Int) := by omega
          have hfx : rd l (m : Int) = rd q 0 := by rw [rd_drop0, hq]
          have HFS : Aside0 (∀ n, Calls Try.prog 45 #[.pointer (some ⟨g9, 0, none⟩)] (wr.drewN n) fun e w' => e = .returned (.int .i64 (rd q 0)) ∧ ∃ m, w' = (wr.drewN n).drewN m) := ⟨fun n => by have := q_first (wr.drewN n) g9 A9 l.length c9 m l rfl HK.out hRD.2.2 (by omega) hm1; rwa [hfx] at this⟩
          clear hfx
          obtain ⟨adr, Ar, cr, er, hxr, hcr, hrr⟩ := at_L1 HR0_0.out at_ hx0 hx1
          cases er
          replace hxr := (HB.out.cell (World.block_lt_of_cell? w _ hxr)).trans hxr
          have hne3 : some w.heap.size ≠ (Value.slice A9 l.length c9).ownBlock := Kd.R_ne HR.out HB3.out (by decide)
          have hng3 : w.heap.size ≠ g9 := blk_ne HB3.out HK.out (by decide)
          have hne6 : some (w.heap.size + 1 + 1) ≠ (Value.slice A9 l.length c9).ownBlock := Kd.R_ne HR.out HB6.out (by decide)
          have hng6 : w.heap.size + 1 + 1 ≠ g9 := blk_ne HB6.out HK.out (by decide)
          have hw1 : wrap64 (at_ + 1) = at_ + 1 := by unfold wrap64; omega
          have hmod : Int.tmod (at_ + 1) (l0_0.length : Int) = (at_ + 1) % (l0_0.length : Int) := Int.tmod_eq_emod_of_nonneg (by omega)
          have hnz : ((l0_0.length : Int) = 0) = False := eq_false (by omega)
          have hll2 : (l.length + (rd_L1 l0_0 at_).length) * 8 ≤ 140737488355328 := by omega
          have HP := Aside0.mk (fun n => q_push w (wr.drewN n) w.heap.size g9 _ l m Ar (rd_L1 l0_0 at_) cr HK.out HR.out (Kd.C_below hrr (pw_below_drewN HB.out n)) (pw_below_drewN HB.out n) hG (below_size (pw_below_drewN HB.out n)) hll2)
          clear hrr hw1
          by_cases hone : rd q 0 = 1
          · rw [if_pos hone] at h
            have hh := Aside0.mk h
            clear h H
            rw [hone] at HFS
            have hx0' := eq_true hx0
            have hx1' := eq_true hx1
            have hqa : (l ++ rd_L1 l0_0 at_).drop (m + 1) = (q ++ rd_L1 l0_0 at_).drop 1 := by
              rw [← List.drop_drop, List.drop_append_of_le_length hm, hq]
            have hla : (l ++ rd_L1 l0_0 at_).length = l.length + (rd_L1 l0_0 at_).length := List.length_append
            obtain ⟨q', hq'⟩ : ∃ q', q' = (q ++ rd_L1 l0_0 at_).drop 1 := ⟨_, rfl⟩
            rw [← hq'] at hqa hh
            clear hq'
            by_cases hbig : (q'.length : Int) > 1000000
            · replace hh := (if_pos hbig).symm.trans hh.out
              simp only [Option.some.injEq, Prod.mk.injEq] at hh
              obtain ⟨rfl, rfl, rfl, rfl⟩ := hh
              clear hz60 hz61 hf60 hf61
              go_wp2_with (first | (go_at_call 44; refine HSZ.out.mono ?_; rintro e8 w8 ⟨rfl, m8, rfl⟩) | (go_at_call 45; refine (HFS.out _).mono ?_; rintro e5 w5 ⟨rfl, m5, rfl⟩) | (go_at_call 47; refine (HP.out _).mono ?_; rintro e6 w6 ⟨rfl, v6, hK6, hR6, hB6, hk6⟩; have HB3x := Aside0.mk (hk6 _ _ HB3.out hng3 hne3); have HB6x := Aside0.mk (hk6 _ _ HB6.out hng6 hne6); have HD0 := q_drop w w6 w.heap.size g9 v6 (l ++ rd_L1 l0_0 at_) m 1 hK6 hR6 hB6 hG (below_size hB6) (by omega) (by omega); have HD := Aside0.mk HD0; clear HD0 hk6 hK6 hR6 hB6) | (go_at_call 48; refine (HD.out).mono ?_; rintro e7 w7 ⟨rfl, v7, l7, m7, hK7, hR7, hq7, hm7, hl7, hB7, hk7⟩; obtain ⟨A7, c7, rfl⟩ := Kd.R_slice hR7; have HK7 := Aside0.mk hK7; have HR7 := Aside0.mk hR7; have HB7 := Aside0.mk hB7; have HB37 := Aside0.mk (hk7 _ _ HB3x.out hng3); have HB67 := Aside0.mk (hk7 _ _ HB6x.out hng6); clear hK7 hR7 hB7 hk7; rw [hqa] at hq7; have hz47 := (blk_cell HB37.out 0).trans rfl; have hz607 := (blk_cell HB67.out 0).trans rfl; have hz617 := (blk_cell HB67.out 1).trans rfl; have hf607 := blk_frozen HB67.out 0; have hf617 := blk_frozen HB67.out 1; have hql7 : wrap64 ((l7.length : Int) - (m7 : Int)) = (q'.length : Int) := (by rw [← hq7, List.length_drop]; unfold wrap64; omega); have HSZ7 := Aside0.mk (q_size w7 g9 A7 l7.length c7 m7 HK7.out); rw [hql7] at HSZ7; clear hql7) | (go_at_call 44; refine HSZ7.out.mono ?_; rintro e9 w9 ⟨rfl, m9, rfl⟩))
              refine bodyPost_ret (results_list (rs := [.cell 6 47, .tmp 7, .tmp 8]) (vs := [.agg #[.int .i64 0, .slice none 0 0], .int .i64 0, .int .i64 4]) rfl (by simp) (Vals.cell (w.heap.size + 1 + 1) 47 #[.int .i64 0, .slice none 0 0] (0, 0) _ rfl (by refine blk_put (cs := #[.int .i64 0, .slice none 0 0]) ?_ 1 _ rfl; refine blk_put (cs := #[.int .i64 0, .slice none 0 0]) ?_ 0 _ rfl; exact (show (w7.drewN m9).heap[w.heap.size + 1 + 1]? = _ from HB67.out)) Try.underlying47 rfl (by kernel_rfl) (Vals.tmp (Vals.tmp Vals.nil)))) rfl ?_
              exact ⟨_, rfl, Kd.R_nil _ _ _ _ _, below_set (below_set (pw_below_drewN HB7.out m9) (by omega)) (by omega)⟩
            · replace hh := Aside0.mk ((if_neg hbig).symm.trans hh.out)
              clear hz60 hz61 hf60 hf61
              go_wp2_with (first | (go_at_call 44; refine HSZ.out.mono ?_; rintro e8 w8 ⟨rfl, m8, rfl⟩) | (go_at_call 45; refine (HFS.out _).mono ?_; rintro e5 w5 ⟨rfl, m5, rfl⟩) | (go_at_call 47; refine (HP.out _).mono ?_; rintro e6 w6 ⟨rfl, v6, hK6, hR6, hB6, hk6⟩; have HB3x := Aside0.mk (hk6 _ _ HB3.out hng3 hne3); have HB6x := Aside0.mk (hk6 _ _ HB6.out hng6 hne6); have HD0 := q_drop w w6 w.heap.size g9 v6 (l ++ rd_L1 l0_0 at_) m 1 hK6 hR6 hB6 hG (below_size hB6) (by omega) (by omega); have HD := Aside0.mk HD0; clear HD0 hk6 hK6 hR6 hB6) | (go_at_call 48; refine (HD.out).mono ?_; rintro e7 w7 ⟨rfl, v7, l7, m7, hK7, hR7, hq7, hm7, hl7, hB7, hk7⟩; obtain ⟨A7, c7, rfl⟩ := Kd.R_slice hR7; have HK7 := Aside0.mk hK7; have HR7 := Aside0.mk hR7; have HB7 := Aside0.mk hB7; have HB37 := Aside0.mk (hk7 _ _ HB3x.out hng3); have HB67 := Aside0.mk (hk7 _ _ HB6x.out hng6); clear hK7 hR7 hB7 hk7; rw [hqa] at hq7; have hz47 := (blk_cell HB37.out 0).trans rfl; have hz607 := (blk_cell HB67.out 0).trans rfl; have hz617 := (blk_cell HB67.out 1).trans rfl; have hf607 := blk_frozen HB67.out 0; have hf617 := blk_frozen HB67.out 1; have hql7 : wrap64 ((l7.length : Int) - (m7 : Int)) = (q'.length : Int) := (by rw [← hq7, List.length_drop]; unfold wrap64; omega); have HSZ7 := Aside0.mk (q_size w7 g9 A7 l7.length c7 m7 HK7.out); rw [hql7] at HSZ7; clear hql7) | (go_at_call 44; refine HSZ7.out.mono ?_; rintro e9 w9 ⟨rfl, m9, rfl⟩))
              go_roundg d
              case measure => omega
              case rel => exact ⟨_, i + 1, q', l7, _, m7, rfl, rfl, ⟨by omega, by omega, by omega⟩, ⟨by rw [← hmod]; exact hh.out⟩, ⟨HK7.out⟩, ⟨HR7.out⟩, ⟨hq7, hm7, by omega⟩, ⟨HB37.out⟩, ⟨HB67.out⟩, ⟨pw_below_drewN HB7.out m9⟩⟩
          · rw [if_neg hone] at h
            have hh := Aside0.mk h
            clear h H HP
            have hqa : l.drop (m + 1) = q.drop 1 := by
              rw [← List.drop_drop, hq]
            obtain ⟨q', hq'⟩ : ∃ q', q' = q.drop 1 := ⟨_, rfl⟩
            rw [← hq'] at hqa hh
            clear hq'
            by_cases hbig : (q'.length : Int) > 1000000
            · replace hh := (if_pos hbig).symm.trans hh.out
              simp only [Option.some.injEq, Prod.mk.injEq] at hh
              obtain ⟨rfl, rfl, rfl, rfl⟩ := hh
              clear hz60 hz61 hf60 hf61
              go_wp2_with (first | (go_at_call 44; refine HSZ.out.mono ?_; rintro e8 w8 ⟨rfl, m8, rfl⟩) | (go_at_call 45; refine (HFS.out _).mono ?_; rintro e5 w5 ⟨rfl, m5, rfl⟩; have HB3x := Aside0.mk (show (wr.drewN (m8 + m5)).heap[w.heap.size]? = _ from HB3.out); have HB6x := Aside0.mk (show (wr.drewN (m8 + m5)).heap[w.heap.size + 1 + 1]? = _ from HB6.out); have HD0 := q_drop w (wr.drewN (m8 + m5)) w.heap.size g9 _ l m 1 HK.out HR.out (pw_below_drewN HB.out (m8 + m5)) hG (below_size (pw_below_drewN HB.out (m8 + m5))) (by omega) (by omega); have HD := Aside0.mk HD0; clear HD0) | (go_at_call 48; refine (HD.out).mono ?_; rintro e7 w7 ⟨rfl, v7, l7, m7, hK7, hR7, hq7, hm7, hl7, hB7, hk7⟩; obtain ⟨A7, c7, rfl⟩ := Kd.R_slice hR7; have HK7 := Aside0.mk hK7; have HR7 := Aside0.mk hR7; have HB7 := Aside0.mk hB7; have HB37 := Aside0.mk (hk7 _ _ HB3x.out hng3); have HB67 := Aside0.mk (hk7 _ _ HB6x.out hng6); clear hK7 hR7 hB7 hk7; rw [hqa] at hq7; have hz47 := (blk_cell HB37.out 0).trans rfl; have hz607 := (blk_cell HB67.out 0).trans rfl; have hz617 := (blk_cell HB67.out 1).trans rfl; have hf607 := blk_frozen HB67.out 0; have hf617 := blk_frozen HB67.out 1; have hql7 : wrap64 ((l7.length : Int) - (m7 : Int)) = (q'.length : Int) := (by rw [← hq7, List.length_drop]; unfold wrap64; omega); have HSZ7 := Aside0.mk (q_size w7 g9 A7 l7.length c7 m7 HK7.out); rw [hql7] at HSZ7; clear hql7) | (go_at_call 44; refine HSZ7.out.mono ?_; rintro e9 w9 ⟨rfl, m9, rfl⟩))
              refine bodyPost_ret (results_list (rs := [.cell 6 47, .tmp 7, .tmp 8]) (vs := [.agg #[.int .i64 0, .slice none 0 0], .int .i64 0, .int .i64 4]) rfl (by simp) (Vals.cell (w.heap.size + 1 + 1) 47 #[.int .i64 0, .slice none 0 0] (0, 0) _ rfl (by refine blk_put (cs := #[.int .i64 0, .slice none 0 0]) ?_ 1 _ rfl; refine blk_put (cs := #[.int .i64 0, .slice none 0 0]) ?_ 0 _ rfl; exact (show (w7.drewN m9).heap[w.heap.size + 1 + 1]? = _ from HB67.out)) Try.underlying47 rfl (by kernel_rfl) (Vals.tmp (Vals.tmp Vals.nil)))) rfl ?_
              exact ⟨_, rfl, Kd.R_nil _ _ _ _ _, below_set (below_set (pw_below_drewN HB7.out m9) (by omega)) (by omega)⟩
            · replace hh := Aside0.mk ((if_neg hbig).symm.trans hh.out)
              clear hz60 hz61 hf60 hf61
              go_wp2_with (first | (go_at_call 44; refine HSZ.out.mono ?_; rintro e8 w8 ⟨rfl, m8, rfl⟩) | (go_at_call 45; refine (HFS.out _).mono ?_; rintro e5 w5 ⟨rfl, m5, rfl⟩; have HB3x := Aside0.mk (show (wr.drewN (m8 + m5)).heap[w.heap.size]? = _ from HB3.out); have HB6x := Aside0.mk (show (wr.drewN (m8 + m5)).heap[w.heap.size + 1 + 1]? = _ from HB6.out); have HD0 := q_drop w (wr.drewN (m8 + m5)) w.heap.size g9 _ l m 1 HK.out HR.out (pw_below_drewN HB.out (m8 + m5)) hG (below_size (pw_below_drewN HB.out (m8 + m5))) (by omega) (by omega); have HD := Aside0.mk HD0; clear HD0) | (go_at_call 48; refine (HD.out).mono ?_; rintro e7 w7 ⟨rfl, v7, l7, m7, hK7, hR7, hq7, hm7, hl7, hB7, hk7⟩; obtain ⟨A7, c7, rfl⟩ := Kd.R_slice hR7; have HK7 := Aside0.mk hK7; have HR7 := Aside0.mk hR7; have HB7 := Aside0.mk hB7; have HB37 := Aside0.mk (hk7 _ _ HB3x.out hng3); have HB67 := Aside0.mk (hk7 _ _ HB6x.out hng6); clear hK7 hR7 hB7 hk7; rw [hqa] at hq7; have hz47 := (blk_cell HB37.out 0).trans rfl; have hz607 := (blk_cell HB67.out 0).trans rfl; have hz617 := (blk_cell HB67.out 1).trans rfl; have hf607 := blk_frozen HB67.out 0; have hf617 := blk_frozen HB67.out 1; have hql7 : wrap64 ((l7.length : Int) - (m7 : Int)) = (q'.length : Int) := (by rw [← hq7, List.length_drop]; unfold wrap64; omega); have HSZ7 := Aside0.mk (q_size w7 g9 A7 l7.length c7 m7 HK7.out); rw [hql7] at HSZ7; clear hql7) | (go_at_call 44; refine HSZ7.out.mono ?_; rintro e9 w9 ⟨rfl, m9, rfl⟩))
              go_roundg d
              case measure => omega
              case rel => exact ⟨_, i + 1, q', l7, _, m7, rfl, rfl, ⟨by omega, by omega, by omega⟩, ⟨by rw [← hmod]; exact hh.out⟩, ⟨HK7.out⟩, ⟨HR7.out⟩, ⟨hq7, hm7, by omega⟩, ⟨HB37.out⟩, ⟨HB67.out⟩, ⟨pw_below_drewN HB7.out m9⟩⟩

/-! ### tag_Turn: function 28 -/
def tag_Turn.f (k : Nat) (l0_0 : List (List Int)) (a1_0 : Int) (l1_1 : List Int) : Option (Int × List Int × Int) := (tag_Roll.f k l0_0 a1_0 l1_1 1).bind fun bt211 => (if bt211.2.2.2 = 0 then (if bt211.2.2.1 = 0 then (some (0, ([] : List Int), 5)) else (some (bt211.1, bt211.2.1, bt211.2.2.2))) else (some (bt211.1, bt211.2.1, bt211.2.2.2)))
theorem tag_Turn.mono : ∀ a0 a1 a2 k, LeO (tag_Turn.f k a0 a1 a2) (tag_Turn.f (k + 1) a0 a1 a2) := by
 intro a0 a1 a2 k
 unfold tag_Turn.f
 repeat' first
   | (with_reducible exact tag_Roll.mono _ _ _ _ _)
   | (with_reducible exact LeO.refl _)
   | (with_reducible exact LeO.none _)
   | (with_reducible refine LeO.ite ?_ ?_)
   | (with_reducible refine LeO.bind ?_ (fun _ => ?_))
   | exact tag_Roll.mono _ _ _ _ _
   | exact LeO.none _
   | refine LeO.ite ?_ ?_
   | refine LeO.bind ?_ (fun _ => ?_)
set_option maxHeartbeats 8000000 in
set_option maxRecDepth 100000 in
theorem tag_Turn.calls (k : Nat) (A0_0 : Option Addr) (c0_0 : Nat) (l0_0 : List (List Int)) (a1_0 : Int) (A1_1 : Option Addr) (c1_1 : Nat) (l1_1 : List Int) (r1 : Int) (r2 : List Int) (r3 : Int) (w : World) (hr0_0 : Kd.C (Kd.slice 3 (Kd.int .i64)) w A0_0 l0_0.length l0_0) (hc0_0 : l0_0.length ≤ c0_0) (hr1_1 : Kd.C (Kd.int .i64) w A1_1 l1_1.length l1_1) (hc1_1 : l1_1.length ≤ c1_1) (h : tag_Turn.f k l0_0 a1_0 l1_1 = some (r1, r2, r3)) :
  Calls Try.prog 28 #[.agg #[.slice A0_0 l0_0.length c0_0], .agg #[.int .i64 a1_0, .slice A1_1 l1_1.length c1_1]] w fun e w' => ∃ v1_ : Value, e = .returned (.tuple #[.agg #[.int .i64 r1, v1_], .int .i64 r3]) ∧ Kd.R (Kd.int .i64) 3 w' w.heap.size (fun _ => True) v1_ r2 ∧ Below w.heap.size w w' := by
 have hu45 := Try.underlying45
 have hu47 := Try.underlying47
 have HR0_0 := Aside0.mk hr0_0
 have HC0_0 := Aside0.mk hc0_0
 clear hr0_0 hc0_0
 have HR1_1 := Aside0.mk hr1_1
 have HC1_1 := Aside0.mk hc1_1
 clear hr1_1 hc1_1
 have HB := A_ (Below.refl w.heap.size w)
 have H : ((tag_Roll.f k l0_0 a1_0 l1_1 1).bind fun bt211 => (if bt211.2.2.2 = 0 then (if bt211.2.2.1 = 0 then (some (0, ([] : List Int), 5)) else (some (bt211.1, bt211.2.1, bt211.2.2.2))) else (some (bt211.1, bt211.2.1, bt211.2.2.2)))) = some (r1, r2, r3) := h
 clear h
 replace H := Option.bind_eq_some_iff.mp H
 obtain ⟨⟨t211, t212, t215, t216⟩, A30, H⟩ := H
 replace H : (if t216 = 0 then (if t215 = 0 then (some (0, ([] : List Int), 5)) else (some (t211, t212, t216))) else (some (t211, t212, t216))) = some (r1, r2, r3) := H
 have A3 := Aside0.mk A30
 clear A30
 by_cases c4 : t216 = 0
 ·rw [if_pos c4] at H
  have c4b0 : (t216 == 0) = true := beq_iff_eq.mpr c4
  have c4b1 : (t216 != 0) = false := bne_eq_false_iff_eq.mpr c4
  clear c4
  by_cases c5 : t215 = 0
  ·rw [if_pos c5] at H
   have c5b0 : (t215 == 0) = true := beq_iff_eq.mpr c5
   have c5b1 : (t215 != 0) = false := bne_eq_false_iff_eq.mpr c5
   clear c5
   simp only [Option.some.injEq, Prod.mk.injEq] at H
   obtain ⟨rfl, rfl, rfl⟩ := H
   go_enter Try.func28, Try.ntmps28
   go_wp2_with (first | ((with_reducible refine gate_dst (N := 2) rfl ?_); refine box_event ?hg (N := 2) ?hd (cs := #[.slice A0_0 l0_0.length c0_0]) (t := 45) ?hr ?_; (case hd => rfl); (case hg => rfl); (case hr => first | (go_simp; done) | (go_simp; rfl)); intro gb208 hg w6 hbox hb; have n0_ := A_ (below_step (bk_ HB.out) hb); have n1_ := A_ (hbox); have n2_ := A_ ((by rw [hg]; exact (below_size (bk_ HB.out)) : w.heap.size ≤ gb208)); have n3_ := A_ ((by rw [hg]; exact (below_size (bk_ HB.out)) : w.heap.size ≤ gb208)); clear HB; have HB := n0_; have BK208 := n1_; have GW208 := n2_; have GE208 := n3_; clear n0_ n1_ n2_ n3_ hb hbox hg) | ((with_reducible refine gate_dst (N := 3) rfl ?_); refine box_event ?hg (N := 3) ?hd (cs := #[.int .i64 a1_0, .slice A1_1 l1_1.length c1_1]) (t := 47) ?hr ?_; (case hd => rfl); (case hg => rfl); (case hr => first | (go_simp; done) | (go_simp; rfl)); intro gb209 hg w7 hbox hb; have n0_ := A_ (blk_below (pk_ BK208.out) hb); have n1_ := A_ (below_step (bk_ HB.out) hb); have n2_ := A_ (hbox); have n3_ := A_ ((by rw [hg]; exact (below_size (bk_ HB.out)) : w.heap.size ≤ gb209)); have n4_ := A_ ((by rw [hg]; exact (below_size (bk_ HB.out)) : w.heap.size ≤ gb209)); have n5_ := A_ ((by rw [hg]; exact Nat.ne_of_lt (blk_lt (pk_ BK208.out)) : gb208 ≠ gb209)); have n6_ := A_ ((by rw [hg]; exact Nat.ne_of_gt (blk_lt (pk_ BK208.out)) : gb209 ≠ gb208)); clear BK208 HB; have BK208 := n0_; have HB := n1_; have BK209 := n2_; have GW209 := n3_; have GE209 := n4_; have NB208_209 := n5_; have NB209_208 := n6_; clear n0_ n1_ n2_ n3_ n4_ n5_ n6_ hb hbox hg) | ((with_reducible refine gate_dst (N := 4) rfl ?_); refine box_event ?hg (N := 4) ?hd (cs := #[.int .i64 0, .slice none 0 0]) (t := 47) ?hr ?_; (case hd => rfl); (case hg => rfl); (case hr => first | (go_simp; done) | (go_simp; rfl)); intro gb210 hg w8 hbox hb; have n0_ := A_ (blk_below (pk_ BK208.out) hb); have n1_ := A_ (blk_below (pk_ BK209.out) hb); have n2_ := A_ (below_step (bk_ HB.out) hb); have n3_ := A_ (hbox); have n4_ := A_ ((by rw [hg]; exact (below_size (bk_ HB.out)) : w.heap.size ≤ gb210)); have n5_ := A_ ((by rw [hg]; exact (below_size (bk_ HB.out)) : w.heap.size ≤ gb210)); have n6_ := A_ ((by rw [hg]; exact Nat.ne_of_lt (blk_lt (pk_ BK208.out)) : gb208 ≠ gb210)); have n7_ := A_ ((by rw [hg]; exact Nat.ne_of_gt (blk_lt (pk_ BK208.out)) : gb210 ≠ gb208)); have n8_ := A_ ((by rw [hg]; exact Nat.ne_of_lt (blk_lt (pk_ BK209.out)) : gb209 ≠ gb210)); have n9_ := A_ ((by rw [hg]; exact Nat.ne_of_gt (blk_lt (pk_ BK209.out)) : gb210 ≠ gb209)); clear BK208 BK209 HB; have BK208 := n0_; have BK209 := n1_; have HB := n2_; have BK210 := n3_; have GW210 := n4_; have GE210 := n5_; have NB208_210 := n6_; have NB210_208 := n7_; have NB209_210 := n8_; have NB210_209 := n9_; clear n0_ n1_ n2_ n3_ n4_ n5_ n6_ n7_ n8_ n9_ hb hbox hg; have hnb9 := NB208_209.out; have hnc9 := NB209_208.out; have hnb10 := NB208_210.out; have hnc10 := NB210_208.out; have hcz11_0 : w8.cell? ⟨gb208, 0, none⟩ = some (.slice A0_0 l0_0.length c0_0) := (blk_cell BK208.out 0).trans rfl; have hfz11_0 := blk_frozen BK208.out 0; have hnb12 := NB209_210.out; have hnc12 := NB210_209.out; have hcz13_0 : w8.cell? ⟨gb209, 0, none⟩ = some (.int .i64 a1_0) := (blk_cell BK209.out 0).trans rfl; have hcz13_1 : w8.cell? ⟨gb209, 1, none⟩ = some (.slice A1_1 l1_1.length c1_1) := (blk_cell BK209.out 1).trans rfl; have hfz13_0 := blk_frozen BK209.out 0; have hfz13_1 := blk_frozen BK209.out 1) | ((with_reducible refine gate_callee (f := 29) rfl ?_); refine goesL_ (some 12) rfl rfl Try.func29 (by kernel_rfl) rfl #[.agg #[.slice A0_0 l0_0.length c0_0], .agg #[.int .i64 a1_0, .slice A1_1 l1_1.length c1_1], .int .i64 1] rfl gl_ ?_; (with_reducible refine (tag_Roll.calls k _ _ l0_0 a1_0 _ _ l1_1 1 t211 t212 t215 t216 _ ?side1 ?side2 ?side3 ?side4 A3.out).mono ?_); (case side1 => exact ck_ (Kd.C_below HR0_0.out HB.out)); (case side2 => exact HC0_0.out); (case side3 => exact ck_ (Kd.C_below HR1_1.out HB.out)); (case side4 => exact HC1_1.out); rintro e w14 ⟨v213, rfl, ho0, hb⟩; refine ⟨_, rfl, ?_⟩; have n0_ := A_ (Kd.R_lower ho0 (below_size (bk_ HB.out))); have n1_ := A_ (blk_below (pk_ BK208.out) hb); have n2_ := A_ (blk_below (pk_ BK209.out) hb); have n3_ := A_ (blk_below (pk_ BK210.out) hb); have n4_ := A_ (below_step (bk_ HB.out) hb); clear BK208 BK209 BK210 HB; have HO214 := n0_; have BK208 := n1_; have BK209 := n2_; have BK210 := n3_; have HB := n4_; clear n0_ n1_ n2_ n3_ n4_; (try clear hb); (try clear hb2); (try clear hk); (try clear hi); (try clear ho0)) | ((with_reducible refine gate_dst (N := 6) rfl ?_); refine box_event ?hg (N := 6) ?hd (cs := #[.int .i64 0, .slice none 0 0]) (t := 47) ?hr ?_; (case hd => rfl); (case hg => rfl); (case hr => first | (go_simp; done) | (go_simp; rfl)); intro gb217 hg w15 hbox hb; have n0_ := A_ (Kd.R_below (rk_ HO214.out) hb); have n1_ := A_ (blk_below (pk_ BK208.out) hb); have n2_ := A_ (blk_below (pk_ BK209.out) hb); have n3_ := A_ (blk_below (pk_ BK210.out) hb); have n4_ := A_ (below_step (bk_ HB.out) hb); have n5_ := A_ (hbox); have n6_ := A_ ((by rw [hg]; exact (below_size (bk_ HB.out)) : w.heap.size ≤ gb217)); have n7_ := A_ ((by rw [hg]; exact (below_size (bk_ HB.out)) : w.heap.size ≤ gb217)); have n8_ := A_ ((by rw [hg]; exact Nat.ne_of_lt (blk_lt (pk_ BK208.out)) : gb208 ≠ gb217)); have n9_ := A_ ((by rw [hg]; exact Nat.ne_of_gt (blk_lt (pk_ BK208.out)) : gb217 ≠ gb208)); have n10_ := A_ ((by rw [hg]; exact Nat.ne_of_lt (blk_lt (pk_ BK209.out)) : gb209 ≠ gb217)); have n11_ := A_ ((by rw [hg]; exact Nat.ne_of_gt (blk_lt (pk_ BK209.out)) : gb217 ≠ gb209)); have n12_ := A_ ((by rw [hg]; exact Nat.ne_of_lt (blk_lt (pk_ BK210.out)) : gb210 ≠ gb217)); have n13_ := A_ ((by rw [hg]; exact Nat.ne_of_gt (blk_lt (pk_ BK210.out)) : gb217 ≠ gb210)); clear HO214 BK208 BK209 BK210 HB; have HO214 := n0_; have BK208 := n1_; have BK209 := n2_; have BK210 := n3_; have HB := n4_; have BK217 := n5_; have GW217 := n6_; have GE217 := n7_; have NB208_217 := n8_; have NB217_208 := n9_; have NB209_217 := n10_; have NB217_209 := n11_; have NB210_217 := n12_; have NB217_210 := n13_; clear n0_ n1_ n2_ n3_ n4_ n5_ n6_ n7_ n8_ n9_ n10_ n11_ n12_ n13_ hb hbox hg; have hnb16 := NB217_208.out; have hnc16 := NB208_217.out; have hnb17 := NB217_209.out; have hnc17 := NB209_217.out; have hnb18 := NB217_210.out; have hnc18 := NB210_217.out; have hcz19_0 : w15.cell? ⟨gb217, 0, none⟩ = some (.int .i64 0) := (blk_cell BK217.out 0).trans rfl; have hcz19_1 : w15.cell? ⟨gb217, 1, none⟩ = some (.slice none 0 0) := (blk_cell BK217.out 1).trans rfl; have hfz19_0 := blk_frozen BK217.out 0; have hfz19_1 := blk_frozen BK217.out 1; obtain ⟨Ao20, co20, eo20⟩ := Kd.R_slice HO214.out; subst eo20; have hcz21_0 : w15.cell? ⟨gb210, 0, none⟩ = some (.int .i64 0) := (blk_cell BK210.out 0).trans rfl; have hcz21_1 : w15.cell? ⟨gb210, 1, none⟩ = some (.slice none 0 0) := (blk_cell BK210.out 1).trans rfl; have hfz21_0 := blk_frozen BK210.out 0; have hfz21_1 := blk_frozen BK210.out 1))
   refine bodyPost_ret (results_ct rfl _ _ gb210 47 #[.int .i64 0, .slice none 0 0] (0, 0) _ rfl (by refine pk_ ?_; refine blk_put (cs := #[.int .i64 0, .slice none 0 0]) ?_ 1 _ rfl; refine pk_ ?_; refine blk_put (cs := #[.int .i64 0, .slice none 0 0]) ?_ 0 _ rfl; refine pk_ ?_; refine blk_far ?_ NB210_217.out _; refine pk_ ?_; refine blk_far ?_ NB210_217.out _; exact pk_ BK210.out) Try.underlying47 rfl (by kernel_rfl)) rfl ?_
   exact ⟨_, er_, by first | exact Kd.R_nil _ _ _ _ _ | exact Kd.N_nil _ _ _ _ _ | exact Kd.V_nil _ _ _ _ _ | exact Kd.Q_nil _ _ _ _ _ | exact Kd.S_nil _ _ _ _ _, bk_ HB.out⟩
  ·rw [if_neg c5] at H
   have c5b0 : (t215 == 0) = false := beq_eq_false_iff_ne.mpr c5
   have c5b1 : (t215 != 0) = true := bne_iff_ne.mpr c5
   simp only [Option.some.injEq, Prod.mk.injEq] at H
   obtain ⟨rfl, rfl, rfl⟩ := H
   go_enter Try.func28, Try.ntmps28
   go_wp2_with (first | ((with_reducible refine gate_dst (N := 2) rfl ?_); refine box_event ?hg (N := 2) ?hd (cs := #[.slice A0_0 l0_0.length c0_0]) (t := 45) ?hr ?_; (case hd => rfl); (case hg => rfl); (case hr => first | (go_simp; done) | (go_simp; rfl)); intro gb208 hg w22 hbox hb; have n0_ := A_ (below_step (bk_ HB.out) hb); have n1_ := A_ (hbox); have n2_ := A_ ((by rw [hg]; exact (below_size (bk_ HB.out)) : w.heap.size ≤ gb208)); have n3_ := A_ ((by rw [hg]; exact (below_size (bk_ HB.out)) : w.heap.size ≤ gb208)); clear HB; have HB := n0_; have BK208 := n1_; have GW208 := n2_; have GE208 := n3_; clear n0_ n1_ n2_ n3_ hb hbox hg) | ((with_reducible refine gate_dst (N := 3) rfl ?_); refine box_event ?hg (N := 3) ?hd (cs := #[.int .i64 a1_0, .slice A1_1 l1_1.length c1_1]) (t := 47) ?hr ?_; (case hd => rfl); (case hg => rfl); (case hr => first | (go_simp; done) | (go_simp; rfl)); intro gb209 hg w23 hbox hb; have n0_ := A_ (blk_below (pk_ BK208.out) hb); have n1_ := A_ (below_step (bk_ HB.out) hb); have n2_ := A_ (hbox); have n3_ := A_ ((by rw [hg]; exact (below_size (bk_ HB.out)) : w.heap.size ≤ gb209)); have n4_ := A_ ((by rw [hg]; exact (below_size (bk_ HB.out)) : w.heap.size ≤ gb209)); have n5_ := A_ ((by rw [hg]; exact Nat.ne_of_lt (blk_lt (pk_ BK208.out)) : gb208 ≠ gb209)); have n6_ := A_ ((by rw [hg]; exact Nat.ne_of_gt (blk_lt (pk_ BK208.out)) : gb209 ≠ gb208)); clear BK208 HB; have BK208 := n0_; have HB := n1_; have BK209 := n2_; have GW209 := n3_; have GE209 := n4_; have NB208_209 := n5_; have NB209_208 := n6_; clear n0_ n1_ n2_ n3_ n4_ n5_ n6_ hb hbox hg) | ((with_reducible refine gate_dst (N := 4) rfl ?_); refine box_event ?hg (N := 4) ?hd (cs := #[.int .i64 0, .slice none 0 0]) (t := 47) ?hr ?_; (case hd => rfl); (case hg => rfl); (case hr => first | (go_simp; done) | (go_simp; rfl)); intro gb210 hg w24 hbox hb; have n0_ := A_ (blk_below (pk_ BK208.out) hb); have n1_ := A_ (blk_below (pk_ BK209.out) hb); have n2_ := A_ (below_step (bk_ HB.out) hb); have n3_ := A_ (hbox); have n4_ := A_ ((by rw [hg]; exact (below_size (bk_ HB.out)) : w.heap.size ≤ gb210)); have n5_ := A_ ((by rw [hg]; exact (below_size (bk_ HB.out)) : w.heap.size ≤ gb210)); have n6_ := A_ ((by rw [hg]; exact Nat.ne_of_lt (blk_lt (pk_ BK208.out)) : gb208 ≠ gb210)); have n7_ := A_ ((by rw [hg]; exact Nat.ne_of_gt (blk_lt (pk_ BK208.out)) : gb210 ≠ gb208)); have n8_ := A_ ((by rw [hg]; exact Nat.ne_of_lt (blk_lt (pk_ BK209.out)) : gb209 ≠ gb210)); have n9_ := A_ ((by rw [hg]; exact Nat.ne_of_gt (blk_lt (pk_ BK209.out)) : gb210 ≠ gb209)); clear BK208 BK209 HB; have BK208 := n0_; have BK209 := n1_; have HB := n2_; have BK210 := n3_; have GW210 := n4_; have GE210 := n5_; have NB208_210 := n6_; have NB210_208 := n7_; have NB209_210 := n8_; have NB210_209 := n9_; clear n0_ n1_ n2_ n3_ n4_ n5_ n6_ n7_ n8_ n9_ hb hbox hg; have hnb25 := NB208_209.out; have hnc25 := NB209_208.out; have hnb26 := NB208_210.out; have hnc26 := NB210_208.out; have hcz27_0 : w24.cell? ⟨gb208, 0, none⟩ = some (.slice A0_0 l0_0.length c0_0) := (blk_cell BK208.out 0).trans rfl; have hfz27_0 := blk_frozen BK208.out 0; have hnb28 := NB209_210.out; have hnc28 := NB210_209.out; have hcz29_0 : w24.cell? ⟨gb209, 0, none⟩ = some (.int .i64 a1_0) := (blk_cell BK209.out 0).trans rfl; have hcz29_1 : w24.cell? ⟨gb209, 1, none⟩ = some (.slice A1_1 l1_1.length c1_1) := (blk_cell BK209.out 1).trans rfl; have hfz29_0 := blk_frozen BK209.out 0; have hfz29_1 := blk_frozen BK209.out 1) | ((with_reducible refine gate_callee (f := 29) rfl ?_); refine goesL_ (some 12) rfl rfl Try.func29 (by kernel_rfl) rfl #[.agg #[.slice A0_0 l0_0.length c0_0], .agg #[.int .i64 a1_0, .slice A1_1 l1_1.length c1_1], .int .i64 1] rfl gl_ ?_; (with_reducible refine (tag_Roll.calls k _ _ l0_0 a1_0 _ _ l1_1 1 t211 t212 t215 t216 _ ?side1 ?side2 ?side3 ?side4 A3.out).mono ?_); (case side1 => exact ck_ (Kd.C_below HR0_0.out HB.out)); (case side2 => exact HC0_0.out); (case side3 => exact ck_ (Kd.C_below HR1_1.out HB.out)); (case side4 => exact HC1_1.out); rintro e w30 ⟨v213, rfl, ho0, hb⟩; refine ⟨_, rfl, ?_⟩; have n0_ := A_ (Kd.R_lower ho0 (below_size (bk_ HB.out))); have n1_ := A_ (blk_below (pk_ BK208.out) hb); have n2_ := A_ (blk_below (pk_ BK209.out) hb); have n3_ := A_ (blk_below (pk_ BK210.out) hb); have n4_ := A_ (below_step (bk_ HB.out) hb); clear BK208 BK209 BK210 HB; have HO214 := n0_; have BK208 := n1_; have BK209 := n2_; have BK210 := n3_; have HB := n4_; clear n0_ n1_ n2_ n3_ n4_; (try clear hb); (try clear hb2); (try clear hk); (try clear hi); (try clear ho0)) | ((with_reducible refine gate_dst (N := 6) rfl ?_); refine box_event ?hg (N := 6) ?hd (cs := #[.int .i64 0, .slice none 0 0]) (t := 47) ?hr ?_; (case hd => rfl); (case hg => rfl); (case hr => first | (go_simp; done) | (go_simp; rfl)); intro gb217 hg w31 hbox hb; have n0_ := A_ (Kd.R_below (rk_ HO214.out) hb); have n1_ := A_ (blk_below (pk_ BK208.out) hb); have n2_ := A_ (blk_below (pk_ BK209.out) hb); have n3_ := A_ (blk_below (pk_ BK210.out) hb); have n4_ := A_ (below_step (bk_ HB.out) hb); have n5_ := A_ (hbox); have n6_ := A_ ((by rw [hg]; exact (below_size (bk_ HB.out)) : w.heap.size ≤ gb217)); have n7_ := A_ ((by rw [hg]; exact (below_size (bk_ HB.out)) : w.heap.size ≤ gb217)); have n8_ := A_ ((by rw [hg]; exact Nat.ne_of_lt (blk_lt (pk_ BK208.out)) : gb208 ≠ gb217)); have n9_ := A_ ((by rw [hg]; exact Nat.ne_of_gt (blk_lt (pk_ BK208.out)) : gb217 ≠ gb208)); have n10_ := A_ ((by rw [hg]; exact Nat.ne_of_lt (blk_lt (pk_ BK209.out)) : gb209 ≠ gb217)); have n11_ := A_ ((by rw [hg]; exact Nat.ne_of_gt (blk_lt (pk_ BK209.out)) : gb217 ≠ gb209)); have n12_ := A_ ((by rw [hg]; exact Nat.ne_of_lt (blk_lt (pk_ BK210.out)) : gb210 ≠ gb217)); have n13_ := A_ ((by rw [hg]; exact Nat.ne_of_gt (blk_lt (pk_ BK210.out)) : gb217 ≠ gb210)); clear HO214 BK208 BK209 BK210 HB; have HO214 := n0_; have BK208 := n1_; have BK209 := n2_; have BK210 := n3_; have HB := n4_; have BK217 := n5_; have GW217 := n6_; have GE217 := n7_; have NB208_217 := n8_; have NB217_208 := n9_; have NB209_217 := n10_; have NB217_209 := n11_; have NB210_217 := n12_; have NB217_210 := n13_; clear n0_ n1_ n2_ n3_ n4_ n5_ n6_ n7_ n8_ n9_ n10_ n11_ n12_ n13_ hb hbox hg; have hnb32 := NB217_208.out; have hnc32 := NB208_217.out; have hnb33 := NB217_209.out; have hnc33 := NB209_217.out; have hnb34 := NB217_210.out; have hnc34 := NB210_217.out; have hcz35_0 : w31.cell? ⟨gb217, 0, none⟩ = some (.int .i64 0) := (blk_cell BK217.out 0).trans rfl; have hcz35_1 : w31.cell? ⟨gb217, 1, none⟩ = some (.slice none 0 0) := (blk_cell BK217.out 1).trans rfl; have hfz35_0 := blk_frozen BK217.out 0; have hfz35_1 := blk_frozen BK217.out 1; obtain ⟨Ao36, co36, eo36⟩ := Kd.R_slice HO214.out; subst eo36; have hcz37_0 : w31.cell? ⟨gb210, 0, none⟩ = some (.int .i64 0) := (blk_cell BK210.out 0).trans rfl; have hcz37_1 : w31.cell? ⟨gb210, 1, none⟩ = some (.slice none 0 0) := (blk_cell BK210.out 1).trans rfl; have hfz37_0 := blk_frozen BK210.out 0; have hfz37_1 := blk_frozen BK210.out 1))
   refine bodyPost_ret (results_ct rfl _ _ gb210 47 #[.int .i64 t211, .slice Ao36 t212.length co36] (0, 0) _ rfl (by refine pk_ ?_; refine blk_put (cs := #[.int .i64 t211, .slice none 0 0]) ?_ 1 _ rfl; refine pk_ ?_; refine blk_put (cs := #[.int .i64 0, .slice none 0 0]) ?_ 0 _ rfl; refine pk_ ?_; refine blk_far ?_ NB210_217.out _; refine pk_ ?_; refine blk_far ?_ NB210_217.out _; exact pk_ BK210.out) Try.underlying47 rfl (by kernel_rfl)) rfl ?_
   exact ⟨_, er_, by (with_reducible repeat (first | apply Kd.R_alloc | apply Kd.R_drewN | apply Kd.R_drew)); exact Kd.R_mono (Kd.R_far (p := ⟨gb210, 1, none⟩) (Kd.R_far (p := ⟨gb210, 0, none⟩) (Kd.R_far (p := ⟨gb217, 1, none⟩) (Kd.R_far (p := ⟨gb217, 0, none⟩) (Kd.R_types (Kd.R_types HO214.out BK217.out (by decide)) BK210.out (by decide)) (fun _ hk => hk.1.2) (.int .i64 t211)) (fun _ hk => hk.1.2) (.slice Ao36 t212.length co36)) (fun _ hk => hk.2) (.int .i64 t211)) (fun _ hk => hk.2) (.slice Ao36 t212.length co36)) (fun _ hk => trivial), bk_ HB.out⟩
 ·rw [if_neg c4] at H
  have c4b0 : (t216 == 0) = false := beq_eq_false_iff_ne.mpr c4
  have c4b1 : (t216 != 0) = true := bne_iff_ne.mpr c4
  simp only [Option.some.injEq, Prod.mk.injEq] at H
  obtain ⟨rfl, rfl, rfl⟩ := H
  go_enter Try.func28, Try.ntmps28
  go_wp2_with (first | ((with_reducible refine gate_dst (N := 2) rfl ?_); refine box_event ?hg (N := 2) ?hd (cs := #[.slice A0_0 l0_0.length c0_0]) (t := 45) ?hr ?_; (case hd => rfl); (case hg => rfl); (case hr => first | (go_simp; done) | (go_simp; rfl)); intro gb208 hg w38 hbox hb; have n0_ := A_ (below_step (bk_ HB.out) hb); have n1_ := A_ (hbox); have n2_ := A_ ((by rw [hg]; exact (below_size (bk_ HB.out)) : w.heap.size ≤ gb208)); have n3_ := A_ ((by rw [hg]; exact (below_size (bk_ HB.out)) : w.heap.size ≤ gb208)); clear HB; have HB := n0_; have BK208 := n1_; have GW208 := n2_; have GE208 := n3_; clear n0_ n1_ n2_ n3_ hb hbox hg) | ((with_reducible refine gate_dst (N := 3) rfl ?_); refine box_event ?hg (N := 3) ?hd (cs := #[.int .i64 a1_0, .slice A1_1 l1_1.length c1_1]) (t := 47) ?hr ?_; (case hd => rfl); (case hg => rfl); (case hr => first | (go_simp; done) | (go_simp; rfl)); intro gb209 hg w39 hbox hb; have n0_ := A_ (blk_below (pk_ BK208.out) hb); have n1_ := A_ (below_step (bk_ HB.out) hb); have n2_ := A_ (hbox); have n3_ := A_ ((by rw [hg]; exact (below_size (bk_ HB.out)) : w.heap.size ≤ gb209)); have n4_ := A_ ((by rw [hg]; exact (below_size (bk_ HB.out)) : w.heap.size ≤ gb209)); have n5_ := A_ ((by rw [hg]; exact Nat.ne_of_lt (blk_lt (pk_ BK208.out)) : gb208 ≠ gb209)); have n6_ := A_ ((by rw [hg]; exact Nat.ne_of_gt (blk_lt (pk_ BK208.out)) : gb209 ≠ gb208)); clear BK208 HB; have BK208 := n0_; have HB := n1_; have BK209 := n2_; have GW209 := n3_; have GE209 := n4_; have NB208_209 := n5_; have NB209_208 := n6_; clear n0_ n1_ n2_ n3_ n4_ n5_ n6_ hb hbox hg) | ((with_reducible refine gate_dst (N := 4) rfl ?_); refine box_event ?hg (N := 4) ?hd (cs := #[.int .i64 0, .slice none 0 0]) (t := 47) ?hr ?_; (case hd => rfl); (case hg => rfl); (case hr => first | (go_simp; done) | (go_simp; rfl)); intro gb210 hg w40 hbox hb; have n0_ := A_ (blk_below (pk_ BK208.out) hb); have n1_ := A_ (blk_below (pk_ BK209.out) hb); have n2_ := A_ (below_step (bk_ HB.out) hb); have n3_ := A_ (hbox); have n4_ := A_ ((by rw [hg]; exact (below_size (bk_ HB.out)) : w.heap.size ≤ gb210)); have n5_ := A_ ((by rw [hg]; exact (below_size (bk_ HB.out)) : w.heap.size ≤ gb210)); have n6_ := A_ ((by rw [hg]; exact Nat.ne_of_lt (blk_lt (pk_ BK208.out)) : gb208 ≠ gb210)); have n7_ := A_ ((by rw [hg]; exact Nat.ne_of_gt (blk_lt (pk_ BK208.out)) : gb210 ≠ gb208)); have n8_ := A_ ((by rw [hg]; exact Nat.ne_of_lt (blk_lt (pk_ BK209.out)) : gb209 ≠ gb210)); have n9_ := A_ ((by rw [hg]; exact Nat.ne_of_gt (blk_lt (pk_ BK209.out)) : gb210 ≠ gb209)); clear BK208 BK209 HB; have BK208 := n0_; have BK209 := n1_; have HB := n2_; have BK210 := n3_; have GW210 := n4_; have GE210 := n5_; have NB208_210 := n6_; have NB210_208 := n7_; have NB209_210 := n8_; have NB210_209 := n9_; clear n0_ n1_ n2_ n3_ n4_ n5_ n6_ n7_ n8_ n9_ hb hbox hg; have hnb41 := NB208_209.out; have hnc41 := NB209_208.out; have hnb42 := NB208_210.out; have hnc42 := NB210_208.out; have hcz43_0 : w40.cell? ⟨gb208, 0, none⟩ = some (.slice A0_0 l0_0.length c0_0) := (blk_cell BK208.out 0).trans rfl; have hfz43_0 := blk_frozen BK208.out 0; have hnb44 := NB209_210.out; have hnc44 := NB210_209.out; have hcz45_0 : w40.cell? ⟨gb209, 0, none⟩ = some (.int .i64 a1_0) := (blk_cell BK209.out 0).trans rfl; have hcz45_1 : w40.cell? ⟨gb209, 1, none⟩ = some (.slice A1_1 l1_1.length c1_1) := (blk_cell BK209.out 1).trans rfl; have hfz45_0 := blk_frozen BK209.out 0; have hfz45_1 := blk_frozen BK209.out 1) | ((with_reducible refine gate_callee (f := 29) rfl ?_); refine goesL_ (some 12) rfl rfl Try.func29 (by kernel_rfl) rfl #[.agg #[.slice A0_0 l0_0.length c0_0], .agg #[.int .i64 a1_0, .slice A1_1 l1_1.length c1_1], .int .i64 1] rfl gl_ ?_; (with_reducible refine (tag_Roll.calls k _ _ l0_0 a1_0 _ _ l1_1 1 t211 t212 t215 t216 _ ?side1 ?side2 ?side3 ?side4 A3.out).mono ?_); (case side1 => exact ck_ (Kd.C_below HR0_0.out HB.out)); (case side2 => exact HC0_0.out); (case side3 => exact ck_ (Kd.C_below HR1_1.out HB.out)); (case side4 => exact HC1_1.out); rintro e w46 ⟨v213, rfl, ho0, hb⟩; refine ⟨_, rfl, ?_⟩; have n0_ := A_ (Kd.R_lower ho0 (below_size (bk_ HB.out))); have n1_ := A_ (blk_below (pk_ BK208.out) hb); have n2_ := A_ (blk_below (pk_ BK209.out) hb); have n3_ := A_ (blk_below (pk_ BK210.out) hb); have n4_ := A_ (below_step (bk_ HB.out) hb); clear BK208 BK209 BK210 HB; have HO214 := n0_; have BK208 := n1_; have BK209 := n2_; have BK210 := n3_; have HB := n4_; clear n0_ n1_ n2_ n3_ n4_; (try clear hb); (try clear hb2); (try clear hk); (try clear hi); (try clear ho0)) | ((with_reducible refine gate_dst (N := 6) rfl ?_); refine box_event ?hg (N := 6) ?hd (cs := #[.int .i64 0, .slice none 0 0]) (t := 47) ?hr ?_; (case hd => rfl); (case hg => rfl); (case hr => first | (go_simp; done) | (go_simp; rfl)); intro gb217 hg w47 hbox hb; have n0_ := A_ (Kd.R_below (rk_ HO214.out) hb); have n1_ := A_ (blk_below (pk_ BK208.out) hb); have n2_ := A_ (blk_below (pk_ BK209.out) hb); have n3_ := A_ (blk_below (pk_ BK210.out) hb); have n4_ := A_ (below_step (bk_ HB.out) hb); have n5_ := A_ (hbox); have n6_ := A_ ((by rw [hg]; exact (below_size (bk_ HB.out)) : w.heap.size ≤ gb217)); have n7_ := A_ ((by rw [hg]; exact (below_size (bk_ HB.out)) : w.heap.size ≤ gb217)); have n8_ := A_ ((by rw [hg]; exact Nat.ne_of_lt (blk_lt (pk_ BK208.out)) : gb208 ≠ gb217)); have n9_ := A_ ((by rw [hg]; exact Nat.ne_of_gt (blk_lt (pk_ BK208.out)) : gb217 ≠ gb208)); have n10_ := A_ ((by rw [hg]; exact Nat.ne_of_lt (blk_lt (pk_ BK209.out)) : gb209 ≠ gb217)); have n11_ := A_ ((by rw [hg]; exact Nat.ne_of_gt (blk_lt (pk_ BK209.out)) : gb217 ≠ gb209)); have n12_ := A_ ((by rw [hg]; exact Nat.ne_of_lt (blk_lt (pk_ BK210.out)) : gb210 ≠ gb217)); have n13_ := A_ ((by rw [hg]; exact Nat.ne_of_gt (blk_lt (pk_ BK210.out)) : gb217 ≠ gb210)); clear HO214 BK208 BK209 BK210 HB; have HO214 := n0_; have BK208 := n1_; have BK209 := n2_; have BK210 := n3_; have HB := n4_; have BK217 := n5_; have GW217 := n6_; have GE217 := n7_; have NB208_217 := n8_; have NB217_208 := n9_; have NB209_217 := n10_; have NB217_209 := n11_; have NB210_217 := n12_; have NB217_210 := n13_; clear n0_ n1_ n2_ n3_ n4_ n5_ n6_ n7_ n8_ n9_ n10_ n11_ n12_ n13_ hb hbox hg; have hnb48 := NB217_208.out; have hnc48 := NB208_217.out; have hnb49 := NB217_209.out; have hnc49 := NB209_217.out; have hnb50 := NB217_210.out; have hnc50 := NB210_217.out; have hcz51_0 : w47.cell? ⟨gb217, 0, none⟩ = some (.int .i64 0) := (blk_cell BK217.out 0).trans rfl; have hcz51_1 : w47.cell? ⟨gb217, 1, none⟩ = some (.slice none 0 0) := (blk_cell BK217.out 1).trans rfl; have hfz51_0 := blk_frozen BK217.out 0; have hfz51_1 := blk_frozen BK217.out 1; obtain ⟨Ao52, co52, eo52⟩ := Kd.R_slice HO214.out; subst eo52; have hcz53_0 : w47.cell? ⟨gb210, 0, none⟩ = some (.int .i64 0) := (blk_cell BK210.out 0).trans rfl; have hcz53_1 : w47.cell? ⟨gb210, 1, none⟩ = some (.slice none 0 0) := (blk_cell BK210.out 1).trans rfl; have hfz53_0 := blk_frozen BK210.out 0; have hfz53_1 := blk_frozen BK210.out 1))
  refine bodyPost_ret (results_ct rfl _ _ gb210 47 #[.int .i64 t211, .slice Ao52 t212.length co52] (0, 0) _ rfl (by refine pk_ ?_; refine blk_put (cs := #[.int .i64 t211, .slice none 0 0]) ?_ 1 _ rfl; refine pk_ ?_; refine blk_put (cs := #[.int .i64 0, .slice none 0 0]) ?_ 0 _ rfl; refine pk_ ?_; refine blk_far ?_ NB210_217.out _; refine pk_ ?_; refine blk_far ?_ NB210_217.out _; exact pk_ BK210.out) Try.underlying47 rfl (by kernel_rfl)) rfl ?_
  exact ⟨_, er_, by (with_reducible repeat (first | apply Kd.R_alloc | apply Kd.R_drewN | apply Kd.R_drew)); exact Kd.R_mono (Kd.R_far (p := ⟨gb210, 1, none⟩) (Kd.R_far (p := ⟨gb210, 0, none⟩) (Kd.R_far (p := ⟨gb217, 1, none⟩) (Kd.R_far (p := ⟨gb217, 0, none⟩) (Kd.R_types (Kd.R_types HO214.out BK217.out (by decide)) BK210.out (by decide)) (fun _ hk => hk.1.2) (.int .i64 t211)) (fun _ hk => hk.1.2) (.slice Ao52 t212.length co52)) (fun _ hk => hk.2) (.int .i64 t211)) (fun _ hk => hk.2) (.slice Ao52 t212.length co52)) (fun _ hk => trivial), bk_ HB.out⟩

/-! ### standstillref07_SameWheel: function 30 -/
def standstillref07_SameWheel.f (k : Nat) (a0_0 : Int) (l0_1 : List Int) (a1_0 : Int) (l1_1 : List Int) : Option (Bool) := if a0_0 = a1_0 then ((standstillref07_Same.f k l0_1 l1_1).bind fun t220 => (some t220)) else (some false)
theorem standstillref07_SameWheel.mono : ∀ a0 a1 a2 a3 k, LeO (standstillref07_SameWheel.f k a0 a1 a2 a3) (standstillref07_SameWheel.f (k + 1) a0 a1 a2 a3) := by
 intro a0 a1 a2 a3 k
 unfold standstillref07_SameWheel.f
 repeat' first
   | (with_reducible exact standstillref07_Same.mono _ _ _)
   | (with_reducible exact LeO.refl _)
   | (with_reducible exact LeO.none _)
   | (with_reducible refine LeO.ite ?_ ?_)
   | (with_reducible refine LeO.bind ?_ (fun _ => ?_))
   | exact standstillref07_Same.mono _ _ _
   | exact LeO.none _
   | refine LeO.ite ?_ ?_
   | refine LeO.bind ?_ (fun _ => ?_)
set_option maxHeartbeats 8000000 in
set_option maxRecDepth 100000 in
theorem standstillref07_SameWheel.calls (k : Nat) (a0_0 : Int) (A0_1 : Option Addr) (c0_1 : Nat) (l0_1 : List Int) (a1_0 : Int) (A1_1 : Option Addr) (c1_1 : Nat) (l1_1 : List Int) (r : Bool) (w : World) (hr0_1 : Kd.C (Kd.int .i64) w A0_1 l0_1.length l0_1) (hc0_1 : l0_1.length ≤ c0_1) (hr1_1 : Kd.C (Kd.int .i64) w A1_1 l1_1.length l1_1) (hc1_1 : l1_1.length ≤ c1_1) (h : standstillref07_SameWheel.f k a0_0 l0_1 a1_0 l1_1 = some r) :
  Calls Try.prog 30 #[.agg #[.int .i64 a0_0, .slice A0_1 l0_1.length c0_1], .agg #[.int .i64 a1_0, .slice A1_1 l1_1.length c1_1]] w fun e w' => e = .returned (.bool r) ∧ Below w.heap.size w w' := by
 have hu47 := Try.underlying47
 have HR0_1 := Aside0.mk hr0_1
 have HC0_1 := Aside0.mk hc0_1
 clear hr0_1 hc0_1
 have HR1_1 := Aside0.mk hr1_1
 have HC1_1 := Aside0.mk hc1_1
 clear hr1_1 hc1_1
 have HB := A_ (Below.refl w.heap.size w)
 have H : (if a0_0 = a1_0 then ((standstillref07_Same.f k l0_1 l1_1).bind fun t220 => (some t220)) else (some false)) = some r := h
 clear h
 by_cases c3 : a0_0 = a1_0
 ·rw [if_pos c3] at H
  have c3b0 : (a0_0 == a1_0) = true := beq_iff_eq.mpr c3
  have c3b1 : (a0_0 != a1_0) = false := bne_eq_false_iff_eq.mpr c3
  clear c3
  replace H := Option.bind_eq_some_iff.mp H
  obtain ⟨t220, A40, H⟩ := H
  replace H : (some t220) = some r := H
  have A4 := Aside0.mk A40
  clear A40
  obtain rfl := Option.some.inj H
  go_enter Try.func30, Try.ntmps30
  go_wp2_with (first | ((with_reducible refine gate_dst (N := 2) rfl ?_); refine box_event ?hg (N := 2) ?hd (cs := #[.int .i64 a0_0, .slice A0_1 l0_1.length c0_1]) (t := 47) ?hr ?_; (case hd => rfl); (case hg => rfl); (case hr => first | (go_simp; done) | (go_simp; rfl)); intro gb218 hg w5 hbox hb; have n0_ := A_ (below_step (bk_ HB.out) hb); have n1_ := A_ (hbox); have n2_ := A_ ((by rw [hg]; exact (below_size (bk_ HB.out)) : w.heap.size ≤ gb218)); have n3_ := A_ ((by rw [hg]; exact (below_size (bk_ HB.out)) : w.heap.size ≤ gb218)); clear HB; have HB := n0_; have BK218 := n1_; have GW218 := n2_; have GE218 := n3_; clear n0_ n1_ n2_ n3_ hb hbox hg) | ((with_reducible refine gate_dst (N := 3) rfl ?_); refine box_event ?hg (N := 3) ?hd (cs := #[.int .i64 a1_0, .slice A1_1 l1_1.length c1_1]) (t := 47) ?hr ?_; (case hd => rfl); (case hg => rfl); (case hr => first | (go_simp; done) | (go_simp; rfl)); intro gb219 hg w6 hbox hb; have n0_ := A_ (blk_below (pk_ BK218.out) hb); have n1_ := A_ (below_step (bk_ HB.out) hb); have n2_ := A_ (hbox); have n3_ := A_ ((by rw [hg]; exact (below_size (bk_ HB.out)) : w.heap.size ≤ gb219)); have n4_ := A_ ((by rw [hg]; exact (below_size (bk_ HB.out)) : w.heap.size ≤ gb219)); have n5_ := A_ ((by rw [hg]; exact Nat.ne_of_lt (blk_lt (pk_ BK218.out)) : gb218 ≠ gb219)); have n6_ := A_ ((by rw [hg]; exact Nat.ne_of_gt (blk_lt (pk_ BK218.out)) : gb219 ≠ gb218)); clear BK218 HB; have BK218 := n0_; have HB := n1_; have BK219 := n2_; have GW219 := n3_; have GE219 := n4_; have NB218_219 := n5_; have NB219_218 := n6_; clear n0_ n1_ n2_ n3_ n4_ n5_ n6_ hb hbox hg; have hnb7 := NB218_219.out; have hnc7 := NB219_218.out; have hcz8_0 : w6.cell? ⟨gb218, 0, none⟩ = some (.int .i64 a0_0) := (blk_cell BK218.out 0).trans rfl; have hcz8_1 : w6.cell? ⟨gb218, 1, none⟩ = some (.slice A0_1 l0_1.length c0_1) := (blk_cell BK218.out 1).trans rfl; have hfz8_0 := blk_frozen BK218.out 0; have hfz8_1 := blk_frozen BK218.out 1; have hcz9_0 : w6.cell? ⟨gb219, 0, none⟩ = some (.int .i64 a1_0) := (blk_cell BK219.out 0).trans rfl; have hcz9_1 : w6.cell? ⟨gb219, 1, none⟩ = some (.slice A1_1 l1_1.length c1_1) := (blk_cell BK219.out 1).trans rfl; have hfz9_0 := blk_frozen BK219.out 0; have hfz9_1 := blk_frozen BK219.out 1) | (go_at_call 14; (with_reducible refine (standstillref07_Same.calls k _ _ l0_1 _ _ l1_1 t220 _ ?side1 ?side2 ?side3 ?side4 A4.out).mono ?_); (case side1 => exact ck_ (Kd.C_below HR0_1.out HB.out)); (case side2 => exact HC0_1.out); (case side3 => exact ck_ (Kd.C_below HR1_1.out HB.out)); (case side4 => exact HC1_1.out); rintro e w' ⟨rfl, ⟨nd, rfl⟩⟩))
  go_ret
  exact ⟨er_, bk_ HB.out⟩
 ·rw [if_neg c3] at H
  have c3b0 : (a0_0 == a1_0) = false := beq_eq_false_iff_ne.mpr c3
  have c3b1 : (a0_0 != a1_0) = true := bne_iff_ne.mpr c3
  obtain rfl := Option.some.inj H
  go_enter Try.func30, Try.ntmps30
  go_wp2_with (first | ((with_reducible refine gate_dst (N := 2) rfl ?_); refine box_event ?hg (N := 2) ?hd (cs := #[.int .i64 a0_0, .slice A0_1 l0_1.length c0_1]) (t := 47) ?hr ?_; (case hd => rfl); (case hg => rfl); (case hr => first | (go_simp; done) | (go_simp; rfl)); intro gb218 hg w10 hbox hb; have n0_ := A_ (below_step (bk_ HB.out) hb); have n1_ := A_ (hbox); have n2_ := A_ ((by rw [hg]; exact (below_size (bk_ HB.out)) : w.heap.size ≤ gb218)); have n3_ := A_ ((by rw [hg]; exact (below_size (bk_ HB.out)) : w.heap.size ≤ gb218)); clear HB; have HB := n0_; have BK218 := n1_; have GW218 := n2_; have GE218 := n3_; clear n0_ n1_ n2_ n3_ hb hbox hg) | ((with_reducible refine gate_dst (N := 3) rfl ?_); refine box_event ?hg (N := 3) ?hd (cs := #[.int .i64 a1_0, .slice A1_1 l1_1.length c1_1]) (t := 47) ?hr ?_; (case hd => rfl); (case hg => rfl); (case hr => first | (go_simp; done) | (go_simp; rfl)); intro gb219 hg w11 hbox hb; have n0_ := A_ (blk_below (pk_ BK218.out) hb); have n1_ := A_ (below_step (bk_ HB.out) hb); have n2_ := A_ (hbox); have n3_ := A_ ((by rw [hg]; exact (below_size (bk_ HB.out)) : w.heap.size ≤ gb219)); have n4_ := A_ ((by rw [hg]; exact (below_size (bk_ HB.out)) : w.heap.size ≤ gb219)); have n5_ := A_ ((by rw [hg]; exact Nat.ne_of_lt (blk_lt (pk_ BK218.out)) : gb218 ≠ gb219)); have n6_ := A_ ((by rw [hg]; exact Nat.ne_of_gt (blk_lt (pk_ BK218.out)) : gb219 ≠ gb218)); clear BK218 HB; have BK218 := n0_; have HB := n1_; have BK219 := n2_; have GW219 := n3_; have GE219 := n4_; have NB218_219 := n5_; have NB219_218 := n6_; clear n0_ n1_ n2_ n3_ n4_ n5_ n6_ hb hbox hg; have hnb12 := NB218_219.out; have hnc12 := NB219_218.out; have hcz13_0 : w11.cell? ⟨gb218, 0, none⟩ = some (.int .i64 a0_0) := (blk_cell BK218.out 0).trans rfl; have hcz13_1 : w11.cell? ⟨gb218, 1, none⟩ = some (.slice A0_1 l0_1.length c0_1) := (blk_cell BK218.out 1).trans rfl; have hfz13_0 := blk_frozen BK218.out 0; have hfz13_1 := blk_frozen BK218.out 1; have hcz14_0 : w11.cell? ⟨gb219, 0, none⟩ = some (.int .i64 a1_0) := (blk_cell BK219.out 0).trans rfl; have hcz14_1 : w11.cell? ⟨gb219, 1, none⟩ = some (.slice A1_1 l1_1.length c1_1) := (blk_cell BK219.out 1).trans rfl; have hfz14_0 := blk_frozen BK219.out 0; have hfz14_1 := blk_frozen BK219.out 1))
  go_ret
  exact ⟨er_, bk_ HB.out⟩

end Go.Proofs.Ytkinnaegedbanaa.PTagTurns
