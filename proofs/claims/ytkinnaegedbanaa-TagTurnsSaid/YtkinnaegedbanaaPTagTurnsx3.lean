-- out of a turned copy of the print, by a program of this session; Lean checks it
import Derived.Test.YtkinnaegedbanaaPTagTurnsx0
import Derived.Test.YtkinnaegedbanaaPTagTurnsx1
import Derived.Test.YtkinnaegedbanaaPTagTurnsx2
namespace Go.Proofs.Ytkinnaegedbanaa.PTagTurns
open Go.RowKit Go.Proofs.YtkinnaegedbanaaW.PrintWords Go.Proofs.YtkinnaegedbanaaW.PrintLast Go.Proofs.YtkinnaegedbanaaW.PrintMore
attribute [local go_sem] max2_int min2_int max_two min_two max_three min_three max_four min_four   -- for this text's walks alone
set_option linter.unusedVariables false
set_option linter.unusedSimpArgs false

attribute [local go_sem] isSome_put_
/-! ### tag_ToCyclic: function 35 -/
mutual
def tag_ToCyclic.l0 : Nat → Int → List (List Int) → Int → Int → Int → List (List Int) → List Bool → List (List Int) → Option ((List (List Int)) × Int)
 | 0, _, _, _, _, _, _, _, _ => none
 | k + 1, x4, x16, x17, x18, x116000, x116001, x116002, x119000 => if x18 < x17 then (if 0 ≤ x18 then (if x18 < (x16.length : Int) then (if x18 < (x116002.length : Int) then (if rdOf false x116002 x18 = true then ((tag_bits.f k ([] : List Int) x4).bind fun t121 => (if x119000.length < 5864062014805 then (tag_ToCyclic.l0 k x4 x16 x17 (wrap64 (x18 + 1)) x116000 x116001 x116002 (x119000 ++ [t121])) else (none))) else ((tag_bits.f k (rd_L1 x16 x18) x4).bind fun t127 => (if x119000.length < 5864062014805 then (tag_ToCyclic.l0 k x4 x16 x17 (wrap64 (x18 + 1)) x116000 x116001 x116002 (x119000 ++ [t127])) else (none)))) else (none)) else (none)) else (none)) else (tag_ToCyclic.l1 k (wrap64 ((wrap64 (x116000 - 1)) * x4)) 0 x119000)
def tag_ToCyclic.l1 : Nat → Int → Int → List (List Int) → Option ((List (List Int)) × Int)
 | 0, _, _, _ => none
 | k + 1, x41, x42, x119000 => if x42 < x41 then (if x119000.length < 5864062014805 then (tag_ToCyclic.l1 k x41 (wrap64 (x42 + 1)) (x119000 ++ [[]])) else (none)) else (some (x119000, 0))
end
def tag_ToCyclic.f (k : Nat) (a0_0 : Int) (l0_1 : List (List Int)) (l0_2 : List Bool) : Option ((List (List Int)) × Int) := (tag_Valid.f k a0_0 l0_1 l0_2).bind fun t117 => (if t117 = true then (tag_ToCyclic.l0 k (l0_1.length : Int) l0_1 (l0_1.length : Int) 0 a0_0 l0_1 l0_2 ([] : List (List Int))) else (some (([] : List (List Int)), 1)))
theorem tag_ToCyclic.mono_l : ∀ k, (∀ y0 y1 y2 y3 y4 y5 y6 y7, LeO (tag_ToCyclic.l0 k y0 y1 y2 y3 y4 y5 y6 y7) (tag_ToCyclic.l0 (k + 1) y0 y1 y2 y3 y4 y5 y6 y7)) ∧ (∀ y0 y1 y2, LeO (tag_ToCyclic.l1 k y0 y1 y2) (tag_ToCyclic.l1 (k + 1) y0 y1 y2))
 | 0 => ⟨fun _ _ _ _ _ _ _ _ r h => by simp [tag_ToCyclic.l0] at h, fun _ _ _ r h => by simp [tag_ToCyclic.l1] at h⟩
 | k + 1 => by
  obtain ⟨ih0, ih1⟩ := tag_ToCyclic.mono_l k
  refine ⟨?_, ?_⟩
  ·intro y0 y1 y2 y3 y4 y5 y6 y7
   unfold tag_ToCyclic.l0
   repeat' first
   | (with_reducible exact ih0 _ _ _ _ _ _ _ _)
   | (with_reducible exact ih1 _ _ _)
   | (with_reducible exact tag_Valid.mono _ _ _ _)
   | (with_reducible exact tag_bits.mono _ _ _)
   | (with_reducible exact LeO.refl _)
   | (with_reducible exact LeO.none _)
   | (with_reducible refine LeO.ite ?_ ?_)
   | (with_reducible refine LeO.bind ?_ (fun _ => ?_))
   | exact ih0 _ _ _ _ _ _ _ _
   | exact ih1 _ _ _
   | exact tag_Valid.mono _ _ _ _
   | exact tag_bits.mono _ _ _
   | exact LeO.none _
   | refine LeO.ite ?_ ?_
   | refine LeO.bind ?_ (fun _ => ?_)
  ·intro y0 y1 y2
   unfold tag_ToCyclic.l1
   repeat' first
   | (with_reducible exact ih0 _ _ _ _ _ _ _ _)
   | (with_reducible exact ih1 _ _ _)
   | (with_reducible exact tag_Valid.mono _ _ _ _)
   | (with_reducible exact tag_bits.mono _ _ _)
   | (with_reducible exact LeO.refl _)
   | (with_reducible exact LeO.none _)
   | (with_reducible refine LeO.ite ?_ ?_)
   | (with_reducible refine LeO.bind ?_ (fun _ => ?_))
   | exact ih0 _ _ _ _ _ _ _ _
   | exact ih1 _ _ _
   | exact tag_Valid.mono _ _ _ _
   | exact tag_bits.mono _ _ _
   | exact LeO.none _
   | refine LeO.ite ?_ ?_
   | refine LeO.bind ?_ (fun _ => ?_)
theorem tag_ToCyclic.mono : ∀ a0 a1 a2 k, LeO (tag_ToCyclic.f k a0 a1 a2) (tag_ToCyclic.f (k + 1) a0 a1 a2) := by
 intro a0 a1 a2 k
 obtain ⟨ih0, ih1⟩ := tag_ToCyclic.mono_l k
 unfold tag_ToCyclic.f
 repeat' first
   | (with_reducible exact ih0 _ _ _ _ _ _ _ _)
   | (with_reducible exact ih1 _ _ _)
   | (with_reducible exact tag_Valid.mono _ _ _ _)
   | (with_reducible exact tag_bits.mono _ _ _)
   | (with_reducible exact LeO.refl _)
   | (with_reducible exact LeO.none _)
   | (with_reducible refine LeO.ite ?_ ?_)
   | (with_reducible refine LeO.bind ?_ (fun _ => ?_))
   | exact ih0 _ _ _ _ _ _ _ _
   | exact ih1 _ _ _
   | exact tag_Valid.mono _ _ _ _
   | exact tag_bits.mono _ _ _
   | exact LeO.none _
   | refine LeO.ite ?_ ?_
   | refine LeO.bind ?_ (fun _ => ?_)
def tag_ToCyclic.T10 : Bool × List (List Nat × List Nat) := (true, [([], []), ([0], [0]), ([], []), ([], []), ([2, 3], [2, 3]), ([4], [4]), ([1, 5, 4], [1, 5]), ([0, 1, 2, 3, 4, 5, 6], []), ([7, 6, 6, 0, 1, 2, 3, 4, 5, 6], [6, 7])])
def tag_ToCyclic.B10 : List Nat := [0, 1, 0, 0, 12, 28, 63, 127, 255]
theorem tag_ToCyclic.tab10 : rtab .any (opsOf Try.f35 10) = tag_ToCyclic.T10 := by kernel_rfl
theorem tag_ToCyclic.bits10 : waitsOk tag_ToCyclic.T10.2 tag_ToCyclic.B10 = true := by kernel_rfl
set_option maxHeartbeats 8000000 in
set_option maxRecDepth 100000 in
theorem tag_ToCyclic.calls (k : Nat) (a0_0 : Int) (A0_1 : Option Addr) (c0_1 : Nat) (l0_1 : List (List Int)) (A0_2 : Option Addr) (c0_2 : Nat) (l0_2 : List Bool) (r1 : List (List Int)) (r2 : Int) (w : World) (hr0_1 : Kd.C (Kd.slice 3 (Kd.int .i64)) w A0_1 l0_1.length l0_1) (hc0_1 : l0_1.length ≤ c0_1) (hr0_2 : Kd.C Kd.bool w A0_2 l0_2.length l0_2) (hc0_2 : l0_2.length ≤ c0_2) (h : tag_ToCyclic.f k a0_0 l0_1 l0_2 = some (r1, r2)) :
  Calls Try.prog 35 #[.agg #[.int .i64 a0_0, .slice A0_1 l0_1.length c0_1, .slice A0_2 l0_2.length c0_2]] w fun e w' => ∃ v0_ : Value, e = .returned (.tuple #[.agg #[v0_], .int .i64 r2]) ∧ Kd.S (Kd.slice 3 (Kd.int .i64)) 26 w' w.heap.size (fun _ => True) v0_ r1 ∧ Below w.heap.size w w' := by
 have hu25 := Try.underlying25
 have hu45 := Try.underlying45
 have HR0_1 := Aside0.mk hr0_1
 have HC0_1 := Aside0.mk hc0_1
 clear hr0_1 hc0_1
 have HR0_2 := Aside0.mk hr0_2
 have HC0_2 := Aside0.mk hc0_2
 clear hr0_2 hc0_2
 have HB := A_ (Below.refl w.heap.size w)
 have H : ((tag_Valid.f k a0_0 l0_1 l0_2).bind fun t117 => (if t117 = true then (tag_ToCyclic.l0 k (l0_1.length : Int) l0_1 (l0_1.length : Int) 0 a0_0 l0_1 l0_2 ([] : List (List Int))) else (some (([] : List (List Int)), 1)))) = some (r1, r2) := h
 clear h
 replace H := Option.bind_eq_some_iff.mp H
 obtain ⟨t117, A20, H⟩ := H
 replace H : (if t117 = true then (tag_ToCyclic.l0 k (l0_1.length : Int) l0_1 (l0_1.length : Int) 0 a0_0 l0_1 l0_2 ([] : List (List Int))) else (some (([] : List (List Int)), 1))) = some (r1, r2) := H
 have A2 := Aside0.mk A20
 clear A20
 by_cases c3 : t117 = true
 ·subst c3
  have H1 : (tag_ToCyclic.l0 k (l0_1.length : Int) l0_1 (l0_1.length : Int) 0 a0_0 l0_1 l0_2 ([] : List (List Int))) = some (r1, r2) := by rw [if_pos rfl] at H; exact H
  clear H
  have H := H1
  clear H1
  have H' := Aside0.mk H
  clear H
  go_enter Try.func35, Try.ntmps35
  go_wp2_with (first | ((with_reducible refine gate_dst (N := 1) rfl ?_); refine box_event ?hg (N := 1) ?hd (cs := #[.int .i64 a0_0, .slice A0_1 l0_1.length c0_1, .slice A0_2 l0_2.length c0_2]) (t := 25) ?hr ?_; (case hd => rfl); (case hg => rfl); (case hr => first | (go_simp; done) | (go_simp; rfl)); intro gb115 hg w4 hbox hb; have n0_ := A_ (below_step (bk_ HB.out) hb); have n1_ := A_ (hbox); have n2_ := A_ ((by rw [hg]; exact (below_size (bk_ HB.out)) : w.heap.size ≤ gb115)); have n3_ := A_ ((by rw [hg]; exact (below_size (bk_ HB.out)) : w.heap.size ≤ gb115)); clear HB; have HB := n0_; have BK115 := n1_; have GW115 := n2_; have GE115 := n3_; clear n0_ n1_ n2_ n3_ hb hbox hg) | ((with_reducible refine gate_dst (N := 2) rfl ?_); refine box_event ?hg (N := 2) ?hd (cs := #[.slice none 0 0]) (t := 45) ?hr ?_; (case hd => rfl); (case hg => rfl); (case hr => first | (go_simp; done) | (go_simp; rfl)); intro gb116 hg w5 hbox hb; have n0_ := A_ (blk_below (pk_ BK115.out) hb); have n1_ := A_ (below_step (bk_ HB.out) hb); have n2_ := A_ (hbox); have n3_ := A_ ((by rw [hg]; exact (below_size (bk_ HB.out)) : w.heap.size ≤ gb116)); have n4_ := A_ ((by rw [hg]; exact (below_size (bk_ HB.out)) : w.heap.size ≤ gb116)); have n5_ := A_ ((by rw [hg]; exact Nat.ne_of_lt (blk_lt (pk_ BK115.out)) : gb115 ≠ gb116)); have n6_ := A_ ((by rw [hg]; exact Nat.ne_of_gt (blk_lt (pk_ BK115.out)) : gb116 ≠ gb115)); clear BK115 HB; have BK115 := n0_; have HB := n1_; have BK116 := n2_; have GW116 := n3_; have GE116 := n4_; have NB115_116 := n5_; have NB116_115 := n6_; clear n0_ n1_ n2_ n3_ n4_ n5_ n6_ hb hbox hg; have hnb6 := NB115_116.out; have hnc6 := NB116_115.out; have hcz7_0 : w5.cell? ⟨gb115, 0, none⟩ = some (.int .i64 a0_0) := (blk_cell BK115.out 0).trans rfl; have hcz7_1 : w5.cell? ⟨gb115, 1, none⟩ = some (.slice A0_1 l0_1.length c0_1) := (blk_cell BK115.out 1).trans rfl; have hcz7_2 : w5.cell? ⟨gb115, 2, none⟩ = some (.slice A0_2 l0_2.length c0_2) := (blk_cell BK115.out 2).trans rfl; have hfz7_0 := blk_frozen BK115.out 0; have hfz7_1 := blk_frozen BK115.out 1; have hfz7_2 := blk_frozen BK115.out 2) | ((with_reducible refine gate_callee (f := 15) rfl ?_); refine goesL_ (some 9) rfl rfl Try.func15 (by kernel_rfl) rfl #[.agg #[.int .i64 a0_0, .slice A0_1 l0_1.length c0_1, .slice A0_2 l0_2.length c0_2]] rfl gl_ ?_; (with_reducible refine (tag_Valid.calls k a0_0 _ _ l0_1 _ _ l0_2 true _ ?side1 ?side2 ?side3 ?side4 A2.out).mono ?_); (case side1 => exact ck_ (Kd.C_below HR0_1.out HB.out)); (case side2 => exact HC0_1.out); (case side3 => exact ck_ (Kd.C_below HR0_2.out HB.out)); (case side4 => exact HC0_2.out); rintro e w8 ⟨rfl, hb⟩; refine ⟨_, rfl, ?_⟩; have n0_ := A_ (blk_below (pk_ BK115.out) hb); have n1_ := A_ (blk_below (pk_ BK116.out) hb); have n2_ := A_ (below_step (bk_ HB.out) hb); clear BK115 BK116 HB; have BK115 := n0_; have BK116 := n1_; have HB := n2_; clear n0_ n1_ n2_; (try clear hb); (try clear hb2); (try clear hk); (try clear hi); have hcz9_0 : w8.cell? ⟨gb115, 0, none⟩ = some (.int .i64 a0_0) := (blk_cell BK115.out 0).trans rfl; have hcz9_1 : w8.cell? ⟨gb115, 1, none⟩ = some (.slice A0_1 l0_1.length c0_1) := (blk_cell BK115.out 1).trans rfl; have hcz9_2 : w8.cell? ⟨gb115, 2, none⟩ = some (.slice A0_2 l0_2.length c0_2) := (blk_cell BK115.out 2).trans rfl; have hfz9_0 := blk_frozen BK115.out 0; have hfz9_1 := blk_frozen BK115.out 1; have hfz9_2 := blk_frozen BK115.out 2) | ((with_reducible refine gate_dst (N := 5) rfl ?_); refine box_event ?hg (N := 5) ?hd (cs := #[.slice none 0 0]) (t := 45) ?hr ?_; (case hd => rfl); (case hg => rfl); (case hr => first | (go_simp; done) | (go_simp; rfl)); intro gb118 hg w10 hbox hb; have n0_ := A_ (blk_below (pk_ BK115.out) hb); have n1_ := A_ (blk_below (pk_ BK116.out) hb); have n2_ := A_ (below_step (bk_ HB.out) hb); have n3_ := A_ (hbox); have n4_ := A_ ((by rw [hg]; exact (below_size (bk_ HB.out)) : w.heap.size ≤ gb118)); have n5_ := A_ ((by rw [hg]; exact (below_size (bk_ HB.out)) : w.heap.size ≤ gb118)); have n6_ := A_ ((by rw [hg]; exact Nat.ne_of_lt (blk_lt (pk_ BK115.out)) : gb115 ≠ gb118)); have n7_ := A_ ((by rw [hg]; exact Nat.ne_of_gt (blk_lt (pk_ BK115.out)) : gb118 ≠ gb115)); have n8_ := A_ ((by rw [hg]; exact Nat.ne_of_lt (blk_lt (pk_ BK116.out)) : gb116 ≠ gb118)); have n9_ := A_ ((by rw [hg]; exact Nat.ne_of_gt (blk_lt (pk_ BK116.out)) : gb118 ≠ gb116)); clear BK115 BK116 HB; have BK115 := n0_; have BK116 := n1_; have HB := n2_; have BK118 := n3_; have GW118 := n4_; have GE118 := n5_; have NB115_118 := n6_; have NB118_115 := n7_; have NB116_118 := n8_; have NB118_116 := n9_; clear n0_ n1_ n2_ n3_ n4_ n5_ n6_ n7_ n8_ n9_ hb hbox hg; have hnb11 := NB115_118.out; have hnc11 := NB118_115.out; have hcz12_0 : w10.cell? ⟨gb115, 0, none⟩ = some (.int .i64 a0_0) := (blk_cell BK115.out 0).trans rfl; have hcz12_1 : w10.cell? ⟨gb115, 1, none⟩ = some (.slice A0_1 l0_1.length c0_1) := (blk_cell BK115.out 1).trans rfl; have hcz12_2 : w10.cell? ⟨gb115, 2, none⟩ = some (.slice A0_2 l0_2.length c0_2) := (blk_cell BK115.out 2).trans rfl; have hfz12_0 := blk_frozen BK115.out 0; have hfz12_1 := blk_frozen BK115.out 1; have hfz12_2 := blk_frozen BK115.out 2))
  go_loopg [18] k (fun kq v18 w' => ∃ (x18_1 : Int) (x119000_1 : List (List Int)) (u119000 : Value), v18 = .int .i64 x18_1 ∧ Aside0 (tag_ToCyclic.l0 kq (l0_1.length : Int) l0_1 (l0_1.length : Int) x18_1 a0_0 l0_1 l0_2 x119000_1 = some (r1, r2)) ∧ Aside0 (kq ≤ k) ∧ Aside0 (Kd.S (Kd.slice 3 (Kd.int .i64)) 26 w' w.heap.size (fun _ => True) u119000 x119000_1) ∧ Aside0 (w'.heap[gb115]? = some (.cells #[.int .i64 a0_0, (.slice A0_1 l0_1.length c0_1), (.slice A0_2 l0_2.length c0_2)] 25 (0, 0))) ∧ Aside0 (w'.heap[gb116]? = some (.cells #[(.slice none 0 0)] 45 (0, 0))) ∧ Aside0 (w'.heap[gb118]? = some (.cells #[u119000] 45 (0, 0))) ∧ Aside0 (Below w.heap.size w w'))
  case atStart => exact ⟨(0), (([] : List (List Int))), (.slice none 0 0), jr_, H', ⟨Nat.le_refl _⟩, ⟨by first | exact Kd.S_nil _ _ _ _ _ | exact Kd.N_nil _ _ _ _ _ | exact Kd.V_nil _ _ _ _ _ | exact Kd.Q_nil _ _ _ _ _ | exact Kd.R_nil _ _ _ _ _⟩, ⟨pk_ BK115.out⟩, ⟨pk_ BK116.out⟩, ⟨pk_ BK118.out⟩, ⟨bk_ HB.out⟩⟩
  case round =>
   clear H'
   (try clear c3); (try clear hcz12_0); (try clear hcz12_1); (try clear hcz12_2); (try clear hcz7_0); (try clear hcz7_1); (try clear hcz7_2); (try clear hcz9_0); (try clear hcz9_1); (try clear hcz9_2); (try clear hfz12_0); (try clear hfz12_1); (try clear hfz12_2); (try clear hfz7_0); (try clear hfz7_1); (try clear hfz7_2); (try clear hfz9_0); (try clear hfz9_1); (try clear hfz9_2)
   obtain ⟨x18_1, x119000_1, u119000, rfl, HA, HK1, HO_119000, BK115, BK116, BK118, HB⟩ := hrel
   cases gk with
   | zero => exact absurd HA.out (by simp [tag_ToCyclic.l0])
   | succ k1 =>
    have H := HA.out
    clear HA
    simp only [tag_ToCyclic.l0] at H
    by_cases c13 : x18_1 < (l0_1.length : Int)
    ·rw [if_pos c13] at H
     have c13b0 : decide (x18_1 < (l0_1.length : Int)) = true := decide_eq_true c13
     clear c13
     by_cases c14 : 0 ≤ x18_1
     ·rw [if_pos c14] at H
      have c14b0 : decide (0 ≤ x18_1) = true := decide_eq_true c14
      clear c14
      by_cases c15 : x18_1 < (l0_1.length : Int)
      ·rw [if_pos c15] at H
       have c15b0 : decide (x18_1 < (l0_1.length : Int)) = true := decide_eq_true c15
       clear c15
       by_cases c16 : x18_1 < (l0_2.length : Int)
       ·rw [if_pos c16] at H
        have c16b0 : decide (x18_1 < (l0_2.length : Int)) = true := decide_eq_true c16
        clear c16
        obtain ⟨bq17, hbq17⟩ : ∃ b_ : Bool, b_ = (rdOf false l0_2 x18_1) := ⟨_, rfl⟩
        replace H : (if bq17 = true then ((tag_bits.f k1 ([] : List Int) (l0_1.length : Int)).bind fun t121 => (if x119000_1.length < 5864062014805 then (tag_ToCyclic.l0 k1 (l0_1.length : Int) l0_1 (l0_1.length : Int) (wrap64 (x18_1 + 1)) a0_0 l0_1 l0_2 (x119000_1 ++ [t121])) else (none))) else ((tag_bits.f k1 (rd_L1 l0_1 x18_1) (l0_1.length : Int)).bind fun t127 => (if x119000_1.length < 5864062014805 then (tag_ToCyclic.l0 k1 (l0_1.length : Int) l0_1 (l0_1.length : Int) (wrap64 (x18_1 + 1)) a0_0 l0_1 l0_2 (x119000_1 ++ [t127])) else (none)))) = some (r1, r2) := by rw [← hbq17] at H; exact H
        have Nbq17 := Aside0.mk hbq17
        clear hbq17
        by_cases c18 : bq17 = true
        ·subst c18
         have H1 : ((tag_bits.f k1 ([] : List Int) (l0_1.length : Int)).bind fun t121 => (if x119000_1.length < 5864062014805 then (tag_ToCyclic.l0 k1 (l0_1.length : Int) l0_1 (l0_1.length : Int) (wrap64 (x18_1 + 1)) a0_0 l0_1 l0_2 (x119000_1 ++ [t121])) else (none))) = some (r1, r2) := by rw [if_pos rfl] at H; exact H
         clear H
         have H := H1
         clear H1
         replace H := Option.bind_eq_some_iff.mp H
         obtain ⟨t121, A190, H⟩ := H
         replace H : (if x119000_1.length < 5864062014805 then (tag_ToCyclic.l0 k1 (l0_1.length : Int) l0_1 (l0_1.length : Int) (wrap64 (x18_1 + 1)) a0_0 l0_1 l0_2 (x119000_1 ++ [t121])) else (none)) = some (r1, r2) := H
         have A19 := Aside0.mk A190
         clear A190
         by_cases c20 : x119000_1.length < 5864062014805
         ·rw [if_pos c20] at H
          have LMc20 := Aside0.mk c20
          clear c20
          obtain ⟨y124, hy124⟩ : ∃ y_ : List (List Int), y_ = (x119000_1 ++ [t121]) := ⟨_, rfl⟩
          replace H : (tag_ToCyclic.l0 k1 (l0_1.length : Int) l0_1 (l0_1.length : Int) (wrap64 (x18_1 + 1)) a0_0 l0_1 l0_2 y124) = some (r1, r2) := by first | (rw [hy124]; with_reducible exact H) | (have H2_ := (Option.bind_some _ _).symm.trans H; rw [hy124]; with_reducible exact H2_) | (have H2_ := (Option.bind_some _ _).symm.trans H; with_reducible exact H2_) | with_reducible exact H | (rw [hy124]; exact H) | exact H
          have Ny124 := Aside0.mk hy124
          clear hy124
          have H' := Aside0.mk H
          clear H
          have p119 : 0 ≤ (x18_1 : Int) := od_
          have q119 : x18_1 < (l0_1.length : Int) := od_
          obtain ⟨ad119, A119_0, c119_0, e119, hx119_0, hl119_0, hi119_0⟩ := at_L1 HR0_1.out x18_1 p119 q119
          cases e119
          replace hx119_0 := lf_ HB.out hx119_0
          have HR119_0 := Aside0.mk hi119_0
          have HC119_0 := Aside0.mk hl119_0
          clear hi119_0 hl119_0
          replace p119 := eq_true p119
          replace q119 := eq_true q119
          have hnb21 := NB115_116.out
          have hnc21 := NB116_115.out
          have hnb22 := NB115_118.out
          have hnc22 := NB118_115.out
          have hcz23_0 : wr.cell? ⟨gb115, 0, none⟩ = some (.int .i64 a0_0) := (blk_cell BK115.out 0).trans rfl
          have hcz23_1 : wr.cell? ⟨gb115, 1, none⟩ = some (.slice (some ad119) l0_1.length c0_1) := (blk_cell BK115.out 1).trans rfl
          have hcz23_2 : wr.cell? ⟨gb115, 2, none⟩ = some (.slice A0_2 l0_2.length c0_2) := (blk_cell BK115.out 2).trans rfl
          have hfz23_0 := blk_frozen BK115.out 0
          have hfz23_1 := blk_frozen BK115.out 1
          have hfz23_2 := blk_frozen BK115.out 2
          have p120 : 0 ≤ (x18_1 : Int) := od_
          have q120 : x18_1 < (l0_2.length : Int) := od_
          obtain ⟨ad120, e120, hx120_0⟩ := Kd.at_bool HR0_2.out x18_1 p120 q120
          (try rw [← Nbq17.out] at hx120_0)
          cases e120
          replace hx120_0 := lf_ HB.out hx120_0
          replace p120 := eq_true p120
          replace q120 := eq_true q120
          try go_wp2
          have n0_ := A_ (Kd.S_drew HO_119000.out)
          have n1_ := A_ (blk_drew BK115.out)
          have n2_ := A_ (blk_drew BK116.out)
          have n3_ := A_ (blk_drew BK118.out)
          have n4_ := A_ (below_drew1 HB.out)
          clear HO_119000 BK115 BK116 BK118 HB
          have HO_119000 := n0_
          have BK115 := n1_
          have BK116 := n2_
          have BK118 := n3_
          have HB := n4_
          clear n0_ n1_ n2_ n3_ n4_
          refine start_ (n := 9) (S := fun w' => w'.cell? ⟨gb118, 0, none⟩ = some (u119000)) (ds := [8]) #[false, false, false, false, false, false, false, false, false] (by kernel_rfl) rfl rfl ((blk_cell BK118.out 0).trans rfl) (fun hHeld => ?_); refine with_tabW tag_ToCyclic.tab10 tag_ToCyclic.bits10 (fun HT_ HW_ => ?_)
          generalize wr.drew = w24 at HO_119000 BK115 BK116 BK118 HB hHeld ⊢
          refine pure_ (i := 0) (N := some 28) (v := ?_) (a' := ?_) #[true, false, false, false, false, false, false, false, false] rfl rfl (any_of HT_.out (by kernel_rfl)) (fun _ _ _ h => h) (Or.inl ⟨by rfl, ?_⟩) ?_ ?_
          rotate_left
          ·intro w'
           go_simp
           with_reducible rfl
          rotate_left
          ·simp only [Act.put, sa_, sz_, ss_, i64_w, i32_w]
           rfl
          refine pure_ (i := 2) (N := some 30) (v := ?_) (a' := ?_) #[true, false, true, false, false, false, false, false, false] rfl rfl (any_of HT_.out (by kernel_rfl)) (fun _ _ _ h => h) (Or.inl ⟨by rfl, ?_⟩) ?_ ?_
          rotate_left
          ·intro w'
           go_simp
           with_reducible rfl
          rotate_left
          ·simp only [Act.put, sa_, sz_, ss_, i64_w, i32_w]
           rfl
          refine pure_ (i := 3) (N := some 31) (v := ?_) (a' := ?_) #[true, false, true, true, false, false, false, false, false] rfl rfl (any_of HT_.out (by kernel_rfl)) (fun _ _ _ h => h) (Or.inl ⟨by rfl, ?_⟩) ?_ ?_
          rotate_left
          ·intro w'
           go_simp
           with_reducible rfl
          rotate_left
          ·simp only [Act.put, sa_, sz_, ss_, i64_w, i32_w]
           rfl
          refine take_ (i := 1) (N := some 29) (v := ?_) (a' := ?_) #[true, true, true, true, false, false, false, false, false] rfl rfl (take_ofW HT_.out HW_.out (by kernel_rfl)) (fun _ _ _ h => h) (Or.inl ⟨by rfl, ?_⟩) hHeld ?_ ?_
          rotate_left
          ·intro w' s0
           go_simp
           with_reducible rfl
          rotate_left
          ·simp only [Act.put, sa_, sz_, ss_, i64_w, i32_w]
           rfl
          refine one_ (i := 4) (N := some 32) #[true, true, true, true, true, false, false, false, false] rfl rfl (one_of HT_.out (by kernel_rfl)) (by decide) (fun K hK => ?_)
          refine goes_ Try.func50 (by kernel_rfl) rfl #[.slice none 0 0, .int .i64 (l0_1.length : Int)] (by rfl) rfl rfl gl_ ?_
          refine (tag_bits.calls k1 _ _ ([] : List Int) (l0_1.length : Int) t121 _ ?side1 ?side2 A19.out).mono ?_
          (case side1 => exact Kd.C_nil _ _)
          (case side2 => exact Nat.le_refl _)
          rintro e w25 ⟨v122, rfl, ho0, hb⟩
          refine ⟨_, rfl, ?_⟩
          have n0_ := A_ (Kd.S_elder' (by (with_reducible repeat (first | apply Kd.S_alloc | apply Kd.S_drewN | apply Kd.S_drew)); exact HO_119000.out) (Kd.R_base ho0) hb)
          have n1_ := A_ (Kd.R_lower ho0 (below_size (bk_ HB.out)))
          have n2_ := A_ (blk_below (pk_ BK115.out) hb)
          have n3_ := A_ (blk_below (pk_ BK116.out) hb)
          have n4_ := A_ (blk_below (pk_ BK118.out) hb)
          have n5_ := A_ (below_step (bk_ HB.out) hb)
          clear HO_119000 BK115 BK116 BK118 HB
          have HO_119000 := n0_
          have HO123 := n1_
          have BK115 := n2_
          have BK116 := n3_
          have BK118 := n4_
          have HB := n5_
          clear n0_ n1_ n2_ n3_ n4_ n5_
          (try clear hb)
          (try clear hb2)
          (try clear hk)
          (try clear hi)
          (try clear ho0)
          obtain ⟨Ao27, co27, eo27⟩ := Kd.R_slice HO123.out
          (first | subst eo27 | (injection eo27 with f1_ f2_ f3_; have f4_ := f1_.symm; have f5_ := f3_.symm; clear f1_ f2_ f3_; subst f4_; subst f5_))
          refine hK.out _ _ ((blk_cell BK118.out 0).trans rfl) (fun hHeld => ?_)
          clear hK K
          refine norm_ (a' := ?_) ?_ ?_
          rotate_left
          ·show Act.put _ (some 32) _ = _
           simp only [Act.put, sa_, sz_, ss_, i64_w, i32_w]
           rfl
          refine one_ (i := 5) (N := some 33) #[true, true, true, true, true, true, false, false, false] rfl rfl (one_of HT_.out (by kernel_rfl)) (by decide) (fun K hK => ?_)
          refine value_ (w1 := ?_) (v := ?_) (by rfl) rfl ?_ ?_
          rotate_left 2
          ·go_simp
           constructor
           ·rfl
           ·rfl
          refine hK.out _ _ ((blk_cell (blk_alloc BK118.out _) 0).trans rfl) (fun hHeld => ?_)
          clear hK K
          refine norm_ (a' := ?_) ?_ ?_
          rotate_left
          ·show Act.put _ (some 33) _ = _
           simp only [Act.put, sa_, sz_, ss_, i64_w, i32_w]
           rfl
          refine one_ (i := 6) (N := some 34) #[true, true, true, true, true, true, true, false, false] rfl rfl (one_of HT_.out (by kernel_rfl)) (by decide) (fun K hK => ?_)
          refine Kd.S_append_step (Kd.slice 3 (Kd.int .i64)) (w0 := w) w.heap.size (by rfl) (.tmp 29) (.tmp 33) 22 26 (.slice none 0 0) 24 rfl Try.underlying22 info26 rfl (by decide) (by omega) u119000 x119000_1 t121 [.slice Ao27 t121.length co27] (fun _ => True) (fun k_ => some k_ = (.slice Ao27 t121.length co27 : Value).ownBlock) rfl rfl ?aP (fun k_ hk_ => ((Kd.R_mono (ok' := fun k_ => ((fun _ => True)) k_ ∧ some k_ ≠ (u119000 : Value).ownBlock) (Kd.R_apart' (HO123.out) (Kd.S_typed HO_119000.out) (by decide)) (fun k_ hk => ⟨trivial, hk.2⟩))).1 k_ hk_.symm) ?aF ?aO ?aB ?aS ?aL ?_
          (case aP => exact Kd.M_row (Kd.R_mono (Kd.R_tight rfl (Kd.R_mono (ok' := fun k_ => ((fun _ => True)) k_ ∧ some k_ ≠ (u119000 : Value).ownBlock) (Kd.R_apart' (HO123.out) (Kd.S_typed HO_119000.out) (by decide)) (fun k_ hk => ⟨trivial, hk.2⟩))) (fun _ h_ => h_)))
          (case aB => exact (bk_ HB.out))
          (case aF => exact (fun _ _ => trivial))
          (case aO => exact (by (with_reducible repeat (first | apply Kd.S_alloc | apply Kd.S_drewN | apply Kd.S_drew)); exact Kd.S_mono HO_119000.out (fun k_ hk => ⟨trivial, fun e_ => hk.2 e_⟩)))
          (case aS => exact (below_size (bk_ HB.out)))
          (case aL => have := LMc20.out; omega)
          intro v125 w26 ho hb hg hat
          rw [← Ny124.out] at ho
          have n0_ := A_ (blk_grown (pk_ BK115.out) hg (Kd.S_ne HO_119000.out BK115.out (by decide)))
          have n1_ := A_ (blk_grown (pk_ BK116.out) hg (Kd.S_ne HO_119000.out BK116.out (by decide)))
          have n2_ := A_ (blk_grown (pk_ BK118.out) hg (Kd.S_ne HO_119000.out BK118.out (by decide)))
          have n3_ := A_ (hb)
          have n4_ := A_ (ho)
          clear BK115 BK116 BK118 HB HO_119000 HO123
          have BK115 := n0_
          have BK116 := n1_
          have BK118 := n2_
          have HB := n3_
          have HO126 := n4_
          clear n0_ n1_ n2_ n3_ n4_ ho hb hg hat
          obtain ⟨Ao28, co28, eo28⟩ := Kd.S_slice HO126.out
          (first | subst eo28 | (injection eo28 with f1_ f2_ f3_; have f4_ := f1_.symm; have f5_ := f3_.symm; clear f1_ f2_ f3_; subst f4_; subst f5_))
          refine hK.out _ _ ((blk_cell BK118.out 0).trans rfl) (fun hHeld => ?_)
          clear hK K
          refine norm_ (a' := ?_) ?_ ?_
          rotate_left
          ·show Act.put _ (some 34) _ = _
           simp only [Act.put, sa_, sz_, ss_, i64_w, i32_w]
           rfl
          refine pure_ (i := 7) (N := some 35) (v := ?_) (a' := ?_) #[true, true, true, true, true, true, true, true, false] rfl rfl (any_of HT_.out (by kernel_rfl)) (fun _ _ _ h => h) (Or.inl ⟨by rfl, ?_⟩) ?_ ?_
          rotate_left
          ·intro w'
           go_simp
           with_reducible rfl
          rotate_left
          ·simp only [Act.put, sa_, sz_, ss_, i64_w, i32_w]
           rfl
          refine last_ (i := 8) (N := none) #[true, true, true, true, true, true, true, true, true] rfl rfl (one_of HT_.out (by kernel_rfl)) (by decide) (fun K hK => ?_)
          have hs29 : w26.cell? ⟨gb118, 0, none⟩ = some (u119000) := (blk_cell BK118.out 0).trans rfl
          have hfs29 := blk_frozen BK118.out 0
          have hns29_0 := NB115_118.out
          have hns29_1 := NB116_118.out
          have hms29_0 := NB118_115.out
          have hms29_1 := NB118_116.out
          refine skip_ (w1 := ?_) (by rfl) rfl ?_ ?_
          rotate_left
          ·go_simp
           rfl
          refine hK.out _ _ ?_
          clear hK K
          refine done_ (done_of HT_.out (by kernel_rfl)) ?_
          try go_wp2
          go_roundg k1
          case measure => have := HK1.out; omega
          case rel => exact ⟨(wrap64 (x18_1 + 1)), (y124), (.slice Ao28 y124.length co28), jr_, H', ⟨by have := HK1.out; omega⟩, ⟨by (with_reducible repeat (first | apply Kd.S_alloc | apply Kd.S_drewN | apply Kd.S_drew)); exact Kd.S_mono (Kd.S_far (p := ⟨gb118, 0, none⟩) (Kd.S_types HO126.out BK118.out (by decide)) (fun _ hk => hk.2) (.slice Ao28 y124.length co28)) (fun _ hk => trivial)⟩, ⟨by refine pk_ ?_; refine blk_far ?_ NB115_118.out _; exact pk_ BK115.out⟩, ⟨by refine pk_ ?_; refine blk_far ?_ NB116_118.out _; exact pk_ BK116.out⟩, ⟨by refine pk_ ?_; refine blk_put (cs := #[u119000]) ?_ 0 _ rfl; exact pk_ BK118.out⟩, ⟨bk_ HB.out⟩⟩
         ·rw [if_neg c20] at H
          exact absurd H (by simp)
        ·replace c18 := Bool.eq_false_iff.mpr c18
         subst c18
         have H1 : ((tag_bits.f k1 (rd_L1 l0_1 x18_1) (l0_1.length : Int)).bind fun t127 => (if x119000_1.length < 5864062014805 then (tag_ToCyclic.l0 k1 (l0_1.length : Int) l0_1 (l0_1.length : Int) (wrap64 (x18_1 + 1)) a0_0 l0_1 l0_2 (x119000_1 ++ [t127])) else (none))) = some (r1, r2) := by rw [if_neg (show ¬ (false = true) by decide)] at H; exact H
         clear H
         have H := H1
         clear H1
         replace H := Option.bind_eq_some_iff.mp H
         obtain ⟨t127, A300, H⟩ := H
         replace H : (if x119000_1.length < 5864062014805 then (tag_ToCyclic.l0 k1 (l0_1.length : Int) l0_1 (l0_1.length : Int) (wrap64 (x18_1 + 1)) a0_0 l0_1 l0_2 (x119000_1 ++ [t127])) else (none)) = some (r1, r2) := H
         have A30 := Aside0.mk A300
         clear A300
         by_cases c31 : x119000_1.length < 5864062014805
         ·rw [if_pos c31] at H
          have LMc31 := Aside0.mk c31
          clear c31
          obtain ⟨y130, hy130⟩ : ∃ y_ : List (List Int), y_ = (x119000_1 ++ [t127]) := ⟨_, rfl⟩
          replace H : (tag_ToCyclic.l0 k1 (l0_1.length : Int) l0_1 (l0_1.length : Int) (wrap64 (x18_1 + 1)) a0_0 l0_1 l0_2 y130) = some (r1, r2) := by first | (rw [hy130]; with_reducible exact H) | (have H2_ := (Option.bind_some _ _).symm.trans H; rw [hy130]; with_reducible exact H2_) | (have H2_ := (Option.bind_some _ _).symm.trans H; with_reducible exact H2_) | with_reducible exact H | (rw [hy130]; exact H) | exact H
          have Ny130 := Aside0.mk hy130
          clear hy130
          have H' := Aside0.mk H
          clear H
          have p119 : 0 ≤ (x18_1 : Int) := od_
          have q119 : x18_1 < (l0_1.length : Int) := od_
          obtain ⟨ad119, A119_0, c119_0, e119, hx119_0, hl119_0, hi119_0⟩ := at_L1 HR0_1.out x18_1 p119 q119
          cases e119
          replace hx119_0 := lf_ HB.out hx119_0
          have HR119_0 := Aside0.mk hi119_0
          have HC119_0 := Aside0.mk hl119_0
          clear hi119_0 hl119_0
          replace p119 := eq_true p119
          replace q119 := eq_true q119
          have hnb32 := NB115_116.out
          have hnc32 := NB116_115.out
          have hnb33 := NB115_118.out
          have hnc33 := NB118_115.out
          have hcz34_0 : wr.cell? ⟨gb115, 0, none⟩ = some (.int .i64 a0_0) := (blk_cell BK115.out 0).trans rfl
          have hcz34_1 : wr.cell? ⟨gb115, 1, none⟩ = some (.slice (some ad119) l0_1.length c0_1) := (blk_cell BK115.out 1).trans rfl
          have hcz34_2 : wr.cell? ⟨gb115, 2, none⟩ = some (.slice A0_2 l0_2.length c0_2) := (blk_cell BK115.out 2).trans rfl
          have hfz34_0 := blk_frozen BK115.out 0
          have hfz34_1 := blk_frozen BK115.out 1
          have hfz34_2 := blk_frozen BK115.out 2
          have p120 : 0 ≤ (x18_1 : Int) := od_
          have q120 : x18_1 < (l0_2.length : Int) := od_
          obtain ⟨ad120, e120, hx120_0⟩ := Kd.at_bool HR0_2.out x18_1 p120 q120
          (try rw [← Nbq17.out] at hx120_0)
          cases e120
          replace hx120_0 := lf_ HB.out hx120_0
          replace p120 := eq_true p120
          replace q120 := eq_true q120
          try go_wp2
          have n0_ := A_ (Kd.S_drew HO_119000.out)
          have n1_ := A_ (blk_drew BK115.out)
          have n2_ := A_ (blk_drew BK116.out)
          have n3_ := A_ (blk_drew BK118.out)
          have n4_ := A_ (below_drew1 HB.out)
          clear HO_119000 BK115 BK116 BK118 HB
          have HO_119000 := n0_
          have BK115 := n1_
          have BK116 := n2_
          have BK118 := n3_
          have HB := n4_
          clear n0_ n1_ n2_ n3_ n4_
          refine start_ (n := 9) (S := fun w' => w'.cell? ⟨gb118, 0, none⟩ = some (u119000)) (ds := [8]) #[false, false, false, false, false, false, false, false, false] (by kernel_rfl) rfl rfl ((blk_cell BK118.out 0).trans rfl) (fun hHeld => ?_); refine with_tabW tag_ToCyclic.tab10 tag_ToCyclic.bits10 (fun HT_ HW_ => ?_)
          generalize wr.drew = w35 at HO_119000 BK115 BK116 BK118 HB hHeld ⊢
          refine pure_ (i := 0) (N := some 28) (v := ?_) (a' := ?_) #[true, false, false, false, false, false, false, false, false] rfl rfl (any_of HT_.out (by kernel_rfl)) (fun _ _ _ h => h) (Or.inl ⟨by rfl, ?_⟩) ?_ ?_
          rotate_left
          ·intro w'
           go_simp
           with_reducible rfl
          rotate_left
          ·simp only [Act.put, sa_, sz_, ss_, i64_w, i32_w]
           rfl
          refine pure_ (i := 2) (N := some 30) (v := ?_) (a' := ?_) #[true, false, true, false, false, false, false, false, false] rfl rfl (any_of HT_.out (by kernel_rfl)) (fun _ _ _ h => h) (Or.inl ⟨by rfl, ?_⟩) ?_ ?_
          rotate_left
          ·intro w'
           go_simp
           with_reducible rfl
          rotate_left
          ·simp only [Act.put, sa_, sz_, ss_, i64_w, i32_w]
           rfl
          refine pure_ (i := 3) (N := some 31) (v := ?_) (a' := ?_) #[true, false, true, true, false, false, false, false, false] rfl rfl (any_of HT_.out (by kernel_rfl)) (fun _ _ _ h => h) (Or.inl ⟨by rfl, ?_⟩) ?_ ?_
          rotate_left
          ·intro w'
           go_simp
           with_reducible rfl
          rotate_left
          ·simp only [Act.put, sa_, sz_, ss_, i64_w, i32_w]
           rfl
          refine take_ (i := 1) (N := some 29) (v := ?_) (a' := ?_) #[true, true, true, true, false, false, false, false, false] rfl rfl (take_ofW HT_.out HW_.out (by kernel_rfl)) (fun _ _ _ h => h) (Or.inl ⟨by rfl, ?_⟩) hHeld ?_ ?_
          rotate_left
          ·intro w' s0
           go_simp
           with_reducible rfl
          rotate_left
          ·simp only [Act.put, sa_, sz_, ss_, i64_w, i32_w]
           rfl
          refine one_ (i := 4) (N := some 32) #[true, true, true, true, true, false, false, false, false] rfl rfl (one_of HT_.out (by kernel_rfl)) (by decide) (fun K hK => ?_)
          refine goes_ Try.func50 (by kernel_rfl) rfl #[.slice A119_0 (rd_L1 l0_1 x18_1).length c119_0, .int .i64 (l0_1.length : Int)] (by rfl) rfl rfl gl_ ?_
          with_reducible refine (tag_bits.calls k1 _ _ (rd_L1 l0_1 x18_1) (l0_1.length : Int) t127 _ ?side1 ?side2 A30.out).mono ?_
          (case side1 => exact ck_ (Kd.C_below HR119_0.out HB.out))
          (case side2 => exact HC119_0.out)
          rintro e w36 ⟨v128, rfl, ho0, hb⟩
          refine ⟨_, rfl, ?_⟩
          have n0_ := A_ (Kd.S_elder' (by (with_reducible repeat (first | apply Kd.S_alloc | apply Kd.S_drewN | apply Kd.S_drew)); exact HO_119000.out) (Kd.R_base ho0) hb)
          have n1_ := A_ (Kd.R_lower ho0 (below_size (bk_ HB.out)))
          have n2_ := A_ (blk_below (pk_ BK115.out) hb)
          have n3_ := A_ (blk_below (pk_ BK116.out) hb)
          have n4_ := A_ (blk_below (pk_ BK118.out) hb)
          have n5_ := A_ (below_step (bk_ HB.out) hb)
          clear HO_119000 BK115 BK116 BK118 HB
          have HO_119000 := n0_
          have HO129 := n1_
          have BK115 := n2_
          have BK116 := n3_
          have BK118 := n4_
          have HB := n5_
          clear n0_ n1_ n2_ n3_ n4_ n5_
          (try clear hb)
          (try clear hb2)
          (try clear hk)
          (try clear hi)
          (try clear ho0)
          obtain ⟨Ao38, co38, eo38⟩ := Kd.R_slice HO129.out
          (first | subst eo38 | (injection eo38 with f1_ f2_ f3_; have f4_ := f1_.symm; have f5_ := f3_.symm; clear f1_ f2_ f3_; subst f4_; subst f5_))
          refine hK.out _ _ ((blk_cell BK118.out 0).trans rfl) (fun hHeld => ?_)
          clear hK K
          refine norm_ (a' := ?_) ?_ ?_
          rotate_left
          ·show Act.put _ (some 32) _ = _
           simp only [Act.put, sa_, sz_, ss_, i64_w, i32_w]
           rfl
          refine one_ (i := 5) (N := some 33) #[true, true, true, true, true, true, false, false, false] rfl rfl (one_of HT_.out (by kernel_rfl)) (by decide) (fun K hK => ?_)
          refine value_ (w1 := ?_) (v := ?_) (by rfl) rfl ?_ ?_
          rotate_left 2
          ·go_simp
           constructor
           ·rfl
           ·rfl
          refine hK.out _ _ ((blk_cell (blk_alloc BK118.out _) 0).trans rfl) (fun hHeld => ?_)
          clear hK K
          refine norm_ (a' := ?_) ?_ ?_
          rotate_left
          ·show Act.put _ (some 33) _ = _
           simp only [Act.put, sa_, sz_, ss_, i64_w, i32_w]
           rfl
          refine one_ (i := 6) (N := some 34) #[true, true, true, true, true, true, true, false, false] rfl rfl (one_of HT_.out (by kernel_rfl)) (by decide) (fun K hK => ?_)
          refine Kd.S_append_step (Kd.slice 3 (Kd.int .i64)) (w0 := w) w.heap.size (by rfl) (.tmp 29) (.tmp 33) 22 26 (.slice none 0 0) 24 rfl Try.underlying22 info26 rfl (by decide) (by omega) u119000 x119000_1 t127 [.slice Ao38 t127.length co38] (fun _ => True) (fun k_ => some k_ = (.slice Ao38 t127.length co38 : Value).ownBlock) rfl rfl ?aP (fun k_ hk_ => ((Kd.R_mono (ok' := fun k_ => ((fun _ => True)) k_ ∧ some k_ ≠ (u119000 : Value).ownBlock) (Kd.R_apart' (HO129.out) (Kd.S_typed HO_119000.out) (by decide)) (fun k_ hk => ⟨trivial, hk.2⟩))).1 k_ hk_.symm) ?aF ?aO ?aB ?aS ?aL ?_
          (case aP => exact Kd.M_row (Kd.R_mono (Kd.R_tight rfl (Kd.R_mono (ok' := fun k_ => ((fun _ => True)) k_ ∧ some k_ ≠ (u119000 : Value).ownBlock) (Kd.R_apart' (HO129.out) (Kd.S_typed HO_119000.out) (by decide)) (fun k_ hk => ⟨trivial, hk.2⟩))) (fun _ h_ => h_)))
          (case aB => exact (bk_ HB.out))
          (case aF => exact (fun _ _ => trivial))
          (case aO => exact (by (with_reducible repeat (first | apply Kd.S_alloc | apply Kd.S_drewN | apply Kd.S_drew)); exact Kd.S_mono HO_119000.out (fun k_ hk => ⟨trivial, fun e_ => hk.2 e_⟩)))
          (case aS => exact (below_size (bk_ HB.out)))
          (case aL => have := LMc31.out; omega)
          intro v131 w37 ho hb hg hat
          rw [← Ny130.out] at ho
          have n0_ := A_ (blk_grown (pk_ BK115.out) hg (Kd.S_ne HO_119000.out BK115.out (by decide)))
          have n1_ := A_ (blk_grown (pk_ BK116.out) hg (Kd.S_ne HO_119000.out BK116.out (by decide)))
          have n2_ := A_ (blk_grown (pk_ BK118.out) hg (Kd.S_ne HO_119000.out BK118.out (by decide)))
          have n3_ := A_ (hb)
          have n4_ := A_ (ho)
          clear BK115 BK116 BK118 HB HO_119000 HO129
          have BK115 := n0_
          have BK116 := n1_
          have BK118 := n2_
          have HB := n3_
          have HO132 := n4_
          clear n0_ n1_ n2_ n3_ n4_ ho hb hg hat
          obtain ⟨Ao39, co39, eo39⟩ := Kd.S_slice HO132.out
          (first | subst eo39 | (injection eo39 with f1_ f2_ f3_; have f4_ := f1_.symm; have f5_ := f3_.symm; clear f1_ f2_ f3_; subst f4_; subst f5_))
          refine hK.out _ _ ((blk_cell BK118.out 0).trans rfl) (fun hHeld => ?_)
          clear hK K
          refine norm_ (a' := ?_) ?_ ?_
          rotate_left
          ·show Act.put _ (some 34) _ = _
           simp only [Act.put, sa_, sz_, ss_, i64_w, i32_w]
           rfl
          refine pure_ (i := 7) (N := some 35) (v := ?_) (a' := ?_) #[true, true, true, true, true, true, true, true, false] rfl rfl (any_of HT_.out (by kernel_rfl)) (fun _ _ _ h => h) (Or.inl ⟨by rfl, ?_⟩) ?_ ?_
          rotate_left
          ·intro w'
           go_simp
           with_reducible rfl
          rotate_left
          ·simp only [Act.put, sa_, sz_, ss_, i64_w, i32_w]
           rfl
          refine last_ (i := 8) (N := none) #[true, true, true, true, true, true, true, true, true] rfl rfl (one_of HT_.out (by kernel_rfl)) (by decide) (fun K hK => ?_)
          have hs40 : w37.cell? ⟨gb118, 0, none⟩ = some (u119000) := (blk_cell BK118.out 0).trans rfl
          have hfs40 := blk_frozen BK118.out 0
          have hns40_0 := NB115_118.out
          have hns40_1 := NB116_118.out
          have hms40_0 := NB118_115.out
          have hms40_1 := NB118_116.out
          refine skip_ (w1 := ?_) (by rfl) rfl ?_ ?_
          rotate_left
          ·go_simp
           rfl
          refine hK.out _ _ ?_
          clear hK K
          refine done_ (done_of HT_.out (by kernel_rfl)) ?_
          try go_wp2
          go_roundg k1
          case measure => have := HK1.out; omega
          case rel => exact ⟨(wrap64 (x18_1 + 1)), (y130), (.slice Ao39 y130.length co39), jr_, H', ⟨by have := HK1.out; omega⟩, ⟨by (with_reducible repeat (first | apply Kd.S_alloc | apply Kd.S_drewN | apply Kd.S_drew)); exact Kd.S_mono (Kd.S_far (p := ⟨gb118, 0, none⟩) (Kd.S_types HO132.out BK118.out (by decide)) (fun _ hk => hk.2) (.slice Ao39 y130.length co39)) (fun _ hk => trivial)⟩, ⟨by refine pk_ ?_; refine blk_far ?_ NB115_118.out _; exact pk_ BK115.out⟩, ⟨by refine pk_ ?_; refine blk_far ?_ NB116_118.out _; exact pk_ BK116.out⟩, ⟨by refine pk_ ?_; refine blk_put (cs := #[u119000]) ?_ 0 _ rfl; exact pk_ BK118.out⟩, ⟨bk_ HB.out⟩⟩
         ·rw [if_neg c31] at H
          exact absurd H (by simp)
       ·rw [if_neg c16] at H
        exact absurd H (by simp)
      ·rw [if_neg c15] at H
       exact absurd H (by simp)
     ·rw [if_neg c14] at H
      exact absurd H (by simp)
    ·rw [if_neg c13] at H
     have c13b0 : decide (x18_1 < (l0_1.length : Int)) = false := decide_eq_false c13
     clear c13
     have H' := Aside0.mk H
     clear H
     have hnb41 := NB115_116.out
     have hnc41 := NB116_115.out
     have hnb42 := NB115_118.out
     have hnc42 := NB118_115.out
     have hcz43_0 : wr.cell? ⟨gb115, 0, none⟩ = some (.int .i64 a0_0) := (blk_cell BK115.out 0).trans rfl
     have hcz43_1 : wr.cell? ⟨gb115, 1, none⟩ = some (.slice A0_1 l0_1.length c0_1) := (blk_cell BK115.out 1).trans rfl
     have hcz43_2 : wr.cell? ⟨gb115, 2, none⟩ = some (.slice A0_2 l0_2.length c0_2) := (blk_cell BK115.out 2).trans rfl
     have hfz43_0 := blk_frozen BK115.out 0
     have hfz43_1 := blk_frozen BK115.out 1
     have hfz43_2 := blk_frozen BK115.out 2
     go_wp2
     go_loopg [42] k1 (fun kq v42 w' => ∃ (x42_2 : Int) (x119000_2 : List (List Int)) (u119000 : Value), v42 = .int .i64 x42_2 ∧ Aside0 (tag_ToCyclic.l1 kq (wrap64 ((wrap64 (a0_0 - 1)) * (l0_1.length : Int))) x42_2 x119000_2 = some (r1, r2)) ∧ Aside0 (kq ≤ k1) ∧ Aside0 (Kd.S (Kd.slice 3 (Kd.int .i64)) 26 w' w.heap.size (fun _ => True) u119000 x119000_2) ∧ Aside0 (w'.heap[gb115]? = some (.cells #[.int .i64 a0_0, (.slice A0_1 l0_1.length c0_1), (.slice A0_2 l0_2.length c0_2)] 25 (0, 0))) ∧ Aside0 (w'.heap[gb116]? = some (.cells #[(.slice none 0 0)] 45 (0, 0))) ∧ Aside0 (w'.heap[gb118]? = some (.cells #[u119000] 45 (0, 0))) ∧ Aside0 (Below w.heap.size w w'))
     case atStart => exact ⟨(0), (x119000_1), (u119000), jr_, H', ⟨Nat.le_refl _⟩, ⟨by (with_reducible repeat (first | apply Kd.S_alloc | apply Kd.S_drewN | apply Kd.S_drew)); exact HO_119000.out⟩, ⟨pk_ BK115.out⟩, ⟨pk_ BK116.out⟩, ⟨pk_ BK118.out⟩, ⟨bk_ HB.out⟩⟩
     case round =>
      clear H'
      (try clear c3); (try clear c13); (try clear c13b0); (try clear hcz12_0); (try clear hcz12_1); (try clear hcz12_2); (try clear hcz43_0); (try clear hcz43_1); (try clear hcz43_2); (try clear hcz7_0); (try clear hcz7_1); (try clear hcz7_2); (try clear hcz9_0); (try clear hcz9_1); (try clear hcz9_2); (try clear hfz12_0); (try clear hfz12_1); (try clear hfz12_2); (try clear hfz43_0); (try clear hfz43_1); (try clear hfz43_2); (try clear hfz7_0); (try clear hfz7_1); (try clear hfz7_2); (try clear hfz9_0); (try clear hfz9_1); (try clear hfz9_2)
      obtain ⟨x42_2, x119000_2, u119000, rfl, HA, HK2, HO_119000, BK115, BK116, BK118, HB⟩ := hrel
      cases gk with
      | zero => exact absurd HA.out (by simp [tag_ToCyclic.l1])
      | succ k2 =>
       have H := HA.out
       clear HA
       simp only [tag_ToCyclic.l1] at H
       by_cases c44 : x42_2 < (wrap64 ((wrap64 (a0_0 - 1)) * (l0_1.length : Int)))
       ·rw [if_pos c44] at H
        have c44b0 : decide (x42_2 < (wrap64 ((wrap64 (a0_0 - 1)) * (l0_1.length : Int)))) = true := decide_eq_true c44
        clear c44
        by_cases c45 : x119000_2.length < 5864062014805
        ·rw [if_pos c45] at H
         have LMc45 := Aside0.mk c45
         clear c45
         obtain ⟨y133, hy133⟩ : ∃ y_ : List (List Int), y_ = (x119000_2 ++ [[]]) := ⟨_, rfl⟩
         replace H : (tag_ToCyclic.l1 k2 (wrap64 ((wrap64 (a0_0 - 1)) * (l0_1.length : Int))) (wrap64 (x42_2 + 1)) y133) = some (r1, r2) := by first | (rw [hy133]; with_reducible exact H) | (have H2_ := (Option.bind_some _ _).symm.trans H; rw [hy133]; with_reducible exact H2_) | (have H2_ := (Option.bind_some _ _).symm.trans H; with_reducible exact H2_) | with_reducible exact H | (rw [hy133]; exact H) | exact H
         have Ny133 := Aside0.mk hy133
         clear hy133
         have H' := Aside0.mk H
         clear H
         have hnb46 := NB118_115.out
         have hnc46 := NB115_118.out
         have hnb47 := NB118_116.out
         have hnc47 := NB116_118.out
         have hcz48_0 : wr.cell? ⟨gb118, 0, none⟩ = some (u119000) := (blk_cell BK118.out 0).trans rfl
         have hfz48_0 := blk_frozen BK118.out 0
         go_wp2_with (first | ((with_reducible refine gate_builtin (b := .append) (xs := #[.tmp 45, .tmp 46]) rfl ?_); at_builtin; refine Kd.S_append (Kd.slice 3 (Kd.int .i64)) (w0 := w) w.heap.size rfl (.tmp 45) (.tmp 46) 22 26 (.slice none 0 0) 24 rfl Try.underlying22 info26 rfl (by decide) (by omega) u119000 x119000_2 ([] : List Int) [.slice none 0 0] (fun _ => True) (fun _ => False) rfl rfl ?aP (fun k_ hk_ => hk_.elim) ?aF ?aO ?aB ?aS ?aL ?_; (case aP => exact Kd.M_row (Kd.R_nil _ _ _ _ _)); (case aB => exact (bk_ HB.out)); (case aF => exact (fun _ _ => trivial)); (case aO => exact (by (with_reducible repeat (first | apply Kd.S_alloc | apply Kd.S_drewN | apply Kd.S_drew)); exact Kd.S_mono HO_119000.out (fun k_ hk => ⟨trivial, fun e_ => e_⟩))); (case aS => exact (below_size (bk_ HB.out))); (case aL => have := LMc45.out; omega); intro v134 w49 ho hb hg hat; rw [← Ny133.out] at ho; have n0_ := A_ (blk_grown (pk_ BK115.out) hg (Kd.S_ne HO_119000.out BK115.out (by decide))); have n1_ := A_ (blk_grown (pk_ BK116.out) hg (Kd.S_ne HO_119000.out BK116.out (by decide))); have n2_ := A_ (blk_grown (pk_ BK118.out) hg (Kd.S_ne HO_119000.out BK118.out (by decide))); have n3_ := A_ (hb); have n4_ := A_ (ho); clear BK115 BK116 BK118 HB HO_119000; have BK115 := n0_; have BK116 := n1_; have BK118 := n2_; have HB := n3_; have HO135 := n4_; clear n0_ n1_ n2_ n3_ n4_ ho hb hg hat; obtain ⟨Ao50, co50, eo50⟩ := Kd.S_slice HO135.out; subst eo50; have hcz51_0 : w49.cell? ⟨gb118, 0, none⟩ = some (u119000) := (blk_cell BK118.out 0).trans rfl; have hfz51_0 := blk_frozen BK118.out 0))
         go_roundg k2
         case measure => have := HK1.out; have := HK2.out; omega
         case rel => exact ⟨(wrap64 (x42_2 + 1)), (y133), (.slice Ao50 y133.length co50), jr_, H', ⟨by have := HK1.out; have := HK2.out; omega⟩, ⟨by (with_reducible repeat (first | apply Kd.S_alloc | apply Kd.S_drewN | apply Kd.S_drew)); exact Kd.S_mono (Kd.S_far (p := ⟨gb118, 0, none⟩) (Kd.S_types HO135.out BK118.out (by decide)) (fun _ hk => hk.2) (.slice Ao50 y133.length co50)) (fun _ hk => trivial)⟩, ⟨by refine pk_ ?_; refine blk_far ?_ NB115_118.out _; exact pk_ BK115.out⟩, ⟨by refine pk_ ?_; refine blk_far ?_ NB116_118.out _; exact pk_ BK116.out⟩, ⟨by refine pk_ ?_; refine blk_put (cs := #[u119000]) ?_ 0 _ rfl; exact pk_ BK118.out⟩, ⟨bk_ HB.out⟩⟩
        ·rw [if_neg c45] at H
         exact absurd H (by simp)
       ·rw [if_neg c44] at H
        have c44b0 : decide (x42_2 < (wrap64 ((wrap64 (a0_0 - 1)) * (l0_1.length : Int)))) = false := decide_eq_false c44
        clear c44
        simp only [Option.some.injEq, Prod.mk.injEq] at H
        obtain ⟨rfl, rfl⟩ := H
        have hnb52 := NB118_115.out
        have hnc52 := NB115_118.out
        have hnb53 := NB118_116.out
        have hnc53 := NB116_118.out
        have hcz54_0 : wr.cell? ⟨gb118, 0, none⟩ = some (u119000) := (blk_cell BK118.out 0).trans rfl
        have hfz54_0 := blk_frozen BK118.out 0
        obtain ⟨Ao55, co55, eo55⟩ := Kd.S_slice HO_119000.out
        subst eo55
        have hnb56 := NB116_115.out
        have hnc56 := NB115_116.out
        have hcz57_0 : wr.cell? ⟨gb116, 0, none⟩ = some (.slice none 0 0) := (blk_cell BK116.out 0).trans rfl
        have hfz57_0 := blk_frozen BK116.out 0
        go_wp2
        refine bodyPost_ret (results_ct rfl _ _ gb116 45 #[.slice Ao55 x119000_2.length co55] (0, 0) _ rfl (by refine pk_ ?_; refine blk_put (cs := #[.slice none 0 0]) ?_ 0 _ rfl; exact pk_ BK116.out) Try.underlying45 rfl (by kernel_rfl)) rfl ?_
        exact ⟨_, er_, by (with_reducible repeat (first | apply Kd.S_alloc | apply Kd.S_drewN | apply Kd.S_drew)); exact Kd.S_mono (Kd.S_far (p := ⟨gb116, 0, none⟩) (Kd.S_types HO_119000.out BK116.out (by decide)) (fun _ hk => hk.2) (.slice Ao55 x119000_2.length co55)) (fun _ hk => trivial), bk_ HB.out⟩
 ·replace c3 := Bool.eq_false_iff.mpr c3
  subst c3
  have H1 : (some (([] : List (List Int)), 1)) = some (r1, r2) := by rw [if_neg (show ¬ (false = true) by decide)] at H; exact H
  clear H
  have H := H1
  clear H1
  simp only [Option.some.injEq, Prod.mk.injEq] at H
  obtain ⟨rfl, rfl⟩ := H
  go_enter Try.func35, Try.ntmps35
  go_wp2_with (first | ((with_reducible refine gate_dst (N := 1) rfl ?_); refine box_event ?hg (N := 1) ?hd (cs := #[.int .i64 a0_0, .slice A0_1 l0_1.length c0_1, .slice A0_2 l0_2.length c0_2]) (t := 25) ?hr ?_; (case hd => rfl); (case hg => rfl); (case hr => first | (go_simp; done) | (go_simp; rfl)); intro gb115 hg w58 hbox hb; have n0_ := A_ (below_step (bk_ HB.out) hb); have n1_ := A_ (hbox); have n2_ := A_ ((by rw [hg]; exact (below_size (bk_ HB.out)) : w.heap.size ≤ gb115)); have n3_ := A_ ((by rw [hg]; exact (below_size (bk_ HB.out)) : w.heap.size ≤ gb115)); clear HB; have HB := n0_; have BK115 := n1_; have GW115 := n2_; have GE115 := n3_; clear n0_ n1_ n2_ n3_ hb hbox hg) | ((with_reducible refine gate_dst (N := 2) rfl ?_); refine box_event ?hg (N := 2) ?hd (cs := #[.slice none 0 0]) (t := 45) ?hr ?_; (case hd => rfl); (case hg => rfl); (case hr => first | (go_simp; done) | (go_simp; rfl)); intro gb116 hg w59 hbox hb; have n0_ := A_ (blk_below (pk_ BK115.out) hb); have n1_ := A_ (below_step (bk_ HB.out) hb); have n2_ := A_ (hbox); have n3_ := A_ ((by rw [hg]; exact (below_size (bk_ HB.out)) : w.heap.size ≤ gb116)); have n4_ := A_ ((by rw [hg]; exact (below_size (bk_ HB.out)) : w.heap.size ≤ gb116)); have n5_ := A_ ((by rw [hg]; exact Nat.ne_of_lt (blk_lt (pk_ BK115.out)) : gb115 ≠ gb116)); have n6_ := A_ ((by rw [hg]; exact Nat.ne_of_gt (blk_lt (pk_ BK115.out)) : gb116 ≠ gb115)); clear BK115 HB; have BK115 := n0_; have HB := n1_; have BK116 := n2_; have GW116 := n3_; have GE116 := n4_; have NB115_116 := n5_; have NB116_115 := n6_; clear n0_ n1_ n2_ n3_ n4_ n5_ n6_ hb hbox hg; have hnb60 := NB115_116.out; have hnc60 := NB116_115.out; have hcz61_0 : w59.cell? ⟨gb115, 0, none⟩ = some (.int .i64 a0_0) := (blk_cell BK115.out 0).trans rfl; have hcz61_1 : w59.cell? ⟨gb115, 1, none⟩ = some (.slice A0_1 l0_1.length c0_1) := (blk_cell BK115.out 1).trans rfl; have hcz61_2 : w59.cell? ⟨gb115, 2, none⟩ = some (.slice A0_2 l0_2.length c0_2) := (blk_cell BK115.out 2).trans rfl; have hfz61_0 := blk_frozen BK115.out 0; have hfz61_1 := blk_frozen BK115.out 1; have hfz61_2 := blk_frozen BK115.out 2) | ((with_reducible refine gate_callee (f := 15) rfl ?_); refine goesL_ (some 9) rfl rfl Try.func15 (by kernel_rfl) rfl #[.agg #[.int .i64 a0_0, .slice A0_1 l0_1.length c0_1, .slice A0_2 l0_2.length c0_2]] rfl gl_ ?_; (with_reducible refine (tag_Valid.calls k a0_0 _ _ l0_1 _ _ l0_2 false _ ?side1 ?side2 ?side3 ?side4 A2.out).mono ?_); (case side1 => exact ck_ (Kd.C_below HR0_1.out HB.out)); (case side2 => exact HC0_1.out); (case side3 => exact ck_ (Kd.C_below HR0_2.out HB.out)); (case side4 => exact HC0_2.out); rintro e w62 ⟨rfl, hb⟩; refine ⟨_, rfl, ?_⟩; have n0_ := A_ (blk_below (pk_ BK115.out) hb); have n1_ := A_ (blk_below (pk_ BK116.out) hb); have n2_ := A_ (below_step (bk_ HB.out) hb); clear BK115 BK116 HB; have BK115 := n0_; have BK116 := n1_; have HB := n2_; clear n0_ n1_ n2_; (try clear hb); (try clear hb2); (try clear hk); (try clear hi); have hcz63_0 : w62.cell? ⟨gb116, 0, none⟩ = some (.slice none 0 0) := (blk_cell BK116.out 0).trans rfl; have hfz63_0 := blk_frozen BK116.out 0))
  refine bodyPost_ret (results_ct rfl _ _ gb116 45 #[.slice none 0 0] (0, 0) _ rfl (by refine pk_ ?_; refine blk_put (cs := #[.slice none 0 0]) ?_ 0 _ rfl; exact pk_ BK116.out) Try.underlying45 rfl (by kernel_rfl)) rfl ?_
  exact ⟨_, er_, by first | exact Kd.S_nil _ _ _ _ _ | exact Kd.N_nil _ _ _ _ _ | exact Kd.V_nil _ _ _ _ _ | exact Kd.Q_nil _ _ _ _ _ | exact Kd.R_nil _ _ _ _ _, bk_ HB.out⟩

/-! ### standstilllaw07_three: function 42 -/
def standstilllaw07_three.f  : Option (Int × (List (List Int)) × List Bool) := some (2, (([(([1, 2] : List Int)), (([0] : List Int)), (([0, 0, 0] : List Int))] : List (List Int))), (([false, false, false] : List Bool)))
set_option maxHeartbeats 8000000 in
set_option maxRecDepth 100000 in
theorem standstilllaw07_three.calls  (r1 : Int) (r2 : List (List Int)) (r3 : List Bool) (w : World) (h : standstilllaw07_three.f  = some (r1, r2, r3)) :
  Calls Try.prog 42 #[] w fun e w' => ∃ v1_ v2_ : Value, e = .returned (.agg #[.int .i64 r1, v1_, v2_]) ∧ Kd.N (Kd.slice 3 (Kd.int .i64)) 26 w' w.heap.size (fun k_ => (w.heap.size ≤ k_) ∧ some k_ ≠ (v2_ : Value).ownBlock) v1_ r2 ∧ Kd.R Kd.bool 4 w' w.heap.size (fun k_ => (w.heap.size ≤ k_)) v2_ r3 ∧ Below w.heap.size w w' := by
 have hu25 := Try.underlying25
 have HB := A_ (Below.refl w.heap.size w)
 have H : (some (2, (([(([1, 2] : List Int)), (([0] : List Int)), (([0, 0, 0] : List Int))] : List (List Int))), (([false, false, false] : List Bool)))) = some (r1, r2, r3) := h
 clear h
 obtain ⟨y137, hy137⟩ : ∃ y_ : List Int, y_ = (([1, 2] : List Int)) := ⟨_, rfl⟩
 replace H : (some (2, (([y137, (([0] : List Int)), (([0, 0, 0] : List Int))] : List (List Int))), (([false, false, false] : List Bool)))) = some (r1, r2, r3) := by first | (rw [hy137]; with_reducible exact H) | (have H2_ := (Option.bind_some _ _).symm.trans H; rw [hy137]; with_reducible exact H2_) | (have H2_ := (Option.bind_some _ _).symm.trans H; with_reducible exact H2_) | with_reducible exact H | (rw [hy137]; exact H) | exact H
 have Ny137 := Aside0.mk hy137
 clear hy137
 obtain ⟨y140, hy140⟩ : ∃ y_ : List Int, y_ = (([0] : List Int)) := ⟨_, rfl⟩
 replace H : (some (2, (([y137, y140, (([0, 0, 0] : List Int))] : List (List Int))), (([false, false, false] : List Bool)))) = some (r1, r2, r3) := by first | (rw [hy140]; with_reducible exact H) | (have H2_ := (Option.bind_some _ _).symm.trans H; rw [hy140]; with_reducible exact H2_) | (have H2_ := (Option.bind_some _ _).symm.trans H; with_reducible exact H2_) | with_reducible exact H | (rw [hy140]; exact H) | exact H
 have Ny140 := Aside0.mk hy140
 clear hy140
 obtain ⟨y143, hy143⟩ : ∃ y_ : List Int, y_ = (([0, 0, 0] : List Int)) := ⟨_, rfl⟩
 replace H : (some (2, (([y137, y140, y143] : List (List Int))), (([false, false, false] : List Bool)))) = some (r1, r2, r3) := by first | (rw [hy143]; with_reducible exact H) | (have H2_ := (Option.bind_some _ _).symm.trans H; rw [hy143]; with_reducible exact H2_) | (have H2_ := (Option.bind_some _ _).symm.trans H; with_reducible exact H2_) | with_reducible exact H | (rw [hy143]; exact H) | exact H
 have Ny143 := Aside0.mk hy143
 clear hy143
 obtain ⟨y146, hy146⟩ : ∃ y_ : List (List Int), y_ = (([y137, y140, y143] : List (List Int))) := ⟨_, rfl⟩
 replace H : (some (2, y146, (([false, false, false] : List Bool)))) = some (r1, r2, r3) := by first | (rw [hy146]; with_reducible exact H) | (have H2_ := (Option.bind_some _ _).symm.trans H; rw [hy146]; with_reducible exact H2_) | (have H2_ := (Option.bind_some _ _).symm.trans H; with_reducible exact H2_) | with_reducible exact H | (rw [hy146]; exact H) | exact H
 have Ny146 := Aside0.mk hy146
 clear hy146
 obtain ⟨y149, hy149⟩ : ∃ y_ : List Bool, y_ = (([false, false, false] : List Bool)) := ⟨_, rfl⟩
 replace H : (some (2, y146, y149)) = some (r1, r2, r3) := by first | (rw [hy149]; with_reducible exact H) | (have H2_ := (Option.bind_some _ _).symm.trans H; rw [hy149]; with_reducible exact H2_) | (have H2_ := (Option.bind_some _ _).symm.trans H; with_reducible exact H2_) | with_reducible exact H | (rw [hy149]; exact H) | exact H
 have Ny149 := Aside0.mk hy149
 clear hy149
 simp only [Option.some.injEq, Prod.mk.injEq] at H
 obtain ⟨rfl, rfl, rfl⟩ := H
 go_enter Try.func42, Try.ntmps42
 go_wp2_with (first | ((with_reducible refine gate_dst (N := 0) rfl ?_); refine box_event ?hg (N := 0) ?hd (cs := #[.int .i64 0, .slice none 0 0, .slice none 0 0]) (t := 25) ?hr ?_; (case hd => rfl); (case hg => rfl); (case hr => first | (go_simp; done) | (go_simp; rfl)); intro gb136 hg w1 hbox hb; have n0_ := A_ (below_step (bk_ HB.out) hb); have n1_ := A_ (hbox); have n2_ := A_ ((by rw [hg]; exact (below_size (bk_ HB.out)) : w.heap.size ≤ gb136)); have n3_ := A_ ((by rw [hg]; exact (below_size (bk_ HB.out)) : w.heap.size ≤ gb136)); clear HB; have HB := n0_; have BK136 := n1_; have GW136 := n2_; have GE136 := n3_; clear n0_ n1_ n2_ n3_ hb hbox hg) | ((with_reducible refine gate_dst (N := 1) rfl ?_); refine Kd.R_lit (Kd.int .i64) _ 3 ?hg (N := 1) ?hd (xs := ([1, 2] : List Int)) (inner := [.int .i64 1, .int .i64 2]) (ok := fun _ => True) (okp := fun _ => True) ?hr ?hp (fun _ hk => hk) trivial (Below.refl _ _) (Nat.le_refl _) (by simp) ?_; (case hd => rfl); (case hg => rfl); (case hr => first | (go_simp; done) | (go_simp; rfl)); (case hp => exact (Reps.one (show Kd.M (Kd.int .i64) _ _ _ 1 [.int .i64 1] from rfl) (Reps.one (show Kd.M (Kd.int .i64) _ _ _ 2 [.int .i64 2] from rfl) (Reps.none _ _)))); intro v138 w2 ho3 hb hg_ hnew_; clear hg_ hnew_; (first | rw [← Ny137.out] at ho3 | (simp only [Int.reduceToNat] at ho3; rw [← Ny137.out] at ho3)); have n0_ := A_ (Kd.R_lower (Kd.R_newM (M := fun k_ => (w.heap.size ≤ k_)) ho3 (below_size (bk_ HB.out)) (fun k_ h_ => h_)) (below_size (bk_ HB.out))); have n1_ := A_ (blk_below (pk_ BK136.out) hb); have n2_ := A_ (below_step (bk_ HB.out) hb); clear BK136 HB; have HO139 := n0_; have BK136 := n1_; have HB := n2_; clear n0_ n1_ n2_ hb ho3) | ((with_reducible refine gate_dst (N := 2) rfl ?_); refine Kd.R_lit (Kd.int .i64) _ 3 ?hg (N := 2) ?hd (xs := ([0] : List Int)) (inner := [.int .i64 0]) (ok := fun _ => True) (okp := fun _ => True) ?hr ?hp (fun _ hk => hk) trivial (Below.refl _ _) (Nat.le_refl _) (by simp) ?_; (case hd => rfl); (case hg => rfl); (case hr => first | (go_simp; done) | (go_simp; rfl)); (case hp => exact (Reps.one (show Kd.M (Kd.int .i64) _ _ _ 0 [.int .i64 0] from rfl) (Reps.none _ _))); intro v141 w4 ho5 hb hg_ hnew_; clear hg_ hnew_; (first | rw [← Ny140.out] at ho5 | (simp only [Int.reduceToNat] at ho5; rw [← Ny140.out] at ho5)); have n0_ := A_ (Kd.R_elder' (rk_ HO139.out) (Kd.R_base ho5) hb); have n1_ := A_ (Kd.R_lower (Kd.R_new' (Kd.R_newM (M := fun k_ => (w.heap.size ≤ k_)) ho5 (below_size (bk_ HB.out)) (fun k_ h_ => h_)) (Kd.R_lt (rk_ HO139.out))) (below_size (bk_ HB.out))); have n2_ := A_ (blk_below (pk_ BK136.out) hb); have n3_ := A_ (below_step (bk_ HB.out) hb); clear HO139 BK136 HB; have HO139 := n0_; have HO142 := n1_; have BK136 := n2_; have HB := n3_; clear n0_ n1_ n2_ n3_ hb ho5) | ((with_reducible refine gate_dst (N := 3) rfl ?_); refine Kd.R_lit (Kd.int .i64) _ 3 ?hg (N := 3) ?hd (xs := ([0, 0, 0] : List Int)) (inner := [.int .i64 0, .int .i64 0, .int .i64 0]) (ok := fun _ => True) (okp := fun _ => True) ?hr ?hp (fun _ hk => hk) trivial (Below.refl _ _) (Nat.le_refl _) (by simp) ?_; (case hd => rfl); (case hg => rfl); (case hr => first | (go_simp; done) | (go_simp; rfl)); (case hp => exact (Reps.one (show Kd.M (Kd.int .i64) _ _ _ 0 [.int .i64 0] from rfl) (Reps.one (show Kd.M (Kd.int .i64) _ _ _ 0 [.int .i64 0] from rfl) (Reps.one (show Kd.M (Kd.int .i64) _ _ _ 0 [.int .i64 0] from rfl) (Reps.none _ _))))); intro v144 w6 ho7 hb hg_ hnew_; clear hg_ hnew_; (first | rw [← Ny143.out] at ho7 | (simp only [Int.reduceToNat] at ho7; rw [← Ny143.out] at ho7)); have n0_ := A_ (Kd.R_elder' (rk_ HO139.out) (Kd.R_base ho7) hb); have n1_ := A_ (Kd.R_elder' (rk_ HO142.out) (Kd.R_base ho7) hb); have n2_ := A_ (Kd.R_lower (Kd.R_new' (Kd.R_new' (Kd.R_newM (M := fun k_ => (w.heap.size ≤ k_)) ho7 (below_size (bk_ HB.out)) (fun k_ h_ => h_)) (Kd.R_lt (rk_ HO139.out))) (Kd.R_lt (rk_ HO142.out))) (below_size (bk_ HB.out))); have n3_ := A_ (blk_below (pk_ BK136.out) hb); have n4_ := A_ (below_step (bk_ HB.out) hb); clear HO139 HO142 BK136 HB; have HO139 := n0_; have HO142 := n1_; have HO145 := n2_; have BK136 := n3_; have HB := n4_; clear n0_ n1_ n2_ n3_ n4_ hb ho7; obtain ⟨Ao8, co8, eo8⟩ := Kd.R_slice HO139.out; subst eo8; obtain ⟨Ao9, co9, eo9⟩ := Kd.R_slice HO142.out; subst eo9; obtain ⟨Ao10, co10, eo10⟩ := Kd.R_slice HO145.out; subst eo10) | ((with_reducible refine gate_dst (N := 4) rfl ?_); refine Kd.N_lit (Kd.slice 3 (Kd.int .i64)) _ 26 ?hg (N' := 4) ?hd (xs := ([y137, y140, y143] : List (List Int))) (inner := [.slice Ao8 y137.length co8, .slice Ao9 y140.length co9, .slice Ao10 y143.length co10]) (ok := (fun k_ => (w.heap.size ≤ k_) ∧ k_ ≠ gb136)) (okp := (fun k_ => (w.heap.size ≤ k_) ∧ k_ ≠ gb136)) ?hr ?hp (fun _ hk => hk) ((show ∀ k_, w6.heap.size ≤ k_ → (fun k_ => (w.heap.size ≤ k_) ∧ k_ ≠ gb136) k_ from fun k_ hk => ⟨(Nat.le_trans (below_size (bk_ HB.out)) hk), Kd.freshB (g := gb136) (o := .cells #[.int .i64 0, .slice none 0 0, .slice none 0 0] 25 (0, 0)) (pk_ BK136.out) k_ hk⟩) _ (Nat.le_refl _)) (Below.refl _ _) (Nat.le_refl _) (by simp) ?_; (case hd => rfl); (case hg => rfl); (case hr => first | (go_simp; done) | (go_simp; rfl)); (case hp => exact (Reps.one (show Kd.FK (Kd.slice 3 (Kd.int .i64)) _ _ y137 [.slice Ao8 y137.length co8] from (Kd.FK_slice_mk (Kd.R_reads' (Kd.R_mono (ok' := (fun k_ => (w.heap.size ≤ k_) ∧ k_ ≠ gb136)) (Kd.R_types (HO139.out) BK136.out (by decide)) (fun k_ hk => ⟨hk.1.1.1.1, hk.2⟩))).2.1 (Kd.R_F (Kd.R_mono (ok' := (fun k_ => (w.heap.size ≤ k_) ∧ k_ ≠ gb136)) (Kd.R_types (HO139.out) BK136.out (by decide)) (fun k_ hk => ⟨hk.1.1.1.1, hk.2⟩))))) (Reps.one (show Kd.FK (Kd.slice 3 (Kd.int .i64)) _ _ y140 [.slice Ao9 y140.length co9] from (Kd.FK_slice_mk (Kd.R_reads' (Kd.R_mono (ok' := (fun k_ => (w.heap.size ≤ k_) ∧ k_ ≠ gb136)) (Kd.R_types (HO142.out) BK136.out (by decide)) (fun k_ hk => ⟨hk.1.1.1.1, hk.2⟩))).2.1 (Kd.R_F (Kd.R_mono (ok' := (fun k_ => (w.heap.size ≤ k_) ∧ k_ ≠ gb136)) (Kd.R_types (HO142.out) BK136.out (by decide)) (fun k_ hk => ⟨hk.1.1.1.1, hk.2⟩))))) (Reps.one (show Kd.FK (Kd.slice 3 (Kd.int .i64)) _ _ y143 [.slice Ao10 y143.length co10] from (Kd.FK_slice_mk (Kd.R_reads' (Kd.R_mono (ok' := (fun k_ => (w.heap.size ≤ k_) ∧ k_ ≠ gb136)) (Kd.R_types (HO145.out) BK136.out (by decide)) (fun k_ hk => ⟨hk.1.1.1.1, hk.2⟩))).2.1 (Kd.R_F (Kd.R_mono (ok' := (fun k_ => (w.heap.size ≤ k_) ∧ k_ ≠ gb136)) (Kd.R_types (HO145.out) BK136.out (by decide)) (fun k_ hk => ⟨hk.1.1.1.1, hk.2⟩))))) (Reps.none _ _))))); intro v147 w11 ho12 hb hg_ hnew_; clear hg_ hnew_; (first | rw [← Ny146.out] at ho12 | (simp only [Int.reduceToNat] at ho12; rw [← Ny146.out] at ho12)); have n0_ := A_ (Kd.N_lower ho12 (below_size (bk_ HB.out))); have n1_ := A_ (blk_below (pk_ BK136.out) hb); have n2_ := A_ (below_step (bk_ HB.out) hb); clear BK136 HB HO139 HO142 HO145; have HO148 := n0_; have BK136 := n1_; have HB := n2_; clear n0_ n1_ n2_ hb ho12) | ((with_reducible refine gate_dst (N := 5) rfl ?_); refine Kd.R_lit Kd.bool _ 4 ?hg (N := 5) ?hd (xs := ([false, false, false] : List Bool)) (inner := [.bool false, .bool false, .bool false]) (ok := fun _ => True) (okp := fun _ => True) ?hr ?hp (fun _ hk => hk) trivial (Below.refl _ _) (Nat.le_refl _) (by simp) ?_; (case hd => rfl); (case hg => rfl); (case hr => first | (go_simp; done) | (go_simp; rfl)); (case hp => exact (Reps.one (show Kd.M Kd.bool _ _ _ false [.bool false] from rfl) (Reps.one (show Kd.M Kd.bool _ _ _ false [.bool false] from rfl) (Reps.one (show Kd.M Kd.bool _ _ _ false [.bool false] from rfl) (Reps.none _ _))))); intro v150 w13 ho14 hb hg_ hnew_; clear hg_ hnew_; (first | rw [← Ny149.out] at ho14 | (simp only [Int.reduceToNat] at ho14; rw [← Ny149.out] at ho14)); have n0_ := A_ (Kd.N_elder' (by (with_reducible repeat (first | apply Kd.N_alloc | apply Kd.N_drewN | apply Kd.N_drew)); exact HO148.out) (Kd.R_base ho14) hb); have n1_ := A_ (Kd.R_lower (Kd.R_newM (M := fun k_ => (w.heap.size ≤ k_)) ho14 (below_size (bk_ HB.out)) (fun k_ h_ => h_)) (below_size (bk_ HB.out))); have n2_ := A_ (blk_below (pk_ BK136.out) hb); have n3_ := A_ (below_step (bk_ HB.out) hb); clear HO148 BK136 HB; have HO148 := n0_; have HO151 := n1_; have BK136 := n2_; have HB := n3_; clear n0_ n1_ n2_ n3_ hb ho14; obtain ⟨Ao15, co15, eo15⟩ := Kd.R_slice HO151.out; subst eo15; obtain ⟨Ao16, co16, eo16⟩ := Kd.N_slice HO148.out; subst eo16; have hcz17_0 : w13.cell? ⟨gb136, 0, none⟩ = some (.int .i64 0) := (blk_cell BK136.out 0).trans rfl; have hcz17_1 : w13.cell? ⟨gb136, 1, none⟩ = some (.slice none 0 0) := (blk_cell BK136.out 1).trans rfl; have hcz17_2 : w13.cell? ⟨gb136, 2, none⟩ = some (.slice none 0 0) := (blk_cell BK136.out 2).trans rfl; have hfz17_0 := blk_frozen BK136.out 0; have hfz17_1 := blk_frozen BK136.out 1; have hfz17_2 := blk_frozen BK136.out 2))
 refine bodyPost_ret (results_cell_row rfl _ _ gb136 25 #[.int .i64 2, .slice Ao16 y146.length co16, .slice Ao15 y149.length co15] (0, 0) _ rfl (by refine pk_ ?_; refine blk_put (cs := #[.int .i64 2, .slice Ao16 y146.length co16, .slice none 0 0]) ?_ 2 _ rfl; refine pk_ ?_; refine blk_put (cs := #[.int .i64 2, .slice none 0 0, .slice none 0 0]) ?_ 1 _ rfl; refine pk_ ?_; refine blk_put (cs := #[.int .i64 0, .slice none 0 0, .slice none 0 0]) ?_ 0 _ rfl; exact pk_ BK136.out) Try.underlying25 rfl (by kernel_rfl)) rfl ?_
 exact ⟨_, _, er_, by (with_reducible repeat (first | apply Kd.N_alloc | apply Kd.N_drewN | apply Kd.N_drew)); exact Kd.N_mono (Kd.N_far (p := ⟨gb136, 2, none⟩) (Kd.N_far (p := ⟨gb136, 1, none⟩) (Kd.N_far (p := ⟨gb136, 0, none⟩) (Kd.N_mono HO148.out (fun k_ hk => (⟨hk, hk.1.2⟩ : _ ∧ k_ ≠ gb136))) (fun _ hk => hk.2) (.int .i64 2)) (fun _ hk => hk.2) (.slice Ao16 y146.length co16)) (fun _ hk => hk.2) (.slice Ao15 y149.length co15)) (fun _ hk => ⟨hk.1.1.1, hk.1.2⟩), by (with_reducible repeat (first | apply Kd.R_alloc | apply Kd.R_drewN | apply Kd.R_drew)); exact Kd.R_mono (Kd.R_far (p := ⟨gb136, 2, none⟩) (Kd.R_far (p := ⟨gb136, 1, none⟩) (Kd.R_far (p := ⟨gb136, 0, none⟩) (Kd.R_types HO151.out BK136.out (by decide)) (fun _ hk => hk.2) (.int .i64 2)) (fun _ hk => hk.2) (.slice Ao16 y146.length co16)) (fun _ hk => hk.2) (.slice Ao15 y149.length co15)) (fun _ hk => hk.1.1), bk_ HB.out⟩

/-! ### standstilllaw07_awake: function 11 -/
def standstilllaw07_awake.f (k : Nat)  : Option (Bool) := (standstilllaw07_three.f).bind fun bt152 => ((tag_Run.f k bt152.1 bt152.2.1 bt152.2.2 (([0, 0, 0] : List Int)) 4).bind fun bt162 => ((standstilllaw07_three.f).bind fun bt167 => ((tag_ToCyclic.f k bt167.1 bt167.2.1 bt167.2.2).bind fun bt174 => (if bt162.2.2 = 0 then (if bt162.2.1 = 4 then ((standstillref07_Same.f k bt162.1 (([0, 0, 0, 0, 0] : List Int))).bind fun t182 => (if t182 = true then (if bt174.2 = 0 then (if (bt174.1.length : Int) = 6 then (if 0 < (bt174.1.length : Int) then ((standstillref07_Same.f k (rd_L1 bt174.1 0) (([0, 1, 0, 0, 0, 1] : List Int))).bind fun t187 => (some t187)) else (none)) else (some false)) else (some false)) else (some false))) else (some false)) else (some false)))))
theorem standstilllaw07_awake.mono : ∀ k, LeO (standstilllaw07_awake.f k ) (standstilllaw07_awake.f (k + 1) ) := by
 intro  k
 unfold standstilllaw07_awake.f
 repeat' first
   | (with_reducible exact standstillref07_Same.mono _ _ _)
   | (with_reducible exact tag_Run.mono _ _ _ _ _ _)
   | (with_reducible exact tag_ToCyclic.mono _ _ _ _)
   | (with_reducible exact LeO.refl _)
   | (with_reducible exact LeO.none _)
   | (with_reducible refine LeO.ite ?_ ?_)
   | (with_reducible refine LeO.bind ?_ (fun _ => ?_))
   | exact standstillref07_Same.mono _ _ _
   | exact tag_Run.mono _ _ _ _ _ _
   | exact tag_ToCyclic.mono _ _ _ _
   | exact LeO.none _
   | refine LeO.ite ?_ ?_
   | refine LeO.bind ?_ (fun _ => ?_)
set_option maxHeartbeats 8000000 in
set_option maxRecDepth 100000 in
theorem standstilllaw07_awake.calls (k : Nat)  (r : Bool) (w : World) (h : standstilllaw07_awake.f k  = some r) :
  Calls Try.prog 11 #[] w fun e w' => e = .returned (.bool r) ∧ Below w.heap.size w w' := by
 have hu45 := Try.underlying45
 have HB := A_ (Below.refl w.heap.size w)
 have H : ((standstilllaw07_three.f).bind fun bt152 => ((tag_Run.f k bt152.1 bt152.2.1 bt152.2.2 (([0, 0, 0] : List Int)) 4).bind fun bt162 => ((standstilllaw07_three.f).bind fun bt167 => ((tag_ToCyclic.f k bt167.1 bt167.2.1 bt167.2.2).bind fun bt174 => (if bt162.2.2 = 0 then (if bt162.2.1 = 4 then ((standstillref07_Same.f k bt162.1 (([0, 0, 0, 0, 0] : List Int))).bind fun t182 => (if t182 = true then (if bt174.2 = 0 then (if (bt174.1.length : Int) = 6 then (if 0 < (bt174.1.length : Int) then ((standstillref07_Same.f k (rd_L1 bt174.1 0) (([0, 1, 0, 0, 0, 1] : List Int))).bind fun t187 => (some t187)) else (none)) else (some false)) else (some false)) else (some false))) else (some false)) else (some false)))))) = some r := h
 clear h
 replace H := Option.bind_eq_some_iff.mp H
 obtain ⟨⟨t152, t153, t156⟩, A10, H⟩ := H
 replace H : ((tag_Run.f k t152 t153 t156 (([0, 0, 0] : List Int)) 4).bind fun bt162 => ((standstilllaw07_three.f).bind fun bt167 => ((tag_ToCyclic.f k bt167.1 bt167.2.1 bt167.2.2).bind fun bt174 => (if bt162.2.2 = 0 then (if bt162.2.1 = 4 then ((standstillref07_Same.f k bt162.1 (([0, 0, 0, 0, 0] : List Int))).bind fun t182 => (if t182 = true then (if bt174.2 = 0 then (if (bt174.1.length : Int) = 6 then (if 0 < (bt174.1.length : Int) then ((standstillref07_Same.f k (rd_L1 bt174.1 0) (([0, 1, 0, 0, 0, 1] : List Int))).bind fun t187 => (some t187)) else (none)) else (some false)) else (some false)) else (some false))) else (some false)) else (some false))))) = some r := H
 have A1 := Aside0.mk A10
 clear A10
 obtain ⟨y159, hy159⟩ : ∃ y_ : List Int, y_ = (([0, 0, 0] : List Int)) := ⟨_, rfl⟩
 replace H : ((tag_Run.f k t152 t153 t156 y159 4).bind fun bt162 => ((standstilllaw07_three.f).bind fun bt167 => ((tag_ToCyclic.f k bt167.1 bt167.2.1 bt167.2.2).bind fun bt174 => (if bt162.2.2 = 0 then (if bt162.2.1 = 4 then ((standstillref07_Same.f k bt162.1 (([0, 0, 0, 0, 0] : List Int))).bind fun t182 => (if t182 = true then (if bt174.2 = 0 then (if (bt174.1.length : Int) = 6 then (if 0 < (bt174.1.length : Int) then ((standstillref07_Same.f k (rd_L1 bt174.1 0) (([0, 1, 0, 0, 0, 1] : List Int))).bind fun t187 => (some t187)) else (none)) else (some false)) else (some false)) else (some false))) else (some false)) else (some false))))) = some r := by first | (rw [hy159]; with_reducible exact H) | (have H2_ := (Option.bind_some _ _).symm.trans H; rw [hy159]; with_reducible exact H2_) | (have H2_ := (Option.bind_some _ _).symm.trans H; with_reducible exact H2_) | with_reducible exact H | (rw [hy159]; exact H) | exact H
 have Ny159 := Aside0.mk hy159
 clear hy159
 replace H := Option.bind_eq_some_iff.mp H
 obtain ⟨⟨t162, t165, t166⟩, A20, H⟩ := H
 replace H : ((standstilllaw07_three.f).bind fun bt167 => ((tag_ToCyclic.f k bt167.1 bt167.2.1 bt167.2.2).bind fun bt174 => (if t166 = 0 then (if t165 = 4 then ((standstillref07_Same.f k t162 (([0, 0, 0, 0, 0] : List Int))).bind fun t182 => (if t182 = true then (if bt174.2 = 0 then (if (bt174.1.length : Int) = 6 then (if 0 < (bt174.1.length : Int) then ((standstillref07_Same.f k (rd_L1 bt174.1 0) (([0, 1, 0, 0, 0, 1] : List Int))).bind fun t187 => (some t187)) else (none)) else (some false)) else (some false)) else (some false))) else (some false)) else (some false)))) = some r := H
 have A2 := Aside0.mk A20
 clear A20
 replace H := Option.bind_eq_some_iff.mp H
 obtain ⟨⟨t167, t168, t171⟩, A30, H⟩ := H
 replace H : ((tag_ToCyclic.f k t167 t168 t171).bind fun bt174 => (if t166 = 0 then (if t165 = 4 then ((standstillref07_Same.f k t162 (([0, 0, 0, 0, 0] : List Int))).bind fun t182 => (if t182 = true then (if bt174.2 = 0 then (if (bt174.1.length : Int) = 6 then (if 0 < (bt174.1.length : Int) then ((standstillref07_Same.f k (rd_L1 bt174.1 0) (([0, 1, 0, 0, 0, 1] : List Int))).bind fun t187 => (some t187)) else (none)) else (some false)) else (some false)) else (some false))) else (some false)) else (some false))) = some r := H
 have A3 := Aside0.mk A30
 clear A30
 replace H := Option.bind_eq_some_iff.mp H
 obtain ⟨⟨t174, t177⟩, A40, H⟩ := H
 replace H : (if t166 = 0 then (if t165 = 4 then ((standstillref07_Same.f k t162 (([0, 0, 0, 0, 0] : List Int))).bind fun t182 => (if t182 = true then (if t177 = 0 then (if (t174.length : Int) = 6 then (if 0 < (t174.length : Int) then ((standstillref07_Same.f k (rd_L1 t174 0) (([0, 1, 0, 0, 0, 1] : List Int))).bind fun t187 => (some t187)) else (none)) else (some false)) else (some false)) else (some false))) else (some false)) else (some false)) = some r := H
 have A4 := Aside0.mk A40
 clear A40
 by_cases c5 : t166 = 0
 ·rw [if_pos c5] at H
  have c5b0 : (t166 == 0) = true := beq_iff_eq.mpr c5
  have c5b1 : (t166 != 0) = false := bne_eq_false_iff_eq.mpr c5
  clear c5
  by_cases c6 : t165 = 4
  ·rw [if_pos c6] at H
   have c6b0 : (t165 == 4) = true := beq_iff_eq.mpr c6
   have c6b1 : (t165 != 4) = false := bne_eq_false_iff_eq.mpr c6
   clear c6
   obtain ⟨y179, hy179⟩ : ∃ y_ : List Int, y_ = (([0, 0, 0, 0, 0] : List Int)) := ⟨_, rfl⟩
   replace H : ((standstillref07_Same.f k t162 y179).bind fun t182 => (if t182 = true then (if t177 = 0 then (if (t174.length : Int) = 6 then (if 0 < (t174.length : Int) then ((standstillref07_Same.f k (rd_L1 t174 0) (([0, 1, 0, 0, 0, 1] : List Int))).bind fun t187 => (some t187)) else (none)) else (some false)) else (some false)) else (some false))) = some r := by first | (rw [hy179]; with_reducible exact H) | (have H2_ := (Option.bind_some _ _).symm.trans H; rw [hy179]; with_reducible exact H2_) | (have H2_ := (Option.bind_some _ _).symm.trans H; with_reducible exact H2_) | with_reducible exact H | (rw [hy179]; exact H) | exact H
   have Ny179 := Aside0.mk hy179
   clear hy179
   replace H := Option.bind_eq_some_iff.mp H
   obtain ⟨t182, A70, H⟩ := H
   replace H : (if t182 = true then (if t177 = 0 then (if (t174.length : Int) = 6 then (if 0 < (t174.length : Int) then ((standstillref07_Same.f k (rd_L1 t174 0) (([0, 1, 0, 0, 0, 1] : List Int))).bind fun t187 => (some t187)) else (none)) else (some false)) else (some false)) else (some false)) = some r := H
   have A7 := Aside0.mk A70
   clear A70
   by_cases c8 : t182 = true
   ·subst c8
    have H1 : (if t177 = 0 then (if (t174.length : Int) = 6 then (if 0 < (t174.length : Int) then ((standstillref07_Same.f k (rd_L1 t174 0) (([0, 1, 0, 0, 0, 1] : List Int))).bind fun t187 => (some t187)) else (none)) else (some false)) else (some false)) = some r := by rw [if_pos rfl] at H; exact H
    clear H
    have H := H1
    clear H1
    by_cases c9 : t177 = 0
    ·rw [if_pos c9] at H
     have c9b0 : (t177 == 0) = true := beq_iff_eq.mpr c9
     have c9b1 : (t177 != 0) = false := bne_eq_false_iff_eq.mpr c9
     clear c9
     by_cases c10 : (t174.length : Int) = 6
     ·rw [if_pos c10] at H
      have c10b0 : ((t174.length : Int) == 6) = true := beq_iff_eq.mpr c10
      have c10b1 : ((t174.length : Int) != 6) = false := bne_eq_false_iff_eq.mpr c10
      clear c10
      by_cases c11 : 0 < (t174.length : Int)
      ·rw [if_pos c11] at H
       have c11b0 : decide (0 < (t174.length : Int)) = true := decide_eq_true c11
       have c11b1 : decide (0 < t174.length) = true := decide_eq_true (by omega)
       clear c11
       obtain ⟨y184, hy184⟩ : ∃ y_ : List Int, y_ = (([0, 1, 0, 0, 0, 1] : List Int)) := ⟨_, rfl⟩
       replace H : ((standstillref07_Same.f k (rd_L1 t174 0) y184).bind fun t187 => (some t187)) = some r := by first | (rw [hy184]; with_reducible exact H) | (have H2_ := (Option.bind_some _ _).symm.trans H; rw [hy184]; with_reducible exact H2_) | (have H2_ := (Option.bind_some _ _).symm.trans H; with_reducible exact H2_) | with_reducible exact H | (rw [hy184]; exact H) | exact H
       have Ny184 := Aside0.mk hy184
       clear hy184
       replace H := Option.bind_eq_some_iff.mp H
       obtain ⟨t187, A120, H⟩ := H
       replace H : (some t187) = some r := H
       have A12 := Aside0.mk A120
       clear A120
       obtain rfl := Option.some.inj H
       go_enter Try.func11, Try.ntmps11
       go_wp2_with (first | ((with_reducible refine gate_callee (f := 42) rfl ?_); refine goesL_ (some 7) rfl rfl Try.func42 (by kernel_rfl) rfl #[] rfl gl_ ?_; (with_reducible refine (standstilllaw07_three.calls  t152 t153 t156 _ A1.out).mono ?_); rintro e w13 ⟨v154, v157, rfl, ho0, ho1, hb⟩; refine ⟨_, rfl, ?_⟩; have n0_ := A_ (Kd.N_lower (Kd.N_mono (ok' := fun k_ => some k_ ≠ (v157 : Value).ownBlock) ho0 (fun k_ hk_ => hk_.2)) (below_size (bk_ HB.out))); have n1_ := A_ (Kd.R_lower (Kd.R_mono (ok' := fun k_ => True) ho1 (fun _ hk_ => trivial)) (below_size (bk_ HB.out))); have n2_ := A_ (below_step (bk_ HB.out) hb); clear HB; have HO155 := n0_; have HO158 := n1_; have HB := n2_; clear n0_ n1_ n2_; (try clear hb); (try clear hb2); (try clear hk); (try clear hi); (try clear ho0); (try clear ho1)) | ((with_reducible refine gate_dst (N := 8) rfl ?_); (try (refine gate_guard (by rfl) ?_; dsimp only)); refine Kd.R_lit (Kd.int .i64) _ 3 ?hg (N := 8) ?hd (xs := ([0, 0, 0] : List Int)) (inner := [.int .i64 0, .int .i64 0, .int .i64 0]) (ok := fun _ => True) (okp := fun _ => True) ?hr ?hp (fun _ hk => hk) trivial (Below.refl _ _) (Nat.le_refl _) (by simp) ?_; (case hd => rfl); (case hg => rfl); (case hr => first | (go_simp; done) | (go_simp; rfl)); (case hp => exact (Reps.one (show Kd.M (Kd.int .i64) _ _ _ 0 [.int .i64 0] from rfl) (Reps.one (show Kd.M (Kd.int .i64) _ _ _ 0 [.int .i64 0] from rfl) (Reps.one (show Kd.M (Kd.int .i64) _ _ _ 0 [.int .i64 0] from rfl) (Reps.none _ _))))); intro v160 w14 ho15 hb hg_ hnew_; clear hg_ hnew_; (first | rw [← Ny159.out] at ho15 | (simp only [Int.reduceToNat] at ho15; rw [← Ny159.out] at ho15)); have n0_ := A_ (Kd.N_elder' (by (with_reducible repeat (first | apply Kd.N_alloc | apply Kd.N_drewN | apply Kd.N_drew)); exact HO155.out) (Kd.R_base ho15) hb); have n1_ := A_ (Kd.R_below (rk_ HO158.out) hb); have n2_ := A_ (Kd.R_lower ho15 (below_size (bk_ HB.out))); have n3_ := A_ (below_step (bk_ HB.out) hb); clear HO155 HO158 HB; have HO155 := n0_; have HO158 := n1_; have HO161 := n2_; have HB := n3_; clear n0_ n1_ n2_ n3_ hb ho15; obtain ⟨Ao16, co16, eo16⟩ := Kd.N_slice HO155.out; subst eo16; obtain ⟨Ao17, co17, eo17⟩ := Kd.R_slice HO158.out; subst eo17; obtain ⟨Ao18, co18, eo18⟩ := Kd.R_slice HO161.out; subst eo18) | ((with_reducible refine gate_callee (f := 13) rfl ?_); refine goesL_ (some 9) rfl rfl Try.func13 (by kernel_rfl) rfl #[.agg #[.int .i64 t152, .slice Ao16 t153.length co16, .slice Ao17 t156.length co17], .slice Ao18 y159.length co18, .int .i64 4] rfl gl_ ?_; (with_reducible refine (tag_Run.calls k t152 _ _ t153 _ _ t156 _ _ y159 4 t162 t165 t166 _ ?side1 ?side2 ?side3 ?side4 ?side5 ?side6 A2.out).mono ?_); (case side1 => repeat (first | exact (Kd.N_reads' HO155.out).2.2 | (with_reducible refine Kd.C_alloc ?_ _) | (with_reducible refine Kd.C_drewN ?_ _) | (with_reducible refine Kd.C_drew ?_))); (case side2 => exact (Kd.N_reads' HO155.out).2.1); (case side3 => repeat (first | exact (Kd.R_reads' HO158.out).2.2 | (with_reducible refine Kd.C_alloc ?_ _) | (with_reducible refine Kd.C_drewN ?_ _) | (with_reducible refine Kd.C_drew ?_))); (case side4 => exact (Kd.R_reads' HO158.out).2.1); (case side5 => repeat (first | exact (Kd.R_reads' HO161.out).2.2 | (with_reducible refine Kd.C_alloc ?_ _) | (with_reducible refine Kd.C_drewN ?_ _) | (with_reducible refine Kd.C_drew ?_))); (case side6 => exact (Kd.R_reads' HO161.out).2.1); rintro e w19 ⟨v163, rfl, ho0, hb⟩; refine ⟨_, rfl, ?_⟩; have n0_ := A_ (Kd.N_elder' (by (with_reducible repeat (first | apply Kd.N_alloc | apply Kd.N_drewN | apply Kd.N_drew)); exact HO155.out) (Kd.R_base ho0) hb); have n1_ := A_ (Kd.R_below (rk_ HO158.out) hb); have n2_ := A_ (Kd.R_elder' (rk_ HO161.out) (Kd.R_base ho0) hb); have n3_ := A_ (Kd.R_lower (Kd.R_new' ho0 (Kd.R_lt (rk_ HO161.out))) (below_size (bk_ HB.out))); have n4_ := A_ (below_step (bk_ HB.out) hb); clear HO155 HO158 HO161 HB; have HO155 := n0_; have HO158 := n1_; have HO161 := n2_; have HO164 := n3_; have HB := n4_; clear n0_ n1_ n2_ n3_ n4_; (try clear hb); (try clear hb2); (try clear hk); (try clear hi); (try clear ho0)) | ((with_reducible refine gate_callee (f := 42) rfl ?_); refine goesL_ (some 14) rfl rfl Try.func42 (by kernel_rfl) rfl #[] rfl gl_ ?_; (with_reducible refine (standstilllaw07_three.calls  t167 t168 t171 _ A3.out).mono ?_); rintro e w20 ⟨v169, v172, rfl, ho0, ho1, hb⟩; refine ⟨_, rfl, ?_⟩; have n0_ := A_ (Kd.N_mono (Kd.N_told (Kd.N_told (Kd.N_old (by (with_reducible repeat (first | apply Kd.N_alloc | apply Kd.N_drewN | apply Kd.N_drew)); exact HO155.out) hb) (by first | exact Kd.N_base ho0 | exact Kd.S_base ho0 | exact Kd.N_base ho0 | exact Kd.R_base ho0)) (Kd.R_base ho1)) (fun _ h_ => h_.1)); have n1_ := A_ (Kd.R_elder' (rk_ HO158.out) (Kd.R_base ho1) hb); have n2_ := A_ (Kd.R_below (rk_ HO161.out) hb); have n3_ := A_ (Kd.R_below (rk_ HO164.out) hb); have n4_ := A_ (Kd.N_lower (Kd.N_mono (ok' := fun k_ => some k_ ≠ (v172 : Value).ownBlock ∧ some k_ ≠ (.slice Ao16 t153.length co16 : Value).ownBlock ∧ some k_ ≠ (.slice Ao17 t156.length co17 : Value).ownBlock ∧ some k_ ≠ (.slice Ao18 y159.length co18 : Value).ownBlock ∧ some k_ ≠ (v163 : Value).ownBlock) ho0 (fun k_ hk_ => ⟨hk_.2, (Kd.fresh' (Kd.N_lt (by (with_reducible repeat (first | apply Kd.N_alloc | apply Kd.N_drewN | apply Kd.N_drew)); exact HO155.out)) k_ hk_.1), (Kd.fresh' (Kd.R_lt (rk_ HO158.out)) k_ hk_.1), (Kd.fresh' (Kd.R_lt (rk_ HO161.out)) k_ hk_.1), (Kd.fresh' (Kd.R_lt (rk_ HO164.out)) k_ hk_.1)⟩)) (below_size (bk_ HB.out))); have n5_ := A_ (Kd.R_lower (Kd.R_new' (Kd.R_mono (ok' := fun k_ => True) ho1 (fun _ hk_ => trivial)) (Kd.R_lt (rk_ HO158.out))) (below_size (bk_ HB.out))); have n6_ := A_ (below_step (bk_ HB.out) hb); clear HO155 HO158 HO161 HO164 HB; have HO155 := n0_; have HO158 := n1_; have HO161 := n2_; have HO164 := n3_; have HO170 := n4_; have HO173 := n5_; have HB := n6_; clear n0_ n1_ n2_ n3_ n4_ n5_ n6_; (try clear hb); (try clear hb2); (try clear hk); (try clear hi); (try clear ho0); (try clear ho1); obtain ⟨Ao21, co21, eo21⟩ := Kd.N_slice HO170.out; subst eo21; obtain ⟨Ao22, co22, eo22⟩ := Kd.R_slice HO173.out; subst eo22) | ((with_reducible refine gate_callee (f := 35) rfl ?_); refine goesL_ (some 15) rfl rfl Try.func35 (by kernel_rfl) rfl #[.agg #[.int .i64 t167, .slice Ao21 t168.length co21, .slice Ao22 t171.length co22]] rfl gl_ ?_; (with_reducible refine (tag_ToCyclic.calls k t167 _ _ t168 _ _ t171 t174 t177 _ ?side1 ?side2 ?side3 ?side4 A4.out).mono ?_); (case side1 => repeat (first | exact (Kd.N_reads' HO170.out).2.2 | (with_reducible refine Kd.C_alloc ?_ _) | (with_reducible refine Kd.C_drewN ?_ _) | (with_reducible refine Kd.C_drew ?_))); (case side2 => exact (Kd.N_reads' HO170.out).2.1); (case side3 => repeat (first | exact (Kd.R_reads' HO173.out).2.2 | (with_reducible refine Kd.C_alloc ?_ _) | (with_reducible refine Kd.C_drewN ?_ _) | (with_reducible refine Kd.C_drew ?_))); (case side4 => exact (Kd.R_reads' HO173.out).2.1); rintro e w23 ⟨v175, rfl, ho0, hb⟩; refine ⟨_, rfl, ?_⟩; have n0_ := A_ (Kd.N_elder' (by (with_reducible repeat (first | apply Kd.N_alloc | apply Kd.N_drewN | apply Kd.N_drew)); exact HO155.out) (by first | exact Kd.N_base ho0 | exact Kd.S_base ho0 | exact Kd.R_base ho0) hb); have n1_ := A_ (Kd.R_below (rk_ HO158.out) hb); have n2_ := A_ (Kd.R_below (rk_ HO161.out) hb); have n3_ := A_ (Kd.R_below (rk_ HO164.out) hb); have n4_ := A_ (Kd.N_elder' (by (with_reducible repeat (first | apply Kd.N_alloc | apply Kd.N_drewN | apply Kd.N_drew)); exact HO170.out) (by first | exact Kd.N_base ho0 | exact Kd.S_base ho0 | exact Kd.R_base ho0) hb); have n5_ := A_ (Kd.R_below (rk_ HO173.out) hb); have n6_ := A_ (Kd.N_lower (Kd.N_mono (ok' := fun k_ => some k_ ≠ (.slice Ao16 t153.length co16 : Value).ownBlock ∧ some k_ ≠ (.slice Ao17 t156.length co17 : Value).ownBlock ∧ some k_ ≠ (.slice Ao18 y159.length co18 : Value).ownBlock ∧ some k_ ≠ (v163 : Value).ownBlock ∧ some k_ ≠ (.slice Ao21 t168.length co21 : Value).ownBlock ∧ some k_ ≠ (.slice Ao22 t171.length co22 : Value).ownBlock) (Kd.S_N (Kd.S_bound ho0)) (fun k_ hk_ => ⟨(Kd.fresh' (Kd.N_lt (by (with_reducible repeat (first | apply Kd.N_alloc | apply Kd.N_drewN | apply Kd.N_drew)); exact HO155.out)) k_ hk_.2.1), (Kd.fresh' (Kd.R_lt (rk_ HO158.out)) k_ hk_.2.1), (Kd.fresh' (Kd.R_lt (rk_ HO161.out)) k_ hk_.2.1), (Kd.fresh' (Kd.R_lt (rk_ HO164.out)) k_ hk_.2.1), (Kd.fresh' (Kd.N_lt (by (with_reducible repeat (first | apply Kd.N_alloc | apply Kd.N_drewN | apply Kd.N_drew)); exact HO170.out)) k_ hk_.2.1), (Kd.fresh' (Kd.R_lt (rk_ HO173.out)) k_ hk_.2.1)⟩)) (below_size (bk_ HB.out))); have n7_ := A_ (below_step (bk_ HB.out) hb); clear HO155 HO158 HO161 HO164 HO170 HO173 HB; have HO155 := n0_; have HO158 := n1_; have HO161 := n2_; have HO164 := n3_; have HO170 := n4_; have HO173 := n5_; have HO176 := n6_; have HB := n7_; clear n0_ n1_ n2_ n3_ n4_ n5_ n6_ n7_; (try clear hb); (try clear hb2); (try clear hk); (try clear hi); (try clear ho0)) | ((with_reducible refine gate_dst (N := 4) rfl ?_); (try (refine gate_guard (by rfl) ?_; dsimp only)); refine box_event ?hg (N := 4) ?hd (cs := #[.slice none 0 0]) (t := 45) ?hr ?_; (case hd => rfl); (case hg => rfl); (case hr => first | (go_simp; done) | (go_simp; rfl)); intro gb178 hg w24 hbox hb; have n0_ := A_ (Kd.N_below (Kd.N_elderB (by (with_reducible repeat (first | apply Kd.N_alloc | apply Kd.N_drewN | apply Kd.N_drew)); exact HO155.out) gb178 (Nat.le_of_eq hg.symm)) hb); have n1_ := A_ (Kd.R_below (rk_ HO158.out) hb); have n2_ := A_ (Kd.R_below (rk_ HO161.out) hb); have n3_ := A_ (Kd.R_below (rk_ HO164.out) hb); have n4_ := A_ (Kd.N_below (Kd.N_elderB (by (with_reducible repeat (first | apply Kd.N_alloc | apply Kd.N_drewN | apply Kd.N_drew)); exact HO170.out) gb178 (Nat.le_of_eq hg.symm)) hb); have n5_ := A_ (Kd.R_below (rk_ HO173.out) hb); have n6_ := A_ (Kd.N_below (Kd.N_elderB (by (with_reducible repeat (first | apply Kd.N_alloc | apply Kd.N_drewN | apply Kd.N_drew)); exact HO176.out) gb178 (Nat.le_of_eq hg.symm)) hb); have n7_ := A_ (below_step (bk_ HB.out) hb); have n8_ := A_ (hbox); have n9_ := A_ ((by rw [hg]; exact (below_size (bk_ HB.out)) : w.heap.size ≤ gb178)); have n10_ := A_ ((by rw [hg]; exact (below_size (bk_ HB.out)) : w.heap.size ≤ gb178)); clear HO155 HO158 HO161 HO164 HO170 HO173 HO176 HB; have HO155 := n0_; have HO158 := n1_; have HO161 := n2_; have HO164 := n3_; have HO170 := n4_; have HO173 := n5_; have HO176 := n6_; have HB := n7_; have BK178 := n8_; have GW178 := n9_; have GE178 := n10_; clear n0_ n1_ n2_ n3_ n4_ n5_ n6_ n7_ n8_ n9_ n10_ hb hbox hg; obtain ⟨Ao25, co25, eo25⟩ := Kd.N_slice HO176.out; subst eo25; have hcz26_0 : w24.cell? ⟨gb178, 0, none⟩ = some (.slice none 0 0) := (blk_cell BK178.out 0).trans rfl; have hfz26_0 := blk_frozen BK178.out 0) | ((with_reducible refine gate_dst (N := 26) rfl ?_); (try (refine gate_guard (by rfl) ?_; dsimp only)); refine Kd.R_lit (Kd.int .i64) _ 3 ?hg (N := 26) ?hd (xs := ([0, 0, 0, 0, 0] : List Int)) (inner := [.int .i64 0, .int .i64 0, .int .i64 0, .int .i64 0, .int .i64 0]) (ok := fun _ => True) (okp := fun _ => True) ?hr ?hp (fun _ hk => hk) trivial (Below.refl _ _) (Nat.le_refl _) (by simp) ?_; (case hd => rfl); (case hg => rfl); (case hr => first | (go_simp; done) | (go_simp; rfl)); (case hp => exact (Reps.one (show Kd.M (Kd.int .i64) _ _ _ 0 [.int .i64 0] from rfl) (Reps.one (show Kd.M (Kd.int .i64) _ _ _ 0 [.int .i64 0] from rfl) (Reps.one (show Kd.M (Kd.int .i64) _ _ _ 0 [.int .i64 0] from rfl) (Reps.one (show Kd.M (Kd.int .i64) _ _ _ 0 [.int .i64 0] from rfl) (Reps.one (show Kd.M (Kd.int .i64) _ _ _ 0 [.int .i64 0] from rfl) (Reps.none _ _))))))); intro v180 w27 ho28 hb hg_ hnew_; clear hg_ hnew_; (first | rw [← Ny179.out] at ho28 | (simp only [Int.reduceToNat] at ho28; rw [← Ny179.out] at ho28)); have n0_ := A_ (Kd.N_elder' (by (with_reducible repeat (first | apply Kd.N_alloc | apply Kd.N_drewN | apply Kd.N_drew)); exact (Kd.N_mono (Kd.N_far (p := ⟨gb178, 0, none⟩) (Kd.N_mono HO155.out (fun k_ hk => (⟨hk, hk.2⟩ : _ ∧ k_ ≠ gb178))) (fun _ hk => hk.2) (.slice Ao25 t174.length co25)) (fun _ h_ => h_.1))) (Kd.R_base ho28) hb); have n1_ := A_ (Kd.R_below (by (with_reducible repeat (first | apply Kd.R_alloc | apply Kd.R_drewN | apply Kd.R_drew)); exact (Kd.R_mono (Kd.R_far (p := ⟨gb178, 0, none⟩) (Kd.R_types HO158.out BK178.out (by decide)) (fun _ hk => hk.2) (.slice Ao25 t174.length co25)) (fun _ h_ => h_.1))) hb); have n2_ := A_ (Kd.R_elder' (by (with_reducible repeat (first | apply Kd.R_alloc | apply Kd.R_drewN | apply Kd.R_drew)); exact (Kd.R_mono (Kd.R_far (p := ⟨gb178, 0, none⟩) (Kd.R_types HO161.out BK178.out (by decide)) (fun _ hk => hk.2) (.slice Ao25 t174.length co25)) (fun _ h_ => h_.1))) (Kd.R_base ho28) hb); have n3_ := A_ (Kd.R_elder' (by (with_reducible repeat (first | apply Kd.R_alloc | apply Kd.R_drewN | apply Kd.R_drew)); exact (Kd.R_mono (Kd.R_far (p := ⟨gb178, 0, none⟩) (Kd.R_types HO164.out BK178.out (by decide)) (fun _ hk => hk.2) (.slice Ao25 t174.length co25)) (fun _ h_ => h_.1))) (Kd.R_base ho28) hb); have n4_ := A_ (Kd.N_elder' (by (with_reducible repeat (first | apply Kd.N_alloc | apply Kd.N_drewN | apply Kd.N_drew)); exact (Kd.N_mono (Kd.N_far (p := ⟨gb178, 0, none⟩) (Kd.N_mono HO170.out (fun k_ hk => (⟨hk, hk.2⟩ : _ ∧ k_ ≠ gb178))) (fun _ hk => hk.2) (.slice Ao25 t174.length co25)) (fun _ h_ => h_.1))) (Kd.R_base ho28) hb); have n5_ := A_ (Kd.R_below (by (with_reducible repeat (first | apply Kd.R_alloc | apply Kd.R_drewN | apply Kd.R_drew)); exact (Kd.R_mono (Kd.R_far (p := ⟨gb178, 0, none⟩) (Kd.R_types HO173.out BK178.out (by decide)) (fun _ hk => hk.2) (.slice Ao25 t174.length co25)) (fun _ h_ => h_.1))) hb); have n6_ := A_ (Kd.N_elder' (by (with_reducible repeat (first | apply Kd.N_alloc | apply Kd.N_drewN | apply Kd.N_drew)); exact (Kd.N_mono (Kd.N_far (p := ⟨gb178, 0, none⟩) (Kd.N_mono HO176.out (fun k_ hk => (⟨hk, hk.2⟩ : _ ∧ k_ ≠ gb178))) (fun _ hk => hk.2) (.slice Ao25 t174.length co25)) (fun _ h_ => h_.1))) (Kd.R_base ho28) hb); have n7_ := A_ (Kd.R_lower (Kd.R_new' (Kd.R_new' ho28 (Kd.R_lt (by (with_reducible repeat (first | apply Kd.R_alloc | apply Kd.R_drewN | apply Kd.R_drew)); exact (Kd.R_mono (Kd.R_far (p := ⟨gb178, 0, none⟩) (Kd.R_types HO161.out BK178.out (by decide)) (fun _ hk => hk.2) (.slice Ao25 t174.length co25)) (fun _ h_ => h_.1))))) (Kd.R_lt (by (with_reducible repeat (first | apply Kd.R_alloc | apply Kd.R_drewN | apply Kd.R_drew)); exact (Kd.R_mono (Kd.R_far (p := ⟨gb178, 0, none⟩) (Kd.R_types HO164.out BK178.out (by decide)) (fun _ hk => hk.2) (.slice Ao25 t174.length co25)) (fun _ h_ => h_.1))))) (below_size (bk_ HB.out))); have n8_ := A_ (blk_below (g := gb178) (o := .cells #[.slice Ao25 t174.length co25] 45 (0, 0)) (by refine pk_ ?_; refine blk_put (cs := #[.slice none 0 0]) ?_ 0 _ rfl; exact pk_ BK178.out) hb); have n9_ := A_ (below_step (bk_ HB.out) hb); clear HO155 HO158 HO161 HO164 HO170 HO173 HO176 BK178 HB; have HO155 := n0_; have HO158 := n1_; have HO161 := n2_; have HO164 := n3_; have HO170 := n4_; have HO173 := n5_; have HO176 := n6_; have HO181 := n7_; have BK178 := n8_; have HB := n9_; clear n0_ n1_ n2_ n3_ n4_ n5_ n6_ n7_ n8_ n9_ hb ho28; obtain ⟨Ao29, co29, eo29⟩ := Kd.R_slice HO164.out; subst eo29; obtain ⟨Ao30, co30, eo30⟩ := Kd.R_slice HO181.out; subst eo30) | (go_at_call 14; (with_reducible refine (standstillref07_Same.calls k _ _ t162 _ _ y179 true _ ?side1 ?side2 ?side3 ?side4 A7.out).mono ?_); (case side1 => repeat (first | exact (Kd.R_reads' HO164.out).2.2 | (with_reducible refine Kd.C_alloc ?_ _) | (with_reducible refine Kd.C_drewN ?_ _) | (with_reducible refine Kd.C_drew ?_))); (case side2 => exact (Kd.R_reads' HO164.out).2.1); (case side3 => repeat (first | exact (Kd.R_reads' HO181.out).2.2 | (with_reducible refine Kd.C_alloc ?_ _) | (with_reducible refine Kd.C_drewN ?_ _) | (with_reducible refine Kd.C_drew ?_))); (case side4 => exact (Kd.R_reads' HO181.out).2.1); rintro e w' ⟨rfl, ⟨nd, rfl⟩⟩; have hcz31_0 : w27.cell? ⟨gb178, 0, none⟩ = some (.slice Ao25 t174.length co25) := (blk_cell BK178.out 0).trans rfl; have hfz31_0 := blk_frozen BK178.out 0; have p183 : 0 ≤ (0 : Int) := (by omega); have q183 : 0 < (t174.length : Int) := od_; obtain ⟨ad183, A183_0, c183_0, e183, hx183_0, hl183_0, hi183_0⟩ := at_L1 (Kd.N_reads' HO176.out).2.2 0 p183 q183; cases e183; obtain ⟨ce183, hce183, hMe183, hcc183⟩ := Kd.N_get HO176.out [] 0 p183 (by first | exact q183 | exact od_ | (have e_ := (Kd.N_reads' HO176.out).1; omega)); obtain ⟨ua183_0, uc183_0, rfl, ul183_0, ge183_0⟩ := Kd.FK_slice_open hMe183; have hv183_0 := hcc183 0 _ rfl; rw [Nat.add_zero, show ((Kd.slice 3 (Kd.int .i64))).sz = 1 from rfl, Nat.mul_one] at hv183_0; replace hv183_0 := Option.some.inj (hv183_0.symm.trans hx183_0); injection hv183_0 with hva_ hvn_ hvc_; rw [hva_] at ge183_0; rw [hvc_] at ul183_0; have HL183_0 := A_ (show Kd.V (Kd.int .i64) 3 _ w.heap.size _ _ (rd_L1 t174 0) from Kd.V_mk ul183_0 ge183_0); clear hva_ hvn_ hvc_ ge183_0 ul183_0 hcc183 hce183; have qi183 : (0 < t174.length) = True := eq_true (by omega); (try rw [show ((0 : Int)).toNat = 0 from rfl] at hx183_0); (try rw [Addr.add_zero'] at hx183_0); have HR183_0 := Aside0.mk hi183_0; have HC183_0 := Aside0.mk hl183_0; clear hi183_0 hl183_0; replace p183 := eq_true p183; replace q183 := eq_true q183) | ((with_reducible refine gate_dst (N := 44) rfl ?_); (try (refine gate_guard (by rfl) ?_; dsimp only)); refine Kd.R_lit (Kd.int .i64) _ 3 ?hg (N := 44) ?hd (xs := ([0, 1, 0, 0, 0, 1] : List Int)) (inner := [.int .i64 0, .int .i64 1, .int .i64 0, .int .i64 0, .int .i64 0, .int .i64 1]) (ok := fun _ => True) (okp := fun _ => True) ?hr ?hp (fun _ hk => hk) trivial (Below.refl _ _) (Nat.le_refl _) (by simp) ?_; (case hd => rfl); (case hg => rfl); (case hr => first | (go_simp; done) | (go_simp; rfl)); (case hp => exact (Reps.one (show Kd.M (Kd.int .i64) _ _ _ 0 [.int .i64 0] from rfl) (Reps.one (show Kd.M (Kd.int .i64) _ _ _ 1 [.int .i64 1] from rfl) (Reps.one (show Kd.M (Kd.int .i64) _ _ _ 0 [.int .i64 0] from rfl) (Reps.one (show Kd.M (Kd.int .i64) _ _ _ 0 [.int .i64 0] from rfl) (Reps.one (show Kd.M (Kd.int .i64) _ _ _ 0 [.int .i64 0] from rfl) (Reps.one (show Kd.M (Kd.int .i64) _ _ _ 1 [.int .i64 1] from rfl) (Reps.none _ _)))))))); intro v185 w32 ho33 hb hg_ hnew_; clear hg_ hnew_; (first | rw [← Ny184.out] at ho33 | (simp only [Int.reduceToNat] at ho33; rw [← Ny184.out] at ho33)); have n0_ := A_ (Kd.N_elder' (by (with_reducible repeat (first | apply Kd.N_alloc | apply Kd.N_drewN | apply Kd.N_drew)); exact HO155.out) (Kd.R_base ho33) hb); have n1_ := A_ (Kd.R_below (rk_ HO158.out) hb); have n2_ := A_ (Kd.R_elder' (rk_ HO161.out) (Kd.R_base ho33) hb); have n3_ := A_ (Kd.R_elder' (rk_ HO164.out) (Kd.R_base ho33) hb); have n4_ := A_ (Kd.N_elder' (by (with_reducible repeat (first | apply Kd.N_alloc | apply Kd.N_drewN | apply Kd.N_drew)); exact HO170.out) (Kd.R_base ho33) hb); have n5_ := A_ (Kd.R_below (rk_ HO173.out) hb); have n6_ := A_ (Kd.N_elder' (by (with_reducible repeat (first | apply Kd.N_alloc | apply Kd.N_drewN | apply Kd.N_drew)); exact HO176.out) (Kd.R_base ho33) hb); have n7_ := A_ (Kd.R_elder' (rk_ HO181.out) (Kd.R_base ho33) hb); have n8_ := A_ (Kd.V_elder' (by (with_reducible repeat (first | apply Kd.V_alloc | apply Kd.V_drewN | apply Kd.V_drew)); exact HL183_0.out) (Kd.R_base ho33) hb); have n9_ := A_ (Kd.R_lower (Kd.R_new' (Kd.R_new' (Kd.R_new' ho33 (Kd.R_lt (rk_ HO161.out))) (Kd.R_lt (rk_ HO164.out))) (Kd.R_lt (rk_ HO181.out))) (below_size (bk_ HB.out))); have n10_ := A_ (blk_below (pk_ BK178.out) hb); have n11_ := A_ (Kd.C_below (by repeat (first | (with_reducible exact HR183_0.out) | (with_reducible refine Kd.C_alloc ?_ _) | (with_reducible refine Kd.C_drewN ?_ _) | (with_reducible refine Kd.C_drew ?_) | exact HR183_0.out)) hb); have n12_ := A_ (below_step (bk_ HB.out) hb); clear HO155 HO158 HO161 HO164 HO170 HO173 HO176 HO181 HL183_0 BK178 HR183_0 HB; have HO155 := n0_; have HO158 := n1_; have HO161 := n2_; have HO164 := n3_; have HO170 := n4_; have HO173 := n5_; have HO176 := n6_; have HO181 := n7_; have HL183_0 := n8_; have HO186 := n9_; have BK178 := n10_; have HR183_0 := n11_; have HB := n12_; clear n0_ n1_ n2_ n3_ n4_ n5_ n6_ n7_ n8_ n9_ n10_ n11_ n12_ hb ho33; obtain ⟨Ao34, co34, eo34⟩ := Kd.R_slice HO186.out; subst eo34) | (go_at_call 14; (with_reducible refine (standstillref07_Same.calls k _ _ (rd_L1 t174 0) _ _ y184 t187 _ ?side1 ?side2 ?side3 ?side4 A12.out).mono ?_); (case side1 => repeat (first | exact (by repeat (first | (with_reducible exact HR183_0.out) | (with_reducible refine Kd.C_alloc ?_ _) | (with_reducible refine Kd.C_drewN ?_ _) | (with_reducible refine Kd.C_drew ?_) | exact HR183_0.out)) | (with_reducible refine Kd.C_alloc ?_ _) | (with_reducible refine Kd.C_drewN ?_ _) | (with_reducible refine Kd.C_drew ?_))); (case side2 => exact HC183_0.out); (case side3 => repeat (first | exact (Kd.R_reads' HO186.out).2.2 | (with_reducible refine Kd.C_alloc ?_ _) | (with_reducible refine Kd.C_drewN ?_ _) | (with_reducible refine Kd.C_drew ?_))); (case side4 => exact (Kd.R_reads' HO186.out).2.1); rintro e w' ⟨rfl, ⟨nd, rfl⟩⟩))
       go_ret
       exact ⟨er_, bk_ HB.out⟩
      ·rw [if_neg c11] at H
       exact absurd H (by simp)
     ·rw [if_neg c10] at H
      have c10b0 : ((t174.length : Int) == 6) = false := beq_eq_false_iff_ne.mpr c10
      have c10b1 : ((t174.length : Int) != 6) = true := bne_iff_ne.mpr c10
      obtain rfl := Option.some.inj H
      go_enter Try.func11, Try.ntmps11
      go_wp2_with (first | ((with_reducible refine gate_callee (f := 42) rfl ?_); refine goesL_ (some 7) rfl rfl Try.func42 (by kernel_rfl) rfl #[] rfl gl_ ?_; (with_reducible refine (standstilllaw07_three.calls  t152 t153 t156 _ A1.out).mono ?_); rintro e w35 ⟨v154, v157, rfl, ho0, ho1, hb⟩; refine ⟨_, rfl, ?_⟩; have n0_ := A_ (Kd.N_lower (Kd.N_mono (ok' := fun k_ => some k_ ≠ (v157 : Value).ownBlock) ho0 (fun k_ hk_ => hk_.2)) (below_size (bk_ HB.out))); have n1_ := A_ (Kd.R_lower (Kd.R_mono (ok' := fun k_ => True) ho1 (fun _ hk_ => trivial)) (below_size (bk_ HB.out))); have n2_ := A_ (below_step (bk_ HB.out) hb); clear HB; have HO155 := n0_; have HO158 := n1_; have HB := n2_; clear n0_ n1_ n2_; (try clear hb); (try clear hb2); (try clear hk); (try clear hi); (try clear ho0); (try clear ho1)) | ((with_reducible refine gate_dst (N := 8) rfl ?_); (try (refine gate_guard (by rfl) ?_; dsimp only)); refine Kd.R_lit (Kd.int .i64) _ 3 ?hg (N := 8) ?hd (xs := ([0, 0, 0] : List Int)) (inner := [.int .i64 0, .int .i64 0, .int .i64 0]) (ok := fun _ => True) (okp := fun _ => True) ?hr ?hp (fun _ hk => hk) trivial (Below.refl _ _) (Nat.le_refl _) (by simp) ?_; (case hd => rfl); (case hg => rfl); (case hr => first | (go_simp; done) | (go_simp; rfl)); (case hp => exact (Reps.one (show Kd.M (Kd.int .i64) _ _ _ 0 [.int .i64 0] from rfl) (Reps.one (show Kd.M (Kd.int .i64) _ _ _ 0 [.int .i64 0] from rfl) (Reps.one (show Kd.M (Kd.int .i64) _ _ _ 0 [.int .i64 0] from rfl) (Reps.none _ _))))); intro v160 w36 ho37 hb hg_ hnew_; clear hg_ hnew_; (first | rw [← Ny159.out] at ho37 | (simp only [Int.reduceToNat] at ho37; rw [← Ny159.out] at ho37)); have n0_ := A_ (Kd.N_elder' (by (with_reducible repeat (first | apply Kd.N_alloc | apply Kd.N_drewN | apply Kd.N_drew)); exact HO155.out) (Kd.R_base ho37) hb); have n1_ := A_ (Kd.R_below (rk_ HO158.out) hb); have n2_ := A_ (Kd.R_lower ho37 (below_size (bk_ HB.out))); have n3_ := A_ (below_step (bk_ HB.out) hb); clear HO155 HO158 HB; have HO155 := n0_; have HO158 := n1_; have HO161 := n2_; have HB := n3_; clear n0_ n1_ n2_ n3_ hb ho37; obtain ⟨Ao38, co38, eo38⟩ := Kd.N_slice HO155.out; subst eo38; obtain ⟨Ao39, co39, eo39⟩ := Kd.R_slice HO158.out; subst eo39; obtain ⟨Ao40, co40, eo40⟩ := Kd.R_slice HO161.out; subst eo40) | ((with_reducible refine gate_callee (f := 13) rfl ?_); refine goesL_ (some 9) rfl rfl Try.func13 (by kernel_rfl) rfl #[.agg #[.int .i64 t152, .slice Ao38 t153.length co38, .slice Ao39 t156.length co39], .slice Ao40 y159.length co40, .int .i64 4] rfl gl_ ?_; (with_reducible refine (tag_Run.calls k t152 _ _ t153 _ _ t156 _ _ y159 4 t162 t165 t166 _ ?side1 ?side2 ?side3 ?side4 ?side5 ?side6 A2.out).mono ?_); (case side1 => repeat (first | exact (Kd.N_reads' HO155.out).2.2 | (with_reducible refine Kd.C_alloc ?_ _) | (with_reducible refine Kd.C_drewN ?_ _) | (with_reducible refine Kd.C_drew ?_))); (case side2 => exact (Kd.N_reads' HO155.out).2.1); (case side3 => repeat (first | exact (Kd.R_reads' HO158.out).2.2 | (with_reducible refine Kd.C_alloc ?_ _) | (with_reducible refine Kd.C_drewN ?_ _) | (with_reducible refine Kd.C_drew ?_))); (case side4 => exact (Kd.R_reads' HO158.out).2.1); (case side5 => repeat (first | exact (Kd.R_reads' HO161.out).2.2 | (with_reducible refine Kd.C_alloc ?_ _) | (with_reducible refine Kd.C_drewN ?_ _) | (with_reducible refine Kd.C_drew ?_))); (case side6 => exact (Kd.R_reads' HO161.out).2.1); rintro e w41 ⟨v163, rfl, ho0, hb⟩; refine ⟨_, rfl, ?_⟩; have n0_ := A_ (Kd.N_elder' (by (with_reducible repeat (first | apply Kd.N_alloc | apply Kd.N_drewN | apply Kd.N_drew)); exact HO155.out) (Kd.R_base ho0) hb); have n1_ := A_ (Kd.R_below (rk_ HO158.out) hb); have n2_ := A_ (Kd.R_elder' (rk_ HO161.out) (Kd.R_base ho0) hb); have n3_ := A_ (Kd.R_lower (Kd.R_new' ho0 (Kd.R_lt (rk_ HO161.out))) (below_size (bk_ HB.out))); have n4_ := A_ (below_step (bk_ HB.out) hb); clear HO155 HO158 HO161 HB; have HO155 := n0_; have HO158 := n1_; have HO161 := n2_; have HO164 := n3_; have HB := n4_; clear n0_ n1_ n2_ n3_ n4_; (try clear hb); (try clear hb2); (try clear hk); (try clear hi); (try clear ho0)) | ((with_reducible refine gate_callee (f := 42) rfl ?_); refine goesL_ (some 14) rfl rfl Try.func42 (by kernel_rfl) rfl #[] rfl gl_ ?_; (with_reducible refine (standstilllaw07_three.calls  t167 t168 t171 _ A3.out).mono ?_); rintro e w42 ⟨v169, v172, rfl, ho0, ho1, hb⟩; refine ⟨_, rfl, ?_⟩; have n0_ := A_ (Kd.N_mono (Kd.N_told (Kd.N_told (Kd.N_old (by (with_reducible repeat (first | apply Kd.N_alloc | apply Kd.N_drewN | apply Kd.N_drew)); exact HO155.out) hb) (by first | exact Kd.N_base ho0 | exact Kd.S_base ho0 | exact Kd.N_base ho0 | exact Kd.R_base ho0)) (Kd.R_base ho1)) (fun _ h_ => h_.1)); have n1_ := A_ (Kd.R_elder' (rk_ HO158.out) (Kd.R_base ho1) hb); have n2_ := A_ (Kd.R_below (rk_ HO161.out) hb); have n3_ := A_ (Kd.R_below (rk_ HO164.out) hb); have n4_ := A_ (Kd.N_lower (Kd.N_mono (ok' := fun k_ => some k_ ≠ (v172 : Value).ownBlock ∧ some k_ ≠ (.slice Ao38 t153.length co38 : Value).ownBlock ∧ some k_ ≠ (.slice Ao39 t156.length co39 : Value).ownBlock ∧ some k_ ≠ (.slice Ao40 y159.length co40 : Value).ownBlock ∧ some k_ ≠ (v163 : Value).ownBlock) ho0 (fun k_ hk_ => ⟨hk_.2, (Kd.fresh' (Kd.N_lt (by (with_reducible repeat (first | apply Kd.N_alloc | apply Kd.N_drewN | apply Kd.N_drew)); exact HO155.out)) k_ hk_.1), (Kd.fresh' (Kd.R_lt (rk_ HO158.out)) k_ hk_.1), (Kd.fresh' (Kd.R_lt (rk_ HO161.out)) k_ hk_.1), (Kd.fresh' (Kd.R_lt (rk_ HO164.out)) k_ hk_.1)⟩)) (below_size (bk_ HB.out))); have n5_ := A_ (Kd.R_lower (Kd.R_new' (Kd.R_mono (ok' := fun k_ => True) ho1 (fun _ hk_ => trivial)) (Kd.R_lt (rk_ HO158.out))) (below_size (bk_ HB.out))); have n6_ := A_ (below_step (bk_ HB.out) hb); clear HO155 HO158 HO161 HO164 HB; have HO155 := n0_; have HO158 := n1_; have HO161 := n2_; have HO164 := n3_; have HO170 := n4_; have HO173 := n5_; have HB := n6_; clear n0_ n1_ n2_ n3_ n4_ n5_ n6_; (try clear hb); (try clear hb2); (try clear hk); (try clear hi); (try clear ho0); (try clear ho1); obtain ⟨Ao43, co43, eo43⟩ := Kd.N_slice HO170.out; subst eo43; obtain ⟨Ao44, co44, eo44⟩ := Kd.R_slice HO173.out; subst eo44) | ((with_reducible refine gate_callee (f := 35) rfl ?_); refine goesL_ (some 15) rfl rfl Try.func35 (by kernel_rfl) rfl #[.agg #[.int .i64 t167, .slice Ao43 t168.length co43, .slice Ao44 t171.length co44]] rfl gl_ ?_; (with_reducible refine (tag_ToCyclic.calls k t167 _ _ t168 _ _ t171 t174 t177 _ ?side1 ?side2 ?side3 ?side4 A4.out).mono ?_); (case side1 => repeat (first | exact (Kd.N_reads' HO170.out).2.2 | (with_reducible refine Kd.C_alloc ?_ _) | (with_reducible refine Kd.C_drewN ?_ _) | (with_reducible refine Kd.C_drew ?_))); (case side2 => exact (Kd.N_reads' HO170.out).2.1); (case side3 => repeat (first | exact (Kd.R_reads' HO173.out).2.2 | (with_reducible refine Kd.C_alloc ?_ _) | (with_reducible refine Kd.C_drewN ?_ _) | (with_reducible refine Kd.C_drew ?_))); (case side4 => exact (Kd.R_reads' HO173.out).2.1); rintro e w45 ⟨v175, rfl, ho0, hb⟩; refine ⟨_, rfl, ?_⟩; have n0_ := A_ (Kd.N_elder' (by (with_reducible repeat (first | apply Kd.N_alloc | apply Kd.N_drewN | apply Kd.N_drew)); exact HO155.out) (by first | exact Kd.N_base ho0 | exact Kd.S_base ho0 | exact Kd.R_base ho0) hb); have n1_ := A_ (Kd.R_below (rk_ HO158.out) hb); have n2_ := A_ (Kd.R_below (rk_ HO161.out) hb); have n3_ := A_ (Kd.R_below (rk_ HO164.out) hb); have n4_ := A_ (Kd.N_elder' (by (with_reducible repeat (first | apply Kd.N_alloc | apply Kd.N_drewN | apply Kd.N_drew)); exact HO170.out) (by first | exact Kd.N_base ho0 | exact Kd.S_base ho0 | exact Kd.R_base ho0) hb); have n5_ := A_ (Kd.R_below (rk_ HO173.out) hb); have n6_ := A_ (Kd.N_lower (Kd.N_mono (ok' := fun k_ => some k_ ≠ (.slice Ao38 t153.length co38 : Value).ownBlock ∧ some k_ ≠ (.slice Ao39 t156.length co39 : Value).ownBlock ∧ some k_ ≠ (.slice Ao40 y159.length co40 : Value).ownBlock ∧ some k_ ≠ (v163 : Value).ownBlock ∧ some k_ ≠ (.slice Ao43 t168.length co43 : Value).ownBlock ∧ some k_ ≠ (.slice Ao44 t171.length co44 : Value).ownBlock) (Kd.S_N (Kd.S_bound ho0)) (fun k_ hk_ => ⟨(Kd.fresh' (Kd.N_lt (by (with_reducible repeat (first | apply Kd.N_alloc | apply Kd.N_drewN | apply Kd.N_drew)); exact HO155.out)) k_ hk_.2.1), (Kd.fresh' (Kd.R_lt (rk_ HO158.out)) k_ hk_.2.1), (Kd.fresh' (Kd.R_lt (rk_ HO161.out)) k_ hk_.2.1), (Kd.fresh' (Kd.R_lt (rk_ HO164.out)) k_ hk_.2.1), (Kd.fresh' (Kd.N_lt (by (with_reducible repeat (first | apply Kd.N_alloc | apply Kd.N_drewN | apply Kd.N_drew)); exact HO170.out)) k_ hk_.2.1), (Kd.fresh' (Kd.R_lt (rk_ HO173.out)) k_ hk_.2.1)⟩)) (below_size (bk_ HB.out))); have n7_ := A_ (below_step (bk_ HB.out) hb); clear HO155 HO158 HO161 HO164 HO170 HO173 HB; have HO155 := n0_; have HO158 := n1_; have HO161 := n2_; have HO164 := n3_; have HO170 := n4_; have HO173 := n5_; have HO176 := n6_; have HB := n7_; clear n0_ n1_ n2_ n3_ n4_ n5_ n6_ n7_; (try clear hb); (try clear hb2); (try clear hk); (try clear hi); (try clear ho0)) | ((with_reducible refine gate_dst (N := 4) rfl ?_); (try (refine gate_guard (by rfl) ?_; dsimp only)); refine box_event ?hg (N := 4) ?hd (cs := #[.slice none 0 0]) (t := 45) ?hr ?_; (case hd => rfl); (case hg => rfl); (case hr => first | (go_simp; done) | (go_simp; rfl)); intro gb178 hg w46 hbox hb; have n0_ := A_ (Kd.N_below (Kd.N_elderB (by (with_reducible repeat (first | apply Kd.N_alloc | apply Kd.N_drewN | apply Kd.N_drew)); exact HO155.out) gb178 (Nat.le_of_eq hg.symm)) hb); have n1_ := A_ (Kd.R_below (rk_ HO158.out) hb); have n2_ := A_ (Kd.R_below (rk_ HO161.out) hb); have n3_ := A_ (Kd.R_below (rk_ HO164.out) hb); have n4_ := A_ (Kd.N_below (Kd.N_elderB (by (with_reducible repeat (first | apply Kd.N_alloc | apply Kd.N_drewN | apply Kd.N_drew)); exact HO170.out) gb178 (Nat.le_of_eq hg.symm)) hb); have n5_ := A_ (Kd.R_below (rk_ HO173.out) hb); have n6_ := A_ (Kd.N_below (Kd.N_elderB (by (with_reducible repeat (first | apply Kd.N_alloc | apply Kd.N_drewN | apply Kd.N_drew)); exact HO176.out) gb178 (Nat.le_of_eq hg.symm)) hb); have n7_ := A_ (below_step (bk_ HB.out) hb); have n8_ := A_ (hbox); have n9_ := A_ ((by rw [hg]; exact (below_size (bk_ HB.out)) : w.heap.size ≤ gb178)); have n10_ := A_ ((by rw [hg]; exact (below_size (bk_ HB.out)) : w.heap.size ≤ gb178)); clear HO155 HO158 HO161 HO164 HO170 HO173 HO176 HB; have HO155 := n0_; have HO158 := n1_; have HO161 := n2_; have HO164 := n3_; have HO170 := n4_; have HO173 := n5_; have HO176 := n6_; have HB := n7_; have BK178 := n8_; have GW178 := n9_; have GE178 := n10_; clear n0_ n1_ n2_ n3_ n4_ n5_ n6_ n7_ n8_ n9_ n10_ hb hbox hg; obtain ⟨Ao47, co47, eo47⟩ := Kd.N_slice HO176.out; subst eo47; have hcz48_0 : w46.cell? ⟨gb178, 0, none⟩ = some (.slice none 0 0) := (blk_cell BK178.out 0).trans rfl; have hfz48_0 := blk_frozen BK178.out 0) | ((with_reducible refine gate_dst (N := 26) rfl ?_); (try (refine gate_guard (by rfl) ?_; dsimp only)); refine Kd.R_lit (Kd.int .i64) _ 3 ?hg (N := 26) ?hd (xs := ([0, 0, 0, 0, 0] : List Int)) (inner := [.int .i64 0, .int .i64 0, .int .i64 0, .int .i64 0, .int .i64 0]) (ok := fun _ => True) (okp := fun _ => True) ?hr ?hp (fun _ hk => hk) trivial (Below.refl _ _) (Nat.le_refl _) (by simp) ?_; (case hd => rfl); (case hg => rfl); (case hr => first | (go_simp; done) | (go_simp; rfl)); (case hp => exact (Reps.one (show Kd.M (Kd.int .i64) _ _ _ 0 [.int .i64 0] from rfl) (Reps.one (show Kd.M (Kd.int .i64) _ _ _ 0 [.int .i64 0] from rfl) (Reps.one (show Kd.M (Kd.int .i64) _ _ _ 0 [.int .i64 0] from rfl) (Reps.one (show Kd.M (Kd.int .i64) _ _ _ 0 [.int .i64 0] from rfl) (Reps.one (show Kd.M (Kd.int .i64) _ _ _ 0 [.int .i64 0] from rfl) (Reps.none _ _))))))); intro v180 w49 ho50 hb hg_ hnew_; clear hg_ hnew_; (first | rw [← Ny179.out] at ho50 | (simp only [Int.reduceToNat] at ho50; rw [← Ny179.out] at ho50)); have n0_ := A_ (Kd.N_elder' (by (with_reducible repeat (first | apply Kd.N_alloc | apply Kd.N_drewN | apply Kd.N_drew)); exact (Kd.N_mono (Kd.N_far (p := ⟨gb178, 0, none⟩) (Kd.N_mono HO155.out (fun k_ hk => (⟨hk, hk.2⟩ : _ ∧ k_ ≠ gb178))) (fun _ hk => hk.2) (.slice Ao47 t174.length co47)) (fun _ h_ => h_.1))) (Kd.R_base ho50) hb); have n1_ := A_ (Kd.R_below (by (with_reducible repeat (first | apply Kd.R_alloc | apply Kd.R_drewN | apply Kd.R_drew)); exact (Kd.R_mono (Kd.R_far (p := ⟨gb178, 0, none⟩) (Kd.R_types HO158.out BK178.out (by decide)) (fun _ hk => hk.2) (.slice Ao47 t174.length co47)) (fun _ h_ => h_.1))) hb); have n2_ := A_ (Kd.R_elder' (by (with_reducible repeat (first | apply Kd.R_alloc | apply Kd.R_drewN | apply Kd.R_drew)); exact (Kd.R_mono (Kd.R_far (p := ⟨gb178, 0, none⟩) (Kd.R_types HO161.out BK178.out (by decide)) (fun _ hk => hk.2) (.slice Ao47 t174.length co47)) (fun _ h_ => h_.1))) (Kd.R_base ho50) hb); have n3_ := A_ (Kd.R_elder' (by (with_reducible repeat (first | apply Kd.R_alloc | apply Kd.R_drewN | apply Kd.R_drew)); exact (Kd.R_mono (Kd.R_far (p := ⟨gb178, 0, none⟩) (Kd.R_types HO164.out BK178.out (by decide)) (fun _ hk => hk.2) (.slice Ao47 t174.length co47)) (fun _ h_ => h_.1))) (Kd.R_base ho50) hb); have n4_ := A_ (Kd.N_elder' (by (with_reducible repeat (first | apply Kd.N_alloc | apply Kd.N_drewN | apply Kd.N_drew)); exact (Kd.N_mono (Kd.N_far (p := ⟨gb178, 0, none⟩) (Kd.N_mono HO170.out (fun k_ hk => (⟨hk, hk.2⟩ : _ ∧ k_ ≠ gb178))) (fun _ hk => hk.2) (.slice Ao47 t174.length co47)) (fun _ h_ => h_.1))) (Kd.R_base ho50) hb); have n5_ := A_ (Kd.R_below (by (with_reducible repeat (first | apply Kd.R_alloc | apply Kd.R_drewN | apply Kd.R_drew)); exact (Kd.R_mono (Kd.R_far (p := ⟨gb178, 0, none⟩) (Kd.R_types HO173.out BK178.out (by decide)) (fun _ hk => hk.2) (.slice Ao47 t174.length co47)) (fun _ h_ => h_.1))) hb); have n6_ := A_ (Kd.N_elder' (by (with_reducible repeat (first | apply Kd.N_alloc | apply Kd.N_drewN | apply Kd.N_drew)); exact (Kd.N_mono (Kd.N_far (p := ⟨gb178, 0, none⟩) (Kd.N_mono HO176.out (fun k_ hk => (⟨hk, hk.2⟩ : _ ∧ k_ ≠ gb178))) (fun _ hk => hk.2) (.slice Ao47 t174.length co47)) (fun _ h_ => h_.1))) (Kd.R_base ho50) hb); have n7_ := A_ (Kd.R_lower (Kd.R_new' (Kd.R_new' ho50 (Kd.R_lt (by (with_reducible repeat (first | apply Kd.R_alloc | apply Kd.R_drewN | apply Kd.R_drew)); exact (Kd.R_mono (Kd.R_far (p := ⟨gb178, 0, none⟩) (Kd.R_types HO161.out BK178.out (by decide)) (fun _ hk => hk.2) (.slice Ao47 t174.length co47)) (fun _ h_ => h_.1))))) (Kd.R_lt (by (with_reducible repeat (first | apply Kd.R_alloc | apply Kd.R_drewN | apply Kd.R_drew)); exact (Kd.R_mono (Kd.R_far (p := ⟨gb178, 0, none⟩) (Kd.R_types HO164.out BK178.out (by decide)) (fun _ hk => hk.2) (.slice Ao47 t174.length co47)) (fun _ h_ => h_.1))))) (below_size (bk_ HB.out))); have n8_ := A_ (blk_below (g := gb178) (o := .cells #[.slice Ao47 t174.length co47] 45 (0, 0)) (by refine pk_ ?_; refine blk_put (cs := #[.slice none 0 0]) ?_ 0 _ rfl; exact pk_ BK178.out) hb); have n9_ := A_ (below_step (bk_ HB.out) hb); clear HO155 HO158 HO161 HO164 HO170 HO173 HO176 BK178 HB; have HO155 := n0_; have HO158 := n1_; have HO161 := n2_; have HO164 := n3_; have HO170 := n4_; have HO173 := n5_; have HO176 := n6_; have HO181 := n7_; have BK178 := n8_; have HB := n9_; clear n0_ n1_ n2_ n3_ n4_ n5_ n6_ n7_ n8_ n9_ hb ho50; obtain ⟨Ao51, co51, eo51⟩ := Kd.R_slice HO164.out; subst eo51; obtain ⟨Ao52, co52, eo52⟩ := Kd.R_slice HO181.out; subst eo52) | (go_at_call 14; (with_reducible refine (standstillref07_Same.calls k _ _ t162 _ _ y179 true _ ?side1 ?side2 ?side3 ?side4 A7.out).mono ?_); (case side1 => repeat (first | exact (Kd.R_reads' HO164.out).2.2 | (with_reducible refine Kd.C_alloc ?_ _) | (with_reducible refine Kd.C_drewN ?_ _) | (with_reducible refine Kd.C_drew ?_))); (case side2 => exact (Kd.R_reads' HO164.out).2.1); (case side3 => repeat (first | exact (Kd.R_reads' HO181.out).2.2 | (with_reducible refine Kd.C_alloc ?_ _) | (with_reducible refine Kd.C_drewN ?_ _) | (with_reducible refine Kd.C_drew ?_))); (case side4 => exact (Kd.R_reads' HO181.out).2.1); rintro e w' ⟨rfl, ⟨nd, rfl⟩⟩; have hcz53_0 : w49.cell? ⟨gb178, 0, none⟩ = some (.slice Ao47 t174.length co47) := (blk_cell BK178.out 0).trans rfl; have hfz53_0 := blk_frozen BK178.out 0))
      go_ret
      exact ⟨er_, bk_ HB.out⟩
    ·rw [if_neg c9] at H
     have c9b0 : (t177 == 0) = false := beq_eq_false_iff_ne.mpr c9
     have c9b1 : (t177 != 0) = true := bne_iff_ne.mpr c9
     obtain rfl := Option.some.inj H
     go_enter Try.func11, Try.ntmps11
     go_wp2_with (first | ((with_reducible refine gate_callee (f := 42) rfl ?_); refine goesL_ (some 7) rfl rfl Try.func42 (by kernel_rfl) rfl #[] rfl gl_ ?_; (with_reducible refine (standstilllaw07_three.calls  t152 t153 t156 _ A1.out).mono ?_); rintro e w54 ⟨v154, v157, rfl, ho0, ho1, hb⟩; refine ⟨_, rfl, ?_⟩; have n0_ := A_ (Kd.N_lower (Kd.N_mono (ok' := fun k_ => some k_ ≠ (v157 : Value).ownBlock) ho0 (fun k_ hk_ => hk_.2)) (below_size (bk_ HB.out))); have n1_ := A_ (Kd.R_lower (Kd.R_mono (ok' := fun k_ => True) ho1 (fun _ hk_ => trivial)) (below_size (bk_ HB.out))); have n2_ := A_ (below_step (bk_ HB.out) hb); clear HB; have HO155 := n0_; have HO158 := n1_; have HB := n2_; clear n0_ n1_ n2_; (try clear hb); (try clear hb2); (try clear hk); (try clear hi); (try clear ho0); (try clear ho1)) | ((with_reducible refine gate_dst (N := 8) rfl ?_); (try (refine gate_guard (by rfl) ?_; dsimp only)); refine Kd.R_lit (Kd.int .i64) _ 3 ?hg (N := 8) ?hd (xs := ([0, 0, 0] : List Int)) (inner := [.int .i64 0, .int .i64 0, .int .i64 0]) (ok := fun _ => True) (okp := fun _ => True) ?hr ?hp (fun _ hk => hk) trivial (Below.refl _ _) (Nat.le_refl _) (by simp) ?_; (case hd => rfl); (case hg => rfl); (case hr => first | (go_simp; done) | (go_simp; rfl)); (case hp => exact (Reps.one (show Kd.M (Kd.int .i64) _ _ _ 0 [.int .i64 0] from rfl) (Reps.one (show Kd.M (Kd.int .i64) _ _ _ 0 [.int .i64 0] from rfl) (Reps.one (show Kd.M (Kd.int .i64) _ _ _ 0 [.int .i64 0] from rfl) (Reps.none _ _))))); intro v160 w55 ho56 hb hg_ hnew_; clear hg_ hnew_; (first | rw [← Ny159.out] at ho56 | (simp only [Int.reduceToNat] at ho56; rw [← Ny159.out] at ho56)); have n0_ := A_ (Kd.N_elder' (by (with_reducible repeat (first | apply Kd.N_alloc | apply Kd.N_drewN | apply Kd.N_drew)); exact HO155.out) (Kd.R_base ho56) hb); have n1_ := A_ (Kd.R_below (rk_ HO158.out) hb); have n2_ := A_ (Kd.R_lower ho56 (below_size (bk_ HB.out))); have n3_ := A_ (below_step (bk_ HB.out) hb); clear HO155 HO158 HB; have HO155 := n0_; have HO158 := n1_; have HO161 := n2_; have HB := n3_; clear n0_ n1_ n2_ n3_ hb ho56; obtain ⟨Ao57, co57, eo57⟩ := Kd.N_slice HO155.out; subst eo57; obtain ⟨Ao58, co58, eo58⟩ := Kd.R_slice HO158.out; subst eo58; obtain ⟨Ao59, co59, eo59⟩ := Kd.R_slice HO161.out; subst eo59) | ((with_reducible refine gate_callee (f := 13) rfl ?_); refine goesL_ (some 9) rfl rfl Try.func13 (by kernel_rfl) rfl #[.agg #[.int .i64 t152, .slice Ao57 t153.length co57, .slice Ao58 t156.length co58], .slice Ao59 y159.length co59, .int .i64 4] rfl gl_ ?_; (with_reducible refine (tag_Run.calls k t152 _ _ t153 _ _ t156 _ _ y159 4 t162 t165 t166 _ ?side1 ?side2 ?side3 ?side4 ?side5 ?side6 A2.out).mono ?_); (case side1 => repeat (first | exact (Kd.N_reads' HO155.out).2.2 | (with_reducible refine Kd.C_alloc ?_ _) | (with_reducible refine Kd.C_drewN ?_ _) | (with_reducible refine Kd.C_drew ?_))); (case side2 => exact (Kd.N_reads' HO155.out).2.1); (case side3 => repeat (first | exact (Kd.R_reads' HO158.out).2.2 | (with_reducible refine Kd.C_alloc ?_ _) | (with_reducible refine Kd.C_drewN ?_ _) | (with_reducible refine Kd.C_drew ?_))); (case side4 => exact (Kd.R_reads' HO158.out).2.1); (case side5 => repeat (first | exact (Kd.R_reads' HO161.out).2.2 | (with_reducible refine Kd.C_alloc ?_ _) | (with_reducible refine Kd.C_drewN ?_ _) | (with_reducible refine Kd.C_drew ?_))); (case side6 => exact (Kd.R_reads' HO161.out).2.1); rintro e w60 ⟨v163, rfl, ho0, hb⟩; refine ⟨_, rfl, ?_⟩; have n0_ := A_ (Kd.N_elder' (by (with_reducible repeat (first | apply Kd.N_alloc | apply Kd.N_drewN | apply Kd.N_drew)); exact HO155.out) (Kd.R_base ho0) hb); have n1_ := A_ (Kd.R_below (rk_ HO158.out) hb); have n2_ := A_ (Kd.R_elder' (rk_ HO161.out) (Kd.R_base ho0) hb); have n3_ := A_ (Kd.R_lower (Kd.R_new' ho0 (Kd.R_lt (rk_ HO161.out))) (below_size (bk_ HB.out))); have n4_ := A_ (below_step (bk_ HB.out) hb); clear HO155 HO158 HO161 HB; have HO155 := n0_; have HO158 := n1_; have HO161 := n2_; have HO164 := n3_; have HB := n4_; clear n0_ n1_ n2_ n3_ n4_; (try clear hb); (try clear hb2); (try clear hk); (try clear hi); (try clear ho0)) | ((with_reducible refine gate_callee (f := 42) rfl ?_); refine goesL_ (some 14) rfl rfl Try.func42 (by kernel_rfl) rfl #[] rfl gl_ ?_; (with_reducible refine (standstilllaw07_three.calls  t167 t168 t171 _ A3.out).mono ?_); rintro e w61 ⟨v169, v172, rfl, ho0, ho1, hb⟩; refine ⟨_, rfl, ?_⟩; have n0_ := A_ (Kd.N_mono (Kd.N_told (Kd.N_told (Kd.N_old (by (with_reducible repeat (first | apply Kd.N_alloc | apply Kd.N_drewN | apply Kd.N_drew)); exact HO155.out) hb) (by first | exact Kd.N_base ho0 | exact Kd.S_base ho0 | exact Kd.N_base ho0 | exact Kd.R_base ho0)) (Kd.R_base ho1)) (fun _ h_ => h_.1)); have n1_ := A_ (Kd.R_elder' (rk_ HO158.out) (Kd.R_base ho1) hb); have n2_ := A_ (Kd.R_below (rk_ HO161.out) hb); have n3_ := A_ (Kd.R_below (rk_ HO164.out) hb); have n4_ := A_ (Kd.N_lower (Kd.N_mono (ok' := fun k_ => some k_ ≠ (v172 : Value).ownBlock ∧ some k_ ≠ (.slice Ao57 t153.length co57 : Value).ownBlock ∧ some k_ ≠ (.slice Ao58 t156.length co58 : Value).ownBlock ∧ some k_ ≠ (.slice Ao59 y159.length co59 : Value).ownBlock ∧ some k_ ≠ (v163 : Value).ownBlock) ho0 (fun k_ hk_ => ⟨hk_.2, (Kd.fresh' (Kd.N_lt (by (with_reducible repeat (first | apply Kd.N_alloc | apply Kd.N_drewN | apply Kd.N_drew)); exact HO155.out)) k_ hk_.1), (Kd.fresh' (Kd.R_lt (rk_ HO158.out)) k_ hk_.1), (Kd.fresh' (Kd.R_lt (rk_ HO161.out)) k_ hk_.1), (Kd.fresh' (Kd.R_lt (rk_ HO164.out)) k_ hk_.1)⟩)) (below_size (bk_ HB.out))); have n5_ := A_ (Kd.R_lower (Kd.R_new' (Kd.R_mono (ok' := fun k_ => True) ho1 (fun _ hk_ => trivial)) (Kd.R_lt (rk_ HO158.out))) (below_size (bk_ HB.out))); have n6_ := A_ (below_step (bk_ HB.out) hb); clear HO155 HO158 HO161 HO164 HB; have HO155 := n0_; have HO158 := n1_; have HO161 := n2_; have HO164 := n3_; have HO170 := n4_; have HO173 := n5_; have HB := n6_; clear n0_ n1_ n2_ n3_ n4_ n5_ n6_; (try clear hb); (try clear hb2); (try clear hk); (try clear hi); (try clear ho0); (try clear ho1); obtain ⟨Ao62, co62, eo62⟩ := Kd.N_slice HO170.out; subst eo62; obtain ⟨Ao63, co63, eo63⟩ := Kd.R_slice HO173.out; subst eo63) | ((with_reducible refine gate_callee (f := 35) rfl ?_); refine goesL_ (some 15) rfl rfl Try.func35 (by kernel_rfl) rfl #[.agg #[.int .i64 t167, .slice Ao62 t168.length co62, .slice Ao63 t171.length co63]] rfl gl_ ?_; (with_reducible refine (tag_ToCyclic.calls k t167 _ _ t168 _ _ t171 t174 t177 _ ?side1 ?side2 ?side3 ?side4 A4.out).mono ?_); (case side1 => repeat (first | exact (Kd.N_reads' HO170.out).2.2 | (with_reducible refine Kd.C_alloc ?_ _) | (with_reducible refine Kd.C_drewN ?_ _) | (with_reducible refine Kd.C_drew ?_))); (case side2 => exact (Kd.N_reads' HO170.out).2.1); (case side3 => repeat (first | exact (Kd.R_reads' HO173.out).2.2 | (with_reducible refine Kd.C_alloc ?_ _) | (with_reducible refine Kd.C_drewN ?_ _) | (with_reducible refine Kd.C_drew ?_))); (case side4 => exact (Kd.R_reads' HO173.out).2.1); rintro e w64 ⟨v175, rfl, ho0, hb⟩; refine ⟨_, rfl, ?_⟩; have n0_ := A_ (Kd.N_elder' (by (with_reducible repeat (first | apply Kd.N_alloc | apply Kd.N_drewN | apply Kd.N_drew)); exact HO155.out) (by first | exact Kd.N_base ho0 | exact Kd.S_base ho0 | exact Kd.R_base ho0) hb); have n1_ := A_ (Kd.R_below (rk_ HO158.out) hb); have n2_ := A_ (Kd.R_below (rk_ HO161.out) hb); have n3_ := A_ (Kd.R_below (rk_ HO164.out) hb); have n4_ := A_ (Kd.N_elder' (by (with_reducible repeat (first | apply Kd.N_alloc | apply Kd.N_drewN | apply Kd.N_drew)); exact HO170.out) (by first | exact Kd.N_base ho0 | exact Kd.S_base ho0 | exact Kd.R_base ho0) hb); have n5_ := A_ (Kd.R_below (rk_ HO173.out) hb); have n6_ := A_ (Kd.N_lower (Kd.N_mono (ok' := fun k_ => some k_ ≠ (.slice Ao57 t153.length co57 : Value).ownBlock ∧ some k_ ≠ (.slice Ao58 t156.length co58 : Value).ownBlock ∧ some k_ ≠ (.slice Ao59 y159.length co59 : Value).ownBlock ∧ some k_ ≠ (v163 : Value).ownBlock ∧ some k_ ≠ (.slice Ao62 t168.length co62 : Value).ownBlock ∧ some k_ ≠ (.slice Ao63 t171.length co63 : Value).ownBlock) (Kd.S_N (Kd.S_bound ho0)) (fun k_ hk_ => ⟨(Kd.fresh' (Kd.N_lt (by (with_reducible repeat (first | apply Kd.N_alloc | apply Kd.N_drewN | apply Kd.N_drew)); exact HO155.out)) k_ hk_.2.1), (Kd.fresh' (Kd.R_lt (rk_ HO158.out)) k_ hk_.2.1), (Kd.fresh' (Kd.R_lt (rk_ HO161.out)) k_ hk_.2.1), (Kd.fresh' (Kd.R_lt (rk_ HO164.out)) k_ hk_.2.1), (Kd.fresh' (Kd.N_lt (by (with_reducible repeat (first | apply Kd.N_alloc | apply Kd.N_drewN | apply Kd.N_drew)); exact HO170.out)) k_ hk_.2.1), (Kd.fresh' (Kd.R_lt (rk_ HO173.out)) k_ hk_.2.1)⟩)) (below_size (bk_ HB.out))); have n7_ := A_ (below_step (bk_ HB.out) hb); clear HO155 HO158 HO161 HO164 HO170 HO173 HB; have HO155 := n0_; have HO158 := n1_; have HO161 := n2_; have HO164 := n3_; have HO170 := n4_; have HO173 := n5_; have HO176 := n6_; have HB := n7_; clear n0_ n1_ n2_ n3_ n4_ n5_ n6_ n7_; (try clear hb); (try clear hb2); (try clear hk); (try clear hi); (try clear ho0)) | ((with_reducible refine gate_dst (N := 4) rfl ?_); (try (refine gate_guard (by rfl) ?_; dsimp only)); refine box_event ?hg (N := 4) ?hd (cs := #[.slice none 0 0]) (t := 45) ?hr ?_; (case hd => rfl); (case hg => rfl); (case hr => first | (go_simp; done) | (go_simp; rfl)); intro gb178 hg w65 hbox hb; have n0_ := A_ (Kd.N_below (Kd.N_elderB (by (with_reducible repeat (first | apply Kd.N_alloc | apply Kd.N_drewN | apply Kd.N_drew)); exact HO155.out) gb178 (Nat.le_of_eq hg.symm)) hb); have n1_ := A_ (Kd.R_below (rk_ HO158.out) hb); have n2_ := A_ (Kd.R_below (rk_ HO161.out) hb); have n3_ := A_ (Kd.R_below (rk_ HO164.out) hb); have n4_ := A_ (Kd.N_below (Kd.N_elderB (by (with_reducible repeat (first | apply Kd.N_alloc | apply Kd.N_drewN | apply Kd.N_drew)); exact HO170.out) gb178 (Nat.le_of_eq hg.symm)) hb); have n5_ := A_ (Kd.R_below (rk_ HO173.out) hb); have n6_ := A_ (Kd.N_below (Kd.N_elderB (by (with_reducible repeat (first | apply Kd.N_alloc | apply Kd.N_drewN | apply Kd.N_drew)); exact HO176.out) gb178 (Nat.le_of_eq hg.symm)) hb); have n7_ := A_ (below_step (bk_ HB.out) hb); have n8_ := A_ (hbox); have n9_ := A_ ((by rw [hg]; exact (below_size (bk_ HB.out)) : w.heap.size ≤ gb178)); have n10_ := A_ ((by rw [hg]; exact (below_size (bk_ HB.out)) : w.heap.size ≤ gb178)); clear HO155 HO158 HO161 HO164 HO170 HO173 HO176 HB; have HO155 := n0_; have HO158 := n1_; have HO161 := n2_; have HO164 := n3_; have HO170 := n4_; have HO173 := n5_; have HO176 := n6_; have HB := n7_; have BK178 := n8_; have GW178 := n9_; have GE178 := n10_; clear n0_ n1_ n2_ n3_ n4_ n5_ n6_ n7_ n8_ n9_ n10_ hb hbox hg; obtain ⟨Ao66, co66, eo66⟩ := Kd.N_slice HO176.out; subst eo66; have hcz67_0 : w65.cell? ⟨gb178, 0, none⟩ = some (.slice none 0 0) := (blk_cell BK178.out 0).trans rfl; have hfz67_0 := blk_frozen BK178.out 0) | ((with_reducible refine gate_dst (N := 26) rfl ?_); (try (refine gate_guard (by rfl) ?_; dsimp only)); refine Kd.R_lit (Kd.int .i64) _ 3 ?hg (N := 26) ?hd (xs := ([0, 0, 0, 0, 0] : List Int)) (inner := [.int .i64 0, .int .i64 0, .int .i64 0, .int .i64 0, .int .i64 0]) (ok := fun _ => True) (okp := fun _ => True) ?hr ?hp (fun _ hk => hk) trivial (Below.refl _ _) (Nat.le_refl _) (by simp) ?_; (case hd => rfl); (case hg => rfl); (case hr => first | (go_simp; done) | (go_simp; rfl)); (case hp => exact (Reps.one (show Kd.M (Kd.int .i64) _ _ _ 0 [.int .i64 0] from rfl) (Reps.one (show Kd.M (Kd.int .i64) _ _ _ 0 [.int .i64 0] from rfl) (Reps.one (show Kd.M (Kd.int .i64) _ _ _ 0 [.int .i64 0] from rfl) (Reps.one (show Kd.M (Kd.int .i64) _ _ _ 0 [.int .i64 0] from rfl) (Reps.one (show Kd.M (Kd.int .i64) _ _ _ 0 [.int .i64 0] from rfl) (Reps.none _ _))))))); intro v180 w68 ho69 hb hg_ hnew_; clear hg_ hnew_; (first | rw [← Ny179.out] at ho69 | (simp only [Int.reduceToNat] at ho69; rw [← Ny179.out] at ho69)); have n0_ := A_ (Kd.N_elder' (by (with_reducible repeat (first | apply Kd.N_alloc | apply Kd.N_drewN | apply Kd.N_drew)); exact (Kd.N_mono (Kd.N_far (p := ⟨gb178, 0, none⟩) (Kd.N_mono HO155.out (fun k_ hk => (⟨hk, hk.2⟩ : _ ∧ k_ ≠ gb178))) (fun _ hk => hk.2) (.slice Ao66 t174.length co66)) (fun _ h_ => h_.1))) (Kd.R_base ho69) hb); have n1_ := A_ (Kd.R_below (by (with_reducible repeat (first | apply Kd.R_alloc | apply Kd.R_drewN | apply Kd.R_drew)); exact (Kd.R_mono (Kd.R_far (p := ⟨gb178, 0, none⟩) (Kd.R_types HO158.out BK178.out (by decide)) (fun _ hk => hk.2) (.slice Ao66 t174.length co66)) (fun _ h_ => h_.1))) hb); have n2_ := A_ (Kd.R_elder' (by (with_reducible repeat (first | apply Kd.R_alloc | apply Kd.R_drewN | apply Kd.R_drew)); exact (Kd.R_mono (Kd.R_far (p := ⟨gb178, 0, none⟩) (Kd.R_types HO161.out BK178.out (by decide)) (fun _ hk => hk.2) (.slice Ao66 t174.length co66)) (fun _ h_ => h_.1))) (Kd.R_base ho69) hb); have n3_ := A_ (Kd.R_elder' (by (with_reducible repeat (first | apply Kd.R_alloc | apply Kd.R_drewN | apply Kd.R_drew)); exact (Kd.R_mono (Kd.R_far (p := ⟨gb178, 0, none⟩) (Kd.R_types HO164.out BK178.out (by decide)) (fun _ hk => hk.2) (.slice Ao66 t174.length co66)) (fun _ h_ => h_.1))) (Kd.R_base ho69) hb); have n4_ := A_ (Kd.N_elder' (by (with_reducible repeat (first | apply Kd.N_alloc | apply Kd.N_drewN | apply Kd.N_drew)); exact (Kd.N_mono (Kd.N_far (p := ⟨gb178, 0, none⟩) (Kd.N_mono HO170.out (fun k_ hk => (⟨hk, hk.2⟩ : _ ∧ k_ ≠ gb178))) (fun _ hk => hk.2) (.slice Ao66 t174.length co66)) (fun _ h_ => h_.1))) (Kd.R_base ho69) hb); have n5_ := A_ (Kd.R_below (by (with_reducible repeat (first | apply Kd.R_alloc | apply Kd.R_drewN | apply Kd.R_drew)); exact (Kd.R_mono (Kd.R_far (p := ⟨gb178, 0, none⟩) (Kd.R_types HO173.out BK178.out (by decide)) (fun _ hk => hk.2) (.slice Ao66 t174.length co66)) (fun _ h_ => h_.1))) hb); have n6_ := A_ (Kd.N_elder' (by (with_reducible repeat (first | apply Kd.N_alloc | apply Kd.N_drewN | apply Kd.N_drew)); exact (Kd.N_mono (Kd.N_far (p := ⟨gb178, 0, none⟩) (Kd.N_mono HO176.out (fun k_ hk => (⟨hk, hk.2⟩ : _ ∧ k_ ≠ gb178))) (fun _ hk => hk.2) (.slice Ao66 t174.length co66)) (fun _ h_ => h_.1))) (Kd.R_base ho69) hb); have n7_ := A_ (Kd.R_lower (Kd.R_new' (Kd.R_new' ho69 (Kd.R_lt (by (with_reducible repeat (first | apply Kd.R_alloc | apply Kd.R_drewN | apply Kd.R_drew)); exact (Kd.R_mono (Kd.R_far (p := ⟨gb178, 0, none⟩) (Kd.R_types HO161.out BK178.out (by decide)) (fun _ hk => hk.2) (.slice Ao66 t174.length co66)) (fun _ h_ => h_.1))))) (Kd.R_lt (by (with_reducible repeat (first | apply Kd.R_alloc | apply Kd.R_drewN | apply Kd.R_drew)); exact (Kd.R_mono (Kd.R_far (p := ⟨gb178, 0, none⟩) (Kd.R_types HO164.out BK178.out (by decide)) (fun _ hk => hk.2) (.slice Ao66 t174.length co66)) (fun _ h_ => h_.1))))) (below_size (bk_ HB.out))); have n8_ := A_ (blk_below (g := gb178) (o := .cells #[.slice Ao66 t174.length co66] 45 (0, 0)) (by refine pk_ ?_; refine blk_put (cs := #[.slice none 0 0]) ?_ 0 _ rfl; exact pk_ BK178.out) hb); have n9_ := A_ (below_step (bk_ HB.out) hb); clear HO155 HO158 HO161 HO164 HO170 HO173 HO176 BK178 HB; have HO155 := n0_; have HO158 := n1_; have HO161 := n2_; have HO164 := n3_; have HO170 := n4_; have HO173 := n5_; have HO176 := n6_; have HO181 := n7_; have BK178 := n8_; have HB := n9_; clear n0_ n1_ n2_ n3_ n4_ n5_ n6_ n7_ n8_ n9_ hb ho69; obtain ⟨Ao70, co70, eo70⟩ := Kd.R_slice HO164.out; subst eo70; obtain ⟨Ao71, co71, eo71⟩ := Kd.R_slice HO181.out; subst eo71) | (go_at_call 14; (with_reducible refine (standstillref07_Same.calls k _ _ t162 _ _ y179 true _ ?side1 ?side2 ?side3 ?side4 A7.out).mono ?_); (case side1 => repeat (first | exact (Kd.R_reads' HO164.out).2.2 | (with_reducible refine Kd.C_alloc ?_ _) | (with_reducible refine Kd.C_drewN ?_ _) | (with_reducible refine Kd.C_drew ?_))); (case side2 => exact (Kd.R_reads' HO164.out).2.1); (case side3 => repeat (first | exact (Kd.R_reads' HO181.out).2.2 | (with_reducible refine Kd.C_alloc ?_ _) | (with_reducible refine Kd.C_drewN ?_ _) | (with_reducible refine Kd.C_drew ?_))); (case side4 => exact (Kd.R_reads' HO181.out).2.1); rintro e w' ⟨rfl, ⟨nd, rfl⟩⟩))
     go_ret
     exact ⟨er_, bk_ HB.out⟩
   ·replace c8 := Bool.eq_false_iff.mpr c8
    subst c8
    have H1 : (some false) = some r := by rw [if_neg (show ¬ (false = true) by decide)] at H; exact H
    clear H
    have H := H1
    clear H1
    obtain rfl := Option.some.inj H
    go_enter Try.func11, Try.ntmps11
    go_wp2_with (first | ((with_reducible refine gate_callee (f := 42) rfl ?_); refine goesL_ (some 7) rfl rfl Try.func42 (by kernel_rfl) rfl #[] rfl gl_ ?_; (with_reducible refine (standstilllaw07_three.calls  t152 t153 t156 _ A1.out).mono ?_); rintro e w72 ⟨v154, v157, rfl, ho0, ho1, hb⟩; refine ⟨_, rfl, ?_⟩; have n0_ := A_ (Kd.N_lower (Kd.N_mono (ok' := fun k_ => some k_ ≠ (v157 : Value).ownBlock) ho0 (fun k_ hk_ => hk_.2)) (below_size (bk_ HB.out))); have n1_ := A_ (Kd.R_lower (Kd.R_mono (ok' := fun k_ => True) ho1 (fun _ hk_ => trivial)) (below_size (bk_ HB.out))); have n2_ := A_ (below_step (bk_ HB.out) hb); clear HB; have HO155 := n0_; have HO158 := n1_; have HB := n2_; clear n0_ n1_ n2_; (try clear hb); (try clear hb2); (try clear hk); (try clear hi); (try clear ho0); (try clear ho1)) | ((with_reducible refine gate_dst (N := 8) rfl ?_); (try (refine gate_guard (by rfl) ?_; dsimp only)); refine Kd.R_lit (Kd.int .i64) _ 3 ?hg (N := 8) ?hd (xs := ([0, 0, 0] : List Int)) (inner := [.int .i64 0, .int .i64 0, .int .i64 0]) (ok := fun _ => True) (okp := fun _ => True) ?hr ?hp (fun _ hk => hk) trivial (Below.refl _ _) (Nat.le_refl _) (by simp) ?_; (case hd => rfl); (case hg => rfl); (case hr => first | (go_simp; done) | (go_simp; rfl)); (case hp => exact (Reps.one (show Kd.M (Kd.int .i64) _ _ _ 0 [.int .i64 0] from rfl) (Reps.one (show Kd.M (Kd.int .i64) _ _ _ 0 [.int .i64 0] from rfl) (Reps.one (show Kd.M (Kd.int .i64) _ _ _ 0 [.int .i64 0] from rfl) (Reps.none _ _))))); intro v160 w73 ho74 hb hg_ hnew_; clear hg_ hnew_; (first | rw [← Ny159.out] at ho74 | (simp only [Int.reduceToNat] at ho74; rw [← Ny159.out] at ho74)); have n0_ := A_ (Kd.N_elder' (by (with_reducible repeat (first | apply Kd.N_alloc | apply Kd.N_drewN | apply Kd.N_drew)); exact HO155.out) (Kd.R_base ho74) hb); have n1_ := A_ (Kd.R_below (rk_ HO158.out) hb); have n2_ := A_ (Kd.R_lower ho74 (below_size (bk_ HB.out))); have n3_ := A_ (below_step (bk_ HB.out) hb); clear HO155 HO158 HB; have HO155 := n0_; have HO158 := n1_; have HO161 := n2_; have HB := n3_; clear n0_ n1_ n2_ n3_ hb ho74; obtain ⟨Ao75, co75, eo75⟩ := Kd.N_slice HO155.out; subst eo75; obtain ⟨Ao76, co76, eo76⟩ := Kd.R_slice HO158.out; subst eo76; obtain ⟨Ao77, co77, eo77⟩ := Kd.R_slice HO161.out; subst eo77) | ((with_reducible refine gate_callee (f := 13) rfl ?_); refine goesL_ (some 9) rfl rfl Try.func13 (by kernel_rfl) rfl #[.agg #[.int .i64 t152, .slice Ao75 t153.length co75, .slice Ao76 t156.length co76], .slice Ao77 y159.length co77, .int .i64 4] rfl gl_ ?_; (with_reducible refine (tag_Run.calls k t152 _ _ t153 _ _ t156 _ _ y159 4 t162 t165 t166 _ ?side1 ?side2 ?side3 ?side4 ?side5 ?side6 A2.out).mono ?_); (case side1 => repeat (first | exact (Kd.N_reads' HO155.out).2.2 | (with_reducible refine Kd.C_alloc ?_ _) | (with_reducible refine Kd.C_drewN ?_ _) | (with_reducible refine Kd.C_drew ?_))); (case side2 => exact (Kd.N_reads' HO155.out).2.1); (case side3 => repeat (first | exact (Kd.R_reads' HO158.out).2.2 | (with_reducible refine Kd.C_alloc ?_ _) | (with_reducible refine Kd.C_drewN ?_ _) | (with_reducible refine Kd.C_drew ?_))); (case side4 => exact (Kd.R_reads' HO158.out).2.1); (case side5 => repeat (first | exact (Kd.R_reads' HO161.out).2.2 | (with_reducible refine Kd.C_alloc ?_ _) | (with_reducible refine Kd.C_drewN ?_ _) | (with_reducible refine Kd.C_drew ?_))); (case side6 => exact (Kd.R_reads' HO161.out).2.1); rintro e w78 ⟨v163, rfl, ho0, hb⟩; refine ⟨_, rfl, ?_⟩; have n0_ := A_ (Kd.N_elder' (by (with_reducible repeat (first | apply Kd.N_alloc | apply Kd.N_drewN | apply Kd.N_drew)); exact HO155.out) (Kd.R_base ho0) hb); have n1_ := A_ (Kd.R_below (rk_ HO158.out) hb); have n2_ := A_ (Kd.R_elder' (rk_ HO161.out) (Kd.R_base ho0) hb); have n3_ := A_ (Kd.R_lower (Kd.R_new' ho0 (Kd.R_lt (rk_ HO161.out))) (below_size (bk_ HB.out))); have n4_ := A_ (below_step (bk_ HB.out) hb); clear HO155 HO158 HO161 HB; have HO155 := n0_; have HO158 := n1_; have HO161 := n2_; have HO164 := n3_; have HB := n4_; clear n0_ n1_ n2_ n3_ n4_; (try clear hb); (try clear hb2); (try clear hk); (try clear hi); (try clear ho0)) | ((with_reducible refine gate_callee (f := 42) rfl ?_); refine goesL_ (some 14) rfl rfl Try.func42 (by kernel_rfl) rfl #[] rfl gl_ ?_; (with_reducible refine (standstilllaw07_three.calls  t167 t168 t171 _ A3.out).mono ?_); rintro e w79 ⟨v169, v172, rfl, ho0, ho1, hb⟩; refine ⟨_, rfl, ?_⟩; have n0_ := A_ (Kd.N_mono (Kd.N_told (Kd.N_told (Kd.N_old (by (with_reducible repeat (first | apply Kd.N_alloc | apply Kd.N_drewN | apply Kd.N_drew)); exact HO155.out) hb) (by first | exact Kd.N_base ho0 | exact Kd.S_base ho0 | exact Kd.N_base ho0 | exact Kd.R_base ho0)) (Kd.R_base ho1)) (fun _ h_ => h_.1)); have n1_ := A_ (Kd.R_elder' (rk_ HO158.out) (Kd.R_base ho1) hb); have n2_ := A_ (Kd.R_below (rk_ HO161.out) hb); have n3_ := A_ (Kd.R_below (rk_ HO164.out) hb); have n4_ := A_ (Kd.N_lower (Kd.N_mono (ok' := fun k_ => some k_ ≠ (v172 : Value).ownBlock ∧ some k_ ≠ (.slice Ao75 t153.length co75 : Value).ownBlock ∧ some k_ ≠ (.slice Ao76 t156.length co76 : Value).ownBlock ∧ some k_ ≠ (.slice Ao77 y159.length co77 : Value).ownBlock ∧ some k_ ≠ (v163 : Value).ownBlock) ho0 (fun k_ hk_ => ⟨hk_.2, (Kd.fresh' (Kd.N_lt (by (with_reducible repeat (first | apply Kd.N_alloc | apply Kd.N_drewN | apply Kd.N_drew)); exact HO155.out)) k_ hk_.1), (Kd.fresh' (Kd.R_lt (rk_ HO158.out)) k_ hk_.1), (Kd.fresh' (Kd.R_lt (rk_ HO161.out)) k_ hk_.1), (Kd.fresh' (Kd.R_lt (rk_ HO164.out)) k_ hk_.1)⟩)) (below_size (bk_ HB.out))); have n5_ := A_ (Kd.R_lower (Kd.R_new' (Kd.R_mono (ok' := fun k_ => True) ho1 (fun _ hk_ => trivial)) (Kd.R_lt (rk_ HO158.out))) (below_size (bk_ HB.out))); have n6_ := A_ (below_step (bk_ HB.out) hb); clear HO155 HO158 HO161 HO164 HB; have HO155 := n0_; have HO158 := n1_; have HO161 := n2_; have HO164 := n3_; have HO170 := n4_; have HO173 := n5_; have HB := n6_; clear n0_ n1_ n2_ n3_ n4_ n5_ n6_; (try clear hb); (try clear hb2); (try clear hk); (try clear hi); (try clear ho0); (try clear ho1); obtain ⟨Ao80, co80, eo80⟩ := Kd.N_slice HO170.out; subst eo80; obtain ⟨Ao81, co81, eo81⟩ := Kd.R_slice HO173.out; subst eo81) | ((with_reducible refine gate_callee (f := 35) rfl ?_); refine goesL_ (some 15) rfl rfl Try.func35 (by kernel_rfl) rfl #[.agg #[.int .i64 t167, .slice Ao80 t168.length co80, .slice Ao81 t171.length co81]] rfl gl_ ?_; (with_reducible refine (tag_ToCyclic.calls k t167 _ _ t168 _ _ t171 t174 t177 _ ?side1 ?side2 ?side3 ?side4 A4.out).mono ?_); (case side1 => repeat (first | exact (Kd.N_reads' HO170.out).2.2 | (with_reducible refine Kd.C_alloc ?_ _) | (with_reducible refine Kd.C_drewN ?_ _) | (with_reducible refine Kd.C_drew ?_))); (case side2 => exact (Kd.N_reads' HO170.out).2.1); (case side3 => repeat (first | exact (Kd.R_reads' HO173.out).2.2 | (with_reducible refine Kd.C_alloc ?_ _) | (with_reducible refine Kd.C_drewN ?_ _) | (with_reducible refine Kd.C_drew ?_))); (case side4 => exact (Kd.R_reads' HO173.out).2.1); rintro e w82 ⟨v175, rfl, ho0, hb⟩; refine ⟨_, rfl, ?_⟩; have n0_ := A_ (Kd.N_elder' (by (with_reducible repeat (first | apply Kd.N_alloc | apply Kd.N_drewN | apply Kd.N_drew)); exact HO155.out) (by first | exact Kd.N_base ho0 | exact Kd.S_base ho0 | exact Kd.R_base ho0) hb); have n1_ := A_ (Kd.R_below (rk_ HO158.out) hb); have n2_ := A_ (Kd.R_below (rk_ HO161.out) hb); have n3_ := A_ (Kd.R_below (rk_ HO164.out) hb); have n4_ := A_ (Kd.N_elder' (by (with_reducible repeat (first | apply Kd.N_alloc | apply Kd.N_drewN | apply Kd.N_drew)); exact HO170.out) (by first | exact Kd.N_base ho0 | exact Kd.S_base ho0 | exact Kd.R_base ho0) hb); have n5_ := A_ (Kd.R_below (rk_ HO173.out) hb); have n6_ := A_ (Kd.N_lower (Kd.N_mono (ok' := fun k_ => some k_ ≠ (.slice Ao75 t153.length co75 : Value).ownBlock ∧ some k_ ≠ (.slice Ao76 t156.length co76 : Value).ownBlock ∧ some k_ ≠ (.slice Ao77 y159.length co77 : Value).ownBlock ∧ some k_ ≠ (v163 : Value).ownBlock ∧ some k_ ≠ (.slice Ao80 t168.length co80 : Value).ownBlock ∧ some k_ ≠ (.slice Ao81 t171.length co81 : Value).ownBlock) (Kd.S_N (Kd.S_bound ho0)) (fun k_ hk_ => ⟨(Kd.fresh' (Kd.N_lt (by (with_reducible repeat (first | apply Kd.N_alloc | apply Kd.N_drewN | apply Kd.N_drew)); exact HO155.out)) k_ hk_.2.1), (Kd.fresh' (Kd.R_lt (rk_ HO158.out)) k_ hk_.2.1), (Kd.fresh' (Kd.R_lt (rk_ HO161.out)) k_ hk_.2.1), (Kd.fresh' (Kd.R_lt (rk_ HO164.out)) k_ hk_.2.1), (Kd.fresh' (Kd.N_lt (by (with_reducible repeat (first | apply Kd.N_alloc | apply Kd.N_drewN | apply Kd.N_drew)); exact HO170.out)) k_ hk_.2.1), (Kd.fresh' (Kd.R_lt (rk_ HO173.out)) k_ hk_.2.1)⟩)) (below_size (bk_ HB.out))); have n7_ := A_ (below_step (bk_ HB.out) hb); clear HO155 HO158 HO161 HO164 HO170 HO173 HB; have HO155 := n0_; have HO158 := n1_; have HO161 := n2_; have HO164 := n3_; have HO170 := n4_; have HO173 := n5_; have HO176 := n6_; have HB := n7_; clear n0_ n1_ n2_ n3_ n4_ n5_ n6_ n7_; (try clear hb); (try clear hb2); (try clear hk); (try clear hi); (try clear ho0)) | ((with_reducible refine gate_dst (N := 4) rfl ?_); (try (refine gate_guard (by rfl) ?_; dsimp only)); refine box_event ?hg (N := 4) ?hd (cs := #[.slice none 0 0]) (t := 45) ?hr ?_; (case hd => rfl); (case hg => rfl); (case hr => first | (go_simp; done) | (go_simp; rfl)); intro gb178 hg w83 hbox hb; have n0_ := A_ (Kd.N_below (Kd.N_elderB (by (with_reducible repeat (first | apply Kd.N_alloc | apply Kd.N_drewN | apply Kd.N_drew)); exact HO155.out) gb178 (Nat.le_of_eq hg.symm)) hb); have n1_ := A_ (Kd.R_below (rk_ HO158.out) hb); have n2_ := A_ (Kd.R_below (rk_ HO161.out) hb); have n3_ := A_ (Kd.R_below (rk_ HO164.out) hb); have n4_ := A_ (Kd.N_below (Kd.N_elderB (by (with_reducible repeat (first | apply Kd.N_alloc | apply Kd.N_drewN | apply Kd.N_drew)); exact HO170.out) gb178 (Nat.le_of_eq hg.symm)) hb); have n5_ := A_ (Kd.R_below (rk_ HO173.out) hb); have n6_ := A_ (Kd.N_below (Kd.N_elderB (by (with_reducible repeat (first | apply Kd.N_alloc | apply Kd.N_drewN | apply Kd.N_drew)); exact HO176.out) gb178 (Nat.le_of_eq hg.symm)) hb); have n7_ := A_ (below_step (bk_ HB.out) hb); have n8_ := A_ (hbox); have n9_ := A_ ((by rw [hg]; exact (below_size (bk_ HB.out)) : w.heap.size ≤ gb178)); have n10_ := A_ ((by rw [hg]; exact (below_size (bk_ HB.out)) : w.heap.size ≤ gb178)); clear HO155 HO158 HO161 HO164 HO170 HO173 HO176 HB; have HO155 := n0_; have HO158 := n1_; have HO161 := n2_; have HO164 := n3_; have HO170 := n4_; have HO173 := n5_; have HO176 := n6_; have HB := n7_; have BK178 := n8_; have GW178 := n9_; have GE178 := n10_; clear n0_ n1_ n2_ n3_ n4_ n5_ n6_ n7_ n8_ n9_ n10_ hb hbox hg; obtain ⟨Ao84, co84, eo84⟩ := Kd.N_slice HO176.out; subst eo84; have hcz85_0 : w83.cell? ⟨gb178, 0, none⟩ = some (.slice none 0 0) := (blk_cell BK178.out 0).trans rfl; have hfz85_0 := blk_frozen BK178.out 0) | ((with_reducible refine gate_dst (N := 26) rfl ?_); (try (refine gate_guard (by rfl) ?_; dsimp only)); refine Kd.R_lit (Kd.int .i64) _ 3 ?hg (N := 26) ?hd (xs := ([0, 0, 0, 0, 0] : List Int)) (inner := [.int .i64 0, .int .i64 0, .int .i64 0, .int .i64 0, .int .i64 0]) (ok := fun _ => True) (okp := fun _ => True) ?hr ?hp (fun _ hk => hk) trivial (Below.refl _ _) (Nat.le_refl _) (by simp) ?_; (case hd => rfl); (case hg => rfl); (case hr => first | (go_simp; done) | (go_simp; rfl)); (case hp => exact (Reps.one (show Kd.M (Kd.int .i64) _ _ _ 0 [.int .i64 0] from rfl) (Reps.one (show Kd.M (Kd.int .i64) _ _ _ 0 [.int .i64 0] from rfl) (Reps.one (show Kd.M (Kd.int .i64) _ _ _ 0 [.int .i64 0] from rfl) (Reps.one (show Kd.M (Kd.int .i64) _ _ _ 0 [.int .i64 0] from rfl) (Reps.one (show Kd.M (Kd.int .i64) _ _ _ 0 [.int .i64 0] from rfl) (Reps.none _ _))))))); intro v180 w86 ho87 hb hg_ hnew_; clear hg_ hnew_; (first | rw [← Ny179.out] at ho87 | (simp only [Int.reduceToNat] at ho87; rw [← Ny179.out] at ho87)); have n0_ := A_ (Kd.N_elder' (by (with_reducible repeat (first | apply Kd.N_alloc | apply Kd.N_drewN | apply Kd.N_drew)); exact (Kd.N_mono (Kd.N_far (p := ⟨gb178, 0, none⟩) (Kd.N_mono HO155.out (fun k_ hk => (⟨hk, hk.2⟩ : _ ∧ k_ ≠ gb178))) (fun _ hk => hk.2) (.slice Ao84 t174.length co84)) (fun _ h_ => h_.1))) (Kd.R_base ho87) hb); have n1_ := A_ (Kd.R_below (by (with_reducible repeat (first | apply Kd.R_alloc | apply Kd.R_drewN | apply Kd.R_drew)); exact (Kd.R_mono (Kd.R_far (p := ⟨gb178, 0, none⟩) (Kd.R_types HO158.out BK178.out (by decide)) (fun _ hk => hk.2) (.slice Ao84 t174.length co84)) (fun _ h_ => h_.1))) hb); have n2_ := A_ (Kd.R_elder' (by (with_reducible repeat (first | apply Kd.R_alloc | apply Kd.R_drewN | apply Kd.R_drew)); exact (Kd.R_mono (Kd.R_far (p := ⟨gb178, 0, none⟩) (Kd.R_types HO161.out BK178.out (by decide)) (fun _ hk => hk.2) (.slice Ao84 t174.length co84)) (fun _ h_ => h_.1))) (Kd.R_base ho87) hb); have n3_ := A_ (Kd.R_elder' (by (with_reducible repeat (first | apply Kd.R_alloc | apply Kd.R_drewN | apply Kd.R_drew)); exact (Kd.R_mono (Kd.R_far (p := ⟨gb178, 0, none⟩) (Kd.R_types HO164.out BK178.out (by decide)) (fun _ hk => hk.2) (.slice Ao84 t174.length co84)) (fun _ h_ => h_.1))) (Kd.R_base ho87) hb); have n4_ := A_ (Kd.N_elder' (by (with_reducible repeat (first | apply Kd.N_alloc | apply Kd.N_drewN | apply Kd.N_drew)); exact (Kd.N_mono (Kd.N_far (p := ⟨gb178, 0, none⟩) (Kd.N_mono HO170.out (fun k_ hk => (⟨hk, hk.2⟩ : _ ∧ k_ ≠ gb178))) (fun _ hk => hk.2) (.slice Ao84 t174.length co84)) (fun _ h_ => h_.1))) (Kd.R_base ho87) hb); have n5_ := A_ (Kd.R_below (by (with_reducible repeat (first | apply Kd.R_alloc | apply Kd.R_drewN | apply Kd.R_drew)); exact (Kd.R_mono (Kd.R_far (p := ⟨gb178, 0, none⟩) (Kd.R_types HO173.out BK178.out (by decide)) (fun _ hk => hk.2) (.slice Ao84 t174.length co84)) (fun _ h_ => h_.1))) hb); have n6_ := A_ (Kd.N_elder' (by (with_reducible repeat (first | apply Kd.N_alloc | apply Kd.N_drewN | apply Kd.N_drew)); exact (Kd.N_mono (Kd.N_far (p := ⟨gb178, 0, none⟩) (Kd.N_mono HO176.out (fun k_ hk => (⟨hk, hk.2⟩ : _ ∧ k_ ≠ gb178))) (fun _ hk => hk.2) (.slice Ao84 t174.length co84)) (fun _ h_ => h_.1))) (Kd.R_base ho87) hb); have n7_ := A_ (Kd.R_lower (Kd.R_new' (Kd.R_new' ho87 (Kd.R_lt (by (with_reducible repeat (first | apply Kd.R_alloc | apply Kd.R_drewN | apply Kd.R_drew)); exact (Kd.R_mono (Kd.R_far (p := ⟨gb178, 0, none⟩) (Kd.R_types HO161.out BK178.out (by decide)) (fun _ hk => hk.2) (.slice Ao84 t174.length co84)) (fun _ h_ => h_.1))))) (Kd.R_lt (by (with_reducible repeat (first | apply Kd.R_alloc | apply Kd.R_drewN | apply Kd.R_drew)); exact (Kd.R_mono (Kd.R_far (p := ⟨gb178, 0, none⟩) (Kd.R_types HO164.out BK178.out (by decide)) (fun _ hk => hk.2) (.slice Ao84 t174.length co84)) (fun _ h_ => h_.1))))) (below_size (bk_ HB.out))); have n8_ := A_ (blk_below (g := gb178) (o := .cells #[.slice Ao84 t174.length co84] 45 (0, 0)) (by refine pk_ ?_; refine blk_put (cs := #[.slice none 0 0]) ?_ 0 _ rfl; exact pk_ BK178.out) hb); have n9_ := A_ (below_step (bk_ HB.out) hb); clear HO155 HO158 HO161 HO164 HO170 HO173 HO176 BK178 HB; have HO155 := n0_; have HO158 := n1_; have HO161 := n2_; have HO164 := n3_; have HO170 := n4_; have HO173 := n5_; have HO176 := n6_; have HO181 := n7_; have BK178 := n8_; have HB := n9_; clear n0_ n1_ n2_ n3_ n4_ n5_ n6_ n7_ n8_ n9_ hb ho87; obtain ⟨Ao88, co88, eo88⟩ := Kd.R_slice HO164.out; subst eo88; obtain ⟨Ao89, co89, eo89⟩ := Kd.R_slice HO181.out; subst eo89) | (go_at_call 14; (with_reducible refine (standstillref07_Same.calls k _ _ t162 _ _ y179 false _ ?side1 ?side2 ?side3 ?side4 A7.out).mono ?_); (case side1 => repeat (first | exact (Kd.R_reads' HO164.out).2.2 | (with_reducible refine Kd.C_alloc ?_ _) | (with_reducible refine Kd.C_drewN ?_ _) | (with_reducible refine Kd.C_drew ?_))); (case side2 => exact (Kd.R_reads' HO164.out).2.1); (case side3 => repeat (first | exact (Kd.R_reads' HO181.out).2.2 | (with_reducible refine Kd.C_alloc ?_ _) | (with_reducible refine Kd.C_drewN ?_ _) | (with_reducible refine Kd.C_drew ?_))); (case side4 => exact (Kd.R_reads' HO181.out).2.1); rintro e w' ⟨rfl, ⟨nd, rfl⟩⟩))
    go_ret
    exact ⟨er_, bk_ HB.out⟩
  ·rw [if_neg c6] at H
   have c6b0 : (t165 == 4) = false := beq_eq_false_iff_ne.mpr c6
   have c6b1 : (t165 != 4) = true := bne_iff_ne.mpr c6
   obtain rfl := Option.some.inj H
   go_enter Try.func11, Try.ntmps11
   go_wp2_with (first | ((with_reducible refine gate_callee (f := 42) rfl ?_); refine goesL_ (some 7) rfl rfl Try.func42 (by kernel_rfl) rfl #[] rfl gl_ ?_; (with_reducible refine (standstilllaw07_three.calls  t152 t153 t156 _ A1.out).mono ?_); rintro e w90 ⟨v154, v157, rfl, ho0, ho1, hb⟩; refine ⟨_, rfl, ?_⟩; have n0_ := A_ (Kd.N_lower (Kd.N_mono (ok' := fun k_ => some k_ ≠ (v157 : Value).ownBlock) ho0 (fun k_ hk_ => hk_.2)) (below_size (bk_ HB.out))); have n1_ := A_ (Kd.R_lower (Kd.R_mono (ok' := fun k_ => True) ho1 (fun _ hk_ => trivial)) (below_size (bk_ HB.out))); have n2_ := A_ (below_step (bk_ HB.out) hb); clear HB; have HO155 := n0_; have HO158 := n1_; have HB := n2_; clear n0_ n1_ n2_; (try clear hb); (try clear hb2); (try clear hk); (try clear hi); (try clear ho0); (try clear ho1)) | ((with_reducible refine gate_dst (N := 8) rfl ?_); (try (refine gate_guard (by rfl) ?_; dsimp only)); refine Kd.R_lit (Kd.int .i64) _ 3 ?hg (N := 8) ?hd (xs := ([0, 0, 0] : List Int)) (inner := [.int .i64 0, .int .i64 0, .int .i64 0]) (ok := fun _ => True) (okp := fun _ => True) ?hr ?hp (fun _ hk => hk) trivial (Below.refl _ _) (Nat.le_refl _) (by simp) ?_; (case hd => rfl); (case hg => rfl); (case hr => first | (go_simp; done) | (go_simp; rfl)); (case hp => exact (Reps.one (show Kd.M (Kd.int .i64) _ _ _ 0 [.int .i64 0] from rfl) (Reps.one (show Kd.M (Kd.int .i64) _ _ _ 0 [.int .i64 0] from rfl) (Reps.one (show Kd.M (Kd.int .i64) _ _ _ 0 [.int .i64 0] from rfl) (Reps.none _ _))))); intro v160 w91 ho92 hb hg_ hnew_; clear hg_ hnew_; (first | rw [← Ny159.out] at ho92 | (simp only [Int.reduceToNat] at ho92; rw [← Ny159.out] at ho92)); have n0_ := A_ (Kd.N_elder' (by (with_reducible repeat (first | apply Kd.N_alloc | apply Kd.N_drewN | apply Kd.N_drew)); exact HO155.out) (Kd.R_base ho92) hb); have n1_ := A_ (Kd.R_below (rk_ HO158.out) hb); have n2_ := A_ (Kd.R_lower ho92 (below_size (bk_ HB.out))); have n3_ := A_ (below_step (bk_ HB.out) hb); clear HO155 HO158 HB; have HO155 := n0_; have HO158 := n1_; have HO161 := n2_; have HB := n3_; clear n0_ n1_ n2_ n3_ hb ho92; obtain ⟨Ao93, co93, eo93⟩ := Kd.N_slice HO155.out; subst eo93; obtain ⟨Ao94, co94, eo94⟩ := Kd.R_slice HO158.out; subst eo94; obtain ⟨Ao95, co95, eo95⟩ := Kd.R_slice HO161.out; subst eo95) | ((with_reducible refine gate_callee (f := 13) rfl ?_); refine goesL_ (some 9) rfl rfl Try.func13 (by kernel_rfl) rfl #[.agg #[.int .i64 t152, .slice Ao93 t153.length co93, .slice Ao94 t156.length co94], .slice Ao95 y159.length co95, .int .i64 4] rfl gl_ ?_; (with_reducible refine (tag_Run.calls k t152 _ _ t153 _ _ t156 _ _ y159 4 t162 t165 t166 _ ?side1 ?side2 ?side3 ?side4 ?side5 ?side6 A2.out).mono ?_); (case side1 => repeat (first | exact (Kd.N_reads' HO155.out).2.2 | (with_reducible refine Kd.C_alloc ?_ _) | (with_reducible refine Kd.C_drewN ?_ _) | (with_reducible refine Kd.C_drew ?_))); (case side2 => exact (Kd.N_reads' HO155.out).2.1); (case side3 => repeat (first | exact (Kd.R_reads' HO158.out).2.2 | (with_reducible refine Kd.C_alloc ?_ _) | (with_reducible refine Kd.C_drewN ?_ _) | (with_reducible refine Kd.C_drew ?_))); (case side4 => exact (Kd.R_reads' HO158.out).2.1); (case side5 => repeat (first | exact (Kd.R_reads' HO161.out).2.2 | (with_reducible refine Kd.C_alloc ?_ _) | (with_reducible refine Kd.C_drewN ?_ _) | (with_reducible refine Kd.C_drew ?_))); (case side6 => exact (Kd.R_reads' HO161.out).2.1); rintro e w96 ⟨v163, rfl, ho0, hb⟩; refine ⟨_, rfl, ?_⟩; have n0_ := A_ (Kd.N_elder' (by (with_reducible repeat (first | apply Kd.N_alloc | apply Kd.N_drewN | apply Kd.N_drew)); exact HO155.out) (Kd.R_base ho0) hb); have n1_ := A_ (Kd.R_below (rk_ HO158.out) hb); have n2_ := A_ (Kd.R_elder' (rk_ HO161.out) (Kd.R_base ho0) hb); have n3_ := A_ (Kd.R_lower (Kd.R_new' ho0 (Kd.R_lt (rk_ HO161.out))) (below_size (bk_ HB.out))); have n4_ := A_ (below_step (bk_ HB.out) hb); clear HO155 HO158 HO161 HB; have HO155 := n0_; have HO158 := n1_; have HO161 := n2_; have HO164 := n3_; have HB := n4_; clear n0_ n1_ n2_ n3_ n4_; (try clear hb); (try clear hb2); (try clear hk); (try clear hi); (try clear ho0)) | ((with_reducible refine gate_callee (f := 42) rfl ?_); refine goesL_ (some 14) rfl rfl Try.func42 (by kernel_rfl) rfl #[] rfl gl_ ?_; (with_reducible refine (standstilllaw07_three.calls  t167 t168 t171 _ A3.out).mono ?_); rintro e w97 ⟨v169, v172, rfl, ho0, ho1, hb⟩; refine ⟨_, rfl, ?_⟩; have n0_ := A_ (Kd.N_mono (Kd.N_told (Kd.N_told (Kd.N_old (by (with_reducible repeat (first | apply Kd.N_alloc | apply Kd.N_drewN | apply Kd.N_drew)); exact HO155.out) hb) (by first | exact Kd.N_base ho0 | exact Kd.S_base ho0 | exact Kd.N_base ho0 | exact Kd.R_base ho0)) (Kd.R_base ho1)) (fun _ h_ => h_.1)); have n1_ := A_ (Kd.R_elder' (rk_ HO158.out) (Kd.R_base ho1) hb); have n2_ := A_ (Kd.R_below (rk_ HO161.out) hb); have n3_ := A_ (Kd.R_below (rk_ HO164.out) hb); have n4_ := A_ (Kd.N_lower (Kd.N_mono (ok' := fun k_ => some k_ ≠ (v172 : Value).ownBlock ∧ some k_ ≠ (.slice Ao93 t153.length co93 : Value).ownBlock ∧ some k_ ≠ (.slice Ao94 t156.length co94 : Value).ownBlock ∧ some k_ ≠ (.slice Ao95 y159.length co95 : Value).ownBlock ∧ some k_ ≠ (v163 : Value).ownBlock) ho0 (fun k_ hk_ => ⟨hk_.2, (Kd.fresh' (Kd.N_lt (by (with_reducible repeat (first | apply Kd.N_alloc | apply Kd.N_drewN | apply Kd.N_drew)); exact HO155.out)) k_ hk_.1), (Kd.fresh' (Kd.R_lt (rk_ HO158.out)) k_ hk_.1), (Kd.fresh' (Kd.R_lt (rk_ HO161.out)) k_ hk_.1), (Kd.fresh' (Kd.R_lt (rk_ HO164.out)) k_ hk_.1)⟩)) (below_size (bk_ HB.out))); have n5_ := A_ (Kd.R_lower (Kd.R_new' (Kd.R_mono (ok' := fun k_ => True) ho1 (fun _ hk_ => trivial)) (Kd.R_lt (rk_ HO158.out))) (below_size (bk_ HB.out))); have n6_ := A_ (below_step (bk_ HB.out) hb); clear HO155 HO158 HO161 HO164 HB; have HO155 := n0_; have HO158 := n1_; have HO161 := n2_; have HO164 := n3_; have HO170 := n4_; have HO173 := n5_; have HB := n6_; clear n0_ n1_ n2_ n3_ n4_ n5_ n6_; (try clear hb); (try clear hb2); (try clear hk); (try clear hi); (try clear ho0); (try clear ho1); obtain ⟨Ao98, co98, eo98⟩ := Kd.N_slice HO170.out; subst eo98; obtain ⟨Ao99, co99, eo99⟩ := Kd.R_slice HO173.out; subst eo99) | ((with_reducible refine gate_callee (f := 35) rfl ?_); refine goesL_ (some 15) rfl rfl Try.func35 (by kernel_rfl) rfl #[.agg #[.int .i64 t167, .slice Ao98 t168.length co98, .slice Ao99 t171.length co99]] rfl gl_ ?_; (with_reducible refine (tag_ToCyclic.calls k t167 _ _ t168 _ _ t171 t174 t177 _ ?side1 ?side2 ?side3 ?side4 A4.out).mono ?_); (case side1 => repeat (first | exact (Kd.N_reads' HO170.out).2.2 | (with_reducible refine Kd.C_alloc ?_ _) | (with_reducible refine Kd.C_drewN ?_ _) | (with_reducible refine Kd.C_drew ?_))); (case side2 => exact (Kd.N_reads' HO170.out).2.1); (case side3 => repeat (first | exact (Kd.R_reads' HO173.out).2.2 | (with_reducible refine Kd.C_alloc ?_ _) | (with_reducible refine Kd.C_drewN ?_ _) | (with_reducible refine Kd.C_drew ?_))); (case side4 => exact (Kd.R_reads' HO173.out).2.1); rintro e w100 ⟨v175, rfl, ho0, hb⟩; refine ⟨_, rfl, ?_⟩; have n0_ := A_ (Kd.N_elder' (by (with_reducible repeat (first | apply Kd.N_alloc | apply Kd.N_drewN | apply Kd.N_drew)); exact HO155.out) (by first | exact Kd.N_base ho0 | exact Kd.S_base ho0 | exact Kd.R_base ho0) hb); have n1_ := A_ (Kd.R_below (rk_ HO158.out) hb); have n2_ := A_ (Kd.R_below (rk_ HO161.out) hb); have n3_ := A_ (Kd.R_below (rk_ HO164.out) hb); have n4_ := A_ (Kd.N_elder' (by (with_reducible repeat (first | apply Kd.N_alloc | apply Kd.N_drewN | apply Kd.N_drew)); exact HO170.out) (by first | exact Kd.N_base ho0 | exact Kd.S_base ho0 | exact Kd.R_base ho0) hb); have n5_ := A_ (Kd.R_below (rk_ HO173.out) hb); have n6_ := A_ (Kd.N_lower (Kd.N_mono (ok' := fun k_ => some k_ ≠ (.slice Ao93 t153.length co93 : Value).ownBlock ∧ some k_ ≠ (.slice Ao94 t156.length co94 : Value).ownBlock ∧ some k_ ≠ (.slice Ao95 y159.length co95 : Value).ownBlock ∧ some k_ ≠ (v163 : Value).ownBlock ∧ some k_ ≠ (.slice Ao98 t168.length co98 : Value).ownBlock ∧ some k_ ≠ (.slice Ao99 t171.length co99 : Value).ownBlock) (Kd.S_N (Kd.S_bound ho0)) (fun k_ hk_ => ⟨(Kd.fresh' (Kd.N_lt (by (with_reducible repeat (first | apply Kd.N_alloc | apply Kd.N_drewN | apply Kd.N_drew)); exact HO155.out)) k_ hk_.2.1), (Kd.fresh' (Kd.R_lt (rk_ HO158.out)) k_ hk_.2.1), (Kd.fresh' (Kd.R_lt (rk_ HO161.out)) k_ hk_.2.1), (Kd.fresh' (Kd.R_lt (rk_ HO164.out)) k_ hk_.2.1), (Kd.fresh' (Kd.N_lt (by (with_reducible repeat (first | apply Kd.N_alloc | apply Kd.N_drewN | apply Kd.N_drew)); exact HO170.out)) k_ hk_.2.1), (Kd.fresh' (Kd.R_lt (rk_ HO173.out)) k_ hk_.2.1)⟩)) (below_size (bk_ HB.out))); have n7_ := A_ (below_step (bk_ HB.out) hb); clear HO155 HO158 HO161 HO164 HO170 HO173 HB; have HO155 := n0_; have HO158 := n1_; have HO161 := n2_; have HO164 := n3_; have HO170 := n4_; have HO173 := n5_; have HO176 := n6_; have HB := n7_; clear n0_ n1_ n2_ n3_ n4_ n5_ n6_ n7_; (try clear hb); (try clear hb2); (try clear hk); (try clear hi); (try clear ho0)) | ((with_reducible refine gate_dst (N := 4) rfl ?_); (try (refine gate_guard (by rfl) ?_; dsimp only)); refine box_event ?hg (N := 4) ?hd (cs := #[.slice none 0 0]) (t := 45) ?hr ?_; (case hd => rfl); (case hg => rfl); (case hr => first | (go_simp; done) | (go_simp; rfl)); intro gb178 hg w101 hbox hb; have n0_ := A_ (Kd.N_below (Kd.N_elderB (by (with_reducible repeat (first | apply Kd.N_alloc | apply Kd.N_drewN | apply Kd.N_drew)); exact HO155.out) gb178 (Nat.le_of_eq hg.symm)) hb); have n1_ := A_ (Kd.R_below (rk_ HO158.out) hb); have n2_ := A_ (Kd.R_below (rk_ HO161.out) hb); have n3_ := A_ (Kd.R_below (rk_ HO164.out) hb); have n4_ := A_ (Kd.N_below (Kd.N_elderB (by (with_reducible repeat (first | apply Kd.N_alloc | apply Kd.N_drewN | apply Kd.N_drew)); exact HO170.out) gb178 (Nat.le_of_eq hg.symm)) hb); have n5_ := A_ (Kd.R_below (rk_ HO173.out) hb); have n6_ := A_ (Kd.N_below (Kd.N_elderB (by (with_reducible repeat (first | apply Kd.N_alloc | apply Kd.N_drewN | apply Kd.N_drew)); exact HO176.out) gb178 (Nat.le_of_eq hg.symm)) hb); have n7_ := A_ (below_step (bk_ HB.out) hb); have n8_ := A_ (hbox); have n9_ := A_ ((by rw [hg]; exact (below_size (bk_ HB.out)) : w.heap.size ≤ gb178)); have n10_ := A_ ((by rw [hg]; exact (below_size (bk_ HB.out)) : w.heap.size ≤ gb178)); clear HO155 HO158 HO161 HO164 HO170 HO173 HO176 HB; have HO155 := n0_; have HO158 := n1_; have HO161 := n2_; have HO164 := n3_; have HO170 := n4_; have HO173 := n5_; have HO176 := n6_; have HB := n7_; have BK178 := n8_; have GW178 := n9_; have GE178 := n10_; clear n0_ n1_ n2_ n3_ n4_ n5_ n6_ n7_ n8_ n9_ n10_ hb hbox hg; obtain ⟨Ao102, co102, eo102⟩ := Kd.N_slice HO176.out; subst eo102; have hcz103_0 : w101.cell? ⟨gb178, 0, none⟩ = some (.slice none 0 0) := (blk_cell BK178.out 0).trans rfl; have hfz103_0 := blk_frozen BK178.out 0))
   go_ret
   exact ⟨er_, bk_ HB.out⟩
 ·rw [if_neg c5] at H
  have c5b0 : (t166 == 0) = false := beq_eq_false_iff_ne.mpr c5
  have c5b1 : (t166 != 0) = true := bne_iff_ne.mpr c5
  obtain rfl := Option.some.inj H
  go_enter Try.func11, Try.ntmps11
  go_wp2_with (first | ((with_reducible refine gate_callee (f := 42) rfl ?_); refine goesL_ (some 7) rfl rfl Try.func42 (by kernel_rfl) rfl #[] rfl gl_ ?_; (with_reducible refine (standstilllaw07_three.calls  t152 t153 t156 _ A1.out).mono ?_); rintro e w104 ⟨v154, v157, rfl, ho0, ho1, hb⟩; refine ⟨_, rfl, ?_⟩; have n0_ := A_ (Kd.N_lower (Kd.N_mono (ok' := fun k_ => some k_ ≠ (v157 : Value).ownBlock) ho0 (fun k_ hk_ => hk_.2)) (below_size (bk_ HB.out))); have n1_ := A_ (Kd.R_lower (Kd.R_mono (ok' := fun k_ => True) ho1 (fun _ hk_ => trivial)) (below_size (bk_ HB.out))); have n2_ := A_ (below_step (bk_ HB.out) hb); clear HB; have HO155 := n0_; have HO158 := n1_; have HB := n2_; clear n0_ n1_ n2_; (try clear hb); (try clear hb2); (try clear hk); (try clear hi); (try clear ho0); (try clear ho1)) | ((with_reducible refine gate_dst (N := 8) rfl ?_); (try (refine gate_guard (by rfl) ?_; dsimp only)); refine Kd.R_lit (Kd.int .i64) _ 3 ?hg (N := 8) ?hd (xs := ([0, 0, 0] : List Int)) (inner := [.int .i64 0, .int .i64 0, .int .i64 0]) (ok := fun _ => True) (okp := fun _ => True) ?hr ?hp (fun _ hk => hk) trivial (Below.refl _ _) (Nat.le_refl _) (by simp) ?_; (case hd => rfl); (case hg => rfl); (case hr => first | (go_simp; done) | (go_simp; rfl)); (case hp => exact (Reps.one (show Kd.M (Kd.int .i64) _ _ _ 0 [.int .i64 0] from rfl) (Reps.one (show Kd.M (Kd.int .i64) _ _ _ 0 [.int .i64 0] from rfl) (Reps.one (show Kd.M (Kd.int .i64) _ _ _ 0 [.int .i64 0] from rfl) (Reps.none _ _))))); intro v160 w105 ho106 hb hg_ hnew_; clear hg_ hnew_; (first | rw [← Ny159.out] at ho106 | (simp only [Int.reduceToNat] at ho106; rw [← Ny159.out] at ho106)); have n0_ := A_ (Kd.N_elder' (by (with_reducible repeat (first | apply Kd.N_alloc | apply Kd.N_drewN | apply Kd.N_drew)); exact HO155.out) (Kd.R_base ho106) hb); have n1_ := A_ (Kd.R_below (rk_ HO158.out) hb); have n2_ := A_ (Kd.R_lower ho106 (below_size (bk_ HB.out))); have n3_ := A_ (below_step (bk_ HB.out) hb); clear HO155 HO158 HB; have HO155 := n0_; have HO158 := n1_; have HO161 := n2_; have HB := n3_; clear n0_ n1_ n2_ n3_ hb ho106; obtain ⟨Ao107, co107, eo107⟩ := Kd.N_slice HO155.out; subst eo107; obtain ⟨Ao108, co108, eo108⟩ := Kd.R_slice HO158.out; subst eo108; obtain ⟨Ao109, co109, eo109⟩ := Kd.R_slice HO161.out; subst eo109) | ((with_reducible refine gate_callee (f := 13) rfl ?_); refine goesL_ (some 9) rfl rfl Try.func13 (by kernel_rfl) rfl #[.agg #[.int .i64 t152, .slice Ao107 t153.length co107, .slice Ao108 t156.length co108], .slice Ao109 y159.length co109, .int .i64 4] rfl gl_ ?_; (with_reducible refine (tag_Run.calls k t152 _ _ t153 _ _ t156 _ _ y159 4 t162 t165 t166 _ ?side1 ?side2 ?side3 ?side4 ?side5 ?side6 A2.out).mono ?_); (case side1 => repeat (first | exact (Kd.N_reads' HO155.out).2.2 | (with_reducible refine Kd.C_alloc ?_ _) | (with_reducible refine Kd.C_drewN ?_ _) | (with_reducible refine Kd.C_drew ?_))); (case side2 => exact (Kd.N_reads' HO155.out).2.1); (case side3 => repeat (first | exact (Kd.R_reads' HO158.out).2.2 | (with_reducible refine Kd.C_alloc ?_ _) | (with_reducible refine Kd.C_drewN ?_ _) | (with_reducible refine Kd.C_drew ?_))); (case side4 => exact (Kd.R_reads' HO158.out).2.1); (case side5 => repeat (first | exact (Kd.R_reads' HO161.out).2.2 | (with_reducible refine Kd.C_alloc ?_ _) | (with_reducible refine Kd.C_drewN ?_ _) | (with_reducible refine Kd.C_drew ?_))); (case side6 => exact (Kd.R_reads' HO161.out).2.1); rintro e w110 ⟨v163, rfl, ho0, hb⟩; refine ⟨_, rfl, ?_⟩; have n0_ := A_ (Kd.N_elder' (by (with_reducible repeat (first | apply Kd.N_alloc | apply Kd.N_drewN | apply Kd.N_drew)); exact HO155.out) (Kd.R_base ho0) hb); have n1_ := A_ (Kd.R_below (rk_ HO158.out) hb); have n2_ := A_ (Kd.R_elder' (rk_ HO161.out) (Kd.R_base ho0) hb); have n3_ := A_ (Kd.R_lower (Kd.R_new' ho0 (Kd.R_lt (rk_ HO161.out))) (below_size (bk_ HB.out))); have n4_ := A_ (below_step (bk_ HB.out) hb); clear HO155 HO158 HO161 HB; have HO155 := n0_; have HO158 := n1_; have HO161 := n2_; have HO164 := n3_; have HB := n4_; clear n0_ n1_ n2_ n3_ n4_; (try clear hb); (try clear hb2); (try clear hk); (try clear hi); (try clear ho0)) | ((with_reducible refine gate_callee (f := 42) rfl ?_); refine goesL_ (some 14) rfl rfl Try.func42 (by kernel_rfl) rfl #[] rfl gl_ ?_; (with_reducible refine (standstilllaw07_three.calls  t167 t168 t171 _ A3.out).mono ?_); rintro e w111 ⟨v169, v172, rfl, ho0, ho1, hb⟩; refine ⟨_, rfl, ?_⟩; have n0_ := A_ (Kd.N_mono (Kd.N_told (Kd.N_told (Kd.N_old (by (with_reducible repeat (first | apply Kd.N_alloc | apply Kd.N_drewN | apply Kd.N_drew)); exact HO155.out) hb) (by first | exact Kd.N_base ho0 | exact Kd.S_base ho0 | exact Kd.N_base ho0 | exact Kd.R_base ho0)) (Kd.R_base ho1)) (fun _ h_ => h_.1)); have n1_ := A_ (Kd.R_elder' (rk_ HO158.out) (Kd.R_base ho1) hb); have n2_ := A_ (Kd.R_below (rk_ HO161.out) hb); have n3_ := A_ (Kd.R_below (rk_ HO164.out) hb); have n4_ := A_ (Kd.N_lower (Kd.N_mono (ok' := fun k_ => some k_ ≠ (v172 : Value).ownBlock ∧ some k_ ≠ (.slice Ao107 t153.length co107 : Value).ownBlock ∧ some k_ ≠ (.slice Ao108 t156.length co108 : Value).ownBlock ∧ some k_ ≠ (.slice Ao109 y159.length co109 : Value).ownBlock ∧ some k_ ≠ (v163 : Value).ownBlock) ho0 (fun k_ hk_ => ⟨hk_.2, (Kd.fresh' (Kd.N_lt (by (with_reducible repeat (first | apply Kd.N_alloc | apply Kd.N_drewN | apply Kd.N_drew)); exact HO155.out)) k_ hk_.1), (Kd.fresh' (Kd.R_lt (rk_ HO158.out)) k_ hk_.1), (Kd.fresh' (Kd.R_lt (rk_ HO161.out)) k_ hk_.1), (Kd.fresh' (Kd.R_lt (rk_ HO164.out)) k_ hk_.1)⟩)) (below_size (bk_ HB.out))); have n5_ := A_ (Kd.R_lower (Kd.R_new' (Kd.R_mono (ok' := fun k_ => True) ho1 (fun _ hk_ => trivial)) (Kd.R_lt (rk_ HO158.out))) (below_size (bk_ HB.out))); have n6_ := A_ (below_step (bk_ HB.out) hb); clear HO155 HO158 HO161 HO164 HB; have HO155 := n0_; have HO158 := n1_; have HO161 := n2_; have HO164 := n3_; have HO170 := n4_; have HO173 := n5_; have HB := n6_; clear n0_ n1_ n2_ n3_ n4_ n5_ n6_; (try clear hb); (try clear hb2); (try clear hk); (try clear hi); (try clear ho0); (try clear ho1); obtain ⟨Ao112, co112, eo112⟩ := Kd.N_slice HO170.out; subst eo112; obtain ⟨Ao113, co113, eo113⟩ := Kd.R_slice HO173.out; subst eo113) | ((with_reducible refine gate_callee (f := 35) rfl ?_); refine goesL_ (some 15) rfl rfl Try.func35 (by kernel_rfl) rfl #[.agg #[.int .i64 t167, .slice Ao112 t168.length co112, .slice Ao113 t171.length co113]] rfl gl_ ?_; (with_reducible refine (tag_ToCyclic.calls k t167 _ _ t168 _ _ t171 t174 t177 _ ?side1 ?side2 ?side3 ?side4 A4.out).mono ?_); (case side1 => repeat (first | exact (Kd.N_reads' HO170.out).2.2 | (with_reducible refine Kd.C_alloc ?_ _) | (with_reducible refine Kd.C_drewN ?_ _) | (with_reducible refine Kd.C_drew ?_))); (case side2 => exact (Kd.N_reads' HO170.out).2.1); (case side3 => repeat (first | exact (Kd.R_reads' HO173.out).2.2 | (with_reducible refine Kd.C_alloc ?_ _) | (with_reducible refine Kd.C_drewN ?_ _) | (with_reducible refine Kd.C_drew ?_))); (case side4 => exact (Kd.R_reads' HO173.out).2.1); rintro e w114 ⟨v175, rfl, ho0, hb⟩; refine ⟨_, rfl, ?_⟩; have n0_ := A_ (Kd.N_elder' (by (with_reducible repeat (first | apply Kd.N_alloc | apply Kd.N_drewN | apply Kd.N_drew)); exact HO155.out) (by first | exact Kd.N_base ho0 | exact Kd.S_base ho0 | exact Kd.R_base ho0) hb); have n1_ := A_ (Kd.R_below (rk_ HO158.out) hb); have n2_ := A_ (Kd.R_below (rk_ HO161.out) hb); have n3_ := A_ (Kd.R_below (rk_ HO164.out) hb); have n4_ := A_ (Kd.N_elder' (by (with_reducible repeat (first | apply Kd.N_alloc | apply Kd.N_drewN | apply Kd.N_drew)); exact HO170.out) (by first | exact Kd.N_base ho0 | exact Kd.S_base ho0 | exact Kd.R_base ho0) hb); have n5_ := A_ (Kd.R_below (rk_ HO173.out) hb); have n6_ := A_ (Kd.N_lower (Kd.N_mono (ok' := fun k_ => some k_ ≠ (.slice Ao107 t153.length co107 : Value).ownBlock ∧ some k_ ≠ (.slice Ao108 t156.length co108 : Value).ownBlock ∧ some k_ ≠ (.slice Ao109 y159.length co109 : Value).ownBlock ∧ some k_ ≠ (v163 : Value).ownBlock ∧ some k_ ≠ (.slice Ao112 t168.length co112 : Value).ownBlock ∧ some k_ ≠ (.slice Ao113 t171.length co113 : Value).ownBlock) (Kd.S_N (Kd.S_bound ho0)) (fun k_ hk_ => ⟨(Kd.fresh' (Kd.N_lt (by (with_reducible repeat (first | apply Kd.N_alloc | apply Kd.N_drewN | apply Kd.N_drew)); exact HO155.out)) k_ hk_.2.1), (Kd.fresh' (Kd.R_lt (rk_ HO158.out)) k_ hk_.2.1), (Kd.fresh' (Kd.R_lt (rk_ HO161.out)) k_ hk_.2.1), (Kd.fresh' (Kd.R_lt (rk_ HO164.out)) k_ hk_.2.1), (Kd.fresh' (Kd.N_lt (by (with_reducible repeat (first | apply Kd.N_alloc | apply Kd.N_drewN | apply Kd.N_drew)); exact HO170.out)) k_ hk_.2.1), (Kd.fresh' (Kd.R_lt (rk_ HO173.out)) k_ hk_.2.1)⟩)) (below_size (bk_ HB.out))); have n7_ := A_ (below_step (bk_ HB.out) hb); clear HO155 HO158 HO161 HO164 HO170 HO173 HB; have HO155 := n0_; have HO158 := n1_; have HO161 := n2_; have HO164 := n3_; have HO170 := n4_; have HO173 := n5_; have HO176 := n6_; have HB := n7_; clear n0_ n1_ n2_ n3_ n4_ n5_ n6_ n7_; (try clear hb); (try clear hb2); (try clear hk); (try clear hi); (try clear ho0)) | ((with_reducible refine gate_dst (N := 4) rfl ?_); (try (refine gate_guard (by rfl) ?_; dsimp only)); refine box_event ?hg (N := 4) ?hd (cs := #[.slice none 0 0]) (t := 45) ?hr ?_; (case hd => rfl); (case hg => rfl); (case hr => first | (go_simp; done) | (go_simp; rfl)); intro gb178 hg w115 hbox hb; have n0_ := A_ (Kd.N_below (Kd.N_elderB (by (with_reducible repeat (first | apply Kd.N_alloc | apply Kd.N_drewN | apply Kd.N_drew)); exact HO155.out) gb178 (Nat.le_of_eq hg.symm)) hb); have n1_ := A_ (Kd.R_below (rk_ HO158.out) hb); have n2_ := A_ (Kd.R_below (rk_ HO161.out) hb); have n3_ := A_ (Kd.R_below (rk_ HO164.out) hb); have n4_ := A_ (Kd.N_below (Kd.N_elderB (by (with_reducible repeat (first | apply Kd.N_alloc | apply Kd.N_drewN | apply Kd.N_drew)); exact HO170.out) gb178 (Nat.le_of_eq hg.symm)) hb); have n5_ := A_ (Kd.R_below (rk_ HO173.out) hb); have n6_ := A_ (Kd.N_below (Kd.N_elderB (by (with_reducible repeat (first | apply Kd.N_alloc | apply Kd.N_drewN | apply Kd.N_drew)); exact HO176.out) gb178 (Nat.le_of_eq hg.symm)) hb); have n7_ := A_ (below_step (bk_ HB.out) hb); have n8_ := A_ (hbox); have n9_ := A_ ((by rw [hg]; exact (below_size (bk_ HB.out)) : w.heap.size ≤ gb178)); have n10_ := A_ ((by rw [hg]; exact (below_size (bk_ HB.out)) : w.heap.size ≤ gb178)); clear HO155 HO158 HO161 HO164 HO170 HO173 HO176 HB; have HO155 := n0_; have HO158 := n1_; have HO161 := n2_; have HO164 := n3_; have HO170 := n4_; have HO173 := n5_; have HO176 := n6_; have HB := n7_; have BK178 := n8_; have GW178 := n9_; have GE178 := n10_; clear n0_ n1_ n2_ n3_ n4_ n5_ n6_ n7_ n8_ n9_ n10_ hb hbox hg; obtain ⟨Ao116, co116, eo116⟩ := Kd.N_slice HO176.out; subst eo116; have hcz117_0 : w115.cell? ⟨gb178, 0, none⟩ = some (.slice none 0 0) := (blk_cell BK178.out 0).trans rfl; have hfz117_0 := blk_frozen BK178.out 0))
  go_ret
  exact ⟨er_, bk_ HB.out⟩

/-! ### standstilllaw07_size: function 21 -/
def standstilllaw07_size.f (a0 : Bool) : Option (Int) := if a0 = true then (some 0) else (some 4)
set_option maxHeartbeats 8000000 in
set_option maxRecDepth 100000 in
theorem standstilllaw07_size.calls (a0 : Bool) (r : Int) (w : World) (h : standstilllaw07_size.f a0 = some r) :
  Calls Try.prog 21 #[.bool a0] w fun e w' => e = .returned (.int .i64 r) ∧ Drawn0 w w' := by
 have H : (if a0 = true then (some 0) else (some 4)) = some r := h
 clear h
 by_cases c2 : a0 = true
 ·subst c2
  have H1 : (some 0) = some r := by rw [if_pos rfl] at H; exact H
  clear H
  have H := H1
  clear H1
  obtain rfl := Option.some.inj H
  go_enter Try.func21, Try.ntmps21
  go_wp2
  go_ret
  exact ⟨by first | rfl | (simp; done) | (simp [*]; done), by repeat (first | exact Drawn0.refl _ | apply Drawn0.step)⟩
 ·replace c2 := Bool.eq_false_iff.mpr c2
  subst c2
  have H1 : (some 4) = some r := by rw [if_neg (show ¬ (false = true) by decide)] at H; exact H
  clear H
  have H := H1
  clear H1
  obtain rfl := Option.some.inj H
  go_enter Try.func21, Try.ntmps21
  go_wp2
  go_ret
  exact ⟨by first | rfl | (simp; done) | (simp [*]; done), by repeat (first | exact Drawn0.refl _ | apply Drawn0.step)⟩

end Go.Proofs.Ytkinnaegedbanaa.PTagTurns
