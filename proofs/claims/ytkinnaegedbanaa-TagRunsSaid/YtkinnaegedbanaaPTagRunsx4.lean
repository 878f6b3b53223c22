-- out of a turned copy of the print, by a program of this session; Lean checks it
import Derived.Test.YtkinnaegedbanaaPTagRunsx0
import Derived.Test.YtkinnaegedbanaaPTagRunsx2
import Derived.Test.YtkinnaegedbanaaPTagRunsx3
namespace Go.Proofs.Ytkinnaegedbanaa.PTagRuns
open Go.RowKit Go.Proofs.YtkinnaegedbanaaW.PrintWords Go.Proofs.YtkinnaegedbanaaW.PrintLast Go.Proofs.YtkinnaegedbanaaW.PrintMore
attribute [local go_sem] max2_int min2_int max_two min_two max_three min_three max_four min_four   -- for this text's walks alone
set_option linter.unusedVariables false
set_option linter.unusedSimpArgs false

attribute [local go_sem] isSome_put_
/-! ### tag_ToCyclic: function 35 -/
mutual
def tag_ToCyclic.l0 : Nat → Int → List (List Int) → Int → Int → Int → List (List Int) → List Bool → List (List Int) → Option ((List (List Int)) × Int)
 | 0, _, _, _, _, _, _, _, _ => none
 | k + 1, x4, x16, x17, x18, x127000, x127001, x127002, x130000 => if x18 < x17 then (if 0 ≤ x18 then (if x18 < (x16.length : Int) then (if x18 < (x127002.length : Int) then (if rdOf false x127002 x18 = true then ((tag_bits.f k ([] : List Int) x4).bind fun t132 => (if x130000.length < 5864062014805 then (tag_ToCyclic.l0 k x4 x16 x17 (wrap64 (x18 + 1)) x127000 x127001 x127002 (x130000 ++ [t132])) else (none))) else ((tag_bits.f k (rd_L1 x16 x18) x4).bind fun t138 => (if x130000.length < 5864062014805 then (tag_ToCyclic.l0 k x4 x16 x17 (wrap64 (x18 + 1)) x127000 x127001 x127002 (x130000 ++ [t138])) else (none)))) else (none)) else (none)) else (none)) else (tag_ToCyclic.l1 k (wrap64 ((wrap64 (x127000 - 1)) * x4)) 0 x130000)
def tag_ToCyclic.l1 : Nat → Int → Int → List (List Int) → Option ((List (List Int)) × Int)
 | 0, _, _, _ => none
 | k + 1, x41, x42, x130000 => if x42 < x41 then (if x130000.length < 5864062014805 then (tag_ToCyclic.l1 k x41 (wrap64 (x42 + 1)) (x130000 ++ [[]])) else (none)) else (some (x130000, 0))
end
def tag_ToCyclic.f (k : Nat) (a0_0 : Int) (l0_1 : List (List Int)) (l0_2 : List Bool) : Option ((List (List Int)) × Int) := (tag_Valid.f k a0_0 l0_1 l0_2).bind fun t128 => (if t128 = true then (tag_ToCyclic.l0 k (l0_1.length : Int) l0_1 (l0_1.length : Int) 0 a0_0 l0_1 l0_2 ([] : List (List Int))) else (some (([] : List (List Int)), 1)))
theorem tag_ToCyclic.mono_l : ∀ k, (∀ y0 y1 y2 y3 y4 y5 y6 y7, LeO (tag_ToCyclic.l0 k y0 y1 y2 y3 y4 y5 y6 y7) (tag_ToCyclic.l0 (k + 1) y0 y1 y2 y3 y4 y5 y6 y7)) ∧ (∀ y0 y1 y2, LeO (tag_ToCyclic.l1 k y0 y1 y2) (tag_ToCyclic.l1 (k + 1) y0 y1 y2))
 | 0 => ⟨fun _ _ _ _ _ _ _ _ r h => by simp [tag_ToCyclic.l0] at h, fun _ _ _ r h => by simp [tag_ToCyclic.l1] at h⟩
 | k + 1 => by
  obtain ⟨ih0, ih1⟩ := tag_ToCyclic.mono_l k
  refine ⟨?_, ?_⟩
  ·intro y0 y1 y2 y3 y4 y5 y6 y7
   unfold tag_ToCyclic.l0
   repeat' first
   | (with_reducible exact ih0 _ _ _ _ _ _ _ _)
   | (with_reducible exact ih1 _ _ _)
   | (with_reducible exact tag_Valid.mono _ _ _ _)
   | (with_reducible exact tag_bits.mono _ _ _)
   | (with_reducible exact LeO.refl _)
   | (with_reducible exact LeO.none _)
   | (with_reducible refine LeO.ite ?_ ?_)
   | (with_reducible refine LeO.bind ?_ (fun _ => ?_))
   | exact ih0 _ _ _ _ _ _ _ _
   | exact ih1 _ _ _
   | exact tag_Valid.mono _ _ _ _
   | exact tag_bits.mono _ _ _
   | exact LeO.none _
   | refine LeO.ite ?_ ?_
   | refine LeO.bind ?_ (fun _ => ?_)
  ·intro y0 y1 y2
   unfold tag_ToCyclic.l1
   repeat' first
   | (with_reducible exact ih0 _ _ _ _ _ _ _ _)
   | (with_reducible exact ih1 _ _ _)
   | (with_reducible exact tag_Valid.mono _ _ _ _)
   | (with_reducible exact tag_bits.mono _ _ _)
   | (with_reducible exact LeO.refl _)
   | (with_reducible exact LeO.none _)
   | (with_reducible refine LeO.ite ?_ ?_)
   | (with_reducible refine LeO.bind ?_ (fun _ => ?_))
   | exact ih0 _ _ _ _ _ _ _ _
   | exact ih1 _ _ _
   | exact tag_Valid.mono _ _ _ _
   | exact tag_bits.mono _ _ _
   | exact LeO.none _
   | refine LeO.ite ?_ ?_
   | refine LeO.bind ?_ (fun _ => ?_)
theorem tag_ToCyclic.mono : ∀ a0 a1 a2 k, LeO (tag_ToCyclic.f k a0 a1 a2) (tag_ToCyclic.f (k + 1) a0 a1 a2) := by
 intro a0 a1 a2 k
 obtain ⟨ih0, ih1⟩ := tag_ToCyclic.mono_l k
 unfold tag_ToCyclic.f
 repeat' first
   | (with_reducible exact ih0 _ _ _ _ _ _ _ _)
   | (with_reducible exact ih1 _ _ _)
   | (with_reducible exact tag_Valid.mono _ _ _ _)
   | (with_reducible exact tag_bits.mono _ _ _)
   | (with_reducible exact LeO.refl _)
   | (with_reducible exact LeO.none _)
   | (with_reducible refine LeO.ite ?_ ?_)
   | (with_reducible refine LeO.bind ?_ (fun _ => ?_))
   | exact ih0 _ _ _ _ _ _ _ _
   | exact ih1 _ _ _
   | exact tag_Valid.mono _ _ _ _
   | exact tag_bits.mono _ _ _
   | exact LeO.none _
   | refine LeO.ite ?_ ?_
   | refine LeO.bind ?_ (fun _ => ?_)
def tag_ToCyclic.T10 : Bool × List (List Nat × List Nat) := (true, [([], []), ([0], [0]), ([], []), ([], []), ([2, 3], [2, 3]), ([4], [4]), ([1, 5, 4], [1, 5]), ([0, 1, 2, 3, 4, 5, 6], []), ([7, 6, 6, 0, 1, 2, 3, 4, 5, 6], [6, 7])])
def tag_ToCyclic.B10 : List Nat := [0, 1, 0, 0, 12, 28, 63, 127, 255]
theorem tag_ToCyclic.tab10 : rtab .any (opsOf Try.f35 10) = tag_ToCyclic.T10 := by kernel_rfl
theorem tag_ToCyclic.bits10 : waitsOk tag_ToCyclic.T10.2 tag_ToCyclic.B10 = true := by kernel_rfl
set_option maxHeartbeats 8000000 in
set_option maxRecDepth 100000 in
theorem tag_ToCyclic.calls (k : Nat) (a0_0 : Int) (A0_1 : Option Addr) (c0_1 : Nat) (l0_1 : List (List Int)) (A0_2 : Option Addr) (c0_2 : Nat) (l0_2 : List Bool) (r1 : List (List Int)) (r2 : Int) (w : World) (hr0_1 : Kd.C (Kd.slice 3 (Kd.int .i64)) w A0_1 l0_1.length l0_1) (hc0_1 : l0_1.length ≤ c0_1) (hr0_2 : Kd.C Kd.bool w A0_2 l0_2.length l0_2) (hc0_2 : l0_2.length ≤ c0_2) (h : tag_ToCyclic.f k a0_0 l0_1 l0_2 = some (r1, r2)) :
  Calls Try.prog 35 #[.agg #[.int .i64 a0_0, .slice A0_1 l0_1.length c0_1, .slice A0_2 l0_2.length c0_2]] w fun e w' => ∃ v0_ : Value, e = .returned (.tuple #[.agg #[v0_], .int .i64 r2]) ∧ Kd.S (Kd.slice 3 (Kd.int .i64)) 26 w' w.heap.size (fun _ => True) v0_ r1 ∧ Below w.heap.size w w' := by
 have hu25 := Try.underlying25
 have hu45 := Try.underlying45
 have HR0_1 := Aside0.mk hr0_1
 have HC0_1 := Aside0.mk hc0_1
 clear hr0_1 hc0_1
 have HR0_2 := Aside0.mk hr0_2
 have HC0_2 := Aside0.mk hc0_2
 clear hr0_2 hc0_2
 have HB := A_ (Below.refl w.heap.size w)
 have H : ((tag_Valid.f k a0_0 l0_1 l0_2).bind fun t128 => (if t128 = true then (tag_ToCyclic.l0 k (l0_1.length : Int) l0_1 (l0_1.length : Int) 0 a0_0 l0_1 l0_2 ([] : List (List Int))) else (some (([] : List (List Int)), 1)))) = some (r1, r2) := h
 clear h
 replace H := Option.bind_eq_some_iff.mp H
 obtain ⟨t128, A20, H⟩ := H
 replace H : (if t128 = true then (tag_ToCyclic.l0 k (l0_1.length : Int) l0_1 (l0_1.length : Int) 0 a0_0 l0_1 l0_2 ([] : List (List Int))) else (some (([] : List (List Int)), 1))) = some (r1, r2) := H
 have A2 := Aside0.mk A20
 clear A20
 by_cases c3 : t128 = true
 ·subst c3
  have H1 : (tag_ToCyclic.l0 k (l0_1.length : Int) l0_1 (l0_1.length : Int) 0 a0_0 l0_1 l0_2 ([] : List (List Int))) = some (r1, r2) := by rw [if_pos rfl] at H; exact H
  clear H
  have H := H1
  clear H1
  have H' := Aside0.mk H
  clear H
  go_enter Try.func35, Try.ntmps35
  go_wp2_with (first | ((with_reducible refine gate_dst (N := 1) rfl ?_); refine box_event ?hg (N := 1) ?hd (cs := #[.int .i64 a0_0, .slice A0_1 l0_1.length c0_1, .slice A0_2 l0_2.length c0_2]) (t := 25) ?hr ?_; (case hd => rfl); (case hg => rfl); (case hr => first | (go_simp; done) | (go_simp; rfl)); intro gb126 hg w4 hbox hb; have n0_ := A_ (below_step (bk_ HB.out) hb); have n1_ := A_ (hbox); have n2_ := A_ ((by rw [hg]; exact (below_size (bk_ HB.out)) : w.heap.size ≤ gb126)); have n3_ := A_ ((by rw [hg]; exact (below_size (bk_ HB.out)) : w.heap.size ≤ gb126)); clear HB; have HB := n0_; have BK126 := n1_; have GW126 := n2_; have GE126 := n3_; clear n0_ n1_ n2_ n3_ hb hbox hg) | ((with_reducible refine gate_dst (N := 2) rfl ?_); refine box_event ?hg (N := 2) ?hd (cs := #[.slice none 0 0]) (t := 45) ?hr ?_; (case hd => rfl); (case hg => rfl); (case hr => first | (go_simp; done) | (go_simp; rfl)); intro gb127 hg w5 hbox hb; have n0_ := A_ (blk_below (pk_ BK126.out) hb); have n1_ := A_ (below_step (bk_ HB.out) hb); have n2_ := A_ (hbox); have n3_ := A_ ((by rw [hg]; exact (below_size (bk_ HB.out)) : w.heap.size ≤ gb127)); have n4_ := A_ ((by rw [hg]; exact (below_size (bk_ HB.out)) : w.heap.size ≤ gb127)); have n5_ := A_ ((by rw [hg]; exact Nat.ne_of_lt (blk_lt (pk_ BK126.out)) : gb126 ≠ gb127)); have n6_ := A_ ((by rw [hg]; exact Nat.ne_of_gt (blk_lt (pk_ BK126.out)) : gb127 ≠ gb126)); clear BK126 HB; have BK126 := n0_; have HB := n1_; have BK127 := n2_; have GW127 := n3_; have GE127 := n4_; have NB126_127 := n5_; have NB127_126 := n6_; clear n0_ n1_ n2_ n3_ n4_ n5_ n6_ hb hbox hg; have hnb6 := NB126_127.out; have hnc6 := NB127_126.out; have hcz7_0 : w5.cell? ⟨gb126, 0, none⟩ = some (.int .i64 a0_0) := (blk_cell BK126.out 0).trans rfl; have hcz7_1 : w5.cell? ⟨gb126, 1, none⟩ = some (.slice A0_1 l0_1.length c0_1) := (blk_cell BK126.out 1).trans rfl; have hcz7_2 : w5.cell? ⟨gb126, 2, none⟩ = some (.slice A0_2 l0_2.length c0_2) := (blk_cell BK126.out 2).trans rfl; have hfz7_0 := blk_frozen BK126.out 0; have hfz7_1 := blk_frozen BK126.out 1; have hfz7_2 := blk_frozen BK126.out 2) | ((with_reducible refine gate_callee (f := 15) rfl ?_); refine goesL_ (some 9) rfl rfl Try.func15 (by kernel_rfl) rfl #[.agg #[.int .i64 a0_0, .slice A0_1 l0_1.length c0_1, .slice A0_2 l0_2.length c0_2]] rfl gl_ ?_; (with_reducible refine (tag_Valid.calls k a0_0 _ _ l0_1 _ _ l0_2 true _ ?side1 ?side2 ?side3 ?side4 A2.out).mono ?_); (case side1 => exact ck_ (Kd.C_below HR0_1.out HB.out)); (case side2 => exact HC0_1.out); (case side3 => exact ck_ (Kd.C_below HR0_2.out HB.out)); (case side4 => exact HC0_2.out); rintro e w8 ⟨rfl, hb⟩; refine ⟨_, rfl, ?_⟩; have n0_ := A_ (blk_below (pk_ BK126.out) hb); have n1_ := A_ (blk_below (pk_ BK127.out) hb); have n2_ := A_ (below_step (bk_ HB.out) hb); clear BK126 BK127 HB; have BK126 := n0_; have BK127 := n1_; have HB := n2_; clear n0_ n1_ n2_; (try clear hb); (try clear hb2); (try clear hk); (try clear hi); have hcz9_0 : w8.cell? ⟨gb126, 0, none⟩ = some (.int .i64 a0_0) := (blk_cell BK126.out 0).trans rfl; have hcz9_1 : w8.cell? ⟨gb126, 1, none⟩ = some (.slice A0_1 l0_1.length c0_1) := (blk_cell BK126.out 1).trans rfl; have hcz9_2 : w8.cell? ⟨gb126, 2, none⟩ = some (.slice A0_2 l0_2.length c0_2) := (blk_cell BK126.out 2).trans rfl; have hfz9_0 := blk_frozen BK126.out 0; have hfz9_1 := blk_frozen BK126.out 1; have hfz9_2 := blk_frozen BK126.out 2) | ((with_reducible refine gate_dst (N := 5) rfl ?_); refine box_event ?hg (N := 5) ?hd (cs := #[.slice none 0 0]) (t := 45) ?hr ?_; (case hd => rfl); (case hg => rfl); (case hr => first | (go_simp; done) | (go_simp; rfl)); intro gb129 hg w10 hbox hb; have n0_ := A_ (blk_below (pk_ BK126.out) hb); have n1_ := A_ (blk_below (pk_ BK127.out) hb); have n2_ := A_ (below_step (bk_ HB.out) hb); have n3_ := A_ (hbox); have n4_ := A_ ((by rw [hg]; exact (below_size (bk_ HB.out)) : w.heap.size ≤ gb129)); have n5_ := A_ ((by rw [hg]; exact (below_size (bk_ HB.out)) : w.heap.size ≤ gb129)); have n6_ := A_ ((by rw [hg]; exact Nat.ne_of_lt (blk_lt (pk_ BK126.out)) : gb126 ≠ gb129)); have n7_ := A_ ((by rw [hg]; exact Nat.ne_of_gt (blk_lt (pk_ BK126.out)) : gb129 ≠ gb126)); have n8_ := A_ ((by rw [hg]; exact Nat.ne_of_lt (blk_lt (pk_ BK127.out)) : gb127 ≠ gb129)); have n9_ := A_ ((by rw [hg]; exact Nat.ne_of_gt (blk_lt (pk_ BK127.out)) : gb129 ≠ gb127)); clear BK126 BK127 HB; have BK126 := n0_; have BK127 := n1_; have HB := n2_; have BK129 := n3_; have GW129 := n4_; have GE129 := n5_; have NB126_129 := n6_; have NB129_126 := n7_; have NB127_129 := n8_; have NB129_127 := n9_; clear n0_ n1_ n2_ n3_ n4_ n5_ n6_ n7_ n8_ n9_ hb hbox hg; have hnb11 := NB126_129.out; have hnc11 := NB129_126.out; have hcz12_0 : w10.cell? ⟨gb126, 0, none⟩ = some (.int .i64 a0_0) := (blk_cell BK126.out 0).trans rfl; have hcz12_1 : w10.cell? ⟨gb126, 1, none⟩ = some (.slice A0_1 l0_1.length c0_1) := (blk_cell BK126.out 1).trans rfl; have hcz12_2 : w10.cell? ⟨gb126, 2, none⟩ = some (.slice A0_2 l0_2.length c0_2) := (blk_cell BK126.out 2).trans rfl; have hfz12_0 := blk_frozen BK126.out 0; have hfz12_1 := blk_frozen BK126.out 1; have hfz12_2 := blk_frozen BK126.out 2))
  go_loopg [18] k (fun kq v18 w' => ∃ (x18_1 : Int) (x130000_1 : List (List Int)) (u130000 : Value), v18 = .int .i64 x18_1 ∧ Aside0 (tag_ToCyclic.l0 kq (l0_1.length : Int) l0_1 (l0_1.length : Int) x18_1 a0_0 l0_1 l0_2 x130000_1 = some (r1, r2)) ∧ Aside0 (kq ≤ k) ∧ Aside0 (Kd.S (Kd.slice 3 (Kd.int .i64)) 26 w' w.heap.size (fun _ => True) u130000 x130000_1) ∧ Aside0 (w'.heap[gb126]? = some (.cells #[.int .i64 a0_0, (.slice A0_1 l0_1.length c0_1), (.slice A0_2 l0_2.length c0_2)] 25 (0, 0))) ∧ Aside0 (w'.heap[gb127]? = some (.cells #[(.slice none 0 0)] 45 (0, 0))) ∧ Aside0 (w'.heap[gb129]? = some (.cells #[u130000] 45 (0, 0))) ∧ Aside0 (Below w.heap.size w w'))
  case atStart => exact ⟨(0), (([] : List (List Int))), (.slice none 0 0), jr_, H', ⟨Nat.le_refl _⟩, ⟨by first | exact Kd.S_nil _ _ _ _ _ | exact Kd.N_nil _ _ _ _ _ | exact Kd.V_nil _ _ _ _ _ | exact Kd.Q_nil _ _ _ _ _ | exact Kd.R_nil _ _ _ _ _⟩, ⟨pk_ BK126.out⟩, ⟨pk_ BK127.out⟩, ⟨pk_ BK129.out⟩, ⟨bk_ HB.out⟩⟩
  case round =>
   clear H'
   (try clear c3); (try clear hcz12_0); (try clear hcz12_1); (try clear hcz12_2); (try clear hcz7_0); (try clear hcz7_1); (try clear hcz7_2); (try clear hcz9_0); (try clear hcz9_1); (try clear hcz9_2); (try clear hfz12_0); (try clear hfz12_1); (try clear hfz12_2); (try clear hfz7_0); (try clear hfz7_1); (try clear hfz7_2); (try clear hfz9_0); (try clear hfz9_1); (try clear hfz9_2)
   obtain ⟨x18_1, x130000_1, u130000, rfl, HA, HK1, HO_130000, BK126, BK127, BK129, HB⟩ := hrel
   cases gk with
   | zero => exact absurd HA.out (by simp [tag_ToCyclic.l0])
   | succ k1 =>
    have H := HA.out
    clear HA
    simp only [tag_ToCyclic.l0] at H
    by_cases c13 : x18_1 < (l0_1.length : Int)
    ·rw [if_pos c13] at H
     have c13b0 : decide (x18_1 < (l0_1.length : Int)) = true := decide_eq_true c13
     clear c13
     by_cases c14 : 0 ≤ x18_1
     ·rw [if_pos c14] at H
      have c14b0 : decide (0 ≤ x18_1) = true := decide_eq_true c14
      clear c14
      by_cases c15 : x18_1 < (l0_1.length : Int)
      ·rw [if_pos c15] at H
       have c15b0 : decide (x18_1 < (l0_1.length : Int)) = true := decide_eq_true c15
       clear c15
       by_cases c16 : x18_1 < (l0_2.length : Int)
       ·rw [if_pos c16] at H
        have c16b0 : decide (x18_1 < (l0_2.length : Int)) = true := decide_eq_true c16
        clear c16
        obtain ⟨bq17, hbq17⟩ : ∃ b_ : Bool, b_ = (rdOf false l0_2 x18_1) := ⟨_, rfl⟩
        replace H : (if bq17 = true then ((tag_bits.f k1 ([] : List Int) (l0_1.length : Int)).bind fun t132 => (if x130000_1.length < 5864062014805 then (tag_ToCyclic.l0 k1 (l0_1.length : Int) l0_1 (l0_1.length : Int) (wrap64 (x18_1 + 1)) a0_0 l0_1 l0_2 (x130000_1 ++ [t132])) else (none))) else ((tag_bits.f k1 (rd_L1 l0_1 x18_1) (l0_1.length : Int)).bind fun t138 => (if x130000_1.length < 5864062014805 then (tag_ToCyclic.l0 k1 (l0_1.length : Int) l0_1 (l0_1.length : Int) (wrap64 (x18_1 + 1)) a0_0 l0_1 l0_2 (x130000_1 ++ [t138])) else (none)))) = some (r1, r2) := by rw [← hbq17] at H; exact H
        have Nbq17 := Aside0.mk hbq17
        clear hbq17
        by_cases c18 : bq17 = true
        ·subst c18
         have H1 : ((tag_bits.f k1 ([] : List Int) (l0_1.length : Int)).bind fun t132 => (if x130000_1.length < 5864062014805 then (tag_ToCyclic.l0 k1 (l0_1.length : Int) l0_1 (l0_1.length : Int) (wrap64 (x18_1 + 1)) a0_0 l0_1 l0_2 (x130000_1 ++ [t132])) else (none))) = some (r1, r2) := by rw [if_pos rfl] at H; exact H
         clear H
         have H := H1
         clear H1
         replace H := Option.bind_eq_some_iff.mp H
         obtain ⟨t132, A190, H⟩ := H
         replace H : (if x130000_1.length < 5864062014805 then (tag_ToCyclic.l0 k1 (l0_1.length : Int) l0_1 (l0_1.length : Int) (wrap64 (x18_1 + 1)) a0_0 l0_1 l0_2 (x130000_1 ++ [t132])) else (none)) = some (r1, r2) := H
         have A19 := Aside0.mk A190
         clear A190
         by_cases c20 : x130000_1.length < 5864062014805
         ·rw [if_pos c20] at H
          have LMc20 := Aside0.mk c20
          clear c20
          obtain ⟨y135, hy135⟩ : ∃ y_ : List (List Int), y_ = (x130000_1 ++ [t132]) := ⟨_, rfl⟩
          replace H : (tag_ToCyclic.l0 k1 (l0_1.length : Int) l0_1 (l0_1.length : Int) (wrap64 (x18_1 + 1)) a0_0 l0_1 l0_2 y135) = some (r1, r2) := by first | (rw [hy135]; with_reducible exact H) | (have H2_ := (Option.bind_some _ _).symm.trans H; rw [hy135]; with_reducible exact H2_) | (have H2_ := (Option.bind_some _ _).symm.trans H; with_reducible exact H2_) | with_reducible exact H | (rw [hy135]; exact H) | exact H
          have Ny135 := Aside0.mk hy135
          clear hy135
          have H' := Aside0.mk H
          clear H
          have p130 : 0 ≤ (x18_1 : Int) := od_
          have q130 : x18_1 < (l0_1.length : Int) := od_
          obtain ⟨ad130, A130_0, c130_0, e130, hx130_0, hl130_0, hi130_0⟩ := at_L1 HR0_1.out x18_1 p130 q130
          cases e130
          replace hx130_0 := lf_ HB.out hx130_0
          have HR130_0 := Aside0.mk hi130_0
          have HC130_0 := Aside0.mk hl130_0
          clear hi130_0 hl130_0
          replace p130 := eq_true p130
          replace q130 := eq_true q130
          have hnb21 := NB126_127.out
          have hnc21 := NB127_126.out
          have hnb22 := NB126_129.out
          have hnc22 := NB129_126.out
          have hcz23_0 : wr.cell? ⟨gb126, 0, none⟩ = some (.int .i64 a0_0) := (blk_cell BK126.out 0).trans rfl
          have hcz23_1 : wr.cell? ⟨gb126, 1, none⟩ = some (.slice (some ad130) l0_1.length c0_1) := (blk_cell BK126.out 1).trans rfl
          have hcz23_2 : wr.cell? ⟨gb126, 2, none⟩ = some (.slice A0_2 l0_2.length c0_2) := (blk_cell BK126.out 2).trans rfl
          have hfz23_0 := blk_frozen BK126.out 0
          have hfz23_1 := blk_frozen BK126.out 1
          have hfz23_2 := blk_frozen BK126.out 2
          have p131 : 0 ≤ (x18_1 : Int) := od_
          have q131 : x18_1 < (l0_2.length : Int) := od_
          obtain ⟨ad131, e131, hx131_0⟩ := Kd.at_bool HR0_2.out x18_1 p131 q131
          (try rw [← Nbq17.out] at hx131_0)
          cases e131
          replace hx131_0 := lf_ HB.out hx131_0
          replace p131 := eq_true p131
          replace q131 := eq_true q131
          try go_wp2
          have n0_ := A_ (Kd.S_drew HO_130000.out)
          have n1_ := A_ (blk_drew BK126.out)
          have n2_ := A_ (blk_drew BK127.out)
          have n3_ := A_ (blk_drew BK129.out)
          have n4_ := A_ (below_drew1 HB.out)
          clear HO_130000 BK126 BK127 BK129 HB
          have HO_130000 := n0_
          have BK126 := n1_
          have BK127 := n2_
          have BK129 := n3_
          have HB := n4_
          clear n0_ n1_ n2_ n3_ n4_
          refine start_ (n := 9) (S := fun w' => w'.cell? ⟨gb129, 0, none⟩ = some (u130000)) (ds := [8]) #[false, false, false, false, false, false, false, false, false] (by kernel_rfl) rfl rfl ((blk_cell BK129.out 0).trans rfl) (fun hHeld => ?_); refine with_tabW tag_ToCyclic.tab10 tag_ToCyclic.bits10 (fun HT_ HW_ => ?_)
          generalize wr.drew = w24 at HO_130000 BK126 BK127 BK129 HB hHeld ⊢
          refine pure_ (i := 0) (N := some 28) (v := ?_) (a' := ?_) #[true, false, false, false, false, false, false, false, false] rfl rfl (any_of HT_.out (by kernel_rfl)) (fun _ _ _ h => h) (Or.inl ⟨by rfl, ?_⟩) ?_ ?_
          rotate_left
          ·intro w'
           go_simp
           with_reducible rfl
          rotate_left
          ·simp only [Act.put, sa_, sz_, ss_, i64_w, i32_w]
           rfl
          refine pure_ (i := 2) (N := some 30) (v := ?_) (a' := ?_) #[true, false, true, false, false, false, false, false, false] rfl rfl (any_of HT_.out (by kernel_rfl)) (fun _ _ _ h => h) (Or.inl ⟨by rfl, ?_⟩) ?_ ?_
          rotate_left
          ·intro w'
           go_simp
           with_reducible rfl
          rotate_left
          ·simp only [Act.put, sa_, sz_, ss_, i64_w, i32_w]
           rfl
          refine pure_ (i := 3) (N := some 31) (v := ?_) (a' := ?_) #[true, false, true, true, false, false, false, false, false] rfl rfl (any_of HT_.out (by kernel_rfl)) (fun _ _ _ h => h) (Or.inl ⟨by rfl, ?_⟩) ?_ ?_
          rotate_left
          ·intro w'
           go_simp
           with_reducible rfl
          rotate_left
          ·simp only [Act.put, sa_, sz_, ss_, i64_w, i32_w]
           rfl
          refine take_ (i := 1) (N := some 29) (v := ?_) (a' := ?_) #[true, true, true, true, false, false, false, false, false] rfl rfl (take_ofW HT_.out HW_.out (by kernel_rfl)) (fun _ _ _ h => h) (Or.inl ⟨by rfl, ?_⟩) hHeld ?_ ?_
          rotate_left
          ·intro w' s0
           go_simp
           with_reducible rfl
          rotate_left
          ·simp only [Act.put, sa_, sz_, ss_, i64_w, i32_w]
           rfl
          refine one_ (i := 4) (N := some 32) #[true, true, true, true, true, false, false, false, false] rfl rfl (one_of HT_.out (by kernel_rfl)) (by decide) (fun K hK => ?_)
          refine goes_ Try.func50 (by kernel_rfl) rfl #[.slice none 0 0, .int .i64 (l0_1.length : Int)] (by rfl) rfl rfl gl_ ?_
          refine (tag_bits.calls k1 _ _ ([] : List Int) (l0_1.length : Int) t132 _ ?side1 ?side2 A19.out).mono ?_
          (case side1 => exact Kd.C_nil _ _)
          (case side2 => exact Nat.le_refl _)
          rintro e w25 ⟨v133, rfl, ho0, hb⟩
          refine ⟨_, rfl, ?_⟩
          have n0_ := A_ (Kd.S_elder' (by (with_reducible repeat (first | apply Kd.S_alloc | apply Kd.S_drewN | apply Kd.S_drew)); exact HO_130000.out) (Kd.R_base ho0) hb)
          have n1_ := A_ (Kd.R_lower ho0 (below_size (bk_ HB.out)))
          have n2_ := A_ (blk_below (pk_ BK126.out) hb)
          have n3_ := A_ (blk_below (pk_ BK127.out) hb)
          have n4_ := A_ (blk_below (pk_ BK129.out) hb)
          have n5_ := A_ (below_step (bk_ HB.out) hb)
          clear HO_130000 BK126 BK127 BK129 HB
          have HO_130000 := n0_
          have HO134 := n1_
          have BK126 := n2_
          have BK127 := n3_
          have BK129 := n4_
          have HB := n5_
          clear n0_ n1_ n2_ n3_ n4_ n5_
          (try clear hb)
          (try clear hb2)
          (try clear hk)
          (try clear hi)
          (try clear ho0)
          obtain ⟨Ao27, co27, eo27⟩ := Kd.R_slice HO134.out
          (first | subst eo27 | (injection eo27 with f1_ f2_ f3_; have f4_ := f1_.symm; have f5_ := f3_.symm; clear f1_ f2_ f3_; subst f4_; subst f5_))
          refine hK.out _ _ ((blk_cell BK129.out 0).trans rfl) (fun hHeld => ?_)
          clear hK K
          refine norm_ (a' := ?_) ?_ ?_
          rotate_left
          ·show Act.put _ (some 32) _ = _
           simp only [Act.put, sa_, sz_, ss_, i64_w, i32_w]
           rfl
          refine one_ (i := 5) (N := some 33) #[true, true, true, true, true, true, false, false, false] rfl rfl (one_of HT_.out (by kernel_rfl)) (by decide) (fun K hK => ?_)
          refine value_ (w1 := ?_) (v := ?_) (by rfl) rfl ?_ ?_
          rotate_left 2
          ·go_simp
           constructor
           ·rfl
           ·rfl
          refine hK.out _ _ ((blk_cell (blk_alloc BK129.out _) 0).trans rfl) (fun hHeld => ?_)
          clear hK K
          refine norm_ (a' := ?_) ?_ ?_
          rotate_left
          ·show Act.put _ (some 33) _ = _
           simp only [Act.put, sa_, sz_, ss_, i64_w, i32_w]
           rfl
          refine one_ (i := 6) (N := some 34) #[true, true, true, true, true, true, true, false, false] rfl rfl (one_of HT_.out (by kernel_rfl)) (by decide) (fun K hK => ?_)
          refine Kd.S_append_step (Kd.slice 3 (Kd.int .i64)) (w0 := w) w.heap.size (by rfl) (.tmp 29) (.tmp 33) 22 26 (.slice none 0 0) 24 rfl Try.underlying22 info26 rfl (by decide) (by omega) u130000 x130000_1 t132 [.slice Ao27 t132.length co27] (fun _ => True) (fun k_ => some k_ = (.slice Ao27 t132.length co27 : Value).ownBlock) rfl rfl ?aP (fun k_ hk_ => ((Kd.R_mono (ok' := fun k_ => ((fun _ => True)) k_ ∧ some k_ ≠ (u130000 : Value).ownBlock) (Kd.R_apart' (HO134.out) (Kd.S_typed HO_130000.out) (by decide)) (fun k_ hk => ⟨trivial, hk.2⟩))).1 k_ hk_.symm) ?aF ?aO ?aB ?aS ?aL ?_
          (case aP => exact Kd.M_row (Kd.R_mono (Kd.R_tight rfl (Kd.R_mono (ok' := fun k_ => ((fun _ => True)) k_ ∧ some k_ ≠ (u130000 : Value).ownBlock) (Kd.R_apart' (HO134.out) (Kd.S_typed HO_130000.out) (by decide)) (fun k_ hk => ⟨trivial, hk.2⟩))) (fun _ h_ => h_)))
          (case aB => exact (bk_ HB.out))
          (case aF => exact (fun _ _ => trivial))
          (case aO => exact (by (with_reducible repeat (first | apply Kd.S_alloc | apply Kd.S_drewN | apply Kd.S_drew)); exact Kd.S_mono HO_130000.out (fun k_ hk => ⟨trivial, fun e_ => hk.2 e_⟩)))
          (case aS => exact (below_size (bk_ HB.out)))
          (case aL => have := LMc20.out; omega)
          intro v136 w26 ho hb hg hat
          rw [← Ny135.out] at ho
          have n0_ := A_ (blk_grown (pk_ BK126.out) hg (Kd.S_ne HO_130000.out BK126.out (by decide)))
          have n1_ := A_ (blk_grown (pk_ BK127.out) hg (Kd.S_ne HO_130000.out BK127.out (by decide)))
          have n2_ := A_ (blk_grown (pk_ BK129.out) hg (Kd.S_ne HO_130000.out BK129.out (by decide)))
          have n3_ := A_ (hb)
          have n4_ := A_ (ho)
          clear BK126 BK127 BK129 HB HO_130000 HO134
          have BK126 := n0_
          have BK127 := n1_
          have BK129 := n2_
          have HB := n3_
          have HO137 := n4_
          clear n0_ n1_ n2_ n3_ n4_ ho hb hg hat
          obtain ⟨Ao28, co28, eo28⟩ := Kd.S_slice HO137.out
          (first | subst eo28 | (injection eo28 with f1_ f2_ f3_; have f4_ := f1_.symm; have f5_ := f3_.symm; clear f1_ f2_ f3_; subst f4_; subst f5_))
          refine hK.out _ _ ((blk_cell BK129.out 0).trans rfl) (fun hHeld => ?_)
          clear hK K
          refine norm_ (a' := ?_) ?_ ?_
          rotate_left
          ·show Act.put _ (some 34) _ = _
           simp only [Act.put, sa_, sz_, ss_, i64_w, i32_w]
           rfl
          refine pure_ (i := 7) (N := some 35) (v := ?_) (a' := ?_) #[true, true, true, true, true, true, true, true, false] rfl rfl (any_of HT_.out (by kernel_rfl)) (fun _ _ _ h => h) (Or.inl ⟨by rfl, ?_⟩) ?_ ?_
          rotate_left
          ·intro w'
           go_simp
           with_reducible rfl
          rotate_left
          ·simp only [Act.put, sa_, sz_, ss_, i64_w, i32_w]
           rfl
          refine last_ (i := 8) (N := none) #[true, true, true, true, true, true, true, true, true] rfl rfl (one_of HT_.out (by kernel_rfl)) (by decide) (fun K hK => ?_)
          have hs29 : w26.cell? ⟨gb129, 0, none⟩ = some (u130000) := (blk_cell BK129.out 0).trans rfl
          have hfs29 := blk_frozen BK129.out 0
          have hns29_0 := NB126_129.out
          have hns29_1 := NB127_129.out
          have hms29_0 := NB129_126.out
          have hms29_1 := NB129_127.out
          refine skip_ (w1 := ?_) (by rfl) rfl ?_ ?_
          rotate_left
          ·go_simp
           rfl
          refine hK.out _ _ ?_
          clear hK K
          refine done_ (done_of HT_.out (by kernel_rfl)) ?_
          try go_wp2
          go_roundg k1
          case measure => have := HK1.out; omega
          case rel => exact ⟨(wrap64 (x18_1 + 1)), (y135), (.slice Ao28 y135.length co28), jr_, H', ⟨by have := HK1.out; omega⟩, ⟨by (with_reducible repeat (first | apply Kd.S_alloc | apply Kd.S_drewN | apply Kd.S_drew)); exact Kd.S_mono (Kd.S_far (p := ⟨gb129, 0, none⟩) (Kd.S_types HO137.out BK129.out (by decide)) (fun _ hk => hk.2) (.slice Ao28 y135.length co28)) (fun _ hk => trivial)⟩, ⟨by refine pk_ ?_; refine blk_far ?_ NB126_129.out _; exact pk_ BK126.out⟩, ⟨by refine pk_ ?_; refine blk_far ?_ NB127_129.out _; exact pk_ BK127.out⟩, ⟨by refine pk_ ?_; refine blk_put (cs := #[u130000]) ?_ 0 _ rfl; exact pk_ BK129.out⟩, ⟨bk_ HB.out⟩⟩
         ·rw [if_neg c20] at H
          exact absurd H (by simp)
        ·replace c18 := Bool.eq_false_iff.mpr c18
         subst c18
         have H1 : ((tag_bits.f k1 (rd_L1 l0_1 x18_1) (l0_1.length : Int)).bind fun t138 => (if x130000_1.length < 5864062014805 then (tag_ToCyclic.l0 k1 (l0_1.length : Int) l0_1 (l0_1.length : Int) (wrap64 (x18_1 + 1)) a0_0 l0_1 l0_2 (x130000_1 ++ [t138])) else (none))) = some (r1, r2) := by rw [if_neg (show ¬ (false = true) by decide)] at H; exact H
         clear H
         have H := H1
         clear H1
         replace H := Option.bind_eq_some_iff.mp H
         obtain ⟨t138, A300, H⟩ := H
         replace H : (if x130000_1.length < 5864062014805 then (tag_ToCyclic.l0 k1 (l0_1.length : Int) l0_1 (l0_1.length : Int) (wrap64 (x18_1 + 1)) a0_0 l0_1 l0_2 (x130000_1 ++ [t138])) else (none)) = some (r1, r2) := H
         have A30 := Aside0.mk A300
         clear A300
         by_cases c31 : x130000_1.length < 5864062014805
         ·rw [if_pos c31] at H
          have LMc31 := Aside0.mk c31
          clear c31
          obtain ⟨y141, hy141⟩ : ∃ y_ : List (List Int), y_ = (x130000_1 ++ [t138]) := ⟨_, rfl⟩
          replace H : (tag_ToCyclic.l0 k1 (l0_1.length : Int) l0_1 (l0_1.length : Int) (wrap64 (x18_1 + 1)) a0_0 l0_1 l0_2 y141) = some (r1, r2) := by first | (rw [hy141]; with_reducible exact H) | (have H2_ := (Option.bind_some _ _).symm.trans H; rw [hy141]; with_reducible exact H2_) | (have H2_ := (Option.bind_some _ _).symm.trans H; with_reducible exact H2_) | with_reducible exact H | (rw [hy141]; exact H) | exact H
          have Ny141 := Aside0.mk hy141
          clear hy141
          have H' := Aside0.mk H
          clear H
          have p130 : 0 ≤ (x18_1 : Int) := od_
          have q130 : x18_1 < (l0_1.length : Int) := od_
          obtain ⟨ad130, A130_0, c130_0, e130, hx130_0, hl130_0, hi130_0⟩ := at_L1 HR0_1.out x18_1 p130 q130
          cases e130
          replace hx130_0 := lf_ HB.out hx130_0
          have HR130_0 := Aside0.mk hi130_0
          have HC130_0 := Aside0.mk hl130_0
          clear hi130_0 hl130_0
          replace p130 := eq_true p130
          replace q130 := eq_true q130
          have hnb32 := NB126_127.out
          have hnc32 := NB127_126.out
          have hnb33 := NB126_129.out
          have hnc33 := NB129_126.out
          have hcz34_0 : wr.cell? ⟨gb126, 0, none⟩ = some (.int .i64 a0_0) := (blk_cell BK126.out 0).trans rfl
          have hcz34_1 : wr.cell? ⟨gb126, 1, none⟩ = some (.slice (some ad130) l0_1.length c0_1) := (blk_cell BK126.out 1).trans rfl
          have hcz34_2 : wr.cell? ⟨gb126, 2, none⟩ = some (.slice A0_2 l0_2.length c0_2) := (blk_cell BK126.out 2).trans rfl
          have hfz34_0 := blk_frozen BK126.out 0
          have hfz34_1 := blk_frozen BK126.out 1
          have hfz34_2 := blk_frozen BK126.out 2
          have p131 : 0 ≤ (x18_1 : Int) := od_
          have q131 : x18_1 < (l0_2.length : Int) := od_
          obtain ⟨ad131, e131, hx131_0⟩ := Kd.at_bool HR0_2.out x18_1 p131 q131
          (try rw [← Nbq17.out] at hx131_0)
          cases e131
          replace hx131_0 := lf_ HB.out hx131_0
          replace p131 := eq_true p131
          replace q131 := eq_true q131
          try go_wp2
          have n0_ := A_ (Kd.S_drew HO_130000.out)
          have n1_ := A_ (blk_drew BK126.out)
          have n2_ := A_ (blk_drew BK127.out)
          have n3_ := A_ (blk_drew BK129.out)
          have n4_ := A_ (below_drew1 HB.out)
          clear HO_130000 BK126 BK127 BK129 HB
          have HO_130000 := n0_
          have BK126 := n1_
          have BK127 := n2_
          have BK129 := n3_
          have HB := n4_
          clear n0_ n1_ n2_ n3_ n4_
          refine start_ (n := 9) (S := fun w' => w'.cell? ⟨gb129, 0, none⟩ = some (u130000)) (ds := [8]) #[false, false, false, false, false, false, false, false, false] (by kernel_rfl) rfl rfl ((blk_cell BK129.out 0).trans rfl) (fun hHeld => ?_); refine with_tabW tag_ToCyclic.tab10 tag_ToCyclic.bits10 (fun HT_ HW_ => ?_)
          generalize wr.drew = w35 at HO_130000 BK126 BK127 BK129 HB hHeld ⊢
          refine pure_ (i := 0) (N := some 28) (v := ?_) (a' := ?_) #[true, false, false, false, false, false, false, false, false] rfl rfl (any_of HT_.out (by kernel_rfl)) (fun _ _ _ h => h) (Or.inl ⟨by rfl, ?_⟩) ?_ ?_
          rotate_left
          ·intro w'
           go_simp
           with_reducible rfl
          rotate_left
          ·simp only [Act.put, sa_, sz_, ss_, i64_w, i32_w]
           rfl
          refine pure_ (i := 2) (N := some 30) (v := ?_) (a' := ?_) #[true, false, true, false, false, false, false, false, false] rfl rfl (any_of HT_.out (by kernel_rfl)) (fun _ _ _ h => h) (Or.inl ⟨by rfl, ?_⟩) ?_ ?_
          rotate_left
          ·intro w'
           go_simp
           with_reducible rfl
          rotate_left
          ·simp only [Act.put, sa_, sz_, ss_, i64_w, i32_w]
           rfl
          refine pure_ (i := 3) (N := some 31) (v := ?_) (a' := ?_) #[true, false, true, true, false, false, false, false, false] rfl rfl (any_of HT_.out (by kernel_rfl)) (fun _ _ _ h => h) (Or.inl ⟨by rfl, ?_⟩) ?_ ?_
          rotate_left
          ·intro w'
           go_simp
           with_reducible rfl
          rotate_left
          ·simp only [Act.put, sa_, sz_, ss_, i64_w, i32_w]
           rfl
          refine take_ (i := 1) (N := some 29) (v := ?_) (a' := ?_) #[true, true, true, true, false, false, false, false, false] rfl rfl (take_ofW HT_.out HW_.out (by kernel_rfl)) (fun _ _ _ h => h) (Or.inl ⟨by rfl, ?_⟩) hHeld ?_ ?_
          rotate_left
          ·intro w' s0
           go_simp
           with_reducible rfl
          rotate_left
          ·simp only [Act.put, sa_, sz_, ss_, i64_w, i32_w]
           rfl
          refine one_ (i := 4) (N := some 32) #[true, true, true, true, true, false, false, false, false] rfl rfl (one_of HT_.out (by kernel_rfl)) (by decide) (fun K hK => ?_)
          refine goes_ Try.func50 (by kernel_rfl) rfl #[.slice A130_0 (rd_L1 l0_1 x18_1).length c130_0, .int .i64 (l0_1.length : Int)] (by rfl) rfl rfl gl_ ?_
          with_reducible refine (tag_bits.calls k1 _ _ (rd_L1 l0_1 x18_1) (l0_1.length : Int) t138 _ ?side1 ?side2 A30.out).mono ?_
          (case side1 => exact ck_ (Kd.C_below HR130_0.out HB.out))
          (case side2 => exact HC130_0.out)
          rintro e w36 ⟨v139, rfl, ho0, hb⟩
          refine ⟨_, rfl, ?_⟩
          have n0_ := A_ (Kd.S_elder' (by (with_reducible repeat (first | apply Kd.S_alloc | apply Kd.S_drewN | apply Kd.S_drew)); exact HO_130000.out) (Kd.R_base ho0) hb)
          have n1_ := A_ (Kd.R_lower ho0 (below_size (bk_ HB.out)))
          have n2_ := A_ (blk_below (pk_ BK126.out) hb)
          have n3_ := A_ (blk_below (pk_ BK127.out) hb)
          have n4_ := A_ (blk_below (pk_ BK129.out) hb)
          have n5_ := A_ (below_step (bk_ HB.out) hb)
          clear HO_130000 BK126 BK127 BK129 HB
          have HO_130000 := n0_
          have HO140 := n1_
          have BK126 := n2_
          have BK127 := n3_
          have BK129 := n4_
          have HB := n5_
          clear n0_ n1_ n2_ n3_ n4_ n5_
          (try clear hb)
          (try clear hb2)
          (try clear hk)
          (try clear hi)
          (try clear ho0)
          obtain ⟨Ao38, co38, eo38⟩ := Kd.R_slice HO140.out
          (first | subst eo38 | (injection eo38 with f1_ f2_ f3_; have f4_ := f1_.symm; have f5_ := f3_.symm; clear f1_ f2_ f3_; subst f4_; subst f5_))
          refine hK.out _ _ ((blk_cell BK129.out 0).trans rfl) (fun hHeld => ?_)
          clear hK K
          refine norm_ (a' := ?_) ?_ ?_
          rotate_left
          ·show Act.put _ (some 32) _ = _
           simp only [Act.put, sa_, sz_, ss_, i64_w, i32_w]
           rfl
          refine one_ (i := 5) (N := some 33) #[true, true, true, true, true, true, false, false, false] rfl rfl (one_of HT_.out (by kernel_rfl)) (by decide) (fun K hK => ?_)
          refine value_ (w1 := ?_) (v := ?_) (by rfl) rfl ?_ ?_
          rotate_left 2
          ·go_simp
           constructor
           ·rfl
           ·rfl
          refine hK.out _ _ ((blk_cell (blk_alloc BK129.out _) 0).trans rfl) (fun hHeld => ?_)
          clear hK K
          refine norm_ (a' := ?_) ?_ ?_
          rotate_left
          ·show Act.put _ (some 33) _ = _
           simp only [Act.put, sa_, sz_, ss_, i64_w, i32_w]
           rfl
          refine one_ (i := 6) (N := some 34) #[true, true, true, true, true, true, true, false, false] rfl rfl (one_of HT_.out (by kernel_rfl)) (by decide) (fun K hK => ?_)
          refine Kd.S_append_step (Kd.slice 3 (Kd.int .i64)) (w0 := w) w.heap.size (by rfl) (.tmp 29) (.tmp 33) 22 26 (.slice none 0 0) 24 rfl Try.underlying22 info26 rfl (by decide) (by omega) u130000 x130000_1 t138 [.slice Ao38 t138.length co38] (fun _ => True) (fun k_ => some k_ = (.slice Ao38 t138.length co38 : Value).ownBlock) rfl rfl ?aP (fun k_ hk_ => ((Kd.R_mono (ok' := fun k_ => ((fun _ => True)) k_ ∧ some k_ ≠ (u130000 : Value).ownBlock) (Kd.R_apart' (HO140.out) (Kd.S_typed HO_130000.out) (by decide)) (fun k_ hk => ⟨trivial, hk.2⟩))).1 k_ hk_.symm) ?aF ?aO ?aB ?aS ?aL ?_
          (case aP => exact Kd.M_row (Kd.R_mono (Kd.R_tight rfl (Kd.R_mono (ok' := fun k_ => ((fun _ => True)) k_ ∧ some k_ ≠ (u130000 : Value).ownBlock) (Kd.R_apart' (HO140.out) (Kd.S_typed HO_130000.out) (by decide)) (fun k_ hk => ⟨trivial, hk.2⟩))) (fun _ h_ => h_)))
          (case aB => exact (bk_ HB.out))
          (case aF => exact (fun _ _ => trivial))
          (case aO => exact (by (with_reducible repeat (first | apply Kd.S_alloc | apply Kd.S_drewN | apply Kd.S_drew)); exact Kd.S_mono HO_130000.out (fun k_ hk => ⟨trivial, fun e_ => hk.2 e_⟩)))
          (case aS => exact (below_size (bk_ HB.out)))
          (case aL => have := LMc31.out; omega)
          intro v142 w37 ho hb hg hat
          rw [← Ny141.out] at ho
          have n0_ := A_ (blk_grown (pk_ BK126.out) hg (Kd.S_ne HO_130000.out BK126.out (by decide)))
          have n1_ := A_ (blk_grown (pk_ BK127.out) hg (Kd.S_ne HO_130000.out BK127.out (by decide)))
          have n2_ := A_ (blk_grown (pk_ BK129.out) hg (Kd.S_ne HO_130000.out BK129.out (by decide)))
          have n3_ := A_ (hb)
          have n4_ := A_ (ho)
          clear BK126 BK127 BK129 HB HO_130000 HO140
          have BK126 := n0_
          have BK127 := n1_
          have BK129 := n2_
          have HB := n3_
          have HO143 := n4_
          clear n0_ n1_ n2_ n3_ n4_ ho hb hg hat
          obtain ⟨Ao39, co39, eo39⟩ := Kd.S_slice HO143.out
          (first | subst eo39 | (injection eo39 with f1_ f2_ f3_; have f4_ := f1_.symm; have f5_ := f3_.symm; clear f1_ f2_ f3_; subst f4_; subst f5_))
          refine hK.out _ _ ((blk_cell BK129.out 0).trans rfl) (fun hHeld => ?_)
          clear hK K
          refine norm_ (a' := ?_) ?_ ?_
          rotate_left
          ·show Act.put _ (some 34) _ = _
           simp only [Act.put, sa_, sz_, ss_, i64_w, i32_w]
           rfl
          refine pure_ (i := 7) (N := some 35) (v := ?_) (a' := ?_) #[true, true, true, true, true, true, true, true, false] rfl rfl (any_of HT_.out (by kernel_rfl)) (fun _ _ _ h => h) (Or.inl ⟨by rfl, ?_⟩) ?_ ?_
          rotate_left
          ·intro w'
           go_simp
           with_reducible rfl
          rotate_left
          ·simp only [Act.put, sa_, sz_, ss_, i64_w, i32_w]
           rfl
          refine last_ (i := 8) (N := none) #[true, true, true, true, true, true, true, true, true] rfl rfl (one_of HT_.out (by kernel_rfl)) (by decide) (fun K hK => ?_)
          have hs40 : w37.cell? ⟨gb129, 0, none⟩ = some (u130000) := (blk_cell BK129.out 0).trans rfl
          have hfs40 := blk_frozen BK129.out 0
          have hns40_0 := NB126_129.out
          have hns40_1 := NB127_129.out
          have hms40_0 := NB129_126.out
          have hms40_1 := NB129_127.out
          refine skip_ (w1 := ?_) (by rfl) rfl ?_ ?_
          rotate_left
          ·go_simp
           rfl
          refine hK.out _ _ ?_
          clear hK K
          refine done_ (done_of HT_.out (by kernel_rfl)) ?_
          try go_wp2
          go_roundg k1
          case measure => have := HK1.out; omega
          case rel => exact ⟨(wrap64 (x18_1 + 1)), (y141), (.slice Ao39 y141.length co39), jr_, H', ⟨by have := HK1.out; omega⟩, ⟨by (with_reducible repeat (first | apply Kd.S_alloc | apply Kd.S_drewN | apply Kd.S_drew)); exact Kd.S_mono (Kd.S_far (p := ⟨gb129, 0, none⟩) (Kd.S_types HO143.out BK129.out (by decide)) (fun _ hk => hk.2) (.slice Ao39 y141.length co39)) (fun _ hk => trivial)⟩, ⟨by refine pk_ ?_; refine blk_far ?_ NB126_129.out _; exact pk_ BK126.out⟩, ⟨by refine pk_ ?_; refine blk_far ?_ NB127_129.out _; exact pk_ BK127.out⟩, ⟨by refine pk_ ?_; refine blk_put (cs := #[u130000]) ?_ 0 _ rfl; exact pk_ BK129.out⟩, ⟨bk_ HB.out⟩⟩
         ·rw [if_neg c31] at H
          exact absurd H (by simp)
       ·rw [if_neg c16] at H
        exact absurd H (by simp)
      ·rw [if_neg c15] at H
       exact absurd H (by simp)
     ·rw [if_neg c14] at H
      exact absurd H (by simp)
    ·rw [if_neg c13] at H
     have c13b0 : decide (x18_1 < (l0_1.length : Int)) = false := decide_eq_false c13
     clear c13
     have H' := Aside0.mk H
     clear H
     have hnb41 := NB126_127.out
     have hnc41 := NB127_126.out
     have hnb42 := NB126_129.out
     have hnc42 := NB129_126.out
     have hcz43_0 : wr.cell? ⟨gb126, 0, none⟩ = some (.int .i64 a0_0) := (blk_cell BK126.out 0).trans rfl
     have hcz43_1 : wr.cell? ⟨gb126, 1, none⟩ = some (.slice A0_1 l0_1.length c0_1) := (blk_cell BK126.out 1).trans rfl
     have hcz43_2 : wr.cell? ⟨gb126, 2, none⟩ = some (.slice A0_2 l0_2.length c0_2) := (blk_cell BK126.out 2).trans rfl
     have hfz43_0 := blk_frozen BK126.out 0
     have hfz43_1 := blk_frozen BK126.out 1
     have hfz43_2 := blk_frozen BK126.out 2
     go_wp2
     go_loopg [42] k1 (fun kq v42 w' => ∃ (x42_2 : Int) (x130000_2 : List (List Int)) (u130000 : Value), v42 = .int .i64 x42_2 ∧ Aside0 (tag_ToCyclic.l1 kq (wrap64 ((wrap64 (a0_0 - 1)) * (l0_1.length : Int))) x42_2 x130000_2 = some (r1, r2)) ∧ Aside0 (kq ≤ k1) ∧ Aside0 (Kd.S (Kd.slice 3 (Kd.int .i64)) 26 w' w.heap.size (fun _ => True) u130000 x130000_2) ∧ Aside0 (w'.heap[gb126]? = some (.cells #[.int .i64 a0_0, (.slice A0_1 l0_1.length c0_1), (.slice A0_2 l0_2.length c0_2)] 25 (0, 0))) ∧ Aside0 (w'.heap[gb127]? = some (.cells #[(.slice none 0 0)] 45 (0, 0))) ∧ Aside0 (w'.heap[gb129]? = some (.cells #[u130000] 45 (0, 0))) ∧ Aside0 (Below w.heap.size w w'))
     case atStart => exact ⟨(0), (x130000_1), (u130000), jr_, H', ⟨Nat.le_refl _⟩, ⟨by (with_reducible repeat (first | apply Kd.S_alloc | apply Kd.S_drewN | apply Kd.S_drew)); exact HO_130000.out⟩, ⟨pk_ BK126.out⟩, ⟨pk_ BK127.out⟩, ⟨pk_ BK129.out⟩, ⟨bk_ HB.out⟩⟩
     case round =>
      clear H'
      (try clear c3); (try clear c13); (try clear c13b0); (try clear hcz12_0); (try clear hcz12_1); (try clear hcz12_2); (try clear hcz43_0); (try clear hcz43_1); (try clear hcz43_2); (try clear hcz7_0); (try clear hcz7_1); (try clear hcz7_2); (try clear hcz9_0); (try clear hcz9_1); (try clear hcz9_2); (try clear hfz12_0); (try clear hfz12_1); (try clear hfz12_2); (try clear hfz43_0); (try clear hfz43_1); (try clear hfz43_2); (try clear hfz7_0); (try clear hfz7_1); (try clear hfz7_2); (try clear hfz9_0); (try clear hfz9_1); (try clear hfz9_2)
      obtain ⟨x42_2, x130000_2, u130000, rfl, HA, HK2, HO_130000, BK126, BK127, BK129, HB⟩ := hrel
      cases gk with
      | zero => exact absurd HA.out (by simp [tag_ToCyclic.l1])
      | succ k2 =>
       have H := HA.out
       clear HA
       simp only [tag_ToCyclic.l1] at H
       by_cases c44 : x42_2 < (wrap64 ((wrap64 (a0_0 - 1)) * (l0_1.length : Int)))
       ·rw [if_pos c44] at H
        have c44b0 : decide (x42_2 < (wrap64 ((wrap64 (a0_0 - 1)) * (l0_1.length : Int)))) = true := decide_eq_true c44
        clear c44
        by_cases c45 : x130000_2.length < 5864062014805
        ·rw [if_pos c45] at H
         have LMc45 := Aside0.mk c45
         clear c45
         obtain ⟨y144, hy144⟩ : ∃ y_ : List (List Int), y_ = (x130000_2 ++ [[]]) := ⟨_, rfl⟩
         replace H : (tag_ToCyclic.l1 k2 (wrap64 ((wrap64 (a0_0 - 1)) * (l0_1.length : Int))) (wrap64 (x42_2 + 1)) y144) = some (r1, r2) := by first | (rw [hy144]; with_reducible exact H) | (have H2_ := (Option.bind_some _ _).symm.trans H; rw [hy144]; with_reducible exact H2_) | (have H2_ := (Option.bind_some _ _).symm.trans H; with_reducible exact H2_) | with_reducible exact H | (rw [hy144]; exact H) | exact H
         have Ny144 := Aside0.mk hy144
         clear hy144
         have H' := Aside0.mk H
         clear H
         have hnb46 := NB129_126.out
         have hnc46 := NB126_129.out
         have hnb47 := NB129_127.out
         have hnc47 := NB127_129.out
         have hcz48_0 : wr.cell? ⟨gb129, 0, none⟩ = some (u130000) := (blk_cell BK129.out 0).trans rfl
         have hfz48_0 := blk_frozen BK129.out 0
         go_wp2_with (first | ((with_reducible refine gate_builtin (b := .append) (xs := #[.tmp 45, .tmp 46]) rfl ?_); at_builtin; refine Kd.S_append (Kd.slice 3 (Kd.int .i64)) (w0 := w) w.heap.size rfl (.tmp 45) (.tmp 46) 22 26 (.slice none 0 0) 24 rfl Try.underlying22 info26 rfl (by decide) (by omega) u130000 x130000_2 ([] : List Int) [.slice none 0 0] (fun _ => True) (fun _ => False) rfl rfl ?aP (fun k_ hk_ => hk_.elim) ?aF ?aO ?aB ?aS ?aL ?_; (case aP => exact Kd.M_row (Kd.R_nil _ _ _ _ _)); (case aB => exact (bk_ HB.out)); (case aF => exact (fun _ _ => trivial)); (case aO => exact (by (with_reducible repeat (first | apply Kd.S_alloc | apply Kd.S_drewN | apply Kd.S_drew)); exact Kd.S_mono HO_130000.out (fun k_ hk => ⟨trivial, fun e_ => e_⟩))); (case aS => exact (below_size (bk_ HB.out))); (case aL => have := LMc45.out; omega); intro v145 w49 ho hb hg hat; rw [← Ny144.out] at ho; have n0_ := A_ (blk_grown (pk_ BK126.out) hg (Kd.S_ne HO_130000.out BK126.out (by decide))); have n1_ := A_ (blk_grown (pk_ BK127.out) hg (Kd.S_ne HO_130000.out BK127.out (by decide))); have n2_ := A_ (blk_grown (pk_ BK129.out) hg (Kd.S_ne HO_130000.out BK129.out (by decide))); have n3_ := A_ (hb); have n4_ := A_ (ho); clear BK126 BK127 BK129 HB HO_130000; have BK126 := n0_; have BK127 := n1_; have BK129 := n2_; have HB := n3_; have HO146 := n4_; clear n0_ n1_ n2_ n3_ n4_ ho hb hg hat; obtain ⟨Ao50, co50, eo50⟩ := Kd.S_slice HO146.out; subst eo50; have hcz51_0 : w49.cell? ⟨gb129, 0, none⟩ = some (u130000) := (blk_cell BK129.out 0).trans rfl; have hfz51_0 := blk_frozen BK129.out 0))
         go_roundg k2
         case measure => have := HK1.out; have := HK2.out; omega
         case rel => exact ⟨(wrap64 (x42_2 + 1)), (y144), (.slice Ao50 y144.length co50), jr_, H', ⟨by have := HK1.out; have := HK2.out; omega⟩, ⟨by (with_reducible repeat (first | apply Kd.S_alloc | apply Kd.S_drewN | apply Kd.S_drew)); exact Kd.S_mono (Kd.S_far (p := ⟨gb129, 0, none⟩) (Kd.S_types HO146.out BK129.out (by decide)) (fun _ hk => hk.2) (.slice Ao50 y144.length co50)) (fun _ hk => trivial)⟩, ⟨by refine pk_ ?_; refine blk_far ?_ NB126_129.out _; exact pk_ BK126.out⟩, ⟨by refine pk_ ?_; refine blk_far ?_ NB127_129.out _; exact pk_ BK127.out⟩, ⟨by refine pk_ ?_; refine blk_put (cs := #[u130000]) ?_ 0 _ rfl; exact pk_ BK129.out⟩, ⟨bk_ HB.out⟩⟩
        ·rw [if_neg c45] at H
         exact absurd H (by simp)
       ·rw [if_neg c44] at H
        have c44b0 : decide (x42_2 < (wrap64 ((wrap64 (a0_0 - 1)) * (l0_1.length : Int)))) = false := decide_eq_false c44
        clear c44
        simp only [Option.some.injEq, Prod.mk.injEq] at H
        obtain ⟨rfl, rfl⟩ := H
        have hnb52 := NB129_126.out
        have hnc52 := NB126_129.out
        have hnb53 := NB129_127.out
        have hnc53 := NB127_129.out
        have hcz54_0 : wr.cell? ⟨gb129, 0, none⟩ = some (u130000) := (blk_cell BK129.out 0).trans rfl
        have hfz54_0 := blk_frozen BK129.out 0
        obtain ⟨Ao55, co55, eo55⟩ := Kd.S_slice HO_130000.out
        subst eo55
        have hnb56 := NB127_126.out
        have hnc56 := NB126_127.out
        have hcz57_0 : wr.cell? ⟨gb127, 0, none⟩ = some (.slice none 0 0) := (blk_cell BK127.out 0).trans rfl
        have hfz57_0 := blk_frozen BK127.out 0
        go_wp2
        refine bodyPost_ret (results_ct rfl _ _ gb127 45 #[.slice Ao55 x130000_2.length co55] (0, 0) _ rfl (by refine pk_ ?_; refine blk_put (cs := #[.slice none 0 0]) ?_ 0 _ rfl; exact pk_ BK127.out) Try.underlying45 rfl (by kernel_rfl)) rfl ?_
        exact ⟨_, er_, by (with_reducible repeat (first | apply Kd.S_alloc | apply Kd.S_drewN | apply Kd.S_drew)); exact Kd.S_mono (Kd.S_far (p := ⟨gb127, 0, none⟩) (Kd.S_types HO_130000.out BK127.out (by decide)) (fun _ hk => hk.2) (.slice Ao55 x130000_2.length co55)) (fun _ hk => trivial), bk_ HB.out⟩
 ·replace c3 := Bool.eq_false_iff.mpr c3
  subst c3
  have H1 : (some (([] : List (List Int)), 1)) = some (r1, r2) := by rw [if_neg (show ¬ (false = true) by decide)] at H; exact H
  clear H
  have H := H1
  clear H1
  simp only [Option.some.injEq, Prod.mk.injEq] at H
  obtain ⟨rfl, rfl⟩ := H
  go_enter Try.func35, Try.ntmps35
  go_wp2_with (first | ((with_reducible refine gate_dst (N := 1) rfl ?_); refine box_event ?hg (N := 1) ?hd (cs := #[.int .i64 a0_0, .slice A0_1 l0_1.length c0_1, .slice A0_2 l0_2.length c0_2]) (t := 25) ?hr ?_; (case hd => rfl); (case hg => rfl); (case hr => first | (go_simp; done) | (go_simp; rfl)); intro gb126 hg w58 hbox hb; have n0_ := A_ (below_step (bk_ HB.out) hb); have n1_ := A_ (hbox); have n2_ := A_ ((by rw [hg]; exact (below_size (bk_ HB.out)) : w.heap.size ≤ gb126)); have n3_ := A_ ((by rw [hg]; exact (below_size (bk_ HB.out)) : w.heap.size ≤ gb126)); clear HB; have HB := n0_; have BK126 := n1_; have GW126 := n2_; have GE126 := n3_; clear n0_ n1_ n2_ n3_ hb hbox hg) | ((with_reducible refine gate_dst (N := 2) rfl ?_); refine box_event ?hg (N := 2) ?hd (cs := #[.slice none 0 0]) (t := 45) ?hr ?_; (case hd => rfl); (case hg => rfl); (case hr => first | (go_simp; done) | (go_simp; rfl)); intro gb127 hg w59 hbox hb; have n0_ := A_ (blk_below (pk_ BK126.out) hb); have n1_ := A_ (below_step (bk_ HB.out) hb); have n2_ := A_ (hbox); have n3_ := A_ ((by rw [hg]; exact (below_size (bk_ HB.out)) : w.heap.size ≤ gb127)); have n4_ := A_ ((by rw [hg]; exact (below_size (bk_ HB.out)) : w.heap.size ≤ gb127)); have n5_ := A_ ((by rw [hg]; exact Nat.ne_of_lt (blk_lt (pk_ BK126.out)) : gb126 ≠ gb127)); have n6_ := A_ ((by rw [hg]; exact Nat.ne_of_gt (blk_lt (pk_ BK126.out)) : gb127 ≠ gb126)); clear BK126 HB; have BK126 := n0_; have HB := n1_; have BK127 := n2_; have GW127 := n3_; have GE127 := n4_; have NB126_127 := n5_; have NB127_126 := n6_; clear n0_ n1_ n2_ n3_ n4_ n5_ n6_ hb hbox hg; have hnb60 := NB126_127.out; have hnc60 := NB127_126.out; have hcz61_0 : w59.cell? ⟨gb126, 0, none⟩ = some (.int .i64 a0_0) := (blk_cell BK126.out 0).trans rfl; have hcz61_1 : w59.cell? ⟨gb126, 1, none⟩ = some (.slice A0_1 l0_1.length c0_1) := (blk_cell BK126.out 1).trans rfl; have hcz61_2 : w59.cell? ⟨gb126, 2, none⟩ = some (.slice A0_2 l0_2.length c0_2) := (blk_cell BK126.out 2).trans rfl; have hfz61_0 := blk_frozen BK126.out 0; have hfz61_1 := blk_frozen BK126.out 1; have hfz61_2 := blk_frozen BK126.out 2) | ((with_reducible refine gate_callee (f := 15) rfl ?_); refine goesL_ (some 9) rfl rfl Try.func15 (by kernel_rfl) rfl #[.agg #[.int .i64 a0_0, .slice A0_1 l0_1.length c0_1, .slice A0_2 l0_2.length c0_2]] rfl gl_ ?_; (with_reducible refine (tag_Valid.calls k a0_0 _ _ l0_1 _ _ l0_2 false _ ?side1 ?side2 ?side3 ?side4 A2.out).mono ?_); (case side1 => exact ck_ (Kd.C_below HR0_1.out HB.out)); (case side2 => exact HC0_1.out); (case side3 => exact ck_ (Kd.C_below HR0_2.out HB.out)); (case side4 => exact HC0_2.out); rintro e w62 ⟨rfl, hb⟩; refine ⟨_, rfl, ?_⟩; have n0_ := A_ (blk_below (pk_ BK126.out) hb); have n1_ := A_ (blk_below (pk_ BK127.out) hb); have n2_ := A_ (below_step (bk_ HB.out) hb); clear BK126 BK127 HB; have BK126 := n0_; have BK127 := n1_; have HB := n2_; clear n0_ n1_ n2_; (try clear hb); (try clear hb2); (try clear hk); (try clear hi); have hcz63_0 : w62.cell? ⟨gb127, 0, none⟩ = some (.slice none 0 0) := (blk_cell BK127.out 0).trans rfl; have hfz63_0 := blk_frozen BK127.out 0))
  refine bodyPost_ret (results_ct rfl _ _ gb127 45 #[.slice none 0 0] (0, 0) _ rfl (by refine pk_ ?_; refine blk_put (cs := #[.slice none 0 0]) ?_ 0 _ rfl; exact pk_ BK127.out) Try.underlying45 rfl (by kernel_rfl)) rfl ?_
  exact ⟨_, er_, by first | exact Kd.S_nil _ _ _ _ _ | exact Kd.N_nil _ _ _ _ _ | exact Kd.V_nil _ _ _ _ _ | exact Kd.Q_nil _ _ _ _ _ | exact Kd.R_nil _ _ _ _ _, bk_ HB.out⟩

/-! ### standstilllaw07_three: function 42 -/
def standstilllaw07_three.f  : Option (Int × (List (List Int)) × List Bool) := some (2, (([(([1, 2] : List Int)), (([0] : List Int)), (([0, 0, 0] : List Int))] : List (List Int))), (([false, false, false] : List Bool)))
set_option maxHeartbeats 8000000 in
set_option maxRecDepth 100000 in
theorem standstilllaw07_three.calls  (r1 : Int) (r2 : List (List Int)) (r3 : List Bool) (w : World) (h : standstilllaw07_three.f  = some (r1, r2, r3)) :
  Calls Try.prog 42 #[] w fun e w' => ∃ v1_ v2_ : Value, e = .returned (.agg #[.int .i64 r1, v1_, v2_]) ∧ Kd.N (Kd.slice 3 (Kd.int .i64)) 26 w' w.heap.size (fun k_ => (w.heap.size ≤ k_) ∧ some k_ ≠ (v2_ : Value).ownBlock) v1_ r2 ∧ Kd.R Kd.bool 4 w' w.heap.size (fun k_ => (w.heap.size ≤ k_)) v2_ r3 ∧ Below w.heap.size w w' := by
 have hu25 := Try.underlying25
 have HB := A_ (Below.refl w.heap.size w)
 have H : (some (2, (([(([1, 2] : List Int)), (([0] : List Int)), (([0, 0, 0] : List Int))] : List (List Int))), (([false, false, false] : List Bool)))) = some (r1, r2, r3) := h
 clear h
 obtain ⟨y148, hy148⟩ : ∃ y_ : List Int, y_ = (([1, 2] : List Int)) := ⟨_, rfl⟩
 replace H : (some (2, (([y148, (([0] : List Int)), (([0, 0, 0] : List Int))] : List (List Int))), (([false, false, false] : List Bool)))) = some (r1, r2, r3) := by first | (rw [hy148]; with_reducible exact H) | (have H2_ := (Option.bind_some _ _).symm.trans H; rw [hy148]; with_reducible exact H2_) | (have H2_ := (Option.bind_some _ _).symm.trans H; with_reducible exact H2_) | with_reducible exact H | (rw [hy148]; exact H) | exact H
 have Ny148 := Aside0.mk hy148
 clear hy148
 obtain ⟨y151, hy151⟩ : ∃ y_ : List Int, y_ = (([0] : List Int)) := ⟨_, rfl⟩
 replace H : (some (2, (([y148, y151, (([0, 0, 0] : List Int))] : List (List Int))), (([false, false, false] : List Bool)))) = some (r1, r2, r3) := by first | (rw [hy151]; with_reducible exact H) | (have H2_ := (Option.bind_some _ _).symm.trans H; rw [hy151]; with_reducible exact H2_) | (have H2_ := (Option.bind_some _ _).symm.trans H; with_reducible exact H2_) | with_reducible exact H | (rw [hy151]; exact H) | exact H
 have Ny151 := Aside0.mk hy151
 clear hy151
 obtain ⟨y154, hy154⟩ : ∃ y_ : List Int, y_ = (([0, 0, 0] : List Int)) := ⟨_, rfl⟩
 replace H : (some (2, (([y148, y151, y154] : List (List Int))), (([false, false, false] : List Bool)))) = some (r1, r2, r3) := by first | (rw [hy154]; with_reducible exact H) | (have H2_ := (Option.bind_some _ _).symm.trans H; rw [hy154]; with_reducible exact H2_) | (have H2_ := (Option.bind_some _ _).symm.trans H; with_reducible exact H2_) | with_reducible exact H | (rw [hy154]; exact H) | exact H
 have Ny154 := Aside0.mk hy154
 clear hy154
 obtain ⟨y157, hy157⟩ : ∃ y_ : List (List Int), y_ = (([y148, y151, y154] : List (List Int))) := ⟨_, rfl⟩
 replace H : (some (2, y157, (([false, false, false] : List Bool)))) = some (r1, r2, r3) := by first | (rw [hy157]; with_reducible exact H) | (have H2_ := (Option.bind_some _ _).symm.trans H; rw [hy157]; with_reducible exact H2_) | (have H2_ := (Option.bind_some _ _).symm.trans H; with_reducible exact H2_) | with_reducible exact H | (rw [hy157]; exact H) | exact H
 have Ny157 := Aside0.mk hy157
 clear hy157
 obtain ⟨y160, hy160⟩ : ∃ y_ : List Bool, y_ = (([false, false, false] : List Bool)) := ⟨_, rfl⟩
 replace H : (some (2, y157, y160)) = some (r1, r2, r3) := by first | (rw [hy160]; with_reducible exact H) | (have H2_ := (Option.bind_some _ _).symm.trans H; rw [hy160]; with_reducible exact H2_) | (have H2_ := (Option.bind_some _ _).symm.trans H; with_reducible exact H2_) | with_reducible exact H | (rw [hy160]; exact H) | exact H
 have Ny160 := Aside0.mk hy160
 clear hy160
 simp only [Option.some.injEq, Prod.mk.injEq] at H
 obtain ⟨rfl, rfl, rfl⟩ := H
 go_enter Try.func42, Try.ntmps42
 go_wp2_with (first | ((with_reducible refine gate_dst (N := 0) rfl ?_); refine box_event ?hg (N := 0) ?hd (cs := #[.int .i64 0, .slice none 0 0, .slice none 0 0]) (t := 25) ?hr ?_; (case hd => rfl); (case hg => rfl); (case hr => first | (go_simp; done) | (go_simp; rfl)); intro gb147 hg w1 hbox hb; have n0_ := A_ (below_step (bk_ HB.out) hb); have n1_ := A_ (hbox); have n2_ := A_ ((by rw [hg]; exact (below_size (bk_ HB.out)) : w.heap.size ≤ gb147)); have n3_ := A_ ((by rw [hg]; exact (below_size (bk_ HB.out)) : w.heap.size ≤ gb147)); clear HB; have HB := n0_; have BK147 := n1_; have GW147 := n2_; have GE147 := n3_; clear n0_ n1_ n2_ n3_ hb hbox hg) | ((with_reducible refine gate_dst (N := 1) rfl ?_); refine Kd.R_lit (Kd.int .i64) _ 3 ?hg (N := 1) ?hd (xs := ([1, 2] : List Int)) (inner := [.int .i64 1, .int .i64 2]) (ok := fun _ => True) (okp := fun _ => True) ?hr ?hp (fun _ hk => hk) trivial (Below.refl _ _) (Nat.le_refl _) (by simp) ?_; (case hd => rfl); (case hg => rfl); (case hr => first | (go_simp; done) | (go_simp; rfl)); (case hp => exact (Reps.one (show Kd.M (Kd.int .i64) _ _ _ 1 [.int .i64 1] from rfl) (Reps.one (show Kd.M (Kd.int .i64) _ _ _ 2 [.int .i64 2] from rfl) (Reps.none _ _)))); intro v149 w2 ho3 hb hg_ hnew_; clear hg_ hnew_; (first | rw [← Ny148.out] at ho3 | (simp only [Int.reduceToNat] at ho3; rw [← Ny148.out] at ho3)); have n0_ := A_ (Kd.R_lower (Kd.R_newM (M := fun k_ => (w.heap.size ≤ k_)) ho3 (below_size (bk_ HB.out)) (fun k_ h_ => h_)) (below_size (bk_ HB.out))); have n1_ := A_ (blk_below (pk_ BK147.out) hb); have n2_ := A_ (below_step (bk_ HB.out) hb); clear BK147 HB; have HO150 := n0_; have BK147 := n1_; have HB := n2_; clear n0_ n1_ n2_ hb ho3) | ((with_reducible refine gate_dst (N := 2) rfl ?_); refine Kd.R_lit (Kd.int .i64) _ 3 ?hg (N := 2) ?hd (xs := ([0] : List Int)) (inner := [.int .i64 0]) (ok := fun _ => True) (okp := fun _ => True) ?hr ?hp (fun _ hk => hk) trivial (Below.refl _ _) (Nat.le_refl _) (by simp) ?_; (case hd => rfl); (case hg => rfl); (case hr => first | (go_simp; done) | (go_simp; rfl)); (case hp => exact (Reps.one (show Kd.M (Kd.int .i64) _ _ _ 0 [.int .i64 0] from rfl) (Reps.none _ _))); intro v152 w4 ho5 hb hg_ hnew_; clear hg_ hnew_; (first | rw [← Ny151.out] at ho5 | (simp only [Int.reduceToNat] at ho5; rw [← Ny151.out] at ho5)); have n0_ := A_ (Kd.R_elder' (rk_ HO150.out) (Kd.R_base ho5) hb); have n1_ := A_ (Kd.R_lower (Kd.R_new' (Kd.R_newM (M := fun k_ => (w.heap.size ≤ k_)) ho5 (below_size (bk_ HB.out)) (fun k_ h_ => h_)) (Kd.R_lt (rk_ HO150.out))) (below_size (bk_ HB.out))); have n2_ := A_ (blk_below (pk_ BK147.out) hb); have n3_ := A_ (below_step (bk_ HB.out) hb); clear HO150 BK147 HB; have HO150 := n0_; have HO153 := n1_; have BK147 := n2_; have HB := n3_; clear n0_ n1_ n2_ n3_ hb ho5) | ((with_reducible refine gate_dst (N := 3) rfl ?_); refine Kd.R_lit (Kd.int .i64) _ 3 ?hg (N := 3) ?hd (xs := ([0, 0, 0] : List Int)) (inner := [.int .i64 0, .int .i64 0, .int .i64 0]) (ok := fun _ => True) (okp := fun _ => True) ?hr ?hp (fun _ hk => hk) trivial (Below.refl _ _) (Nat.le_refl _) (by simp) ?_; (case hd => rfl); (case hg => rfl); (case hr => first | (go_simp; done) | (go_simp; rfl)); (case hp => exact (Reps.one (show Kd.M (Kd.int .i64) _ _ _ 0 [.int .i64 0] from rfl) (Reps.one (show Kd.M (Kd.int .i64) _ _ _ 0 [.int .i64 0] from rfl) (Reps.one (show Kd.M (Kd.int .i64) _ _ _ 0 [.int .i64 0] from rfl) (Reps.none _ _))))); intro v155 w6 ho7 hb hg_ hnew_; clear hg_ hnew_; (first | rw [← Ny154.out] at ho7 | (simp only [Int.reduceToNat] at ho7; rw [← Ny154.out] at ho7)); have n0_ := A_ (Kd.R_elder' (rk_ HO150.out) (Kd.R_base ho7) hb); have n1_ := A_ (Kd.R_elder' (rk_ HO153.out) (Kd.R_base ho7) hb); have n2_ := A_ (Kd.R_lower (Kd.R_new' (Kd.R_new' (Kd.R_newM (M := fun k_ => (w.heap.size ≤ k_)) ho7 (below_size (bk_ HB.out)) (fun k_ h_ => h_)) (Kd.R_lt (rk_ HO150.out))) (Kd.R_lt (rk_ HO153.out))) (below_size (bk_ HB.out))); have n3_ := A_ (blk_below (pk_ BK147.out) hb); have n4_ := A_ (below_step (bk_ HB.out) hb); clear HO150 HO153 BK147 HB; have HO150 := n0_; have HO153 := n1_; have HO156 := n2_; have BK147 := n3_; have HB := n4_; clear n0_ n1_ n2_ n3_ n4_ hb ho7; obtain ⟨Ao8, co8, eo8⟩ := Kd.R_slice HO150.out; subst eo8; obtain ⟨Ao9, co9, eo9⟩ := Kd.R_slice HO153.out; subst eo9; obtain ⟨Ao10, co10, eo10⟩ := Kd.R_slice HO156.out; subst eo10) | ((with_reducible refine gate_dst (N := 4) rfl ?_); refine Kd.N_lit (Kd.slice 3 (Kd.int .i64)) _ 26 ?hg (N' := 4) ?hd (xs := ([y148, y151, y154] : List (List Int))) (inner := [.slice Ao8 y148.length co8, .slice Ao9 y151.length co9, .slice Ao10 y154.length co10]) (ok := (fun k_ => (w.heap.size ≤ k_) ∧ k_ ≠ gb147)) (okp := (fun k_ => (w.heap.size ≤ k_) ∧ k_ ≠ gb147)) ?hr ?hp (fun _ hk => hk) ((show ∀ k_, w6.heap.size ≤ k_ → (fun k_ => (w.heap.size ≤ k_) ∧ k_ ≠ gb147) k_ from fun k_ hk => ⟨(Nat.le_trans (below_size (bk_ HB.out)) hk), Kd.freshB (g := gb147) (o := .cells #[.int .i64 0, .slice none 0 0, .slice none 0 0] 25 (0, 0)) (pk_ BK147.out) k_ hk⟩) _ (Nat.le_refl _)) (Below.refl _ _) (Nat.le_refl _) (by simp) ?_; (case hd => rfl); (case hg => rfl); (case hr => first | (go_simp; done) | (go_simp; rfl)); (case hp => exact (Reps.one (show Kd.FK (Kd.slice 3 (Kd.int .i64)) _ _ y148 [.slice Ao8 y148.length co8] from (Kd.FK_slice_mk (Kd.R_reads' (Kd.R_mono (ok' := (fun k_ => (w.heap.size ≤ k_) ∧ k_ ≠ gb147)) (Kd.R_types (HO150.out) BK147.out (by decide)) (fun k_ hk => ⟨hk.1.1.1.1, hk.2⟩))).2.1 (Kd.R_F (Kd.R_mono (ok' := (fun k_ => (w.heap.size ≤ k_) ∧ k_ ≠ gb147)) (Kd.R_types (HO150.out) BK147.out (by decide)) (fun k_ hk => ⟨hk.1.1.1.1, hk.2⟩))))) (Reps.one (show Kd.FK (Kd.slice 3 (Kd.int .i64)) _ _ y151 [.slice Ao9 y151.length co9] from (Kd.FK_slice_mk (Kd.R_reads' (Kd.R_mono (ok' := (fun k_ => (w.heap.size ≤ k_) ∧ k_ ≠ gb147)) (Kd.R_types (HO153.out) BK147.out (by decide)) (fun k_ hk => ⟨hk.1.1.1.1, hk.2⟩))).2.1 (Kd.R_F (Kd.R_mono (ok' := (fun k_ => (w.heap.size ≤ k_) ∧ k_ ≠ gb147)) (Kd.R_types (HO153.out) BK147.out (by decide)) (fun k_ hk => ⟨hk.1.1.1.1, hk.2⟩))))) (Reps.one (show Kd.FK (Kd.slice 3 (Kd.int .i64)) _ _ y154 [.slice Ao10 y154.length co10] from (Kd.FK_slice_mk (Kd.R_reads' (Kd.R_mono (ok' := (fun k_ => (w.heap.size ≤ k_) ∧ k_ ≠ gb147)) (Kd.R_types (HO156.out) BK147.out (by decide)) (fun k_ hk => ⟨hk.1.1.1.1, hk.2⟩))).2.1 (Kd.R_F (Kd.R_mono (ok' := (fun k_ => (w.heap.size ≤ k_) ∧ k_ ≠ gb147)) (Kd.R_types (HO156.out) BK147.out (by decide)) (fun k_ hk => ⟨hk.1.1.1.1, hk.2⟩))))) (Reps.none _ _))))); intro v158 w11 ho12 hb hg_ hnew_; clear hg_ hnew_; (first | rw [← Ny157.out] at ho12 | (simp only [Int.reduceToNat] at ho12; rw [← Ny157.out] at ho12)); have n0_ := A_ (Kd.N_lower ho12 (below_size (bk_ HB.out))); have n1_ := A_ (blk_below (pk_ BK147.out) hb); have n2_ := A_ (below_step (bk_ HB.out) hb); clear BK147 HB HO150 HO153 HO156; have HO159 := n0_; have BK147 := n1_; have HB := n2_; clear n0_ n1_ n2_ hb ho12) | ((with_reducible refine gate_dst (N := 5) rfl ?_); refine Kd.R_lit Kd.bool _ 4 ?hg (N := 5) ?hd (xs := ([false, false, false] : List Bool)) (inner := [.bool false, .bool false, .bool false]) (ok := fun _ => True) (okp := fun _ => True) ?hr ?hp (fun _ hk => hk) trivial (Below.refl _ _) (Nat.le_refl _) (by simp) ?_; (case hd => rfl); (case hg => rfl); (case hr => first | (go_simp; done) | (go_simp; rfl)); (case hp => exact (Reps.one (show Kd.M Kd.bool _ _ _ false [.bool false] from rfl) (Reps.one (show Kd.M Kd.bool _ _ _ false [.bool false] from rfl) (Reps.one (show Kd.M Kd.bool _ _ _ false [.bool false] from rfl) (Reps.none _ _))))); intro v161 w13 ho14 hb hg_ hnew_; clear hg_ hnew_; (first | rw [← Ny160.out] at ho14 | (simp only [Int.reduceToNat] at ho14; rw [← Ny160.out] at ho14)); have n0_ := A_ (Kd.N_elder' (by (with_reducible repeat (first | apply Kd.N_alloc | apply Kd.N_drewN | apply Kd.N_drew)); exact HO159.out) (Kd.R_base ho14) hb); have n1_ := A_ (Kd.R_lower (Kd.R_newM (M := fun k_ => (w.heap.size ≤ k_)) ho14 (below_size (bk_ HB.out)) (fun k_ h_ => h_)) (below_size (bk_ HB.out))); have n2_ := A_ (blk_below (pk_ BK147.out) hb); have n3_ := A_ (below_step (bk_ HB.out) hb); clear HO159 BK147 HB; have HO159 := n0_; have HO162 := n1_; have BK147 := n2_; have HB := n3_; clear n0_ n1_ n2_ n3_ hb ho14; obtain ⟨Ao15, co15, eo15⟩ := Kd.R_slice HO162.out; subst eo15; obtain ⟨Ao16, co16, eo16⟩ := Kd.N_slice HO159.out; subst eo16; have hcz17_0 : w13.cell? ⟨gb147, 0, none⟩ = some (.int .i64 0) := (blk_cell BK147.out 0).trans rfl; have hcz17_1 : w13.cell? ⟨gb147, 1, none⟩ = some (.slice none 0 0) := (blk_cell BK147.out 1).trans rfl; have hcz17_2 : w13.cell? ⟨gb147, 2, none⟩ = some (.slice none 0 0) := (blk_cell BK147.out 2).trans rfl; have hfz17_0 := blk_frozen BK147.out 0; have hfz17_1 := blk_frozen BK147.out 1; have hfz17_2 := blk_frozen BK147.out 2))
 refine bodyPost_ret (results_cell_row rfl _ _ gb147 25 #[.int .i64 2, .slice Ao16 y157.length co16, .slice Ao15 y160.length co15] (0, 0) _ rfl (by refine pk_ ?_; refine blk_put (cs := #[.int .i64 2, .slice Ao16 y157.length co16, .slice none 0 0]) ?_ 2 _ rfl; refine pk_ ?_; refine blk_put (cs := #[.int .i64 2, .slice none 0 0, .slice none 0 0]) ?_ 1 _ rfl; refine pk_ ?_; refine blk_put (cs := #[.int .i64 0, .slice none 0 0, .slice none 0 0]) ?_ 0 _ rfl; exact pk_ BK147.out) Try.underlying25 rfl (by kernel_rfl)) rfl ?_
 exact ⟨_, _, er_, by (with_reducible repeat (first | apply Kd.N_alloc | apply Kd.N_drewN | apply Kd.N_drew)); exact Kd.N_mono (Kd.N_far (p := ⟨gb147, 2, none⟩) (Kd.N_far (p := ⟨gb147, 1, none⟩) (Kd.N_far (p := ⟨gb147, 0, none⟩) (Kd.N_mono HO159.out (fun k_ hk => (⟨hk, hk.1.2⟩ : _ ∧ k_ ≠ gb147))) (fun _ hk => hk.2) (.int .i64 2)) (fun _ hk => hk.2) (.slice Ao16 y157.length co16)) (fun _ hk => hk.2) (.slice Ao15 y160.length co15)) (fun _ hk => ⟨hk.1.1.1, hk.1.2⟩), by (with_reducible repeat (first | apply Kd.R_alloc | apply Kd.R_drewN | apply Kd.R_drew)); exact Kd.R_mono (Kd.R_far (p := ⟨gb147, 2, none⟩) (Kd.R_far (p := ⟨gb147, 1, none⟩) (Kd.R_far (p := ⟨gb147, 0, none⟩) (Kd.R_types HO162.out BK147.out (by decide)) (fun _ hk => hk.2) (.int .i64 2)) (fun _ hk => hk.2) (.slice Ao16 y157.length co16)) (fun _ hk => hk.2) (.slice Ao15 y160.length co15)) (fun _ hk => hk.1.1), bk_ HB.out⟩

/-! ### standstilllaw07_awake: function 11 -/
def standstilllaw07_awake.f (k : Nat)  : Option (Bool) := (standstilllaw07_three.f).bind fun bt163 => ((tag_Run.f k bt163.1 bt163.2.1 bt163.2.2 (([0, 0, 0] : List Int)) 4).bind fun bt173 => ((standstilllaw07_three.f).bind fun bt178 => ((tag_ToCyclic.f k bt178.1 bt178.2.1 bt178.2.2).bind fun bt185 => (if bt173.2.2 = 0 then (if bt173.2.1 = 4 then ((standstillref07_Same.f k bt173.1 (([0, 0, 0, 0, 0] : List Int))).bind fun t193 => (if t193 = true then (if bt185.2 = 0 then (if (bt185.1.length : Int) = 6 then (if 0 < (bt185.1.length : Int) then ((standstillref07_Same.f k (rd_L1 bt185.1 0) (([0, 1, 0, 0, 0, 1] : List Int))).bind fun t198 => (some t198)) else (none)) else (some false)) else (some false)) else (some false))) else (some false)) else (some false)))))
theorem standstilllaw07_awake.mono : ∀ k, LeO (standstilllaw07_awake.f k ) (standstilllaw07_awake.f (k + 1) ) := by
 intro  k
 unfold standstilllaw07_awake.f
 repeat' first
   | (with_reducible exact standstillref07_Same.mono _ _ _)
   | (with_reducible exact tag_Run.mono _ _ _ _ _ _)
   | (with_reducible exact tag_ToCyclic.mono _ _ _ _)
   | (with_reducible exact LeO.refl _)
   | (with_reducible exact LeO.none _)
   | (with_reducible refine LeO.ite ?_ ?_)
   | (with_reducible refine LeO.bind ?_ (fun _ => ?_))
   | exact standstillref07_Same.mono _ _ _
   | exact tag_Run.mono _ _ _ _ _ _
   | exact tag_ToCyclic.mono _ _ _ _
   | exact LeO.none _
   | refine LeO.ite ?_ ?_
   | refine LeO.bind ?_ (fun _ => ?_)
set_option maxHeartbeats 8000000 in
set_option maxRecDepth 100000 in
theorem standstilllaw07_awake.calls (k : Nat)  (r : Bool) (w : World) (h : standstilllaw07_awake.f k  = some r) :
  Calls Try.prog 11 #[] w fun e w' => e = .returned (.bool r) ∧ Below w.heap.size w w' := by
 have hu45 := Try.underlying45
 have HB := A_ (Below.refl w.heap.size w)
 have H : ((standstilllaw07_three.f).bind fun bt163 => ((tag_Run.f k bt163.1 bt163.2.1 bt163.2.2 (([0, 0, 0] : List Int)) 4).bind fun bt173 => ((standstilllaw07_three.f).bind fun bt178 => ((tag_ToCyclic.f k bt178.1 bt178.2.1 bt178.2.2).bind fun bt185 => (if bt173.2.2 = 0 then (if bt173.2.1 = 4 then ((standstillref07_Same.f k bt173.1 (([0, 0, 0, 0, 0] : List Int))).bind fun t193 => (if t193 = true then (if bt185.2 = 0 then (if (bt185.1.length : Int) = 6 then (if 0 < (bt185.1.length : Int) then ((standstillref07_Same.f k (rd_L1 bt185.1 0) (([0, 1, 0, 0, 0, 1] : List Int))).bind fun t198 => (some t198)) else (none)) else (some false)) else (some false)) else (some false))) else (some false)) else (some false)))))) = some r := h
 clear h
 replace H := Option.bind_eq_some_iff.mp H
 obtain ⟨⟨t163, t164, t167⟩, A10, H⟩ := H
 replace H : ((tag_Run.f k t163 t164 t167 (([0, 0, 0] : List Int)) 4).bind fun bt173 => ((standstilllaw07_three.f).bind fun bt178 => ((tag_ToCyclic.f k bt178.1 bt178.2.1 bt178.2.2).bind fun bt185 => (if bt173.2.2 = 0 then (if bt173.2.1 = 4 then ((standstillref07_Same.f k bt173.1 (([0, 0, 0, 0, 0] : List Int))).bind fun t193 => (if t193 = true then (if bt185.2 = 0 then (if (bt185.1.length : Int) = 6 then (if 0 < (bt185.1.length : Int) then ((standstillref07_Same.f k (rd_L1 bt185.1 0) (([0, 1, 0, 0, 0, 1] : List Int))).bind fun t198 => (some t198)) else (none)) else (some false)) else (some false)) else (some false))) else (some false)) else (some false))))) = some r := H
 have A1 := Aside0.mk A10
 clear A10
 obtain ⟨y170, hy170⟩ : ∃ y_ : List Int, y_ = (([0, 0, 0] : List Int)) := ⟨_, rfl⟩
 replace H : ((tag_Run.f k t163 t164 t167 y170 4).bind fun bt173 => ((standstilllaw07_three.f).bind fun bt178 => ((tag_ToCyclic.f k bt178.1 bt178.2.1 bt178.2.2).bind fun bt185 => (if bt173.2.2 = 0 then (if bt173.2.1 = 4 then ((standstillref07_Same.f k bt173.1 (([0, 0, 0, 0, 0] : List Int))).bind fun t193 => (if t193 = true then (if bt185.2 = 0 then (if (bt185.1.length : Int) = 6 then (if 0 < (bt185.1.length : Int) then ((standstillref07_Same.f k (rd_L1 bt185.1 0) (([0, 1, 0, 0, 0, 1] : List Int))).bind fun t198 => (some t198)) else (none)) else (some false)) else (some false)) else (some false))) else (some false)) else (some false))))) = some r := by first | (rw [hy170]; with_reducible exact H) | (have H2_ := (Option.bind_some _ _).symm.trans H; rw [hy170]; with_reducible exact H2_) | (have H2_ := (Option.bind_some _ _).symm.trans H; with_reducible exact H2_) | with_reducible exact H | (rw [hy170]; exact H) | exact H
 have Ny170 := Aside0.mk hy170
 clear hy170
 replace H := Option.bind_eq_some_iff.mp H
 obtain ⟨⟨t173, t176, t177⟩, A20, H⟩ := H
 replace H : ((standstilllaw07_three.f).bind fun bt178 => ((tag_ToCyclic.f k bt178.1 bt178.2.1 bt178.2.2).bind fun bt185 => (if t177 = 0 then (if t176 = 4 then ((standstillref07_Same.f k t173 (([0, 0, 0, 0, 0] : List Int))).bind fun t193 => (if t193 = true then (if bt185.2 = 0 then (if (bt185.1.length : Int) = 6 then (if 0 < (bt185.1.length : Int) then ((standstillref07_Same.f k (rd_L1 bt185.1 0) (([0, 1, 0, 0, 0, 1] : List Int))).bind fun t198 => (some t198)) else (none)) else (some false)) else (some false)) else (some false))) else (some false)) else (some false)))) = some r := H
 have A2 := Aside0.mk A20
 clear A20
 replace H := Option.bind_eq_some_iff.mp H
 obtain ⟨⟨t178, t179, t182⟩, A30, H⟩ := H
 replace H : ((tag_ToCyclic.f k t178 t179 t182).bind fun bt185 => (if t177 = 0 then (if t176 = 4 then ((standstillref07_Same.f k t173 (([0, 0, 0, 0, 0] : List Int))).bind fun t193 => (if t193 = true then (if bt185.2 = 0 then (if (bt185.1.length : Int) = 6 then (if 0 < (bt185.1.length : Int) then ((standstillref07_Same.f k (rd_L1 bt185.1 0) (([0, 1, 0, 0, 0, 1] : List Int))).bind fun t198 => (some t198)) else (none)) else (some false)) else (some false)) else (some false))) else (some false)) else (some false))) = some r := H
 have A3 := Aside0.mk A30
 clear A30
 replace H := Option.bind_eq_some_iff.mp H
 obtain ⟨⟨t185, t188⟩, A40, H⟩ := H
 replace H : (if t177 = 0 then (if t176 = 4 then ((standstillref07_Same.f k t173 (([0, 0, 0, 0, 0] : List Int))).bind fun t193 => (if t193 = true then (if t188 = 0 then (if (t185.length : Int) = 6 then (if 0 < (t185.length : Int) then ((standstillref07_Same.f k (rd_L1 t185 0) (([0, 1, 0, 0, 0, 1] : List Int))).bind fun t198 => (some t198)) else (none)) else (some false)) else (some false)) else (some false))) else (some false)) else (some false)) = some r := H
 have A4 := Aside0.mk A40
 clear A40
 by_cases c5 : t177 = 0
 ·rw [if_pos c5] at H
  have c5b0 : (t177 == 0) = true := beq_iff_eq.mpr c5
  have c5b1 : (t177 != 0) = false := bne_eq_false_iff_eq.mpr c5
  clear c5
  by_cases c6 : t176 = 4
  ·rw [if_pos c6] at H
   have c6b0 : (t176 == 4) = true := beq_iff_eq.mpr c6
   have c6b1 : (t176 != 4) = false := bne_eq_false_iff_eq.mpr c6
   clear c6
   obtain ⟨y190, hy190⟩ : ∃ y_ : List Int, y_ = (([0, 0, 0, 0, 0] : List Int)) := ⟨_, rfl⟩
   replace H : ((standstillref07_Same.f k t173 y190).bind fun t193 => (if t193 = true then (if t188 = 0 then (if (t185.length : Int) = 6 then (if 0 < (t185.length : Int) then ((standstillref07_Same.f k (rd_L1 t185 0) (([0, 1, 0, 0, 0, 1] : List Int))).bind fun t198 => (some t198)) else (none)) else (some false)) else (some false)) else (some false))) = some r := by first | (rw [hy190]; with_reducible exact H) | (have H2_ := (Option.bind_some _ _).symm.trans H; rw [hy190]; with_reducible exact H2_) | (have H2_ := (Option.bind_some _ _).symm.trans H; with_reducible exact H2_) | with_reducible exact H | (rw [hy190]; exact H) | exact H
   have Ny190 := Aside0.mk hy190
   clear hy190
   replace H := Option.bind_eq_some_iff.mp H
   obtain ⟨t193, A70, H⟩ := H
   replace H : (if t193 = true then (if t188 = 0 then (if (t185.length : Int) = 6 then (if 0 < (t185.length : Int) then ((standstillref07_Same.f k (rd_L1 t185 0) (([0, 1, 0, 0, 0, 1] : List Int))).bind fun t198 => (some t198)) else (none)) else (some false)) else (some false)) else (some false)) = some r := H
   have A7 := Aside0.mk A70
   clear A70
   by_cases c8 : t193 = true
   ·subst c8
    have H1 : (if t188 = 0 then (if (t185.length : Int) = 6 then (if 0 < (t185.length : Int) then ((standstillref07_Same.f k (rd_L1 t185 0) (([0, 1, 0, 0, 0, 1] : List Int))).bind fun t198 => (some t198)) else (none)) else (some false)) else (some false)) = some r := by rw [if_pos rfl] at H; exact H
    clear H
    have H := H1
    clear H1
    by_cases c9 : t188 = 0
    ·rw [if_pos c9] at H
     have c9b0 : (t188 == 0) = true := beq_iff_eq.mpr c9
     have c9b1 : (t188 != 0) = false := bne_eq_false_iff_eq.mpr c9
     clear c9
     by_cases c10 : (t185.length : Int) = 6
     ·rw [if_pos c10] at H
      have c10b0 : ((t185.length : Int) == 6) = true := beq_iff_eq.mpr c10
      have c10b1 : ((t185.length : Int) != 6) = false := bne_eq_false_iff_eq.mpr c10
      clear c10
      by_cases c11 : 0 < (t185.length : Int)
      ·rw [if_pos c11] at H
       have c11b0 : decide (0 < (t185.length : Int)) = true := decide_eq_true c11
       have c11b1 : decide (0 < t185.length) = true := decide_eq_true (by omega)
       clear c11
       obtain ⟨y195, hy195⟩ : ∃ y_ : List Int, y_ = (([0, 1, 0, 0, 0, 1] : List Int)) := ⟨_, rfl⟩
       replace H : ((standstillref07_Same.f k (rd_L1 t185 0) y195).bind fun t198 => (some t198)) = some r := by first | (rw [hy195]; with_reducible exact H) | (have H2_ := (Option.bind_some _ _).symm.trans H; rw [hy195]; with_reducible exact H2_) | (have H2_ := (Option.bind_some _ _).symm.trans H; with_reducible exact H2_) | with_reducible exact H | (rw [hy195]; exact H) | exact H
       have Ny195 := Aside0.mk hy195
       clear hy195
       replace H := Option.bind_eq_some_iff.mp H
       obtain ⟨t198, A120, H⟩ := H
       replace H : (some t198) = some r := H
       have A12 := Aside0.mk A120
       clear A120
       obtain rfl := Option.some.inj H
       go_enter Try.func11, Try.ntmps11
       go_wp2_with (first | ((with_reducible refine gate_callee (f := 42) rfl ?_); refine goesL_ (some 7) rfl rfl Try.func42 (by kernel_rfl) rfl #[] rfl gl_ ?_; (with_reducible refine (standstilllaw07_three.calls  t163 t164 t167 _ A1.out).mono ?_); rintro e w13 ⟨v165, v168, rfl, ho0, ho1, hb⟩; refine ⟨_, rfl, ?_⟩; have n0_ := A_ (Kd.N_lower (Kd.N_mono (ok' := fun k_ => some k_ ≠ (v168 : Value).ownBlock) ho0 (fun k_ hk_ => hk_.2)) (below_size (bk_ HB.out))); have n1_ := A_ (Kd.R_lower (Kd.R_mono (ok' := fun k_ => True) ho1 (fun _ hk_ => trivial)) (below_size (bk_ HB.out))); have n2_ := A_ (below_step (bk_ HB.out) hb); clear HB; have HO166 := n0_; have HO169 := n1_; have HB := n2_; clear n0_ n1_ n2_; (try clear hb); (try clear hb2); (try clear hk); (try clear hi); (try clear ho0); (try clear ho1)) | ((with_reducible refine gate_dst (N := 8) rfl ?_); (try (refine gate_guard (by rfl) ?_; dsimp only)); refine Kd.R_lit (Kd.int .i64) _ 3 ?hg (N := 8) ?hd (xs := ([0, 0, 0] : List Int)) (inner := [.int .i64 0, .int .i64 0, .int .i64 0]) (ok := fun _ => True) (okp := fun _ => True) ?hr ?hp (fun _ hk => hk) trivial (Below.refl _ _) (Nat.le_refl _) (by simp) ?_; (case hd => rfl); (case hg => rfl); (case hr => first | (go_simp; done) | (go_simp; rfl)); (case hp => exact (Reps.one (show Kd.M (Kd.int .i64) _ _ _ 0 [.int .i64 0] from rfl) (Reps.one (show Kd.M (Kd.int .i64) _ _ _ 0 [.int .i64 0] from rfl) (Reps.one (show Kd.M (Kd.int .i64) _ _ _ 0 [.int .i64 0] from rfl) (Reps.none _ _))))); intro v171 w14 ho15 hb hg_ hnew_; clear hg_ hnew_; (first | rw [← Ny170.out] at ho15 | (simp only [Int.reduceToNat] at ho15; rw [← Ny170.out] at ho15)); have n0_ := A_ (Kd.N_elder' (by (with_reducible repeat (first | apply Kd.N_alloc | apply Kd.N_drewN | apply Kd.N_drew)); exact HO166.out) (Kd.R_base ho15) hb); have n1_ := A_ (Kd.R_below (rk_ HO169.out) hb); have n2_ := A_ (Kd.R_lower ho15 (below_size (bk_ HB.out))); have n3_ := A_ (below_step (bk_ HB.out) hb); clear HO166 HO169 HB; have HO166 := n0_; have HO169 := n1_; have HO172 := n2_; have HB := n3_; clear n0_ n1_ n2_ n3_ hb ho15; obtain ⟨Ao16, co16, eo16⟩ := Kd.N_slice HO166.out; subst eo16; obtain ⟨Ao17, co17, eo17⟩ := Kd.R_slice HO169.out; subst eo17; obtain ⟨Ao18, co18, eo18⟩ := Kd.R_slice HO172.out; subst eo18) | ((with_reducible refine gate_callee (f := 13) rfl ?_); refine goesL_ (some 9) rfl rfl Try.func13 (by kernel_rfl) rfl #[.agg #[.int .i64 t163, .slice Ao16 t164.length co16, .slice Ao17 t167.length co17], .slice Ao18 y170.length co18, .int .i64 4] rfl gl_ ?_; (with_reducible refine (tag_Run.calls k t163 _ _ t164 _ _ t167 _ _ y170 4 t173 t176 t177 _ ?side1 ?side2 ?side3 ?side4 ?side5 ?side6 A2.out).mono ?_); (case side1 => repeat (first | exact (Kd.N_reads' HO166.out).2.2 | (with_reducible refine Kd.C_alloc ?_ _) | (with_reducible refine Kd.C_drewN ?_ _) | (with_reducible refine Kd.C_drew ?_))); (case side2 => exact (Kd.N_reads' HO166.out).2.1); (case side3 => repeat (first | exact (Kd.R_reads' HO169.out).2.2 | (with_reducible refine Kd.C_alloc ?_ _) | (with_reducible refine Kd.C_drewN ?_ _) | (with_reducible refine Kd.C_drew ?_))); (case side4 => exact (Kd.R_reads' HO169.out).2.1); (case side5 => repeat (first | exact (Kd.R_reads' HO172.out).2.2 | (with_reducible refine Kd.C_alloc ?_ _) | (with_reducible refine Kd.C_drewN ?_ _) | (with_reducible refine Kd.C_drew ?_))); (case side6 => exact (Kd.R_reads' HO172.out).2.1); rintro e w19 ⟨v174, rfl, ho0, hb⟩; refine ⟨_, rfl, ?_⟩; have n0_ := A_ (Kd.N_elder' (by (with_reducible repeat (first | apply Kd.N_alloc | apply Kd.N_drewN | apply Kd.N_drew)); exact HO166.out) (Kd.R_base ho0) hb); have n1_ := A_ (Kd.R_below (rk_ HO169.out) hb); have n2_ := A_ (Kd.R_elder' (rk_ HO172.out) (Kd.R_base ho0) hb); have n3_ := A_ (Kd.R_lower (Kd.R_new' ho0 (Kd.R_lt (rk_ HO172.out))) (below_size (bk_ HB.out))); have n4_ := A_ (below_step (bk_ HB.out) hb); clear HO166 HO169 HO172 HB; have HO166 := n0_; have HO169 := n1_; have HO172 := n2_; have HO175 := n3_; have HB := n4_; clear n0_ n1_ n2_ n3_ n4_; (try clear hb); (try clear hb2); (try clear hk); (try clear hi); (try clear ho0)) | ((with_reducible refine gate_callee (f := 42) rfl ?_); refine goesL_ (some 14) rfl rfl Try.func42 (by kernel_rfl) rfl #[] rfl gl_ ?_; (with_reducible refine (standstilllaw07_three.calls  t178 t179 t182 _ A3.out).mono ?_); rintro e w20 ⟨v180, v183, rfl, ho0, ho1, hb⟩; refine ⟨_, rfl, ?_⟩; have n0_ := A_ (Kd.N_mono (Kd.N_told (Kd.N_told (Kd.N_old (by (with_reducible repeat (first | apply Kd.N_alloc | apply Kd.N_drewN | apply Kd.N_drew)); exact HO166.out) hb) (by first | exact Kd.N_base ho0 | exact Kd.S_base ho0 | exact Kd.N_base ho0 | exact Kd.R_base ho0)) (Kd.R_base ho1)) (fun _ h_ => h_.1)); have n1_ := A_ (Kd.R_elder' (rk_ HO169.out) (Kd.R_base ho1) hb); have n2_ := A_ (Kd.R_below (rk_ HO172.out) hb); have n3_ := A_ (Kd.R_below (rk_ HO175.out) hb); have n4_ := A_ (Kd.N_lower (Kd.N_mono (ok' := fun k_ => some k_ ≠ (v183 : Value).ownBlock ∧ some k_ ≠ (.slice Ao16 t164.length co16 : Value).ownBlock ∧ some k_ ≠ (.slice Ao17 t167.length co17 : Value).ownBlock ∧ some k_ ≠ (.slice Ao18 y170.length co18 : Value).ownBlock ∧ some k_ ≠ (v174 : Value).ownBlock) ho0 (fun k_ hk_ => ⟨hk_.2, (Kd.fresh' (Kd.N_lt (by (with_reducible repeat (first | apply Kd.N_alloc | apply Kd.N_drewN | apply Kd.N_drew)); exact HO166.out)) k_ hk_.1), (Kd.fresh' (Kd.R_lt (rk_ HO169.out)) k_ hk_.1), (Kd.fresh' (Kd.R_lt (rk_ HO172.out)) k_ hk_.1), (Kd.fresh' (Kd.R_lt (rk_ HO175.out)) k_ hk_.1)⟩)) (below_size (bk_ HB.out))); have n5_ := A_ (Kd.R_lower (Kd.R_new' (Kd.R_mono (ok' := fun k_ => True) ho1 (fun _ hk_ => trivial)) (Kd.R_lt (rk_ HO169.out))) (below_size (bk_ HB.out))); have n6_ := A_ (below_step (bk_ HB.out) hb); clear HO166 HO169 HO172 HO175 HB; have HO166 := n0_; have HO169 := n1_; have HO172 := n2_; have HO175 := n3_; have HO181 := n4_; have HO184 := n5_; have HB := n6_; clear n0_ n1_ n2_ n3_ n4_ n5_ n6_; (try clear hb); (try clear hb2); (try clear hk); (try clear hi); (try clear ho0); (try clear ho1); obtain ⟨Ao21, co21, eo21⟩ := Kd.N_slice HO181.out; subst eo21; obtain ⟨Ao22, co22, eo22⟩ := Kd.R_slice HO184.out; subst eo22) | ((with_reducible refine gate_callee (f := 35) rfl ?_); refine goesL_ (some 15) rfl rfl Try.func35 (by kernel_rfl) rfl #[.agg #[.int .i64 t178, .slice Ao21 t179.length co21, .slice Ao22 t182.length co22]] rfl gl_ ?_; (with_reducible refine (tag_ToCyclic.calls k t178 _ _ t179 _ _ t182 t185 t188 _ ?side1 ?side2 ?side3 ?side4 A4.out).mono ?_); (case side1 => repeat (first | exact (Kd.N_reads' HO181.out).2.2 | (with_reducible refine Kd.C_alloc ?_ _) | (with_reducible refine Kd.C_drewN ?_ _) | (with_reducible refine Kd.C_drew ?_))); (case side2 => exact (Kd.N_reads' HO181.out).2.1); (case side3 => repeat (first | exact (Kd.R_reads' HO184.out).2.2 | (with_reducible refine Kd.C_alloc ?_ _) | (with_reducible refine Kd.C_drewN ?_ _) | (with_reducible refine Kd.C_drew ?_))); (case side4 => exact (Kd.R_reads' HO184.out).2.1); rintro e w23 ⟨v186, rfl, ho0, hb⟩; refine ⟨_, rfl, ?_⟩; have n0_ := A_ (Kd.N_elder' (by (with_reducible repeat (first | apply Kd.N_alloc | apply Kd.N_drewN | apply Kd.N_drew)); exact HO166.out) (by first | exact Kd.N_base ho0 | exact Kd.S_base ho0 | exact Kd.R_base ho0) hb); have n1_ := A_ (Kd.R_below (rk_ HO169.out) hb); have n2_ := A_ (Kd.R_below (rk_ HO172.out) hb); have n3_ := A_ (Kd.R_below (rk_ HO175.out) hb); have n4_ := A_ (Kd.N_elder' (by (with_reducible repeat (first | apply Kd.N_alloc | apply Kd.N_drewN | apply Kd.N_drew)); exact HO181.out) (by first | exact Kd.N_base ho0 | exact Kd.S_base ho0 | exact Kd.R_base ho0) hb); have n5_ := A_ (Kd.R_below (rk_ HO184.out) hb); have n6_ := A_ (Kd.N_lower (Kd.N_mono (ok' := fun k_ => some k_ ≠ (.slice Ao16 t164.length co16 : Value).ownBlock ∧ some k_ ≠ (.slice Ao17 t167.length co17 : Value).ownBlock ∧ some k_ ≠ (.slice Ao18 y170.length co18 : Value).ownBlock ∧ some k_ ≠ (v174 : Value).ownBlock ∧ some k_ ≠ (.slice Ao21 t179.length co21 : Value).ownBlock ∧ some k_ ≠ (.slice Ao22 t182.length co22 : Value).ownBlock) (Kd.S_N (Kd.S_bound ho0)) (fun k_ hk_ => ⟨(Kd.fresh' (Kd.N_lt (by (with_reducible repeat (first | apply Kd.N_alloc | apply Kd.N_drewN | apply Kd.N_drew)); exact HO166.out)) k_ hk_.2.1), (Kd.fresh' (Kd.R_lt (rk_ HO169.out)) k_ hk_.2.1), (Kd.fresh' (Kd.R_lt (rk_ HO172.out)) k_ hk_.2.1), (Kd.fresh' (Kd.R_lt (rk_ HO175.out)) k_ hk_.2.1), (Kd.fresh' (Kd.N_lt (by (with_reducible repeat (first | apply Kd.N_alloc | apply Kd.N_drewN | apply Kd.N_drew)); exact HO181.out)) k_ hk_.2.1), (Kd.fresh' (Kd.R_lt (rk_ HO184.out)) k_ hk_.2.1)⟩)) (below_size (bk_ HB.out))); have n7_ := A_ (below_step (bk_ HB.out) hb); clear HO166 HO169 HO172 HO175 HO181 HO184 HB; have HO166 := n0_; have HO169 := n1_; have HO172 := n2_; have HO175 := n3_; have HO181 := n4_; have HO184 := n5_; have HO187 := n6_; have HB := n7_; clear n0_ n1_ n2_ n3_ n4_ n5_ n6_ n7_; (try clear hb); (try clear hb2); (try clear hk); (try clear hi); (try clear ho0)) | ((with_reducible refine gate_dst (N := 4) rfl ?_); (try (refine gate_guard (by rfl) ?_; dsimp only)); refine box_event ?hg (N := 4) ?hd (cs := #[.slice none 0 0]) (t := 45) ?hr ?_; (case hd => rfl); (case hg => rfl); (case hr => first | (go_simp; done) | (go_simp; rfl)); intro gb189 hg w24 hbox hb; have n0_ := A_ (Kd.N_below (Kd.N_elderB (by (with_reducible repeat (first | apply Kd.N_alloc | apply Kd.N_drewN | apply Kd.N_drew)); exact HO166.out) gb189 (Nat.le_of_eq hg.symm)) hb); have n1_ := A_ (Kd.R_below (rk_ HO169.out) hb); have n2_ := A_ (Kd.R_below (rk_ HO172.out) hb); have n3_ := A_ (Kd.R_below (rk_ HO175.out) hb); have n4_ := A_ (Kd.N_below (Kd.N_elderB (by (with_reducible repeat (first | apply Kd.N_alloc | apply Kd.N_drewN | apply Kd.N_drew)); exact HO181.out) gb189 (Nat.le_of_eq hg.symm)) hb); have n5_ := A_ (Kd.R_below (rk_ HO184.out) hb); have n6_ := A_ (Kd.N_below (Kd.N_elderB (by (with_reducible repeat (first | apply Kd.N_alloc | apply Kd.N_drewN | apply Kd.N_drew)); exact HO187.out) gb189 (Nat.le_of_eq hg.symm)) hb); have n7_ := A_ (below_step (bk_ HB.out) hb); have n8_ := A_ (hbox); have n9_ := A_ ((by rw [hg]; exact (below_size (bk_ HB.out)) : w.heap.size ≤ gb189)); have n10_ := A_ ((by rw [hg]; exact (below_size (bk_ HB.out)) : w.heap.size ≤ gb189)); clear HO166 HO169 HO172 HO175 HO181 HO184 HO187 HB; have HO166 := n0_; have HO169 := n1_; have HO172 := n2_; have HO175 := n3_; have HO181 := n4_; have HO184 := n5_; have HO187 := n6_; have HB := n7_; have BK189 := n8_; have GW189 := n9_; have GE189 := n10_; clear n0_ n1_ n2_ n3_ n4_ n5_ n6_ n7_ n8_ n9_ n10_ hb hbox hg; obtain ⟨Ao25, co25, eo25⟩ := Kd.N_slice HO187.out; subst eo25; have hcz26_0 : w24.cell? ⟨gb189, 0, none⟩ = some (.slice none 0 0) := (blk_cell BK189.out 0).trans rfl; have hfz26_0 := blk_frozen BK189.out 0) | ((with_reducible refine gate_dst (N := 26) rfl ?_); (try (refine gate_guard (by rfl) ?_; dsimp only)); refine Kd.R_lit (Kd.int .i64) _ 3 ?hg (N := 26) ?hd (xs := ([0, 0, 0, 0, 0] : List Int)) (inner := [.int .i64 0, .int .i64 0, .int .i64 0, .int .i64 0, .int .i64 0]) (ok := fun _ => True) (okp := fun _ => True) ?hr ?hp (fun _ hk => hk) trivial (Below.refl _ _) (Nat.le_refl _) (by simp) ?_; (case hd => rfl); (case hg => rfl); (case hr => first | (go_simp; done) | (go_simp; rfl)); (case hp => exact (Reps.one (show Kd.M (Kd.int .i64) _ _ _ 0 [.int .i64 0] from rfl) (Reps.one (show Kd.M (Kd.int .i64) _ _ _ 0 [.int .i64 0] from rfl) (Reps.one (show Kd.M (Kd.int .i64) _ _ _ 0 [.int .i64 0] from rfl) (Reps.one (show Kd.M (Kd.int .i64) _ _ _ 0 [.int .i64 0] from rfl) (Reps.one (show Kd.M (Kd.int .i64) _ _ _ 0 [.int .i64 0] from rfl) (Reps.none _ _))))))); intro v191 w27 ho28 hb hg_ hnew_; clear hg_ hnew_; (first | rw [← Ny190.out] at ho28 | (simp only [Int.reduceToNat] at ho28; rw [← Ny190.out] at ho28)); have n0_ := A_ (Kd.N_elder' (by (with_reducible repeat (first | apply Kd.N_alloc | apply Kd.N_drewN | apply Kd.N_drew)); exact (Kd.N_mono (Kd.N_far (p := ⟨gb189, 0, none⟩) (Kd.N_mono HO166.out (fun k_ hk => (⟨hk, hk.2⟩ : _ ∧ k_ ≠ gb189))) (fun _ hk => hk.2) (.slice Ao25 t185.length co25)) (fun _ h_ => h_.1))) (Kd.R_base ho28) hb); have n1_ := A_ (Kd.R_below (by (with_reducible repeat (first | apply Kd.R_alloc | apply Kd.R_drewN | apply Kd.R_drew)); exact (Kd.R_mono (Kd.R_far (p := ⟨gb189, 0, none⟩) (Kd.R_types HO169.out BK189.out (by decide)) (fun _ hk => hk.2) (.slice Ao25 t185.length co25)) (fun _ h_ => h_.1))) hb); have n2_ := A_ (Kd.R_elder' (by (with_reducible repeat (first | apply Kd.R_alloc | apply Kd.R_drewN | apply Kd.R_drew)); exact (Kd.R_mono (Kd.R_far (p := ⟨gb189, 0, none⟩) (Kd.R_types HO172.out BK189.out (by decide)) (fun _ hk => hk.2) (.slice Ao25 t185.length co25)) (fun _ h_ => h_.1))) (Kd.R_base ho28) hb); have n3_ := A_ (Kd.R_elder' (by (with_reducible repeat (first | apply Kd.R_alloc | apply Kd.R_drewN | apply Kd.R_drew)); exact (Kd.R_mono (Kd.R_far (p := ⟨gb189, 0, none⟩) (Kd.R_types HO175.out BK189.out (by decide)) (fun _ hk => hk.2) (.slice Ao25 t185.length co25)) (fun _ h_ => h_.1))) (Kd.R_base ho28) hb); have n4_ := A_ (Kd.N_elder' (by (with_reducible repeat (first | apply Kd.N_alloc | apply Kd.N_drewN | apply Kd.N_drew)); exact (Kd.N_mono (Kd.N_far (p := ⟨gb189, 0, none⟩) (Kd.N_mono HO181.out (fun k_ hk => (⟨hk, hk.2⟩ : _ ∧ k_ ≠ gb189))) (fun _ hk => hk.2) (.slice Ao25 t185.length co25)) (fun _ h_ => h_.1))) (Kd.R_base ho28) hb); have n5_ := A_ (Kd.R_below (by (with_reducible repeat (first | apply Kd.R_alloc | apply Kd.R_drewN | apply Kd.R_drew)); exact (Kd.R_mono (Kd.R_far (p := ⟨gb189, 0, none⟩) (Kd.R_types HO184.out BK189.out (by decide)) (fun _ hk => hk.2) (.slice Ao25 t185.length co25)) (fun _ h_ => h_.1))) hb); have n6_ := A_ (Kd.N_elder' (by (with_reducible repeat (first | apply Kd.N_alloc | apply Kd.N_drewN | apply Kd.N_drew)); exact (Kd.N_mono (Kd.N_far (p := ⟨gb189, 0, none⟩) (Kd.N_mono HO187.out (fun k_ hk => (⟨hk, hk.2⟩ : _ ∧ k_ ≠ gb189))) (fun _ hk => hk.2) (.slice Ao25 t185.length co25)) (fun _ h_ => h_.1))) (Kd.R_base ho28) hb); have n7_ := A_ (Kd.R_lower (Kd.R_new' (Kd.R_new' ho28 (Kd.R_lt (by (with_reducible repeat (first | apply Kd.R_alloc | apply Kd.R_drewN | apply Kd.R_drew)); exact (Kd.R_mono (Kd.R_far (p := ⟨gb189, 0, none⟩) (Kd.R_types HO172.out BK189.out (by decide)) (fun _ hk => hk.2) (.slice Ao25 t185.length co25)) (fun _ h_ => h_.1))))) (Kd.R_lt (by (with_reducible repeat (first | apply Kd.R_alloc | apply Kd.R_drewN | apply Kd.R_drew)); exact (Kd.R_mono (Kd.R_far (p := ⟨gb189, 0, none⟩) (Kd.R_types HO175.out BK189.out (by decide)) (fun _ hk => hk.2) (.slice Ao25 t185.length co25)) (fun _ h_ => h_.1))))) (below_size (bk_ HB.out))); have n8_ := A_ (blk_below (g := gb189) (o := .cells #[.slice Ao25 t185.length co25] 45 (0, 0)) (by refine pk_ ?_; refine blk_put (cs := #[.slice none 0 0]) ?_ 0 _ rfl; exact pk_ BK189.out) hb); have n9_ := A_ (below_step (bk_ HB.out) hb); clear HO166 HO169 HO172 HO175 HO181 HO184 HO187 BK189 HB; have HO166 := n0_; have HO169 := n1_; have HO172 := n2_; have HO175 := n3_; have HO181 := n4_; have HO184 := n5_; have HO187 := n6_; have HO192 := n7_; have BK189 := n8_; have HB := n9_; clear n0_ n1_ n2_ n3_ n4_ n5_ n6_ n7_ n8_ n9_ hb ho28; obtain ⟨Ao29, co29, eo29⟩ := Kd.R_slice HO175.out; subst eo29; obtain ⟨Ao30, co30, eo30⟩ := Kd.R_slice HO192.out; subst eo30) | (go_at_call 14; (with_reducible refine (standstillref07_Same.calls k _ _ t173 _ _ y190 true _ ?side1 ?side2 ?side3 ?side4 A7.out).mono ?_); (case side1 => repeat (first | exact (Kd.R_reads' HO175.out).2.2 | (with_reducible refine Kd.C_alloc ?_ _) | (with_reducible refine Kd.C_drewN ?_ _) | (with_reducible refine Kd.C_drew ?_))); (case side2 => exact (Kd.R_reads' HO175.out).2.1); (case side3 => repeat (first | exact (Kd.R_reads' HO192.out).2.2 | (with_reducible refine Kd.C_alloc ?_ _) | (with_reducible refine Kd.C_drewN ?_ _) | (with_reducible refine Kd.C_drew ?_))); (case side4 => exact (Kd.R_reads' HO192.out).2.1); rintro e w' ⟨rfl, ⟨nd, rfl⟩⟩; have hcz31_0 : w27.cell? ⟨gb189, 0, none⟩ = some (.slice Ao25 t185.length co25) := (blk_cell BK189.out 0).trans rfl; have hfz31_0 := blk_frozen BK189.out 0; have p194 : 0 ≤ (0 : Int) := (by omega); have q194 : 0 < (t185.length : Int) := od_; obtain ⟨ad194, A194_0, c194_0, e194, hx194_0, hl194_0, hi194_0⟩ := at_L1 (Kd.N_reads' HO187.out).2.2 0 p194 q194; cases e194; obtain ⟨ce194, hce194, hMe194, hcc194⟩ := Kd.N_get HO187.out [] 0 p194 (by first | exact q194 | exact od_ | (have e_ := (Kd.N_reads' HO187.out).1; omega)); obtain ⟨ua194_0, uc194_0, rfl, ul194_0, ge194_0⟩ := Kd.FK_slice_open hMe194; have hv194_0 := hcc194 0 _ rfl; rw [Nat.add_zero, show ((Kd.slice 3 (Kd.int .i64))).sz = 1 from rfl, Nat.mul_one] at hv194_0; replace hv194_0 := Option.some.inj (hv194_0.symm.trans hx194_0); injection hv194_0 with hva_ hvn_ hvc_; rw [hva_] at ge194_0; rw [hvc_] at ul194_0; have HL194_0 := A_ (show Kd.V (Kd.int .i64) 3 _ w.heap.size _ _ (rd_L1 t185 0) from Kd.V_mk ul194_0 ge194_0); clear hva_ hvn_ hvc_ ge194_0 ul194_0 hcc194 hce194; have qi194 : (0 < t185.length) = True := eq_true (by omega); (try rw [show ((0 : Int)).toNat = 0 from rfl] at hx194_0); (try rw [Addr.add_zero'] at hx194_0); have HR194_0 := Aside0.mk hi194_0; have HC194_0 := Aside0.mk hl194_0; clear hi194_0 hl194_0; replace p194 := eq_true p194; replace q194 := eq_true q194) | ((with_reducible refine gate_dst (N := 44) rfl ?_); (try (refine gate_guard (by rfl) ?_; dsimp only)); refine Kd.R_lit (Kd.int .i64) _ 3 ?hg (N := 44) ?hd (xs := ([0, 1, 0, 0, 0, 1] : List Int)) (inner := [.int .i64 0, .int .i64 1, .int .i64 0, .int .i64 0, .int .i64 0, .int .i64 1]) (ok := fun _ => True) (okp := fun _ => True) ?hr ?hp (fun _ hk => hk) trivial (Below.refl _ _) (Nat.le_refl _) (by simp) ?_; (case hd => rfl); (case hg => rfl); (case hr => first | (go_simp; done) | (go_simp; rfl)); (case hp => exact (Reps.one (show Kd.M (Kd.int .i64) _ _ _ 0 [.int .i64 0] from rfl) (Reps.one (show Kd.M (Kd.int .i64) _ _ _ 1 [.int .i64 1] from rfl) (Reps.one (show Kd.M (Kd.int .i64) _ _ _ 0 [.int .i64 0] from rfl) (Reps.one (show Kd.M (Kd.int .i64) _ _ _ 0 [.int .i64 0] from rfl) (Reps.one (show Kd.M (Kd.int .i64) _ _ _ 0 [.int .i64 0] from rfl) (Reps.one (show Kd.M (Kd.int .i64) _ _ _ 1 [.int .i64 1] from rfl) (Reps.none _ _)))))))); intro v196 w32 ho33 hb hg_ hnew_; clear hg_ hnew_; (first | rw [← Ny195.out] at ho33 | (simp only [Int.reduceToNat] at ho33; rw [← Ny195.out] at ho33)); have n0_ := A_ (Kd.N_elder' (by (with_reducible repeat (first | apply Kd.N_alloc | apply Kd.N_drewN | apply Kd.N_drew)); exact HO166.out) (Kd.R_base ho33) hb); have n1_ := A_ (Kd.R_below (rk_ HO169.out) hb); have n2_ := A_ (Kd.R_elder' (rk_ HO172.out) (Kd.R_base ho33) hb); have n3_ := A_ (Kd.R_elder' (rk_ HO175.out) (Kd.R_base ho33) hb); have n4_ := A_ (Kd.N_elder' (by (with_reducible repeat (first | apply Kd.N_alloc | apply Kd.N_drewN | apply Kd.N_drew)); exact HO181.out) (Kd.R_base ho33) hb); have n5_ := A_ (Kd.R_below (rk_ HO184.out) hb); have n6_ := A_ (Kd.N_elder' (by (with_reducible repeat (first | apply Kd.N_alloc | apply Kd.N_drewN | apply Kd.N_drew)); exact HO187.out) (Kd.R_base ho33) hb); have n7_ := A_ (Kd.R_elder' (rk_ HO192.out) (Kd.R_base ho33) hb); have n8_ := A_ (Kd.V_elder' (by (with_reducible repeat (first | apply Kd.V_alloc | apply Kd.V_drewN | apply Kd.V_drew)); exact HL194_0.out) (Kd.R_base ho33) hb); have n9_ := A_ (Kd.R_lower (Kd.R_new' (Kd.R_new' (Kd.R_new' ho33 (Kd.R_lt (rk_ HO172.out))) (Kd.R_lt (rk_ HO175.out))) (Kd.R_lt (rk_ HO192.out))) (below_size (bk_ HB.out))); have n10_ := A_ (blk_below (pk_ BK189.out) hb); have n11_ := A_ (Kd.C_below (by repeat (first | (with_reducible exact HR194_0.out) | (with_reducible refine Kd.C_alloc ?_ _) | (with_reducible refine Kd.C_drewN ?_ _) | (with_reducible refine Kd.C_drew ?_) | exact HR194_0.out)) hb); have n12_ := A_ (below_step (bk_ HB.out) hb); clear HO166 HO169 HO172 HO175 HO181 HO184 HO187 HO192 HL194_0 BK189 HR194_0 HB; have HO166 := n0_; have HO169 := n1_; have HO172 := n2_; have HO175 := n3_; have HO181 := n4_; have HO184 := n5_; have HO187 := n6_; have HO192 := n7_; have HL194_0 := n8_; have HO197 := n9_; have BK189 := n10_; have HR194_0 := n11_; have HB := n12_; clear n0_ n1_ n2_ n3_ n4_ n5_ n6_ n7_ n8_ n9_ n10_ n11_ n12_ hb ho33; obtain ⟨Ao34, co34, eo34⟩ := Kd.R_slice HO197.out; subst eo34) | (go_at_call 14; (with_reducible refine (standstillref07_Same.calls k _ _ (rd_L1 t185 0) _ _ y195 t198 _ ?side1 ?side2 ?side3 ?side4 A12.out).mono ?_); (case side1 => repeat (first | exact (by repeat (first | (with_reducible exact HR194_0.out) | (with_reducible refine Kd.C_alloc ?_ _) | (with_reducible refine Kd.C_drewN ?_ _) | (with_reducible refine Kd.C_drew ?_) | exact HR194_0.out)) | (with_reducible refine Kd.C_alloc ?_ _) | (with_reducible refine Kd.C_drewN ?_ _) | (with_reducible refine Kd.C_drew ?_))); (case side2 => exact HC194_0.out); (case side3 => repeat (first | exact (Kd.R_reads' HO197.out).2.2 | (with_reducible refine Kd.C_alloc ?_ _) | (with_reducible refine Kd.C_drewN ?_ _) | (with_reducible refine Kd.C_drew ?_))); (case side4 => exact (Kd.R_reads' HO197.out).2.1); rintro e w' ⟨rfl, ⟨nd, rfl⟩⟩))
       go_ret
       exact ⟨er_, bk_ HB.out⟩
      ·rw [if_neg c11] at H
       exact absurd H (by simp)
     ·rw [if_neg c10] at H
      have c10b0 : ((t185.length : Int) == 6) = false := beq_eq_false_iff_ne.mpr c10
      have c10b1 : ((t185.length : Int) != 6) = true := bne_iff_ne.mpr c10
      obtain rfl := Option.some.inj H
      go_enter Try.func11, Try.ntmps11
      go_wp2_with (first | ((with_reducible refine gate_callee (f := 42) rfl ?_); refine goesL_ (some 7) rfl rfl Try.func42 (by kernel_rfl) rfl #[] rfl gl_ ?_; (with_reducible refine (standstilllaw07_three.calls  t163 t164 t167 _ A1.out).mono ?_); rintro e w35 ⟨v165, v168, rfl, ho0, ho1, hb⟩; refine ⟨_, rfl, ?_⟩; have n0_ := A_ (Kd.N_lower (Kd.N_mono (ok' := fun k_ => some k_ ≠ (v168 : Value).ownBlock) ho0 (fun k_ hk_ => hk_.2)) (below_size (bk_ HB.out))); have n1_ := A_ (Kd.R_lower (Kd.R_mono (ok' := fun k_ => True) ho1 (fun _ hk_ => trivial)) (below_size (bk_ HB.out))); have n2_ := A_ (below_step (bk_ HB.out) hb); clear HB; have HO166 := n0_; have HO169 := n1_; have HB := n2_; clear n0_ n1_ n2_; (try clear hb); (try clear hb2); (try clear hk); (try clear hi); (try clear ho0); (try clear ho1)) | ((with_reducible refine gate_dst (N := 8) rfl ?_); (try (refine gate_guard (by rfl) ?_; dsimp only)); refine Kd.R_lit (Kd.int .i64) _ 3 ?hg (N := 8) ?hd (xs := ([0, 0, 0] : List Int)) (inner := [.int .i64 0, .int .i64 0, .int .i64 0]) (ok := fun _ => True) (okp := fun _ => True) ?hr ?hp (fun _ hk => hk) trivial (Below.refl _ _) (Nat.le_refl _) (by simp) ?_; (case hd => rfl); (case hg => rfl); (case hr => first | (go_simp; done) | (go_simp; rfl)); (case hp => exact (Reps.one (show Kd.M (Kd.int .i64) _ _ _ 0 [.int .i64 0] from rfl) (Reps.one (show Kd.M (Kd.int .i64) _ _ _ 0 [.int .i64 0] from rfl) (Reps.one (show Kd.M (Kd.int .i64) _ _ _ 0 [.int .i64 0] from rfl) (Reps.none _ _))))); intro v171 w36 ho37 hb hg_ hnew_; clear hg_ hnew_; (first | rw [← Ny170.out] at ho37 | (simp only [Int.reduceToNat] at ho37; rw [← Ny170.out] at ho37)); have n0_ := A_ (Kd.N_elder' (by (with_reducible repeat (first | apply Kd.N_alloc | apply Kd.N_drewN | apply Kd.N_drew)); exact HO166.out) (Kd.R_base ho37) hb); have n1_ := A_ (Kd.R_below (rk_ HO169.out) hb); have n2_ := A_ (Kd.R_lower ho37 (below_size (bk_ HB.out))); have n3_ := A_ (below_step (bk_ HB.out) hb); clear HO166 HO169 HB; have HO166 := n0_; have HO169 := n1_; have HO172 := n2_; have HB := n3_; clear n0_ n1_ n2_ n3_ hb ho37; obtain ⟨Ao38, co38, eo38⟩ := Kd.N_slice HO166.out; subst eo38; obtain ⟨Ao39, co39, eo39⟩ := Kd.R_slice HO169.out; subst eo39; obtain ⟨Ao40, co40, eo40⟩ := Kd.R_slice HO172.out; subst eo40) | ((with_reducible refine gate_callee (f := 13) rfl ?_); refine goesL_ (some 9) rfl rfl Try.func13 (by kernel_rfl) rfl #[.agg #[.int .i64 t163, .slice Ao38 t164.length co38, .slice Ao39 t167.length co39], .slice Ao40 y170.length co40, .int .i64 4] rfl gl_ ?_; (with_reducible refine (tag_Run.calls k t163 _ _ t164 _ _ t167 _ _ y170 4 t173 t176 t177 _ ?side1 ?side2 ?side3 ?side4 ?side5 ?side6 A2.out).mono ?_); (case side1 => repeat (first | exact (Kd.N_reads' HO166.out).2.2 | (with_reducible refine Kd.C_alloc ?_ _) | (with_reducible refine Kd.C_drewN ?_ _) | (with_reducible refine Kd.C_drew ?_))); (case side2 => exact (Kd.N_reads' HO166.out).2.1); (case side3 => repeat (first | exact (Kd.R_reads' HO169.out).2.2 | (with_reducible refine Kd.C_alloc ?_ _) | (with_reducible refine Kd.C_drewN ?_ _) | (with_reducible refine Kd.C_drew ?_))); (case side4 => exact (Kd.R_reads' HO169.out).2.1); (case side5 => repeat (first | exact (Kd.R_reads' HO172.out).2.2 | (with_reducible refine Kd.C_alloc ?_ _) | (with_reducible refine Kd.C_drewN ?_ _) | (with_reducible refine Kd.C_drew ?_))); (case side6 => exact (Kd.R_reads' HO172.out).2.1); rintro e w41 ⟨v174, rfl, ho0, hb⟩; refine ⟨_, rfl, ?_⟩; have n0_ := A_ (Kd.N_elder' (by (with_reducible repeat (first | apply Kd.N_alloc | apply Kd.N_drewN | apply Kd.N_drew)); exact HO166.out) (Kd.R_base ho0) hb); have n1_ := A_ (Kd.R_below (rk_ HO169.out) hb); have n2_ := A_ (Kd.R_elder' (rk_ HO172.out) (Kd.R_base ho0) hb); have n3_ := A_ (Kd.R_lower (Kd.R_new' ho0 (Kd.R_lt (rk_ HO172.out))) (below_size (bk_ HB.out))); have n4_ := A_ (below_step (bk_ HB.out) hb); clear HO166 HO169 HO172 HB; have HO166 := n0_; have HO169 := n1_; have HO172 := n2_; have HO175 := n3_; have HB := n4_; clear n0_ n1_ n2_ n3_ n4_; (try clear hb); (try clear hb2); (try clear hk); (try clear hi); (try clear ho0)) | ((with_reducible refine gate_callee (f := 42) rfl ?_); refine goesL_ (some 14) rfl rfl Try.func42 (by kernel_rfl) rfl #[] rfl gl_ ?_; (with_reducible refine (standstilllaw07_three.calls  t178 t179 t182 _ A3.out).mono ?_); rintro e w42 ⟨v180, v183, rfl, ho0, ho1, hb⟩; refine ⟨_, rfl, ?_⟩; have n0_ := A_ (Kd.N_mono (Kd.N_told (Kd.N_told (Kd.N_old (by (with_reducible repeat (first | apply Kd.N_alloc | apply Kd.N_drewN | apply Kd.N_drew)); exact HO166.out) hb) (by first | exact Kd.N_base ho0 | exact Kd.S_base ho0 | exact Kd.N_base ho0 | exact Kd.R_base ho0)) (Kd.R_base ho1)) (fun _ h_ => h_.1)); have n1_ := A_ (Kd.R_elder' (rk_ HO169.out) (Kd.R_base ho1) hb); have n2_ := A_ (Kd.R_below (rk_ HO172.out) hb); have n3_ := A_ (Kd.R_below (rk_ HO175.out) hb); have n4_ := A_ (Kd.N_lower (Kd.N_mono (ok' := fun k_ => some k_ ≠ (v183 : Value).ownBlock ∧ some k_ ≠ (.slice Ao38 t164.length co38 : Value).ownBlock ∧ some k_ ≠ (.slice Ao39 t167.length co39 : Value).ownBlock ∧ some k_ ≠ (.slice Ao40 y170.length co40 : Value).ownBlock ∧ some k_ ≠ (v174 : Value).ownBlock) ho0 (fun k_ hk_ => ⟨hk_.2, (Kd.fresh' (Kd.N_lt (by (with_reducible repeat (first | apply Kd.N_alloc | apply Kd.N_drewN | apply Kd.N_drew)); exact HO166.out)) k_ hk_.1), (Kd.fresh' (Kd.R_lt (rk_ HO169.out)) k_ hk_.1), (Kd.fresh' (Kd.R_lt (rk_ HO172.out)) k_ hk_.1), (Kd.fresh' (Kd.R_lt (rk_ HO175.out)) k_ hk_.1)⟩)) (below_size (bk_ HB.out))); have n5_ := A_ (Kd.R_lower (Kd.R_new' (Kd.R_mono (ok' := fun k_ => True) ho1 (fun _ hk_ => trivial)) (Kd.R_lt (rk_ HO169.out))) (below_size (bk_ HB.out))); have n6_ := A_ (below_step (bk_ HB.out) hb); clear HO166 HO169 HO172 HO175 HB; have HO166 := n0_; have HO169 := n1_; have HO172 := n2_; have HO175 := n3_; have HO181 := n4_; have HO184 := n5_; have HB := n6_; clear n0_ n1_ n2_ n3_ n4_ n5_ n6_; (try clear hb); (try clear hb2); (try clear hk); (try clear hi); (try clear ho0); (try clear ho1); obtain ⟨Ao43, co43, eo43⟩ := Kd.N_slice HO181.out; subst eo43; obtain ⟨Ao44, co44, eo44⟩ := Kd.R_slice HO184.out; subst eo44) | ((with_reducible refine gate_callee (f := 35) rfl ?_); refine goesL_ (some 15) rfl rfl Try.func35 (by kernel_rfl) rfl #[.agg #[.int .i64 t178, .slice Ao43 t179.length co43, .slice Ao44 t182.length co44]] rfl gl_ ?_; (with_reducible refine (tag_ToCyclic.calls k t178 _ _ t179 _ _ t182 t185 t188 _ ?side1 ?side2 ?side3 ?side4 A4.out).mono ?_); (case side1 => repeat (first | exact (Kd.N_reads' HO181.out).2.2 | (with_reducible refine Kd.C_alloc ?_ _) | (with_reducible refine Kd.C_drewN ?_ _) | (with_reducible refine Kd.C_drew ?_))); (case side2 => exact (Kd.N_reads' HO181.out).2.1); (case side3 => repeat (first | exact (Kd.R_reads' HO184.out).2.2 | (with_reducible refine Kd.C_alloc ?_ _) | (with_reducible refine Kd.C_drewN ?_ _) | (with_reducible refine Kd.C_drew ?_))); (case side4 => exact (Kd.R_reads' HO184.out).2.1); rintro e w45 ⟨v186, rfl, ho0, hb⟩; refine ⟨_, rfl, ?_⟩; have n0_ := A_ (Kd.N_elder' (by (with_reducible repeat (first | apply Kd.N_alloc | apply Kd.N_drewN | apply Kd.N_drew)); exact HO166.out) (by first | exact Kd.N_base ho0 | exact Kd.S_base ho0 | exact Kd.R_base ho0) hb); have n1_ := A_ (Kd.R_below (rk_ HO169.out) hb); have n2_ := A_ (Kd.R_below (rk_ HO172.out) hb); have n3_ := A_ (Kd.R_below (rk_ HO175.out) hb); have n4_ := A_ (Kd.N_elder' (by (with_reducible repeat (first | apply Kd.N_alloc | apply Kd.N_drewN | apply Kd.N_drew)); exact HO181.out) (by first | exact Kd.N_base ho0 | exact Kd.S_base ho0 | exact Kd.R_base ho0) hb); have n5_ := A_ (Kd.R_below (rk_ HO184.out) hb); have n6_ := A_ (Kd.N_lower (Kd.N_mono (ok' := fun k_ => some k_ ≠ (.slice Ao38 t164.length co38 : Value).ownBlock ∧ some k_ ≠ (.slice Ao39 t167.length co39 : Value).ownBlock ∧ some k_ ≠ (.slice Ao40 y170.length co40 : Value).ownBlock ∧ some k_ ≠ (v174 : Value).ownBlock ∧ some k_ ≠ (.slice Ao43 t179.length co43 : Value).ownBlock ∧ some k_ ≠ (.slice Ao44 t182.length co44 : Value).ownBlock) (Kd.S_N (Kd.S_bound ho0)) (fun k_ hk_ => ⟨(Kd.fresh' (Kd.N_lt (by (with_reducible repeat (first | apply Kd.N_alloc | apply Kd.N_drewN | apply Kd.N_drew)); exact HO166.out)) k_ hk_.2.1), (Kd.fresh' (Kd.R_lt (rk_ HO169.out)) k_ hk_.2.1), (Kd.fresh' (Kd.R_lt (rk_ HO172.out)) k_ hk_.2.1), (Kd.fresh' (Kd.R_lt (rk_ HO175.out)) k_ hk_.2.1), (Kd.fresh' (Kd.N_lt (by (with_reducible repeat (first | apply Kd.N_alloc | apply Kd.N_drewN | apply Kd.N_drew)); exact HO181.out)) k_ hk_.2.1), (Kd.fresh' (Kd.R_lt (rk_ HO184.out)) k_ hk_.2.1)⟩)) (below_size (bk_ HB.out))); have n7_ := A_ (below_step (bk_ HB.out) hb); clear HO166 HO169 HO172 HO175 HO181 HO184 HB; have HO166 := n0_; have HO169 := n1_; have HO172 := n2_; have HO175 := n3_; have HO181 := n4_; have HO184 := n5_; have HO187 := n6_; have HB := n7_; clear n0_ n1_ n2_ n3_ n4_ n5_ n6_ n7_; (try clear hb); (try clear hb2); (try clear hk); (try clear hi); (try clear ho0)) | ((with_reducible refine gate_dst (N := 4) rfl ?_); (try (refine gate_guard (by rfl) ?_; dsimp only)); refine box_event ?hg (N := 4) ?hd (cs := #[.slice none 0 0]) (t := 45) ?hr ?_; (case hd => rfl); (case hg => rfl); (case hr => first | (go_simp; done) | (go_simp; rfl)); intro gb189 hg w46 hbox hb; have n0_ := A_ (Kd.N_below (Kd.N_elderB (by (with_reducible repeat (first | apply Kd.N_alloc | apply Kd.N_drewN | apply Kd.N_drew)); exact HO166.out) gb189 (Nat.le_of_eq hg.symm)) hb); have n1_ := A_ (Kd.R_below (rk_ HO169.out) hb); have n2_ := A_ (Kd.R_below (rk_ HO172.out) hb); have n3_ := A_ (Kd.R_below (rk_ HO175.out) hb); have n4_ := A_ (Kd.N_below (Kd.N_elderB (by (with_reducible repeat (first | apply Kd.N_alloc | apply Kd.N_drewN | apply Kd.N_drew)); exact HO181.out) gb189 (Nat.le_of_eq hg.symm)) hb); have n5_ := A_ (Kd.R_below (rk_ HO184.out) hb); have n6_ := A_ (Kd.N_below (Kd.N_elderB (by (with_reducible repeat (first | apply Kd.N_alloc | apply Kd.N_drewN | apply Kd.N_drew)); exact HO187.out) gb189 (Nat.le_of_eq hg.symm)) hb); have n7_ := A_ (below_step (bk_ HB.out) hb); have n8_ := A_ (hbox); have n9_ := A_ ((by rw [hg]; exact (below_size (bk_ HB.out)) : w.heap.size ≤ gb189)); have n10_ := A_ ((by rw [hg]; exact (below_size (bk_ HB.out)) : w.heap.size ≤ gb189)); clear HO166 HO169 HO172 HO175 HO181 HO184 HO187 HB; have HO166 := n0_; have HO169 := n1_; have HO172 := n2_; have HO175 := n3_; have HO181 := n4_; have HO184 := n5_; have HO187 := n6_; have HB := n7_; have BK189 := n8_; have GW189 := n9_; have GE189 := n10_; clear n0_ n1_ n2_ n3_ n4_ n5_ n6_ n7_ n8_ n9_ n10_ hb hbox hg; obtain ⟨Ao47, co47, eo47⟩ := Kd.N_slice HO187.out; subst eo47; have hcz48_0 : w46.cell? ⟨gb189, 0, none⟩ = some (.slice none 0 0) := (blk_cell BK189.out 0).trans rfl; have hfz48_0 := blk_frozen BK189.out 0) | ((with_reducible refine gate_dst (N := 26) rfl ?_); (try (refine gate_guard (by rfl) ?_; dsimp only)); refine Kd.R_lit (Kd.int .i64) _ 3 ?hg (N := 26) ?hd (xs := ([0, 0, 0, 0, 0] : List Int)) (inner := [.int .i64 0, .int .i64 0, .int .i64 0, .int .i64 0, .int .i64 0]) (ok := fun _ => True) (okp := fun _ => True) ?hr ?hp (fun _ hk => hk) trivial (Below.refl _ _) (Nat.le_refl _) (by simp) ?_; (case hd => rfl); (case hg => rfl); (case hr => first | (go_simp; done) | (go_simp; rfl)); (case hp => exact (Reps.one (show Kd.M (Kd.int .i64) _ _ _ 0 [.int .i64 0] from rfl) (Reps.one (show Kd.M (Kd.int .i64) _ _ _ 0 [.int .i64 0] from rfl) (Reps.one (show Kd.M (Kd.int .i64) _ _ _ 0 [.int .i64 0] from rfl) (Reps.one (show Kd.M (Kd.int .i64) _ _ _ 0 [.int .i64 0] from rfl) (Reps.one (show Kd.M (Kd.int .i64) _ _ _ 0 [.int .i64 0] from rfl) (Reps.none _ _))))))); intro v191 w49 ho50 hb hg_ hnew_; clear hg_ hnew_; (first | rw [← Ny190.out] at ho50 | (simp only [Int.reduceToNat] at ho50; rw [← Ny190.out] at ho50)); have n0_ := A_ (Kd.N_elder' (by (with_reducible repeat (first | apply Kd.N_alloc | apply Kd.N_drewN | apply Kd.N_drew)); exact (Kd.N_mono (Kd.N_far (p := ⟨gb189, 0, none⟩) (Kd.N_mono HO166.out (fun k_ hk => (⟨hk, hk.2⟩ : _ ∧ k_ ≠ gb189))) (fun _ hk => hk.2) (.slice Ao47 t185.length co47)) (fun _ h_ => h_.1))) (Kd.R_base ho50) hb); have n1_ := A_ (Kd.R_below (by (with_reducible repeat (first | apply Kd.R_alloc | apply Kd.R_drewN | apply Kd.R_drew)); exact (Kd.R_mono (Kd.R_far (p := ⟨gb189, 0, none⟩) (Kd.R_types HO169.out BK189.out (by decide)) (fun _ hk => hk.2) (.slice Ao47 t185.length co47)) (fun _ h_ => h_.1))) hb); have n2_ := A_ (Kd.R_elder' (by (with_reducible repeat (first | apply Kd.R_alloc | apply Kd.R_drewN | apply Kd.R_drew)); exact (Kd.R_mono (Kd.R_far (p := ⟨gb189, 0, none⟩) (Kd.R_types HO172.out BK189.out (by decide)) (fun _ hk => hk.2) (.slice Ao47 t185.length co47)) (fun _ h_ => h_.1))) (Kd.R_base ho50) hb); have n3_ := A_ (Kd.R_elder' (by (with_reducible repeat (first | apply Kd.R_alloc | apply Kd.R_drewN | apply Kd.R_drew)); exact (Kd.R_mono (Kd.R_far (p := ⟨gb189, 0, none⟩) (Kd.R_types HO175.out BK189.out (by decide)) (fun _ hk => hk.2) (.slice Ao47 t185.length co47)) (fun _ h_ => h_.1))) (Kd.R_base ho50) hb); have n4_ := A_ (Kd.N_elder' (by (with_reducible repeat (first | apply Kd.N_alloc | apply Kd.N_drewN | apply Kd.N_drew)); exact (Kd.N_mono (Kd.N_far (p := ⟨gb189, 0, none⟩) (Kd.N_mono HO181.out (fun k_ hk => (⟨hk, hk.2⟩ : _ ∧ k_ ≠ gb189))) (fun _ hk => hk.2) (.slice Ao47 t185.length co47)) (fun _ h_ => h_.1))) (Kd.R_base ho50) hb); have n5_ := A_ (Kd.R_below (by (with_reducible repeat (first | apply Kd.R_alloc | apply Kd.R_drewN | apply Kd.R_drew)); exact (Kd.R_mono (Kd.R_far (p := ⟨gb189, 0, none⟩) (Kd.R_types HO184.out BK189.out (by decide)) (fun _ hk => hk.2) (.slice Ao47 t185.length co47)) (fun _ h_ => h_.1))) hb); have n6_ := A_ (Kd.N_elder' (by (with_reducible repeat (first | apply Kd.N_alloc | apply Kd.N_drewN | apply Kd.N_drew)); exact (Kd.N_mono (Kd.N_far (p := ⟨gb189, 0, none⟩) (Kd.N_mono HO187.out (fun k_ hk => (⟨hk, hk.2⟩ : _ ∧ k_ ≠ gb189))) (fun _ hk => hk.2) (.slice Ao47 t185.length co47)) (fun _ h_ => h_.1))) (Kd.R_base ho50) hb); have n7_ := A_ (Kd.R_lower (Kd.R_new' (Kd.R_new' ho50 (Kd.R_lt (by (with_reducible repeat (first | apply Kd.R_alloc | apply Kd.R_drewN | apply Kd.R_drew)); exact (Kd.R_mono (Kd.R_far (p := ⟨gb189, 0, none⟩) (Kd.R_types HO172.out BK189.out (by decide)) (fun _ hk => hk.2) (.slice Ao47 t185.length co47)) (fun _ h_ => h_.1))))) (Kd.R_lt (by (with_reducible repeat (first | apply Kd.R_alloc | apply Kd.R_drewN | apply Kd.R_drew)); exact (Kd.R_mono (Kd.R_far (p := ⟨gb189, 0, none⟩) (Kd.R_types HO175.out BK189.out (by decide)) (fun _ hk => hk.2) (.slice Ao47 t185.length co47)) (fun _ h_ => h_.1))))) (below_size (bk_ HB.out))); have n8_ := A_ (blk_below (g := gb189) (o := .cells #[.slice Ao47 t185.length co47] 45 (0, 0)) (by refine pk_ ?_; refine blk_put (cs := #[.slice none 0 0]) ?_ 0 _ rfl; exact pk_ BK189.out) hb); have n9_ := A_ (below_step (bk_ HB.out) hb); clear HO166 HO169 HO172 HO175 HO181 HO184 HO187 BK189 HB; have HO166 := n0_; have HO169 := n1_; have HO172 := n2_; have HO175 := n3_; have HO181 := n4_; have HO184 := n5_; have HO187 := n6_; have HO192 := n7_; have BK189 := n8_; have HB := n9_; clear n0_ n1_ n2_ n3_ n4_ n5_ n6_ n7_ n8_ n9_ hb ho50; obtain ⟨Ao51, co51, eo51⟩ := Kd.R_slice HO175.out; subst eo51; obtain ⟨Ao52, co52, eo52⟩ := Kd.R_slice HO192.out; subst eo52) | (go_at_call 14; (with_reducible refine (standstillref07_Same.calls k _ _ t173 _ _ y190 true _ ?side1 ?side2 ?side3 ?side4 A7.out).mono ?_); (case side1 => repeat (first | exact (Kd.R_reads' HO175.out).2.2 | (with_reducible refine Kd.C_alloc ?_ _) | (with_reducible refine Kd.C_drewN ?_ _) | (with_reducible refine Kd.C_drew ?_))); (case side2 => exact (Kd.R_reads' HO175.out).2.1); (case side3 => repeat (first | exact (Kd.R_reads' HO192.out).2.2 | (with_reducible refine Kd.C_alloc ?_ _) | (with_reducible refine Kd.C_drewN ?_ _) | (with_reducible refine Kd.C_drew ?_))); (case side4 => exact (Kd.R_reads' HO192.out).2.1); rintro e w' ⟨rfl, ⟨nd, rfl⟩⟩; have hcz53_0 : w49.cell? ⟨gb189, 0, none⟩ = some (.slice Ao47 t185.length co47) := (blk_cell BK189.out 0).trans rfl; have hfz53_0 := blk_frozen BK189.out 0))
      go_ret
      exact ⟨er_, bk_ HB.out⟩
    ·rw [if_neg c9] at H
     have c9b0 : (t188 == 0) = false := beq_eq_false_iff_ne.mpr c9
     have c9b1 : (t188 != 0) = true := bne_iff_ne.mpr c9
     obtain rfl := Option.some.inj H
     go_enter Try.func11, Try.ntmps11
     go_wp2_with (first | ((with_reducible refine gate_callee (f := 42) rfl ?_); refine goesL_ (some 7) rfl rfl Try.func42 (by kernel_rfl) rfl #[] rfl gl_ ?_; (with_reducible refine (standstilllaw07_three.calls  t163 t164 t167 _ A1.out).mono ?_); rintro e w54 ⟨v165, v168, rfl, ho0, ho1, hb⟩; refine ⟨_, rfl, ?_⟩; have n0_ := A_ (Kd.N_lower (Kd.N_mono (ok' := fun k_ => some k_ ≠ (v168 : Value).ownBlock) ho0 (fun k_ hk_ => hk_.2)) (below_size (bk_ HB.out))); have n1_ := A_ (Kd.R_lower (Kd.R_mono (ok' := fun k_ => True) ho1 (fun _ hk_ => trivial)) (below_size (bk_ HB.out))); have n2_ := A_ (below_step (bk_ HB.out) hb); clear HB; have HO166 := n0_; have HO169 := n1_; have HB := n2_; clear n0_ n1_ n2_; (try clear hb); (try clear hb2); (try clear hk); (try clear hi); (try clear ho0); (try clear ho1)) | ((with_reducible refine gate_dst (N := 8) rfl ?_); (try (refine gate_guard (by rfl) ?_; dsimp only)); refine Kd.R_lit (Kd.int .i64) _ 3 ?hg (N := 8) ?hd (xs := ([0, 0, 0] : List Int)) (inner := [.int .i64 0, .int .i64 0, .int .i64 0]) (ok := fun _ => True) (okp := fun _ => True) ?hr ?hp (fun _ hk => hk) trivial (Below.refl _ _) (Nat.le_refl _) (by simp) ?_; (case hd => rfl); (case hg => rfl); (case hr => first | (go_simp; done) | (go_simp; rfl)); (case hp => exact (Reps.one (show Kd.M (Kd.int .i64) _ _ _ 0 [.int .i64 0] from rfl) (Reps.one (show Kd.M (Kd.int .i64) _ _ _ 0 [.int .i64 0] from rfl) (Reps.one (show Kd.M (Kd.int .i64) _ _ _ 0 [.int .i64 0] from rfl) (Reps.none _ _))))); intro v171 w55 ho56 hb hg_ hnew_; clear hg_ hnew_; (first | rw [← Ny170.out] at ho56 | (simp only [Int.reduceToNat] at ho56; rw [← Ny170.out] at ho56)); have n0_ := A_ (Kd.N_elder' (by (with_reducible repeat (first | apply Kd.N_alloc | apply Kd.N_drewN | apply Kd.N_drew)); exact HO166.out) (Kd.R_base ho56) hb); have n1_ := A_ (Kd.R_below (rk_ HO169.out) hb); have n2_ := A_ (Kd.R_lower ho56 (below_size (bk_ HB.out))); have n3_ := A_ (below_step (bk_ HB.out) hb); clear HO166 HO169 HB; have HO166 := n0_; have HO169 := n1_; have HO172 := n2_; have HB := n3_; clear n0_ n1_ n2_ n3_ hb ho56; obtain ⟨Ao57, co57, eo57⟩ := Kd.N_slice HO166.out; subst eo57; obtain ⟨Ao58, co58, eo58⟩ := Kd.R_slice HO169.out; subst eo58; obtain ⟨Ao59, co59, eo59⟩ := Kd.R_slice HO172.out; subst eo59) | ((with_reducible refine gate_callee (f := 13) rfl ?_); refine goesL_ (some 9) rfl rfl Try.func13 (by kernel_rfl) rfl #[.agg #[.int .i64 t163, .slice Ao57 t164.length co57, .slice Ao58 t167.length co58], .slice Ao59 y170.length co59, .int .i64 4] rfl gl_ ?_; (with_reducible refine (tag_Run.calls k t163 _ _ t164 _ _ t167 _ _ y170 4 t173 t176 t177 _ ?side1 ?side2 ?side3 ?side4 ?side5 ?side6 A2.out).mono ?_); (case side1 => repeat (first | exact (Kd.N_reads' HO166.out).2.2 | (with_reducible refine Kd.C_alloc ?_ _) | (with_reducible refine Kd.C_drewN ?_ _) | (with_reducible refine Kd.C_drew ?_))); (case side2 => exact (Kd.N_reads' HO166.out).2.1); (case side3 => repeat (first | exact (Kd.R_reads' HO169.out).2.2 | (with_reducible refine Kd.C_alloc ?_ _) | (with_reducible refine Kd.C_drewN ?_ _) | (with_reducible refine Kd.C_drew ?_))); (case side4 => exact (Kd.R_reads' HO169.out).2.1); (case side5 => repeat (first | exact (Kd.R_reads' HO172.out).2.2 | (with_reducible refine Kd.C_alloc ?_ _) | (with_reducible refine Kd.C_drewN ?_ _) | (with_reducible refine Kd.C_drew ?_))); (case side6 => exact (Kd.R_reads' HO172.out).2.1); rintro e w60 ⟨v174, rfl, ho0, hb⟩; refine ⟨_, rfl, ?_⟩; have n0_ := A_ (Kd.N_elder' (by (with_reducible repeat (first | apply Kd.N_alloc | apply Kd.N_drewN | apply Kd.N_drew)); exact HO166.out) (Kd.R_base ho0) hb); have n1_ := A_ (Kd.R_below (rk_ HO169.out) hb); have n2_ := A_ (Kd.R_elder' (rk_ HO172.out) (Kd.R_base ho0) hb); have n3_ := A_ (Kd.R_lower (Kd.R_new' ho0 (Kd.R_lt (rk_ HO172.out))) (below_size (bk_ HB.out))); have n4_ := A_ (below_step (bk_ HB.out) hb); clear HO166 HO169 HO172 HB; have HO166 := n0_; have HO169 := n1_; have HO172 := n2_; have HO175 := n3_; have HB := n4_; clear n0_ n1_ n2_ n3_ n4_; (try clear hb); (try clear hb2); (try clear hk); (try clear hi); (try clear ho0)) | ((with_reducible refine gate_callee (f := 42) rfl ?_); refine goesL_ (some 14) rfl rfl Try.func42 (by kernel_rfl) rfl #[] rfl gl_ ?_; (with_reducible refine (standstilllaw07_three.calls  t178 t179 t182 _ A3.out).mono ?_); rintro e w61 ⟨v180, v183, rfl, ho0, ho1, hb⟩; refine ⟨_, rfl, ?_⟩; have n0_ := A_ (Kd.N_mono (Kd.N_told (Kd.N_told (Kd.N_old (by (with_reducible repeat (first | apply Kd.N_alloc | apply Kd.N_drewN | apply Kd.N_drew)); exact HO166.out) hb) (by first | exact Kd.N_base ho0 | exact Kd.S_base ho0 | exact Kd.N_base ho0 | exact Kd.R_base ho0)) (Kd.R_base ho1)) (fun _ h_ => h_.1)); have n1_ := A_ (Kd.R_elder' (rk_ HO169.out) (Kd.R_base ho1) hb); have n2_ := A_ (Kd.R_below (rk_ HO172.out) hb); have n3_ := A_ (Kd.R_below (rk_ HO175.out) hb); have n4_ := A_ (Kd.N_lower (Kd.N_mono (ok' := fun k_ => some k_ ≠ (v183 : Value).ownBlock ∧ some k_ ≠ (.slice Ao57 t164.length co57 : Value).ownBlock ∧ some k_ ≠ (.slice Ao58 t167.length co58 : Value).ownBlock ∧ some k_ ≠ (.slice Ao59 y170.length co59 : Value).ownBlock ∧ some k_ ≠ (v174 : Value).ownBlock) ho0 (fun k_ hk_ => ⟨hk_.2, (Kd.fresh' (Kd.N_lt (by (with_reducible repeat (first | apply Kd.N_alloc | apply Kd.N_drewN | apply Kd.N_drew)); exact HO166.out)) k_ hk_.1), (Kd.fresh' (Kd.R_lt (rk_ HO169.out)) k_ hk_.1), (Kd.fresh' (Kd.R_lt (rk_ HO172.out)) k_ hk_.1), (Kd.fresh' (Kd.R_lt (rk_ HO175.out)) k_ hk_.1)⟩)) (below_size (bk_ HB.out))); have n5_ := A_ (Kd.R_lower (Kd.R_new' (Kd.R_mono (ok' := fun k_ => True) ho1 (fun _ hk_ => trivial)) (Kd.R_lt (rk_ HO169.out))) (below_size (bk_ HB.out))); have n6_ := A_ (below_step (bk_ HB.out) hb); clear HO166 HO169 HO172 HO175 HB; have HO166 := n0_; have HO169 := n1_; have HO172 := n2_; have HO175 := n3_; have HO181 := n4_; have HO184 := n5_; have HB := n6_; clear n0_ n1_ n2_ n3_ n4_ n5_ n6_; (try clear hb); (try clear hb2); (try clear hk); (try clear hi); (try clear ho0); (try clear ho1); obtain ⟨Ao62, co62, eo62⟩ := Kd.N_slice HO181.out; subst eo62; obtain ⟨Ao63, co63, eo63⟩ := Kd.R_slice HO184.out; subst eo63) | ((with_reducible refine gate_callee (f := 35) rfl ?_); refine goesL_ (some 15) rfl rfl Try.func35 (by kernel_rfl) rfl #[.agg #[.int .i64 t178, .slice Ao62 t179.length co62, .slice Ao63 t182.length co63]] rfl gl_ ?_; (with_reducible refine (tag_ToCyclic.calls k t178 _ _ t179 _ _ t182 t185 t188 _ ?side1 ?side2 ?side3 ?side4 A4.out).mono ?_); (case side1 => repeat (first | exact (Kd.N_reads' HO181.out).2.2 | (with_reducible refine Kd.C_alloc ?_ _) | (with_reducible refine Kd.C_drewN ?_ _) | (with_reducible refine Kd.C_drew ?_))); (case side2 => exact (Kd.N_reads' HO181.out).2.1); (case side3 => repeat (first | exact (Kd.R_reads' HO184.out).2.2 | (with_reducible refine Kd.C_alloc ?_ _) | (with_reducible refine Kd.C_drewN ?_ _) | (with_reducible refine Kd.C_drew ?_))); (case side4 => exact (Kd.R_reads' HO184.out).2.1); rintro e w64 ⟨v186, rfl, ho0, hb⟩; refine ⟨_, rfl, ?_⟩; have n0_ := A_ (Kd.N_elder' (by (with_reducible repeat (first | apply Kd.N_alloc | apply Kd.N_drewN | apply Kd.N_drew)); exact HO166.out) (by first | exact Kd.N_base ho0 | exact Kd.S_base ho0 | exact Kd.R_base ho0) hb); have n1_ := A_ (Kd.R_below (rk_ HO169.out) hb); have n2_ := A_ (Kd.R_below (rk_ HO172.out) hb); have n3_ := A_ (Kd.R_below (rk_ HO175.out) hb); have n4_ := A_ (Kd.N_elder' (by (with_reducible repeat (first | apply Kd.N_alloc | apply Kd.N_drewN | apply Kd.N_drew)); exact HO181.out) (by first | exact Kd.N_base ho0 | exact Kd.S_base ho0 | exact Kd.R_base ho0) hb); have n5_ := A_ (Kd.R_below (rk_ HO184.out) hb); have n6_ := A_ (Kd.N_lower (Kd.N_mono (ok' := fun k_ => some k_ ≠ (.slice Ao57 t164.length co57 : Value).ownBlock ∧ some k_ ≠ (.slice Ao58 t167.length co58 : Value).ownBlock ∧ some k_ ≠ (.slice Ao59 y170.length co59 : Value).ownBlock ∧ some k_ ≠ (v174 : Value).ownBlock ∧ some k_ ≠ (.slice Ao62 t179.length co62 : Value).ownBlock ∧ some k_ ≠ (.slice Ao63 t182.length co63 : Value).ownBlock) (Kd.S_N (Kd.S_bound ho0)) (fun k_ hk_ => ⟨(Kd.fresh' (Kd.N_lt (by (with_reducible repeat (first | apply Kd.N_alloc | apply Kd.N_drewN | apply Kd.N_drew)); exact HO166.out)) k_ hk_.2.1), (Kd.fresh' (Kd.R_lt (rk_ HO169.out)) k_ hk_.2.1), (Kd.fresh' (Kd.R_lt (rk_ HO172.out)) k_ hk_.2.1), (Kd.fresh' (Kd.R_lt (rk_ HO175.out)) k_ hk_.2.1), (Kd.fresh' (Kd.N_lt (by (with_reducible repeat (first | apply Kd.N_alloc | apply Kd.N_drewN | apply Kd.N_drew)); exact HO181.out)) k_ hk_.2.1), (Kd.fresh' (Kd.R_lt (rk_ HO184.out)) k_ hk_.2.1)⟩)) (below_size (bk_ HB.out))); have n7_ := A_ (below_step (bk_ HB.out) hb); clear HO166 HO169 HO172 HO175 HO181 HO184 HB; have HO166 := n0_; have HO169 := n1_; have HO172 := n2_; have HO175 := n3_; have HO181 := n4_; have HO184 := n5_; have HO187 := n6_; have HB := n7_; clear n0_ n1_ n2_ n3_ n4_ n5_ n6_ n7_; (try clear hb); (try clear hb2); (try clear hk); (try clear hi); (try clear ho0)) | ((with_reducible refine gate_dst (N := 4) rfl ?_); (try (refine gate_guard (by rfl) ?_; dsimp only)); refine box_event ?hg (N := 4) ?hd (cs := #[.slice none 0 0]) (t := 45) ?hr ?_; (case hd => rfl); (case hg => rfl); (case hr => first | (go_simp; done) | (go_simp; rfl)); intro gb189 hg w65 hbox hb; have n0_ := A_ (Kd.N_below (Kd.N_elderB (by (with_reducible repeat (first | apply Kd.N_alloc | apply Kd.N_drewN | apply Kd.N_drew)); exact HO166.out) gb189 (Nat.le_of_eq hg.symm)) hb); have n1_ := A_ (Kd.R_below (rk_ HO169.out) hb); have n2_ := A_ (Kd.R_below (rk_ HO172.out) hb); have n3_ := A_ (Kd.R_below (rk_ HO175.out) hb); have n4_ := A_ (Kd.N_below (Kd.N_elderB (by (with_reducible repeat (first | apply Kd.N_alloc | apply Kd.N_drewN | apply Kd.N_drew)); exact HO181.out) gb189 (Nat.le_of_eq hg.symm)) hb); have n5_ := A_ (Kd.R_below (rk_ HO184.out) hb); have n6_ := A_ (Kd.N_below (Kd.N_elderB (by (with_reducible repeat (first | apply Kd.N_alloc | apply Kd.N_drewN | apply Kd.N_drew)); exact HO187.out) gb189 (Nat.le_of_eq hg.symm)) hb); have n7_ := A_ (below_step (bk_ HB.out) hb); have n8_ := A_ (hbox); have n9_ := A_ ((by rw [hg]; exact (below_size (bk_ HB.out)) : w.heap.size ≤ gb189)); have n10_ := A_ ((by rw [hg]; exact (below_size (bk_ HB.out)) : w.heap.size ≤ gb189)); clear HO166 HO169 HO172 HO175 HO181 HO184 HO187 HB; have HO166 := n0_; have HO169 := n1_; have HO172 := n2_; have HO175 := n3_; have HO181 := n4_; have HO184 := n5_; have HO187 := n6_; have HB := n7_; have BK189 := n8_; have GW189 := n9_; have GE189 := n10_; clear n0_ n1_ n2_ n3_ n4_ n5_ n6_ n7_ n8_ n9_ n10_ hb hbox hg; obtain ⟨Ao66, co66, eo66⟩ := Kd.N_slice HO187.out; subst eo66; have hcz67_0 : w65.cell? ⟨gb189, 0, none⟩ = some (.slice none 0 0) := (blk_cell BK189.out 0).trans rfl; have hfz67_0 := blk_frozen BK189.out 0) | ((with_reducible refine gate_dst (N := 26) rfl ?_); (try (refine gate_guard (by rfl) ?_; dsimp only)); refine Kd.R_lit (Kd.int .i64) _ 3 ?hg (N := 26) ?hd (xs := ([0, 0, 0, 0, 0] : List Int)) (inner := [.int .i64 0, .int .i64 0, .int .i64 0, .int .i64 0, .int .i64 0]) (ok := fun _ => True) (okp := fun _ => True) ?hr ?hp (fun _ hk => hk) trivial (Below.refl _ _) (Nat.le_refl _) (by simp) ?_; (case hd => rfl); (case hg => rfl); (case hr => first | (go_simp; done) | (go_simp; rfl)); (case hp => exact (Reps.one (show Kd.M (Kd.int .i64) _ _ _ 0 [.int .i64 0] from rfl) (Reps.one (show Kd.M (Kd.int .i64) _ _ _ 0 [.int .i64 0] from rfl) (Reps.one (show Kd.M (Kd.int .i64) _ _ _ 0 [.int .i64 0] from rfl) (Reps.one (show Kd.M (Kd.int .i64) _ _ _ 0 [.int .i64 0] from rfl) (Reps.one (show Kd.M (Kd.int .i64) _ _ _ 0 [.int .i64 0] from rfl) (Reps.none _ _))))))); intro v191 w68 ho69 hb hg_ hnew_; clear hg_ hnew_; (first | rw [← Ny190.out] at ho69 | (simp only [Int.reduceToNat] at ho69; rw [← Ny190.out] at ho69)); have n0_ := A_ (Kd.N_elder' (by (with_reducible repeat (first | apply Kd.N_alloc | apply Kd.N_drewN | apply Kd.N_drew)); exact (Kd.N_mono (Kd.N_far (p := ⟨gb189, 0, none⟩) (Kd.N_mono HO166.out (fun k_ hk => (⟨hk, hk.2⟩ : _ ∧ k_ ≠ gb189))) (fun _ hk => hk.2) (.slice Ao66 t185.length co66)) (fun _ h_ => h_.1))) (Kd.R_base ho69) hb); have n1_ := A_ (Kd.R_below (by (with_reducible repeat (first | apply Kd.R_alloc | apply Kd.R_drewN | apply Kd.R_drew)); exact (Kd.R_mono (Kd.R_far (p := ⟨gb189, 0, none⟩) (Kd.R_types HO169.out BK189.out (by decide)) (fun _ hk => hk.2) (.slice Ao66 t185.length co66)) (fun _ h_ => h_.1))) hb); have n2_ := A_ (Kd.R_elder' (by (with_reducible repeat (first | apply Kd.R_alloc | apply Kd.R_drewN | apply Kd.R_drew)); exact (Kd.R_mono (Kd.R_far (p := ⟨gb189, 0, none⟩) (Kd.R_types HO172.out BK189.out (by decide)) (fun _ hk => hk.2) (.slice Ao66 t185.length co66)) (fun _ h_ => h_.1))) (Kd.R_base ho69) hb); have n3_ := A_ (Kd.R_elder' (by (with_reducible repeat (first | apply Kd.R_alloc | apply Kd.R_drewN | apply Kd.R_drew)); exact (Kd.R_mono (Kd.R_far (p := ⟨gb189, 0, none⟩) (Kd.R_types HO175.out BK189.out (by decide)) (fun _ hk => hk.2) (.slice Ao66 t185.length co66)) (fun _ h_ => h_.1))) (Kd.R_base ho69) hb); have n4_ := A_ (Kd.N_elder' (by (with_reducible repeat (first | apply Kd.N_alloc | apply Kd.N_drewN | apply Kd.N_drew)); exact (Kd.N_mono (Kd.N_far (p := ⟨gb189, 0, none⟩) (Kd.N_mono HO181.out (fun k_ hk => (⟨hk, hk.2⟩ : _ ∧ k_ ≠ gb189))) (fun _ hk => hk.2) (.slice Ao66 t185.length co66)) (fun _ h_ => h_.1))) (Kd.R_base ho69) hb); have n5_ := A_ (Kd.R_below (by (with_reducible repeat (first | apply Kd.R_alloc | apply Kd.R_drewN | apply Kd.R_drew)); exact (Kd.R_mono (Kd.R_far (p := ⟨gb189, 0, none⟩) (Kd.R_types HO184.out BK189.out (by decide)) (fun _ hk => hk.2) (.slice Ao66 t185.length co66)) (fun _ h_ => h_.1))) hb); have n6_ := A_ (Kd.N_elder' (by (with_reducible repeat (first | apply Kd.N_alloc | apply Kd.N_drewN | apply Kd.N_drew)); exact (Kd.N_mono (Kd.N_far (p := ⟨gb189, 0, none⟩) (Kd.N_mono HO187.out (fun k_ hk => (⟨hk, hk.2⟩ : _ ∧ k_ ≠ gb189))) (fun _ hk => hk.2) (.slice Ao66 t185.length co66)) (fun _ h_ => h_.1))) (Kd.R_base ho69) hb); have n7_ := A_ (Kd.R_lower (Kd.R_new' (Kd.R_new' ho69 (Kd.R_lt (by (with_reducible repeat (first | apply Kd.R_alloc | apply Kd.R_drewN | apply Kd.R_drew)); exact (Kd.R_mono (Kd.R_far (p := ⟨gb189, 0, none⟩) (Kd.R_types HO172.out BK189.out (by decide)) (fun _ hk => hk.2) (.slice Ao66 t185.length co66)) (fun _ h_ => h_.1))))) (Kd.R_lt (by (with_reducible repeat (first | apply Kd.R_alloc | apply Kd.R_drewN | apply Kd.R_drew)); exact (Kd.R_mono (Kd.R_far (p := ⟨gb189, 0, none⟩) (Kd.R_types HO175.out BK189.out (by decide)) (fun _ hk => hk.2) (.slice Ao66 t185.length co66)) (fun _ h_ => h_.1))))) (below_size (bk_ HB.out))); have n8_ := A_ (blk_below (g := gb189) (o := .cells #[.slice Ao66 t185.length co66] 45 (0, 0)) (by refine pk_ ?_; refine blk_put (cs := #[.slice none 0 0]) ?_ 0 _ rfl; exact pk_ BK189.out) hb); have n9_ := A_ (below_step (bk_ HB.out) hb); clear HO166 HO169 HO172 HO175 HO181 HO184 HO187 BK189 HB; have HO166 := n0_; have HO169 := n1_; have HO172 := n2_; have HO175 := n3_; have HO181 := n4_; have HO184 := n5_; have HO187 := n6_; have HO192 := n7_; have BK189 := n8_; have HB := n9_; clear n0_ n1_ n2_ n3_ n4_ n5_ n6_ n7_ n8_ n9_ hb ho69; obtain ⟨Ao70, co70, eo70⟩ := Kd.R_slice HO175.out; subst eo70; obtain ⟨Ao71, co71, eo71⟩ := Kd.R_slice HO192.out; subst eo71) | (go_at_call 14; (with_reducible refine (standstillref07_Same.calls k _ _ t173 _ _ y190 true _ ?side1 ?side2 ?side3 ?side4 A7.out).mono ?_); (case side1 => repeat (first | exact (Kd.R_reads' HO175.out).2.2 | (with_reducible refine Kd.C_alloc ?_ _) | (with_reducible refine Kd.C_drewN ?_ _) | (with_reducible refine Kd.C_drew ?_))); (case side2 => exact (Kd.R_reads' HO175.out).2.1); (case side3 => repeat (first | exact (Kd.R_reads' HO192.out).2.2 | (with_reducible refine Kd.C_alloc ?_ _) | (with_reducible refine Kd.C_drewN ?_ _) | (with_reducible refine Kd.C_drew ?_))); (case side4 => exact (Kd.R_reads' HO192.out).2.1); rintro e w' ⟨rfl, ⟨nd, rfl⟩⟩))
     go_ret
     exact ⟨er_, bk_ HB.out⟩
   ·replace c8 := Bool.eq_false_iff.mpr c8
    subst c8
    have H1 : (some false) = some r := by rw [if_neg (show ¬ (false = true) by decide)] at H; exact H
    clear H
    have H := H1
    clear H1
    obtain rfl := Option.some.inj H
    go_enter Try.func11, Try.ntmps11
    go_wp2_with (first | ((with_reducible refine gate_callee (f := 42) rfl ?_); refine goesL_ (some 7) rfl rfl Try.func42 (by kernel_rfl) rfl #[] rfl gl_ ?_; (with_reducible refine (standstilllaw07_three.calls  t163 t164 t167 _ A1.out).mono ?_); rintro e w72 ⟨v165, v168, rfl, ho0, ho1, hb⟩; refine ⟨_, rfl, ?_⟩; have n0_ := A_ (Kd.N_lower (Kd.N_mono (ok' := fun k_ => some k_ ≠ (v168 : Value).ownBlock) ho0 (fun k_ hk_ => hk_.2)) (below_size (bk_ HB.out))); have n1_ := A_ (Kd.R_lower (Kd.R_mono (ok' := fun k_ => True) ho1 (fun _ hk_ => trivial)) (below_size (bk_ HB.out))); have n2_ := A_ (below_step (bk_ HB.out) hb); clear HB; have HO166 := n0_; have HO169 := n1_; have HB := n2_; clear n0_ n1_ n2_; (try clear hb); (try clear hb2); (try clear hk); (try clear hi); (try clear ho0); (try clear ho1)) | ((with_reducible refine gate_dst (N := 8) rfl ?_); (try (refine gate_guard (by rfl) ?_; dsimp only)); refine Kd.R_lit (Kd.int .i64) _ 3 ?hg (N := 8) ?hd (xs := ([0, 0, 0] : List Int)) (inner := [.int .i64 0, .int .i64 0, .int .i64 0]) (ok := fun _ => True) (okp := fun _ => True) ?hr ?hp (fun _ hk => hk) trivial (Below.refl _ _) (Nat.le_refl _) (by simp) ?_; (case hd => rfl); (case hg => rfl); (case hr => first | (go_simp; done) | (go_simp; rfl)); (case hp => exact (Reps.one (show Kd.M (Kd.int .i64) _ _ _ 0 [.int .i64 0] from rfl) (Reps.one (show Kd.M (Kd.int .i64) _ _ _ 0 [.int .i64 0] from rfl) (Reps.one (show Kd.M (Kd.int .i64) _ _ _ 0 [.int .i64 0] from rfl) (Reps.none _ _))))); intro v171 w73 ho74 hb hg_ hnew_; clear hg_ hnew_; (first | rw [← Ny170.out] at ho74 | (simp only [Int.reduceToNat] at ho74; rw [← Ny170.out] at ho74)); have n0_ := A_ (Kd.N_elder' (by (with_reducible repeat (first | apply Kd.N_alloc | apply Kd.N_drewN | apply Kd.N_drew)); exact HO166.out) (Kd.R_base ho74) hb); have n1_ := A_ (Kd.R_below (rk_ HO169.out) hb); have n2_ := A_ (Kd.R_lower ho74 (below_size (bk_ HB.out))); have n3_ := A_ (below_step (bk_ HB.out) hb); clear HO166 HO169 HB; have HO166 := n0_; have HO169 := n1_; have HO172 := n2_; have HB := n3_; clear n0_ n1_ n2_ n3_ hb ho74; obtain ⟨Ao75, co75, eo75⟩ := Kd.N_slice HO166.out; subst eo75; obtain ⟨Ao76, co76, eo76⟩ := Kd.R_slice HO169.out; subst eo76; obtain ⟨Ao77, co77, eo77⟩ := Kd.R_slice HO172.out; subst eo77) | ((with_reducible refine gate_callee (f := 13) rfl ?_); refine goesL_ (some 9) rfl rfl Try.func13 (by kernel_rfl) rfl #[.agg #[.int .i64 t163, .slice Ao75 t164.length co75, .slice Ao76 t167.length co76], .slice Ao77 y170.length co77, .int .i64 4] rfl gl_ ?_; (with_reducible refine (tag_Run.calls k t163 _ _ t164 _ _ t167 _ _ y170 4 t173 t176 t177 _ ?side1 ?side2 ?side3 ?side4 ?side5 ?side6 A2.out).mono ?_); (case side1 => repeat (first | exact (Kd.N_reads' HO166.out).2.2 | (with_reducible refine Kd.C_alloc ?_ _) | (with_reducible refine Kd.C_drewN ?_ _) | (with_reducible refine Kd.C_drew ?_))); (case side2 => exact (Kd.N_reads' HO166.out).2.1); (case side3 => repeat (first | exact (Kd.R_reads' HO169.out).2.2 | (with_reducible refine Kd.C_alloc ?_ _) | (with_reducible refine Kd.C_drewN ?_ _) | (with_reducible refine Kd.C_drew ?_))); (case side4 => exact (Kd.R_reads' HO169.out).2.1); (case side5 => repeat (first | exact (Kd.R_reads' HO172.out).2.2 | (with_reducible refine Kd.C_alloc ?_ _) | (with_reducible refine Kd.C_drewN ?_ _) | (with_reducible refine Kd.C_drew ?_))); (case side6 => exact (Kd.R_reads' HO172.out).2.1); rintro e w78 ⟨v174, rfl, ho0, hb⟩; refine ⟨_, rfl, ?_⟩; have n0_ := A_ (Kd.N_elder' (by (with_reducible repeat (first | apply Kd.N_alloc | apply Kd.N_drewN | apply Kd.N_drew)); exact HO166.out) (Kd.R_base ho0) hb); have n1_ := A_ (Kd.R_below (rk_ HO169.out) hb); have n2_ := A_ (Kd.R_elder' (rk_ HO172.out) (Kd.R_base ho0) hb); have n3_ := A_ (Kd.R_lower (Kd.R_new' ho0 (Kd.R_lt (rk_ HO172.out))) (below_size (bk_ HB.out))); have n4_ := A_ (below_step (bk_ HB.out) hb); clear HO166 HO169 HO172 HB; have HO166 := n0_; have HO169 := n1_; have HO172 := n2_; have HO175 := n3_; have HB := n4_; clear n0_ n1_ n2_ n3_ n4_; (try clear hb); (try clear hb2); (try clear hk); (try clear hi); (try clear ho0)) | ((with_reducible refine gate_callee (f := 42) rfl ?_); refine goesL_ (some 14) rfl rfl Try.func42 (by kernel_rfl) rfl #[] rfl gl_ ?_; (with_reducible refine (standstilllaw07_three.calls  t178 t179 t182 _ A3.out).mono ?_); rintro e w79 ⟨v180, v183, rfl, ho0, ho1, hb⟩; refine ⟨_, rfl, ?_⟩; have n0_ := A_ (Kd.N_mono (Kd.N_told (Kd.N_told (Kd.N_old (by (with_reducible repeat (first | apply Kd.N_alloc | apply Kd.N_drewN | apply Kd.N_drew)); exact HO166.out) hb) (by first | exact Kd.N_base ho0 | exact Kd.S_base ho0 | exact Kd.N_base ho0 | exact Kd.R_base ho0)) (Kd.R_base ho1)) (fun _ h_ => h_.1)); have n1_ := A_ (Kd.R_elder' (rk_ HO169.out) (Kd.R_base ho1) hb); have n2_ := A_ (Kd.R_below (rk_ HO172.out) hb); have n3_ := A_ (Kd.R_below (rk_ HO175.out) hb); have n4_ := A_ (Kd.N_lower (Kd.N_mono (ok' := fun k_ => some k_ ≠ (v183 : Value).ownBlock ∧ some k_ ≠ (.slice Ao75 t164.length co75 : Value).ownBlock ∧ some k_ ≠ (.slice Ao76 t167.length co76 : Value).ownBlock ∧ some k_ ≠ (.slice Ao77 y170.length co77 : Value).ownBlock ∧ some k_ ≠ (v174 : Value).ownBlock) ho0 (fun k_ hk_ => ⟨hk_.2, (Kd.fresh' (Kd.N_lt (by (with_reducible repeat (first | apply Kd.N_alloc | apply Kd.N_drewN | apply Kd.N_drew)); exact HO166.out)) k_ hk_.1), (Kd.fresh' (Kd.R_lt (rk_ HO169.out)) k_ hk_.1), (Kd.fresh' (Kd.R_lt (rk_ HO172.out)) k_ hk_.1), (Kd.fresh' (Kd.R_lt (rk_ HO175.out)) k_ hk_.1)⟩)) (below_size (bk_ HB.out))); have n5_ := A_ (Kd.R_lower (Kd.R_new' (Kd.R_mono (ok' := fun k_ => True) ho1 (fun _ hk_ => trivial)) (Kd.R_lt (rk_ HO169.out))) (below_size (bk_ HB.out))); have n6_ := A_ (below_step (bk_ HB.out) hb); clear HO166 HO169 HO172 HO175 HB; have HO166 := n0_; have HO169 := n1_; have HO172 := n2_; have HO175 := n3_; have HO181 := n4_; have HO184 := n5_; have HB := n6_; clear n0_ n1_ n2_ n3_ n4_ n5_ n6_; (try clear hb); (try clear hb2); (try clear hk); (try clear hi); (try clear ho0); (try clear ho1); obtain ⟨Ao80, co80, eo80⟩ := Kd.N_slice HO181.out; subst eo80; obtain ⟨Ao81, co81, eo81⟩ := Kd.R_slice HO184.out; subst eo81) | ((with_reducible refine gate_callee (f := 35) rfl ?_); refine goesL_ (some 15) rfl rfl Try.func35 (by kernel_rfl) rfl #[.agg #[.int .i64 t178, .slice Ao80 t179.length co80, .slice Ao81 t182.length co81]] rfl gl_ ?_; (with_reducible refine (tag_ToCyclic.calls k t178 _ _ t179 _ _ t182 t185 t188 _ ?side1 ?side2 ?side3 ?side4 A4.out).mono ?_); (case side1 => repeat (first | exact (Kd.N_reads' HO181.out).2.2 | (with_reducible refine Kd.C_alloc ?_ _) | (with_reducible refine Kd.C_drewN ?_ _) | (with_reducible refine Kd.C_drew ?_))); (case side2 => exact (Kd.N_reads' HO181.out).2.1); (case side3 => repeat (first | exact (Kd.R_reads' HO184.out).2.2 | (with_reducible refine Kd.C_alloc ?_ _) | (with_reducible refine Kd.C_drewN ?_ _) | (with_reducible refine Kd.C_drew ?_))); (case side4 => exact (Kd.R_reads' HO184.out).2.1); rintro e w82 ⟨v186, rfl, ho0, hb⟩; refine ⟨_, rfl, ?_⟩; have n0_ := A_ (Kd.N_elder' (by (with_reducible repeat (first | apply Kd.N_alloc | apply Kd.N_drewN | apply Kd.N_drew)); exact HO166.out) (by first | exact Kd.N_base ho0 | exact Kd.S_base ho0 | exact Kd.R_base ho0) hb); have n1_ := A_ (Kd.R_below (rk_ HO169.out) hb); have n2_ := A_ (Kd.R_below (rk_ HO172.out) hb); have n3_ := A_ (Kd.R_below (rk_ HO175.out) hb); have n4_ := A_ (Kd.N_elder' (by (with_reducible repeat (first | apply Kd.N_alloc | apply Kd.N_drewN | apply Kd.N_drew)); exact HO181.out) (by first | exact Kd.N_base ho0 | exact Kd.S_base ho0 | exact Kd.R_base ho0) hb); have n5_ := A_ (Kd.R_below (rk_ HO184.out) hb); have n6_ := A_ (Kd.N_lower (Kd.N_mono (ok' := fun k_ => some k_ ≠ (.slice Ao75 t164.length co75 : Value).ownBlock ∧ some k_ ≠ (.slice Ao76 t167.length co76 : Value).ownBlock ∧ some k_ ≠ (.slice Ao77 y170.length co77 : Value).ownBlock ∧ some k_ ≠ (v174 : Value).ownBlock ∧ some k_ ≠ (.slice Ao80 t179.length co80 : Value).ownBlock ∧ some k_ ≠ (.slice Ao81 t182.length co81 : Value).ownBlock) (Kd.S_N (Kd.S_bound ho0)) (fun k_ hk_ => ⟨(Kd.fresh' (Kd.N_lt (by (with_reducible repeat (first | apply Kd.N_alloc | apply Kd.N_drewN | apply Kd.N_drew)); exact HO166.out)) k_ hk_.2.1), (Kd.fresh' (Kd.R_lt (rk_ HO169.out)) k_ hk_.2.1), (Kd.fresh' (Kd.R_lt (rk_ HO172.out)) k_ hk_.2.1), (Kd.fresh' (Kd.R_lt (rk_ HO175.out)) k_ hk_.2.1), (Kd.fresh' (Kd.N_lt (by (with_reducible repeat (first | apply Kd.N_alloc | apply Kd.N_drewN | apply Kd.N_drew)); exact HO181.out)) k_ hk_.2.1), (Kd.fresh' (Kd.R_lt (rk_ HO184.out)) k_ hk_.2.1)⟩)) (below_size (bk_ HB.out))); have n7_ := A_ (below_step (bk_ HB.out) hb); clear HO166 HO169 HO172 HO175 HO181 HO184 HB; have HO166 := n0_; have HO169 := n1_; have HO172 := n2_; have HO175 := n3_; have HO181 := n4_; have HO184 := n5_; have HO187 := n6_; have HB := n7_; clear n0_ n1_ n2_ n3_ n4_ n5_ n6_ n7_; (try clear hb); (try clear hb2); (try clear hk); (try clear hi); (try clear ho0)) | ((with_reducible refine gate_dst (N := 4) rfl ?_); (try (refine gate_guard (by rfl) ?_; dsimp only)); refine box_event ?hg (N := 4) ?hd (cs := #[.slice none 0 0]) (t := 45) ?hr ?_; (case hd => rfl); (case hg => rfl); (case hr => first | (go_simp; done) | (go_simp; rfl)); intro gb189 hg w83 hbox hb; have n0_ := A_ (Kd.N_below (Kd.N_elderB (by (with_reducible repeat (first | apply Kd.N_alloc | apply Kd.N_drewN | apply Kd.N_drew)); exact HO166.out) gb189 (Nat.le_of_eq hg.symm)) hb); have n1_ := A_ (Kd.R_below (rk_ HO169.out) hb); have n2_ := A_ (Kd.R_below (rk_ HO172.out) hb); have n3_ := A_ (Kd.R_below (rk_ HO175.out) hb); have n4_ := A_ (Kd.N_below (Kd.N_elderB (by (with_reducible repeat (first | apply Kd.N_alloc | apply Kd.N_drewN | apply Kd.N_drew)); exact HO181.out) gb189 (Nat.le_of_eq hg.symm)) hb); have n5_ := A_ (Kd.R_below (rk_ HO184.out) hb); have n6_ := A_ (Kd.N_below (Kd.N_elderB (by (with_reducible repeat (first | apply Kd.N_alloc | apply Kd.N_drewN | apply Kd.N_drew)); exact HO187.out) gb189 (Nat.le_of_eq hg.symm)) hb); have n7_ := A_ (below_step (bk_ HB.out) hb); have n8_ := A_ (hbox); have n9_ := A_ ((by rw [hg]; exact (below_size (bk_ HB.out)) : w.heap.size ≤ gb189)); have n10_ := A_ ((by rw [hg]; exact (below_size (bk_ HB.out)) : w.heap.size ≤ gb189)); clear HO166 HO169 HO172 HO175 HO181 HO184 HO187 HB; have HO166 := n0_; have HO169 := n1_; have HO172 := n2_; have HO175 := n3_; have HO181 := n4_; have HO184 := n5_; have HO187 := n6_; have HB := n7_; have BK189 := n8_; have GW189 := n9_; have GE189 := n10_; clear n0_ n1_ n2_ n3_ n4_ n5_ n6_ n7_ n8_ n9_ n10_ hb hbox hg; obtain ⟨Ao84, co84, eo84⟩ := Kd.N_slice HO187.out; subst eo84; have hcz85_0 : w83.cell? ⟨gb189, 0, none⟩ = some (.slice none 0 0) := (blk_cell BK189.out 0).trans rfl; have hfz85_0 := blk_frozen BK189.out 0) | ((with_reducible refine gate_dst (N := 26) rfl ?_); (try (refine gate_guard (by rfl) ?_; dsimp only)); refine Kd.R_lit (Kd.int .i64) _ 3 ?hg (N := 26) ?hd (xs := ([0, 0, 0, 0, 0] : List Int)) (inner := [.int .i64 0, .int .i64 0, .int .i64 0, .int .i64 0, .int .i64 0]) (ok := fun _ => True) (okp := fun _ => True) ?hr ?hp (fun _ hk => hk) trivial (Below.refl _ _) (Nat.le_refl _) (by simp) ?_; (case hd => rfl); (case hg => rfl); (case hr => first | (go_simp; done) | (go_simp; rfl)); (case hp => exact (Reps.one (show Kd.M (Kd.int .i64) _ _ _ 0 [.int .i64 0] from rfl) (Reps.one (show Kd.M (Kd.int .i64) _ _ _ 0 [.int .i64 0] from rfl) (Reps.one (show Kd.M (Kd.int .i64) _ _ _ 0 [.int .i64 0] from rfl) (Reps.one (show Kd.M (Kd.int .i64) _ _ _ 0 [.int .i64 0] from rfl) (Reps.one (show Kd.M (Kd.int .i64) _ _ _ 0 [.int .i64 0] from rfl) (Reps.none _ _))))))); intro v191 w86 ho87 hb hg_ hnew_; clear hg_ hnew_; (first | rw [← Ny190.out] at ho87 | (simp only [Int.reduceToNat] at ho87; rw [← Ny190.out] at ho87)); have n0_ := A_ (Kd.N_elder' (by (with_reducible repeat (first | apply Kd.N_alloc | apply Kd.N_drewN | apply Kd.N_drew)); exact (Kd.N_mono (Kd.N_far (p := ⟨gb189, 0, none⟩) (Kd.N_mono HO166.out (fun k_ hk => (⟨hk, hk.2⟩ : _ ∧ k_ ≠ gb189))) (fun _ hk => hk.2) (.slice Ao84 t185.length co84)) (fun _ h_ => h_.1))) (Kd.R_base ho87) hb); have n1_ := A_ (Kd.R_below (by (with_reducible repeat (first | apply Kd.R_alloc | apply Kd.R_drewN | apply Kd.R_drew)); exact (Kd.R_mono (Kd.R_far (p := ⟨gb189, 0, none⟩) (Kd.R_types HO169.out BK189.out (by decide)) (fun _ hk => hk.2) (.slice Ao84 t185.length co84)) (fun _ h_ => h_.1))) hb); have n2_ := A_ (Kd.R_elder' (by (with_reducible repeat (first | apply Kd.R_alloc | apply Kd.R_drewN | apply Kd.R_drew)); exact (Kd.R_mono (Kd.R_far (p := ⟨gb189, 0, none⟩) (Kd.R_types HO172.out BK189.out (by decide)) (fun _ hk => hk.2) (.slice Ao84 t185.length co84)) (fun _ h_ => h_.1))) (Kd.R_base ho87) hb); have n3_ := A_ (Kd.R_elder' (by (with_reducible repeat (first | apply Kd.R_alloc | apply Kd.R_drewN | apply Kd.R_drew)); exact (Kd.R_mono (Kd.R_far (p := ⟨gb189, 0, none⟩) (Kd.R_types HO175.out BK189.out (by decide)) (fun _ hk => hk.2) (.slice Ao84 t185.length co84)) (fun _ h_ => h_.1))) (Kd.R_base ho87) hb); have n4_ := A_ (Kd.N_elder' (by (with_reducible repeat (first | apply Kd.N_alloc | apply Kd.N_drewN | apply Kd.N_drew)); exact (Kd.N_mono (Kd.N_far (p := ⟨gb189, 0, none⟩) (Kd.N_mono HO181.out (fun k_ hk => (⟨hk, hk.2⟩ : _ ∧ k_ ≠ gb189))) (fun _ hk => hk.2) (.slice Ao84 t185.length co84)) (fun _ h_ => h_.1))) (Kd.R_base ho87) hb); have n5_ := A_ (Kd.R_below (by (with_reducible repeat (first | apply Kd.R_alloc | apply Kd.R_drewN | apply Kd.R_drew)); exact (Kd.R_mono (Kd.R_far (p := ⟨gb189, 0, none⟩) (Kd.R_types HO184.out BK189.out (by decide)) (fun _ hk => hk.2) (.slice Ao84 t185.length co84)) (fun _ h_ => h_.1))) hb); have n6_ := A_ (Kd.N_elder' (by (with_reducible repeat (first | apply Kd.N_alloc | apply Kd.N_drewN | apply Kd.N_drew)); exact (Kd.N_mono (Kd.N_far (p := ⟨gb189, 0, none⟩) (Kd.N_mono HO187.out (fun k_ hk => (⟨hk, hk.2⟩ : _ ∧ k_ ≠ gb189))) (fun _ hk => hk.2) (.slice Ao84 t185.length co84)) (fun _ h_ => h_.1))) (Kd.R_base ho87) hb); have n7_ := A_ (Kd.R_lower (Kd.R_new' (Kd.R_new' ho87 (Kd.R_lt (by (with_reducible repeat (first | apply Kd.R_alloc | apply Kd.R_drewN | apply Kd.R_drew)); exact (Kd.R_mono (Kd.R_far (p := ⟨gb189, 0, none⟩) (Kd.R_types HO172.out BK189.out (by decide)) (fun _ hk => hk.2) (.slice Ao84 t185.length co84)) (fun _ h_ => h_.1))))) (Kd.R_lt (by (with_reducible repeat (first | apply Kd.R_alloc | apply Kd.R_drewN | apply Kd.R_drew)); exact (Kd.R_mono (Kd.R_far (p := ⟨gb189, 0, none⟩) (Kd.R_types HO175.out BK189.out (by decide)) (fun _ hk => hk.2) (.slice Ao84 t185.length co84)) (fun _ h_ => h_.1))))) (below_size (bk_ HB.out))); have n8_ := A_ (blk_below (g := gb189) (o := .cells #[.slice Ao84 t185.length co84] 45 (0, 0)) (by refine pk_ ?_; refine blk_put (cs := #[.slice none 0 0]) ?_ 0 _ rfl; exact pk_ BK189.out) hb); have n9_ := A_ (below_step (bk_ HB.out) hb); clear HO166 HO169 HO172 HO175 HO181 HO184 HO187 BK189 HB; have HO166 := n0_; have HO169 := n1_; have HO172 := n2_; have HO175 := n3_; have HO181 := n4_; have HO184 := n5_; have HO187 := n6_; have HO192 := n7_; have BK189 := n8_; have HB := n9_; clear n0_ n1_ n2_ n3_ n4_ n5_ n6_ n7_ n8_ n9_ hb ho87; obtain ⟨Ao88, co88, eo88⟩ := Kd.R_slice HO175.out; subst eo88; obtain ⟨Ao89, co89, eo89⟩ := Kd.R_slice HO192.out; subst eo89) | (go_at_call 14; (with_reducible refine (standstillref07_Same.calls k _ _ t173 _ _ y190 false _ ?side1 ?side2 ?side3 ?side4 A7.out).mono ?_); (case side1 => repeat (first | exact (Kd.R_reads' HO175.out).2.2 | (with_reducible refine Kd.C_alloc ?_ _) | (with_reducible refine Kd.C_drewN ?_ _) | (with_reducible refine Kd.C_drew ?_))); (case side2 => exact (Kd.R_reads' HO175.out).2.1); (case side3 => repeat (first | exact (Kd.R_reads' HO192.out).2.2 | (with_reducible refine Kd.C_alloc ?_ _) | (with_reducible refine Kd.C_drewN ?_ _) | (with_reducible refine Kd.C_drew ?_))); (case side4 => exact (Kd.R_reads' HO192.out).2.1); rintro e w' ⟨rfl, ⟨nd, rfl⟩⟩))
    go_ret
    exact ⟨er_, bk_ HB.out⟩
  ·rw [if_neg c6] at H
   have c6b0 : (t176 == 4) = false := beq_eq_false_iff_ne.mpr c6
   have c6b1 : (t176 != 4) = true := bne_iff_ne.mpr c6
   obtain rfl := Option.some.inj H
   go_enter Try.func11, Try.ntmps11
   go_wp2_with (first | ((with_reducible refine gate_callee (f := 42) rfl ?_); refine goesL_ (some 7) rfl rfl Try.func42 (by kernel_rfl) rfl #[] rfl gl_ ?_; (with_reducible refine (standstilllaw07_three.calls  t163 t164 t167 _ A1.out).mono ?_); rintro e w90 ⟨v165, v168, rfl, ho0, ho1, hb⟩; refine ⟨_, rfl, ?_⟩; have n0_ := A_ (Kd.N_lower (Kd.N_mono (ok' := fun k_ => some k_ ≠ (v168 : Value).ownBlock) ho0 (fun k_ hk_ => hk_.2)) (below_size (bk_ HB.out))); have n1_ := A_ (Kd.R_lower (Kd.R_mono (ok' := fun k_ => True) ho1 (fun _ hk_ => trivial)) (below_size (bk_ HB.out))); have n2_ := A_ (below_step (bk_ HB.out) hb); clear HB; have HO166 := n0_; have HO169 := n1_; have HB := n2_; clear n0_ n1_ n2_; (try clear hb); (try clear hb2); (try clear hk); (try clear hi); (try clear ho0); (try clear ho1)) | ((with_reducible refine gate_dst (N := 8) rfl ?_); (try (refine gate_guard (by rfl) ?_; dsimp only)); refine Kd.R_lit (Kd.int .i64) _ 3 ?hg (N := 8) ?hd (xs := ([0, 0, 0] : List Int)) (inner := [.int .i64 0, .int .i64 0, .int .i64 0]) (ok := fun _ => True) (okp := fun _ => True) ?hr ?hp (fun _ hk => hk) trivial (Below.refl _ _) (Nat.le_refl _) (by simp) ?_; (case hd => rfl); (case hg => rfl); (case hr => first | (go_simp; done) | (go_simp; rfl)); (case hp => exact (Reps.one (show Kd.M (Kd.int .i64) _ _ _ 0 [.int .i64 0] from rfl) (Reps.one (show Kd.M (Kd.int .i64) _ _ _ 0 [.int .i64 0] from rfl) (Reps.one (show Kd.M (Kd.int .i64) _ _ _ 0 [.int .i64 0] from rfl) (Reps.none _ _))))); intro v171 w91 ho92 hb hg_ hnew_; clear hg_ hnew_; (first | rw [← Ny170.out] at ho92 | (simp only [Int.reduceToNat] at ho92; rw [← Ny170.out] at ho92)); have n0_ := A_ (Kd.N_elder' (by (with_reducible repeat (first | apply Kd.N_alloc | apply Kd.N_drewN | apply Kd.N_drew)); exact HO166.out) (Kd.R_base ho92) hb); have n1_ := A_ (Kd.R_below (rk_ HO169.out) hb); have n2_ := A_ (Kd.R_lower ho92 (below_size (bk_ HB.out))); have n3_ := A_ (below_step (bk_ HB.out) hb); clear HO166 HO169 HB; have HO166 := n0_; have HO169 := n1_; have HO172 := n2_; have HB := n3_; clear n0_ n1_ n2_ n3_ hb ho92; obtain ⟨Ao93, co93, eo93⟩ := Kd.N_slice HO166.out; subst eo93; obtain ⟨Ao94, co94, eo94⟩ := Kd.R_slice HO169.out; subst eo94; obtain ⟨Ao95, co95, eo95⟩ := Kd.R_slice HO172.out; subst eo95) | ((with_reducible refine gate_callee (f := 13) rfl ?_); refine goesL_ (some 9) rfl rfl Try.func13 (by kernel_rfl) rfl #[.agg #[.int .i64 t163, .slice Ao93 t164.length co93, .slice Ao94 t167.length co94], .slice Ao95 y170.length co95, .int .i64 4] rfl gl_ ?_; (with_reducible refine (tag_Run.calls k t163 _ _ t164 _ _ t167 _ _ y170 4 t173 t176 t177 _ ?side1 ?side2 ?side3 ?side4 ?side5 ?side6 A2.out).mono ?_); (case side1 => repeat (first | exact (Kd.N_reads' HO166.out).2.2 | (with_reducible refine Kd.C_alloc ?_ _) | (with_reducible refine Kd.C_drewN ?_ _) | (with_reducible refine Kd.C_drew ?_))); (case side2 => exact (Kd.N_reads' HO166.out).2.1); (case side3 => repeat (first | exact (Kd.R_reads' HO169.out).2.2 | (with_reducible refine Kd.C_alloc ?_ _) | (with_reducible refine Kd.C_drewN ?_ _) | (with_reducible refine Kd.C_drew ?_))); (case side4 => exact (Kd.R_reads' HO169.out).2.1); (case side5 => repeat (first | exact (Kd.R_reads' HO172.out).2.2 | (with_reducible refine Kd.C_alloc ?_ _) | (with_reducible refine Kd.C_drewN ?_ _) | (with_reducible refine Kd.C_drew ?_))); (case side6 => exact (Kd.R_reads' HO172.out).2.1); rintro e w96 ⟨v174, rfl, ho0, hb⟩; refine ⟨_, rfl, ?_⟩; have n0_ := A_ (Kd.N_elder' (by (with_reducible repeat (first | apply Kd.N_alloc | apply Kd.N_drewN | apply Kd.N_drew)); exact HO166.out) (Kd.R_base ho0) hb); have n1_ := A_ (Kd.R_below (rk_ HO169.out) hb); have n2_ := A_ (Kd.R_elder' (rk_ HO172.out) (Kd.R_base ho0) hb); have n3_ := A_ (Kd.R_lower (Kd.R_new' ho0 (Kd.R_lt (rk_ HO172.out))) (below_size (bk_ HB.out))); have n4_ := A_ (below_step (bk_ HB.out) hb); clear HO166 HO169 HO172 HB; have HO166 := n0_; have HO169 := n1_; have HO172 := n2_; have HO175 := n3_; have HB := n4_; clear n0_ n1_ n2_ n3_ n4_; (try clear hb); (try clear hb2); (try clear hk); (try clear hi); (try clear ho0)) | ((with_reducible refine gate_callee (f := 42) rfl ?_); refine goesL_ (some 14) rfl rfl Try.func42 (by kernel_rfl) rfl #[] rfl gl_ ?_; (with_reducible refine (standstilllaw07_three.calls  t178 t179 t182 _ A3.out).mono ?_); rintro e w97 ⟨v180, v183, rfl, ho0, ho1, hb⟩; refine ⟨_, rfl, ?_⟩; have n0_ := A_ (Kd.N_mono (Kd.N_told (Kd.N_told (Kd.N_old (by (with_reducible repeat (first | apply Kd.N_alloc | apply Kd.N_drewN | apply Kd.N_drew)); exact HO166.out) hb) (by first | exact Kd.N_base ho0 | exact Kd.S_base ho0 | exact Kd.N_base ho0 | exact Kd.R_base ho0)) (Kd.R_base ho1)) (fun _ h_ => h_.1)); have n1_ := A_ (Kd.R_elder' (rk_ HO169.out) (Kd.R_base ho1) hb); have n2_ := A_ (Kd.R_below (rk_ HO172.out) hb); have n3_ := A_ (Kd.R_below (rk_ HO175.out) hb); have n4_ := A_ (Kd.N_lower (Kd.N_mono (ok' := fun k_ => some k_ ≠ (v183 : Value).ownBlock ∧ some k_ ≠ (.slice Ao93 t164.length co93 : Value).ownBlock ∧ some k_ ≠ (.slice Ao94 t167.length co94 : Value).ownBlock ∧ some k_ ≠ (.slice Ao95 y170.length co95 : Value).ownBlock ∧ some k_ ≠ (v174 : Value).ownBlock) ho0 (fun k_ hk_ => ⟨hk_.2, (Kd.fresh' (Kd.N_lt (by (with_reducible repeat (first | apply Kd.N_alloc | apply Kd.N_drewN | apply Kd.N_drew)); exact HO166.out)) k_ hk_.1), (Kd.fresh' (Kd.R_lt (rk_ HO169.out)) k_ hk_.1), (Kd.fresh' (Kd.R_lt (rk_ HO172.out)) k_ hk_.1), (Kd.fresh' (Kd.R_lt (rk_ HO175.out)) k_ hk_.1)⟩)) (below_size (bk_ HB.out))); have n5_ := A_ (Kd.R_lower (Kd.R_new' (Kd.R_mono (ok' := fun k_ => True) ho1 (fun _ hk_ => trivial)) (Kd.R_lt (rk_ HO169.out))) (below_size (bk_ HB.out))); have n6_ := A_ (below_step (bk_ HB.out) hb); clear HO166 HO169 HO172 HO175 HB; have HO166 := n0_; have HO169 := n1_; have HO172 := n2_; have HO175 := n3_; have HO181 := n4_; have HO184 := n5_; have HB := n6_; clear n0_ n1_ n2_ n3_ n4_ n5_ n6_; (try clear hb); (try clear hb2); (try clear hk); (try clear hi); (try clear ho0); (try clear ho1); obtain ⟨Ao98, co98, eo98⟩ := Kd.N_slice HO181.out; subst eo98; obtain ⟨Ao99, co99, eo99⟩ := Kd.R_slice HO184.out; subst eo99) | ((with_reducible refine gate_callee (f := 35) rfl ?_); refine goesL_ (some 15) rfl rfl Try.func35 (by kernel_rfl) rfl #[.agg #[.int .i64 t178, .slice Ao98 t179.length co98, .slice Ao99 t182.length co99]] rfl gl_ ?_; (with_reducible refine (tag_ToCyclic.calls k t178 _ _ t179 _ _ t182 t185 t188 _ ?side1 ?side2 ?side3 ?side4 A4.out).mono ?_); (case side1 => repeat (first | exact (Kd.N_reads' HO181.out).2.2 | (with_reducible refine Kd.C_alloc ?_ _) | (with_reducible refine Kd.C_drewN ?_ _) | (with_reducible refine Kd.C_drew ?_))); (case side2 => exact (Kd.N_reads' HO181.out).2.1); (case side3 => repeat (first | exact (Kd.R_reads' HO184.out).2.2 | (with_reducible refine Kd.C_alloc ?_ _) | (with_reducible refine Kd.C_drewN ?_ _) | (with_reducible refine Kd.C_drew ?_))); (case side4 => exact (Kd.R_reads' HO184.out).2.1); rintro e w100 ⟨v186, rfl, ho0, hb⟩; refine ⟨_, rfl, ?_⟩; have n0_ := A_ (Kd.N_elder' (by (with_reducible repeat (first | apply Kd.N_alloc | apply Kd.N_drewN | apply Kd.N_drew)); exact HO166.out) (by first | exact Kd.N_base ho0 | exact Kd.S_base ho0 | exact Kd.R_base ho0) hb); have n1_ := A_ (Kd.R_below (rk_ HO169.out) hb); have n2_ := A_ (Kd.R_below (rk_ HO172.out) hb); have n3_ := A_ (Kd.R_below (rk_ HO175.out) hb); have n4_ := A_ (Kd.N_elder' (by (with_reducible repeat (first | apply Kd.N_alloc | apply Kd.N_drewN | apply Kd.N_drew)); exact HO181.out) (by first | exact Kd.N_base ho0 | exact Kd.S_base ho0 | exact Kd.R_base ho0) hb); have n5_ := A_ (Kd.R_below (rk_ HO184.out) hb); have n6_ := A_ (Kd.N_lower (Kd.N_mono (ok' := fun k_ => some k_ ≠ (.slice Ao93 t164.length co93 : Value).ownBlock ∧ some k_ ≠ (.slice Ao94 t167.length co94 : Value).ownBlock ∧ some k_ ≠ (.slice Ao95 y170.length co95 : Value).ownBlock ∧ some k_ ≠ (v174 : Value).ownBlock ∧ some k_ ≠ (.slice Ao98 t179.length co98 : Value).ownBlock ∧ some k_ ≠ (.slice Ao99 t182.length co99 : Value).ownBlock) (Kd.S_N (Kd.S_bound ho0)) (fun k_ hk_ => ⟨(Kd.fresh' (Kd.N_lt (by (with_reducible repeat (first | apply Kd.N_alloc | apply Kd.N_drewN | apply Kd.N_drew)); exact HO166.out)) k_ hk_.2.1), (Kd.fresh' (Kd.R_lt (rk_ HO169.out)) k_ hk_.2.1), (Kd.fresh' (Kd.R_lt (rk_ HO172.out)) k_ hk_.2.1), (Kd.fresh' (Kd.R_lt (rk_ HO175.out)) k_ hk_.2.1), (Kd.fresh' (Kd.N_lt (by (with_reducible repeat (first | apply Kd.N_alloc | apply Kd.N_drewN | apply Kd.N_drew)); exact HO181.out)) k_ hk_.2.1), (Kd.fresh' (Kd.R_lt (rk_ HO184.out)) k_ hk_.2.1)⟩)) (below_size (bk_ HB.out))); have n7_ := A_ (below_step (bk_ HB.out) hb); clear HO166 HO169 HO172 HO175 HO181 HO184 HB; have HO166 := n0_; have HO169 := n1_; have HO172 := n2_; have HO175 := n3_; have HO181 := n4_; have HO184 := n5_; have HO187 := n6_; have HB := n7_; clear n0_ n1_ n2_ n3_ n4_ n5_ n6_ n7_; (try clear hb); (try clear hb2); (try clear hk); (try clear hi); (try clear ho0)) | ((with_reducible refine gate_dst (N := 4) rfl ?_); (try (refine gate_guard (by rfl) ?_; dsimp only)); refine box_event ?hg (N := 4) ?hd (cs := #[.slice none 0 0]) (t := 45) ?hr ?_; (case hd => rfl); (case hg => rfl); (case hr => first | (go_simp; done) | (go_simp; rfl)); intro gb189 hg w101 hbox hb; have n0_ := A_ (Kd.N_below (Kd.N_elderB (by (with_reducible repeat (first | apply Kd.N_alloc | apply Kd.N_drewN | apply Kd.N_drew)); exact HO166.out) gb189 (Nat.le_of_eq hg.symm)) hb); have n1_ := A_ (Kd.R_below (rk_ HO169.out) hb); have n2_ := A_ (Kd.R_below (rk_ HO172.out) hb); have n3_ := A_ (Kd.R_below (rk_ HO175.out) hb); have n4_ := A_ (Kd.N_below (Kd.N_elderB (by (with_reducible repeat (first | apply Kd.N_alloc | apply Kd.N_drewN | apply Kd.N_drew)); exact HO181.out) gb189 (Nat.le_of_eq hg.symm)) hb); have n5_ := A_ (Kd.R_below (rk_ HO184.out) hb); have n6_ := A_ (Kd.N_below (Kd.N_elderB (by (with_reducible repeat (first | apply Kd.N_alloc | apply Kd.N_drewN | apply Kd.N_drew)); exact HO187.out) gb189 (Nat.le_of_eq hg.symm)) hb); have n7_ := A_ (below_step (bk_ HB.out) hb); have n8_ := A_ (hbox); have n9_ := A_ ((by rw [hg]; exact (below_size (bk_ HB.out)) : w.heap.size ≤ gb189)); have n10_ := A_ ((by rw [hg]; exact (below_size (bk_ HB.out)) : w.heap.size ≤ gb189)); clear HO166 HO169 HO172 HO175 HO181 HO184 HO187 HB; have HO166 := n0_; have HO169 := n1_; have HO172 := n2_; have HO175 := n3_; have HO181 := n4_; have HO184 := n5_; have HO187 := n6_; have HB := n7_; have BK189 := n8_; have GW189 := n9_; have GE189 := n10_; clear n0_ n1_ n2_ n3_ n4_ n5_ n6_ n7_ n8_ n9_ n10_ hb hbox hg; obtain ⟨Ao102, co102, eo102⟩ := Kd.N_slice HO187.out; subst eo102; have hcz103_0 : w101.cell? ⟨gb189, 0, none⟩ = some (.slice none 0 0) := (blk_cell BK189.out 0).trans rfl; have hfz103_0 := blk_frozen BK189.out 0))
   go_ret
   exact ⟨er_, bk_ HB.out⟩
 ·rw [if_neg c5] at H
  have c5b0 : (t177 == 0) = false := beq_eq_false_iff_ne.mpr c5
  have c5b1 : (t177 != 0) = true := bne_iff_ne.mpr c5
  obtain rfl := Option.some.inj H
  go_enter Try.func11, Try.ntmps11
  go_wp2_with (first | ((with_reducible refine gate_callee (f := 42) rfl ?_); refine goesL_ (some 7) rfl rfl Try.func42 (by kernel_rfl) rfl #[] rfl gl_ ?_; (with_reducible refine (standstilllaw07_three.calls  t163 t164 t167 _ A1.out).mono ?_); rintro e w104 ⟨v165, v168, rfl, ho0, ho1, hb⟩; refine ⟨_, rfl, ?_⟩; have n0_ := A_ (Kd.N_lower (Kd.N_mono (ok' := fun k_ => some k_ ≠ (v168 : Value).ownBlock) ho0 (fun k_ hk_ => hk_.2)) (below_size (bk_ HB.out))); have n1_ := A_ (Kd.R_lower (Kd.R_mono (ok' := fun k_ => True) ho1 (fun _ hk_ => trivial)) (below_size (bk_ HB.out))); have n2_ := A_ (below_step (bk_ HB.out) hb); clear HB; have HO166 := n0_; have HO169 := n1_; have HB := n2_; clear n0_ n1_ n2_; (try clear hb); (try clear hb2); (try clear hk); (try clear hi); (try clear ho0); (try clear ho1)) | ((with_reducible refine gate_dst (N := 8) rfl ?_); (try (refine gate_guard (by rfl) ?_; dsimp only)); refine Kd.R_lit (Kd.int .i64) _ 3 ?hg (N := 8) ?hd (xs := ([0, 0, 0] : List Int)) (inner := [.int .i64 0, .int .i64 0, .int .i64 0]) (ok := fun _ => True) (okp := fun _ => True) ?hr ?hp (fun _ hk => hk) trivial (Below.refl _ _) (Nat.le_refl _) (by simp) ?_; (case hd => rfl); (case hg => rfl); (case hr => first | (go_simp; done) | (go_simp; rfl)); (case hp => exact (Reps.one (show Kd.M (Kd.int .i64) _ _ _ 0 [.int .i64 0] from rfl) (Reps.one (show Kd.M (Kd.int .i64) _ _ _ 0 [.int .i64 0] from rfl) (Reps.one (show Kd.M (Kd.int .i64) _ _ _ 0 [.int .i64 0] from rfl) (Reps.none _ _))))); intro v171 w105 ho106 hb hg_ hnew_; clear hg_ hnew_; (first | rw [← Ny170.out] at ho106 | (simp only [Int.reduceToNat] at ho106; rw [← Ny170.out] at ho106)); have n0_ := A_ (Kd.N_elder' (by (with_reducible repeat (first | apply Kd.N_alloc | apply Kd.N_drewN | apply Kd.N_drew)); exact HO166.out) (Kd.R_base ho106) hb); have n1_ := A_ (Kd.R_below (rk_ HO169.out) hb); have n2_ := A_ (Kd.R_lower ho106 (below_size (bk_ HB.out))); have n3_ := A_ (below_step (bk_ HB.out) hb); clear HO166 HO169 HB; have HO166 := n0_; have HO169 := n1_; have HO172 := n2_; have HB := n3_; clear n0_ n1_ n2_ n3_ hb ho106; obtain ⟨Ao107, co107, eo107⟩ := Kd.N_slice HO166.out; subst eo107; obtain ⟨Ao108, co108, eo108⟩ := Kd.R_slice HO169.out; subst eo108; obtain ⟨Ao109, co109, eo109⟩ := Kd.R_slice HO172.out; subst eo109) | ((with_reducible refine gate_callee (f := 13) rfl ?_); refine goesL_ (some 9) rfl rfl Try.func13 (by kernel_rfl) rfl #[.agg #[.int .i64 t163, .slice Ao107 t164.length co107, .slice Ao108 t167.length co108], .slice Ao109 y170.length co109, .int .i64 4] rfl gl_ ?_; (with_reducible refine (tag_Run.calls k t163 _ _ t164 _ _ t167 _ _ y170 4 t173 t176 t177 _ ?side1 ?side2 ?side3 ?side4 ?side5 ?side6 A2.out).mono ?_); (case side1 => repeat (first | exact (Kd.N_reads' HO166.out).2.2 | (with_reducible refine Kd.C_alloc ?_ _) | (with_reducible refine Kd.C_drewN ?_ _) | (with_reducible refine Kd.C_drew ?_))); (case side2 => exact (Kd.N_reads' HO166.out).2.1); (case side3 => repeat (first | exact (Kd.R_reads' HO169.out).2.2 | (with_reducible refine Kd.C_alloc ?_ _) | (with_reducible refine Kd.C_drewN ?_ _) | (with_reducible refine Kd.C_drew ?_))); (case side4 => exact (Kd.R_reads' HO169.out).2.1); (case side5 => repeat (first | exact (Kd.R_reads' HO172.out).2.2 | (with_reducible refine Kd.C_alloc ?_ _) | (with_reducible refine Kd.C_drewN ?_ _) | (with_reducible refine Kd.C_drew ?_))); (case side6 => exact (Kd.R_reads' HO172.out).2.1); rintro e w110 ⟨v174, rfl, ho0, hb⟩; refine ⟨_, rfl, ?_⟩; have n0_ := A_ (Kd.N_elder' (by (with_reducible repeat (first | apply Kd.N_alloc | apply Kd.N_drewN | apply Kd.N_drew)); exact HO166.out) (Kd.R_base ho0) hb); have n1_ := A_ (Kd.R_below (rk_ HO169.out) hb); have n2_ := A_ (Kd.R_elder' (rk_ HO172.out) (Kd.R_base ho0) hb); have n3_ := A_ (Kd.R_lower (Kd.R_new' ho0 (Kd.R_lt (rk_ HO172.out))) (below_size (bk_ HB.out))); have n4_ := A_ (below_step (bk_ HB.out) hb); clear HO166 HO169 HO172 HB; have HO166 := n0_; have HO169 := n1_; have HO172 := n2_; have HO175 := n3_; have HB := n4_; clear n0_ n1_ n2_ n3_ n4_; (try clear hb); (try clear hb2); (try clear hk); (try clear hi); (try clear ho0)) | ((with_reducible refine gate_callee (f := 42) rfl ?_); refine goesL_ (some 14) rfl rfl Try.func42 (by kernel_rfl) rfl #[] rfl gl_ ?_; (with_reducible refine (standstilllaw07_three.calls  t178 t179 t182 _ A3.out).mono ?_); rintro e w111 ⟨v180, v183, rfl, ho0, ho1, hb⟩; refine ⟨_, rfl, ?_⟩; have n0_ := A_ (Kd.N_mono (Kd.N_told (Kd.N_told (Kd.N_old (by (with_reducible repeat (first | apply Kd.N_alloc | apply Kd.N_drewN | apply Kd.N_drew)); exact HO166.out) hb) (by first | exact Kd.N_base ho0 | exact Kd.S_base ho0 | exact Kd.N_base ho0 | exact Kd.R_base ho0)) (Kd.R_base ho1)) (fun _ h_ => h_.1)); have n1_ := A_ (Kd.R_elder' (rk_ HO169.out) (Kd.R_base ho1) hb); have n2_ := A_ (Kd.R_below (rk_ HO172.out) hb); have n3_ := A_ (Kd.R_below (rk_ HO175.out) hb); have n4_ := A_ (Kd.N_lower (Kd.N_mono (ok' := fun k_ => some k_ ≠ (v183 : Value).ownBlock ∧ some k_ ≠ (.slice Ao107 t164.length co107 : Value).ownBlock ∧ some k_ ≠ (.slice Ao108 t167.length co108 : Value).ownBlock ∧ some k_ ≠ (.slice Ao109 y170.length co109 : Value).ownBlock ∧ some k_ ≠ (v174 : Value).ownBlock) ho0 (fun k_ hk_ => ⟨hk_.2, (Kd.fresh' (Kd.N_lt (by (with_reducible repeat (first | apply Kd.N_alloc | apply Kd.N_drewN | apply Kd.N_drew)); exact HO166.out)) k_ hk_.1), (Kd.fresh' (Kd.R_lt (rk_ HO169.out)) k_ hk_.1), (Kd.fresh' (Kd.R_lt (rk_ HO172.out)) k_ hk_.1), (Kd.fresh' (Kd.R_lt (rk_ HO175.out)) k_ hk_.1)⟩)) (below_size (bk_ HB.out))); have n5_ := A_ (Kd.R_lower (Kd.R_new' (Kd.R_mono (ok' := fun k_ => True) ho1 (fun _ hk_ => trivial)) (Kd.R_lt (rk_ HO169.out))) (below_size (bk_ HB.out))); have n6_ := A_ (below_step (bk_ HB.out) hb); clear HO166 HO169 HO172 HO175 HB; have HO166 := n0_; have HO169 := n1_; have HO172 := n2_; have HO175 := n3_; have HO181 := n4_; have HO184 := n5_; have HB := n6_; clear n0_ n1_ n2_ n3_ n4_ n5_ n6_; (try clear hb); (try clear hb2); (try clear hk); (try clear hi); (try clear ho0); (try clear ho1); obtain ⟨Ao112, co112, eo112⟩ := Kd.N_slice HO181.out; subst eo112; obtain ⟨Ao113, co113, eo113⟩ := Kd.R_slice HO184.out; subst eo113) | ((with_reducible refine gate_callee (f := 35) rfl ?_); refine goesL_ (some 15) rfl rfl Try.func35 (by kernel_rfl) rfl #[.agg #[.int .i64 t178, .slice Ao112 t179.length co112, .slice Ao113 t182.length co113]] rfl gl_ ?_; (with_reducible refine (tag_ToCyclic.calls k t178 _ _ t179 _ _ t182 t185 t188 _ ?side1 ?side2 ?side3 ?side4 A4.out).mono ?_); (case side1 => repeat (first | exact (Kd.N_reads' HO181.out).2.2 | (with_reducible refine Kd.C_alloc ?_ _) | (with_reducible refine Kd.C_drewN ?_ _) | (with_reducible refine Kd.C_drew ?_))); (case side2 => exact (Kd.N_reads' HO181.out).2.1); (case side3 => repeat (first | exact (Kd.R_reads' HO184.out).2.2 | (with_reducible refine Kd.C_alloc ?_ _) | (with_reducible refine Kd.C_drewN ?_ _) | (with_reducible refine Kd.C_drew ?_))); (case side4 => exact (Kd.R_reads' HO184.out).2.1); rintro e w114 ⟨v186, rfl, ho0, hb⟩; refine ⟨_, rfl, ?_⟩; have n0_ := A_ (Kd.N_elder' (by (with_reducible repeat (first | apply Kd.N_alloc | apply Kd.N_drewN | apply Kd.N_drew)); exact HO166.out) (by first | exact Kd.N_base ho0 | exact Kd.S_base ho0 | exact Kd.R_base ho0) hb); have n1_ := A_ (Kd.R_below (rk_ HO169.out) hb); have n2_ := A_ (Kd.R_below (rk_ HO172.out) hb); have n3_ := A_ (Kd.R_below (rk_ HO175.out) hb); have n4_ := A_ (Kd.N_elder' (by (with_reducible repeat (first | apply Kd.N_alloc | apply Kd.N_drewN | apply Kd.N_drew)); exact HO181.out) (by first | exact Kd.N_base ho0 | exact Kd.S_base ho0 | exact Kd.R_base ho0) hb); have n5_ := A_ (Kd.R_below (rk_ HO184.out) hb); have n6_ := A_ (Kd.N_lower (Kd.N_mono (ok' := fun k_ => some k_ ≠ (.slice Ao107 t164.length co107 : Value).ownBlock ∧ some k_ ≠ (.slice Ao108 t167.length co108 : Value).ownBlock ∧ some k_ ≠ (.slice Ao109 y170.length co109 : Value).ownBlock ∧ some k_ ≠ (v174 : Value).ownBlock ∧ some k_ ≠ (.slice Ao112 t179.length co112 : Value).ownBlock ∧ some k_ ≠ (.slice Ao113 t182.length co113 : Value).ownBlock) (Kd.S_N (Kd.S_bound ho0)) (fun k_ hk_ => ⟨(Kd.fresh' (Kd.N_lt (by (with_reducible repeat (first | apply Kd.N_alloc | apply Kd.N_drewN | apply Kd.N_drew)); exact HO166.out)) k_ hk_.2.1), (Kd.fresh' (Kd.R_lt (rk_ HO169.out)) k_ hk_.2.1), (Kd.fresh' (Kd.R_lt (rk_ HO172.out)) k_ hk_.2.1), (Kd.fresh' (Kd.R_lt (rk_ HO175.out)) k_ hk_.2.1), (Kd.fresh' (Kd.N_lt (by (with_reducible repeat (first | apply Kd.N_alloc | apply Kd.N_drewN | apply Kd.N_drew)); exact HO181.out)) k_ hk_.2.1), (Kd.fresh' (Kd.R_lt (rk_ HO184.out)) k_ hk_.2.1)⟩)) (below_size (bk_ HB.out))); have n7_ := A_ (below_step (bk_ HB.out) hb); clear HO166 HO169 HO172 HO175 HO181 HO184 HB; have HO166 := n0_; have HO169 := n1_; have HO172 := n2_; have HO175 := n3_; have HO181 := n4_; have HO184 := n5_; have HO187 := n6_; have HB := n7_; clear n0_ n1_ n2_ n3_ n4_ n5_ n6_ n7_; (try clear hb); (try clear hb2); (try clear hk); (try clear hi); (try clear ho0)) | ((with_reducible refine gate_dst (N := 4) rfl ?_); (try (refine gate_guard (by rfl) ?_; dsimp only)); refine box_event ?hg (N := 4) ?hd (cs := #[.slice none 0 0]) (t := 45) ?hr ?_; (case hd => rfl); (case hg => rfl); (case hr => first | (go_simp; done) | (go_simp; rfl)); intro gb189 hg w115 hbox hb; have n0_ := A_ (Kd.N_below (Kd.N_elderB (by (with_reducible repeat (first | apply Kd.N_alloc | apply Kd.N_drewN | apply Kd.N_drew)); exact HO166.out) gb189 (Nat.le_of_eq hg.symm)) hb); have n1_ := A_ (Kd.R_below (rk_ HO169.out) hb); have n2_ := A_ (Kd.R_below (rk_ HO172.out) hb); have n3_ := A_ (Kd.R_below (rk_ HO175.out) hb); have n4_ := A_ (Kd.N_below (Kd.N_elderB (by (with_reducible repeat (first | apply Kd.N_alloc | apply Kd.N_drewN | apply Kd.N_drew)); exact HO181.out) gb189 (Nat.le_of_eq hg.symm)) hb); have n5_ := A_ (Kd.R_below (rk_ HO184.out) hb); have n6_ := A_ (Kd.N_below (Kd.N_elderB (by (with_reducible repeat (first | apply Kd.N_alloc | apply Kd.N_drewN | apply Kd.N_drew)); exact HO187.out) gb189 (Nat.le_of_eq hg.symm)) hb); have n7_ := A_ (below_step (bk_ HB.out) hb); have n8_ := A_ (hbox); have n9_ := A_ ((by rw [hg]; exact (below_size (bk_ HB.out)) : w.heap.size ≤ gb189)); have n10_ := A_ ((by rw [hg]; exact (below_size (bk_ HB.out)) : w.heap.size ≤ gb189)); clear HO166 HO169 HO172 HO175 HO181 HO184 HO187 HB; have HO166 := n0_; have HO169 := n1_; have HO172 := n2_; have HO175 := n3_; have HO181 := n4_; have HO184 := n5_; have HO187 := n6_; have HB := n7_; have BK189 := n8_; have GW189 := n9_; have GE189 := n10_; clear n0_ n1_ n2_ n3_ n4_ n5_ n6_ n7_ n8_ n9_ n10_ hb hbox hg; obtain ⟨Ao116, co116, eo116⟩ := Kd.N_slice HO187.out; subst eo116; have hcz117_0 : w115.cell? ⟨gb189, 0, none⟩ = some (.slice none 0 0) := (blk_cell BK189.out 0).trans rfl; have hfz117_0 := blk_frozen BK189.out 0))
  go_ret
  exact ⟨er_, bk_ HB.out⟩

/-! ### tag_Step: function 18 -/
def tag_Step.f (k : Nat) (a0_0 : Int) (l0_1 : List (List Int)) (l0_2 : List Bool) (l1 : List Int) : Option (List Int × Int) := (tag_Run.f k a0_0 l0_1 l0_2 l1 1).bind fun bt200 => (if bt200.2.2 = 0 then (if bt200.2.1 = 0 then (some (([] : List Int), 5)) else (some (bt200.1, bt200.2.2))) else (some (bt200.1, bt200.2.2)))
theorem tag_Step.mono : ∀ a0 a1 a2 a3 k, LeO (tag_Step.f k a0 a1 a2 a3) (tag_Step.f (k + 1) a0 a1 a2 a3) := by
 intro a0 a1 a2 a3 k
 unfold tag_Step.f
 repeat' first
   | (with_reducible exact tag_Run.mono _ _ _ _ _ _)
   | (with_reducible exact LeO.refl _)
   | (with_reducible exact LeO.none _)
   | (with_reducible refine LeO.ite ?_ ?_)
   | (with_reducible refine LeO.bind ?_ (fun _ => ?_))
   | exact tag_Run.mono _ _ _ _ _ _
   | exact LeO.none _
   | refine LeO.ite ?_ ?_
   | refine LeO.bind ?_ (fun _ => ?_)
set_option maxHeartbeats 8000000 in
set_option maxRecDepth 100000 in
theorem tag_Step.calls (k : Nat) (a0_0 : Int) (A0_1 : Option Addr) (c0_1 : Nat) (l0_1 : List (List Int)) (A0_2 : Option Addr) (c0_2 : Nat) (l0_2 : List Bool) (A1 : Option Addr) (c1 : Nat) (l1 : List Int) (r1 : List Int) (r2 : Int) (w : World) (hr0_1 : Kd.C (Kd.slice 3 (Kd.int .i64)) w A0_1 l0_1.length l0_1) (hc0_1 : l0_1.length ≤ c0_1) (hr0_2 : Kd.C Kd.bool w A0_2 l0_2.length l0_2) (hc0_2 : l0_2.length ≤ c0_2) (hr1 : Kd.C (Kd.int .i64) w A1 l1.length l1) (hc1 : l1.length ≤ c1) (h : tag_Step.f k a0_0 l0_1 l0_2 l1 = some (r1, r2)) :
  Calls Try.prog 18 #[.agg #[.int .i64 a0_0, .slice A0_1 l0_1.length c0_1, .slice A0_2 l0_2.length c0_2], .slice A1 l1.length c1] w fun e w' => ∃ v0_ : Value, e = .returned (.tuple #[v0_, .int .i64 r2]) ∧ Kd.R (Kd.int .i64) 3 w' w.heap.size (fun _ => True) v0_ r1 ∧ Below w.heap.size w w' := by
 have hu25 := Try.underlying25
 have HR0_1 := Aside0.mk hr0_1
 have HC0_1 := Aside0.mk hc0_1
 clear hr0_1 hc0_1
 have HR0_2 := Aside0.mk hr0_2
 have HC0_2 := Aside0.mk hc0_2
 clear hr0_2 hc0_2
 have HR1 := Aside0.mk hr1
 have HC1 := Aside0.mk hc1
 clear hr1 hc1
 have HB := A_ (Below.refl w.heap.size w)
 have H : ((tag_Run.f k a0_0 l0_1 l0_2 l1 1).bind fun bt200 => (if bt200.2.2 = 0 then (if bt200.2.1 = 0 then (some (([] : List Int), 5)) else (some (bt200.1, bt200.2.2))) else (some (bt200.1, bt200.2.2)))) = some (r1, r2) := h
 clear h
 replace H := Option.bind_eq_some_iff.mp H
 obtain ⟨⟨t200, t203, t204⟩, A30, H⟩ := H
 replace H : (if t204 = 0 then (if t203 = 0 then (some (([] : List Int), 5)) else (some (t200, t204))) else (some (t200, t204))) = some (r1, r2) := H
 have A3 := Aside0.mk A30
 clear A30
 by_cases c4 : t204 = 0
 ·rw [if_pos c4] at H
  have c4b0 : (t204 == 0) = true := beq_iff_eq.mpr c4
  have c4b1 : (t204 != 0) = false := bne_eq_false_iff_eq.mpr c4
  clear c4
  by_cases c5 : t203 = 0
  ·rw [if_pos c5] at H
   have c5b0 : (t203 == 0) = true := beq_iff_eq.mpr c5
   have c5b1 : (t203 != 0) = false := bne_eq_false_iff_eq.mpr c5
   clear c5
   simp only [Option.some.injEq, Prod.mk.injEq] at H
   obtain ⟨rfl, rfl⟩ := H
   go_enter Try.func18, Try.ntmps18
   go_wp2_with (first | ((with_reducible refine gate_dst (N := 2) rfl ?_); refine box_event ?hg (N := 2) ?hd (cs := #[.int .i64 a0_0, .slice A0_1 l0_1.length c0_1, .slice A0_2 l0_2.length c0_2]) (t := 25) ?hr ?_; (case hd => rfl); (case hg => rfl); (case hr => first | (go_simp; done) | (go_simp; rfl)); intro gb199 hg w6 hbox hb; have n0_ := A_ (below_step (bk_ HB.out) hb); have n1_ := A_ (hbox); have n2_ := A_ ((by rw [hg]; exact (below_size (bk_ HB.out)) : w.heap.size ≤ gb199)); have n3_ := A_ ((by rw [hg]; exact (below_size (bk_ HB.out)) : w.heap.size ≤ gb199)); clear HB; have HB := n0_; have BK199 := n1_; have GW199 := n2_; have GE199 := n3_; clear n0_ n1_ n2_ n3_ hb hbox hg; have hcz7_0 : w6.cell? ⟨gb199, 0, none⟩ = some (.int .i64 a0_0) := (blk_cell BK199.out 0).trans rfl; have hcz7_1 : w6.cell? ⟨gb199, 1, none⟩ = some (.slice A0_1 l0_1.length c0_1) := (blk_cell BK199.out 1).trans rfl; have hcz7_2 : w6.cell? ⟨gb199, 2, none⟩ = some (.slice A0_2 l0_2.length c0_2) := (blk_cell BK199.out 2).trans rfl; have hfz7_0 := blk_frozen BK199.out 0; have hfz7_1 := blk_frozen BK199.out 1; have hfz7_2 := blk_frozen BK199.out 2) | ((with_reducible refine gate_callee (f := 13) rfl ?_); refine goesL_ (some 12) rfl rfl Try.func13 (by kernel_rfl) rfl #[.agg #[.int .i64 a0_0, .slice A0_1 l0_1.length c0_1, .slice A0_2 l0_2.length c0_2], .slice A1 l1.length c1, .int .i64 1] rfl gl_ ?_; (with_reducible refine (tag_Run.calls k a0_0 _ _ l0_1 _ _ l0_2 _ _ l1 1 t200 t203 t204 _ ?side1 ?side2 ?side3 ?side4 ?side5 ?side6 A3.out).mono ?_); (case side1 => exact ck_ (Kd.C_below HR0_1.out HB.out)); (case side2 => exact HC0_1.out); (case side3 => exact ck_ (Kd.C_below HR0_2.out HB.out)); (case side4 => exact HC0_2.out); (case side5 => exact ck_ (Kd.C_below HR1.out HB.out)); (case side6 => exact HC1.out); rintro e w8 ⟨v201, rfl, ho0, hb⟩; refine ⟨_, rfl, ?_⟩; have n0_ := A_ (Kd.R_lower ho0 (below_size (bk_ HB.out))); have n1_ := A_ (blk_below (pk_ BK199.out) hb); have n2_ := A_ (below_step (bk_ HB.out) hb); clear BK199 HB; have HO202 := n0_; have BK199 := n1_; have HB := n2_; clear n0_ n1_ n2_; (try clear hb); (try clear hb2); (try clear hk); (try clear hi); (try clear ho0)))
   go_ret2
   exact ⟨_, er_, by first | exact Kd.R_nil _ _ _ _ _ | exact Kd.N_nil _ _ _ _ _ | exact Kd.V_nil _ _ _ _ _ | exact Kd.Q_nil _ _ _ _ _ | exact Kd.S_nil _ _ _ _ _, bk_ HB.out⟩
  ·rw [if_neg c5] at H
   have c5b0 : (t203 == 0) = false := beq_eq_false_iff_ne.mpr c5
   have c5b1 : (t203 != 0) = true := bne_iff_ne.mpr c5
   simp only [Option.some.injEq, Prod.mk.injEq] at H
   obtain ⟨rfl, rfl⟩ := H
   go_enter Try.func18, Try.ntmps18
   go_wp2_with (first | ((with_reducible refine gate_dst (N := 2) rfl ?_); refine box_event ?hg (N := 2) ?hd (cs := #[.int .i64 a0_0, .slice A0_1 l0_1.length c0_1, .slice A0_2 l0_2.length c0_2]) (t := 25) ?hr ?_; (case hd => rfl); (case hg => rfl); (case hr => first | (go_simp; done) | (go_simp; rfl)); intro gb199 hg w9 hbox hb; have n0_ := A_ (below_step (bk_ HB.out) hb); have n1_ := A_ (hbox); have n2_ := A_ ((by rw [hg]; exact (below_size (bk_ HB.out)) : w.heap.size ≤ gb199)); have n3_ := A_ ((by rw [hg]; exact (below_size (bk_ HB.out)) : w.heap.size ≤ gb199)); clear HB; have HB := n0_; have BK199 := n1_; have GW199 := n2_; have GE199 := n3_; clear n0_ n1_ n2_ n3_ hb hbox hg; have hcz10_0 : w9.cell? ⟨gb199, 0, none⟩ = some (.int .i64 a0_0) := (blk_cell BK199.out 0).trans rfl; have hcz10_1 : w9.cell? ⟨gb199, 1, none⟩ = some (.slice A0_1 l0_1.length c0_1) := (blk_cell BK199.out 1).trans rfl; have hcz10_2 : w9.cell? ⟨gb199, 2, none⟩ = some (.slice A0_2 l0_2.length c0_2) := (blk_cell BK199.out 2).trans rfl; have hfz10_0 := blk_frozen BK199.out 0; have hfz10_1 := blk_frozen BK199.out 1; have hfz10_2 := blk_frozen BK199.out 2) | ((with_reducible refine gate_callee (f := 13) rfl ?_); refine goesL_ (some 12) rfl rfl Try.func13 (by kernel_rfl) rfl #[.agg #[.int .i64 a0_0, .slice A0_1 l0_1.length c0_1, .slice A0_2 l0_2.length c0_2], .slice A1 l1.length c1, .int .i64 1] rfl gl_ ?_; (with_reducible refine (tag_Run.calls k a0_0 _ _ l0_1 _ _ l0_2 _ _ l1 1 t200 t203 t204 _ ?side1 ?side2 ?side3 ?side4 ?side5 ?side6 A3.out).mono ?_); (case side1 => exact ck_ (Kd.C_below HR0_1.out HB.out)); (case side2 => exact HC0_1.out); (case side3 => exact ck_ (Kd.C_below HR0_2.out HB.out)); (case side4 => exact HC0_2.out); (case side5 => exact ck_ (Kd.C_below HR1.out HB.out)); (case side6 => exact HC1.out); rintro e w11 ⟨v201, rfl, ho0, hb⟩; refine ⟨_, rfl, ?_⟩; have n0_ := A_ (Kd.R_lower ho0 (below_size (bk_ HB.out))); have n1_ := A_ (blk_below (pk_ BK199.out) hb); have n2_ := A_ (below_step (bk_ HB.out) hb); clear BK199 HB; have HO202 := n0_; have BK199 := n1_; have HB := n2_; clear n0_ n1_ n2_; (try clear hb); (try clear hb2); (try clear hk); (try clear hi); (try clear ho0)))
   go_ret2
   exact ⟨_, er_, rk_ HO202.out, bk_ HB.out⟩
 ·rw [if_neg c4] at H
  have c4b0 : (t204 == 0) = false := beq_eq_false_iff_ne.mpr c4
  have c4b1 : (t204 != 0) = true := bne_iff_ne.mpr c4
  simp only [Option.some.injEq, Prod.mk.injEq] at H
  obtain ⟨rfl, rfl⟩ := H
  go_enter Try.func18, Try.ntmps18
  go_wp2_with (first | ((with_reducible refine gate_dst (N := 2) rfl ?_); refine box_event ?hg (N := 2) ?hd (cs := #[.int .i64 a0_0, .slice A0_1 l0_1.length c0_1, .slice A0_2 l0_2.length c0_2]) (t := 25) ?hr ?_; (case hd => rfl); (case hg => rfl); (case hr => first | (go_simp; done) | (go_simp; rfl)); intro gb199 hg w12 hbox hb; have n0_ := A_ (below_step (bk_ HB.out) hb); have n1_ := A_ (hbox); have n2_ := A_ ((by rw [hg]; exact (below_size (bk_ HB.out)) : w.heap.size ≤ gb199)); have n3_ := A_ ((by rw [hg]; exact (below_size (bk_ HB.out)) : w.heap.size ≤ gb199)); clear HB; have HB := n0_; have BK199 := n1_; have GW199 := n2_; have GE199 := n3_; clear n0_ n1_ n2_ n3_ hb hbox hg; have hcz13_0 : w12.cell? ⟨gb199, 0, none⟩ = some (.int .i64 a0_0) := (blk_cell BK199.out 0).trans rfl; have hcz13_1 : w12.cell? ⟨gb199, 1, none⟩ = some (.slice A0_1 l0_1.length c0_1) := (blk_cell BK199.out 1).trans rfl; have hcz13_2 : w12.cell? ⟨gb199, 2, none⟩ = some (.slice A0_2 l0_2.length c0_2) := (blk_cell BK199.out 2).trans rfl; have hfz13_0 := blk_frozen BK199.out 0; have hfz13_1 := blk_frozen BK199.out 1; have hfz13_2 := blk_frozen BK199.out 2) | ((with_reducible refine gate_callee (f := 13) rfl ?_); refine goesL_ (some 12) rfl rfl Try.func13 (by kernel_rfl) rfl #[.agg #[.int .i64 a0_0, .slice A0_1 l0_1.length c0_1, .slice A0_2 l0_2.length c0_2], .slice A1 l1.length c1, .int .i64 1] rfl gl_ ?_; (with_reducible refine (tag_Run.calls k a0_0 _ _ l0_1 _ _ l0_2 _ _ l1 1 t200 t203 t204 _ ?side1 ?side2 ?side3 ?side4 ?side5 ?side6 A3.out).mono ?_); (case side1 => exact ck_ (Kd.C_below HR0_1.out HB.out)); (case side2 => exact HC0_1.out); (case side3 => exact ck_ (Kd.C_below HR0_2.out HB.out)); (case side4 => exact HC0_2.out); (case side5 => exact ck_ (Kd.C_below HR1.out HB.out)); (case side6 => exact HC1.out); rintro e w14 ⟨v201, rfl, ho0, hb⟩; refine ⟨_, rfl, ?_⟩; have n0_ := A_ (Kd.R_lower ho0 (below_size (bk_ HB.out))); have n1_ := A_ (blk_below (pk_ BK199.out) hb); have n2_ := A_ (below_step (bk_ HB.out) hb); clear BK199 HB; have HO202 := n0_; have BK199 := n1_; have HB := n2_; clear n0_ n1_ n2_; (try clear hb); (try clear hb2); (try clear hk); (try clear hi); (try clear ho0)))
  go_ret2
  exact ⟨_, er_, rk_ HO202.out, bk_ HB.out⟩

end Go.Proofs.Ytkinnaegedbanaa.PTagRuns
