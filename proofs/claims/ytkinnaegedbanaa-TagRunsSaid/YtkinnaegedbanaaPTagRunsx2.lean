-- out of a turned copy of the print, by a program of this session; Lean checks it
import Derived.Test.YtkinnaegedbanaaPTagRunsx0
import Derived.Test.YtkinnaegedbanaaPTagRunsx1
namespace Go.Proofs.Ytkinnaegedbanaa.PTagRuns
open Go.RowKit Go.Proofs.YtkinnaegedbanaaW.PrintWords Go.Proofs.YtkinnaegedbanaaW.PrintLast Go.Proofs.YtkinnaegedbanaaW.PrintMore
attribute [local go_sem] max2_int min2_int max_two min_two max_three min_three max_four min_four   -- for this text's walks alone
set_option linter.unusedVariables false
set_option linter.unusedSimpArgs false

attribute [local go_sem] isSome_put_
/-! ### tag_Valid: function 15 -/
mutual
def tag_Valid.j0 : Nat → Int → Bool → Int → List (List Int) → List Bool → Option (Bool)
 | 0, _, _, _, _, _ => none
 | k + 1, x3, x31, x114000, x114001, x114002 => if x31 = true then (some false) else (tag_Valid.l0 k x3 x114001 (x114001.length : Int) 0)
def tag_Valid.l0 : Nat → Int → List (List Int) → Int → Int → Option (Bool)
 | 0, _, _, _, _ => none
 | k + 1, x3, x33, x34, x35 => if x35 < x34 then (if 0 ≤ x35 then (if x35 < (x33.length : Int) then (if ((rd_L1 x33 x35).length : Int) > 200 then (some false) else ((tag_letters.f k (rd_L1 x33 x35) x3).bind fun t115 => (if t115 = true then (tag_Valid.l0 k x3 x33 x34 (wrap64 (x35 + 1))) else (some false)))) else (none)) else (none)) else (some true)
end
def tag_Valid.f (k : Nat) (a0_0 : Int) (l0_1 : List (List Int)) (l0_2 : List Bool) : Option (Bool) := if a0_0 < 1 then (tag_Valid.j0 k (l0_1.length : Int) true a0_0 l0_1 l0_2) else (if a0_0 > 4 then (tag_Valid.j0 k (l0_1.length : Int) true a0_0 l0_1 l0_2) else (if (l0_1.length : Int) < 1 then (tag_Valid.j0 k (l0_1.length : Int) true a0_0 l0_1 l0_2) else (if (l0_1.length : Int) > 600 then (tag_Valid.j0 k (l0_1.length : Int) true a0_0 l0_1 l0_2) else (tag_Valid.j0 k (l0_1.length : Int) ((l0_2.length : Int) != (l0_1.length : Int)) a0_0 l0_1 l0_2))))
theorem tag_Valid.mono_l : ∀ k, (∀ y0 y1 y2 y3 y4, LeO (tag_Valid.j0 k y0 y1 y2 y3 y4) (tag_Valid.j0 (k + 1) y0 y1 y2 y3 y4)) ∧ (∀ y0 y1 y2 y3, LeO (tag_Valid.l0 k y0 y1 y2 y3) (tag_Valid.l0 (k + 1) y0 y1 y2 y3))
 | 0 => ⟨fun _ _ _ _ _ r h => by simp [tag_Valid.j0] at h, fun _ _ _ _ r h => by simp [tag_Valid.l0] at h⟩
 | k + 1 => by
  obtain ⟨ih0, ih1⟩ := tag_Valid.mono_l k
  refine ⟨?_, ?_⟩
  ·intro y0 y1 y2 y3 y4
   unfold tag_Valid.j0
   repeat' first
   | (with_reducible exact ih0 _ _ _ _ _)
   | (with_reducible exact ih1 _ _ _ _)
   | (with_reducible exact tag_letters.mono _ _ _)
   | (with_reducible exact LeO.refl _)
   | (with_reducible exact LeO.none _)
   | (with_reducible refine LeO.ite ?_ ?_)
   | (with_reducible refine LeO.bind ?_ (fun _ => ?_))
   | exact ih0 _ _ _ _ _
   | exact ih1 _ _ _ _
   | exact tag_letters.mono _ _ _
   | exact LeO.none _
   | refine LeO.ite ?_ ?_
   | refine LeO.bind ?_ (fun _ => ?_)
  ·intro y0 y1 y2 y3
   unfold tag_Valid.l0
   repeat' first
   | (with_reducible exact ih0 _ _ _ _ _)
   | (with_reducible exact ih1 _ _ _ _)
   | (with_reducible exact tag_letters.mono _ _ _)
   | (with_reducible exact LeO.refl _)
   | (with_reducible exact LeO.none _)
   | (with_reducible refine LeO.ite ?_ ?_)
   | (with_reducible refine LeO.bind ?_ (fun _ => ?_))
   | exact ih0 _ _ _ _ _
   | exact ih1 _ _ _ _
   | exact tag_letters.mono _ _ _
   | exact LeO.none _
   | refine LeO.ite ?_ ?_
   | refine LeO.bind ?_ (fun _ => ?_)
theorem tag_Valid.mono : ∀ a0 a1 a2 k, LeO (tag_Valid.f k a0 a1 a2) (tag_Valid.f (k + 1) a0 a1 a2) := by
 intro a0 a1 a2 k
 obtain ⟨ih0, ih1⟩ := tag_Valid.mono_l k
 unfold tag_Valid.f
 repeat' first
   | (with_reducible exact ih0 _ _ _ _ _)
   | (with_reducible exact ih1 _ _ _ _)
   | (with_reducible exact tag_letters.mono _ _ _)
   | (with_reducible exact LeO.refl _)
   | (with_reducible exact LeO.none _)
   | (with_reducible refine LeO.ite ?_ ?_)
   | (with_reducible refine LeO.bind ?_ (fun _ => ?_))
   | exact ih0 _ _ _ _ _
   | exact ih1 _ _ _ _
   | exact tag_letters.mono _ _ _
   | exact LeO.none _
   | refine LeO.ite ?_ ?_
   | refine LeO.bind ?_ (fun _ => ?_)
set_option maxHeartbeats 8000000 in
set_option maxRecDepth 100000 in
theorem tag_Valid.calls (k : Nat) (a0_0 : Int) (A0_1 : Option Addr) (c0_1 : Nat) (l0_1 : List (List Int)) (A0_2 : Option Addr) (c0_2 : Nat) (l0_2 : List Bool) (r : Bool) (w : World) (hr0_1 : Kd.C (Kd.slice 3 (Kd.int .i64)) w A0_1 l0_1.length l0_1) (hc0_1 : l0_1.length ≤ c0_1) (hr0_2 : Kd.C Kd.bool w A0_2 l0_2.length l0_2) (hc0_2 : l0_2.length ≤ c0_2) (h : tag_Valid.f k a0_0 l0_1 l0_2 = some r) :
  Calls Try.prog 15 #[.agg #[.int .i64 a0_0, .slice A0_1 l0_1.length c0_1, .slice A0_2 l0_2.length c0_2]] w fun e w' => e = .returned (.bool r) ∧ Below w.heap.size w w' := by
 have hu25 := Try.underlying25
 have HR0_1 := Aside0.mk hr0_1
 have HC0_1 := Aside0.mk hc0_1
 clear hr0_1 hc0_1
 have HR0_2 := Aside0.mk hr0_2
 have HC0_2 := Aside0.mk hc0_2
 clear hr0_2 hc0_2
 have HB := A_ (Below.refl w.heap.size w)
 have H : (if a0_0 < 1 then (tag_Valid.j0 k (l0_1.length : Int) true a0_0 l0_1 l0_2) else (if a0_0 > 4 then (tag_Valid.j0 k (l0_1.length : Int) true a0_0 l0_1 l0_2) else (if (l0_1.length : Int) < 1 then (tag_Valid.j0 k (l0_1.length : Int) true a0_0 l0_1 l0_2) else (if (l0_1.length : Int) > 600 then (tag_Valid.j0 k (l0_1.length : Int) true a0_0 l0_1 l0_2) else (tag_Valid.j0 k (l0_1.length : Int) ((l0_2.length : Int) != (l0_1.length : Int)) a0_0 l0_1 l0_2))))) = some r := h
 clear h
 have HC2 := Aside0.mk H
 clear H
 go_enter Try.func15, Try.ntmps15
 go_upto_region 2 with (first | ((with_reducible refine gate_dst (N := 1) rfl ?_); (try (refine gate_guard (by rfl) ?_; dsimp only)); refine box_event ?hg (N := 1) ?hd (cs := #[.int .i64 a0_0, .slice A0_1 l0_1.length c0_1, .slice A0_2 l0_2.length c0_2]) (t := 25) ?hr ?_; (case hd => rfl); (case hg => rfl); (case hr => first | (go_simp; done) | (go_simp; rfl)); intro gb113 hg w3 hbox hb; have n0_ := A_ (below_step (bk_ HB.out) hb); have n1_ := A_ (hbox); have n2_ := A_ ((by rw [hg]; exact (below_size (bk_ HB.out)) : w.heap.size ≤ gb113)); have n3_ := A_ ((by rw [hg]; exact (below_size (bk_ HB.out)) : w.heap.size ≤ gb113)); clear HB; have HB := n0_; have BK113 := n1_; have GW113 := n2_; have GE113 := n3_; clear n0_ n1_ n2_ n3_ hb hbox hg; have hcz4_0 : w3.cell? ⟨gb113, 0, none⟩ = some (.int .i64 a0_0) := (blk_cell BK113.out 0).trans rfl; have hcz4_1 : w3.cell? ⟨gb113, 1, none⟩ = some (.slice A0_1 l0_1.length c0_1) := (blk_cell BK113.out 1).trans rfl; have hcz4_2 : w3.cell? ⟨gb113, 2, none⟩ = some (.slice A0_2 l0_2.length c0_2) := (blk_cell BK113.out 2).trans rfl; have hfz4_0 := blk_frozen BK113.out 0; have hfz4_1 := blk_frozen BK113.out 1; have hfz4_2 := blk_frozen BK113.out 2))
 (try simp only [Act.put, List.setIfInBounds_toArray, List.set_cons_zero, List.set_cons_succ])
 go_cut [31] (fun v31 wc => ∃ (kq : Nat) (x31_1 : Bool), v31 = .bool x31_1 ∧ Aside0 (tag_Valid.j0 kq (l0_1.length : Int) x31_1 a0_0 l0_1 l0_2 = some r) ∧ Aside0 (kq ≤ k) ∧ Aside0 (wc.heap[gb113]? = some (.cells #[.int .i64 a0_0, (.slice A0_1 l0_1.length c0_1), (.slice A0_2 l0_2.length c0_2)] 25 (0, 0))) ∧ Aside0 (Below w.heap.size w wc))
 case first =>
  have H := HC2.out
  clear HC2
  by_cases c5 : a0_0 < 1
  ·rw [if_pos c5] at H
   have c5b0 : decide (a0_0 < 1) = true := decide_eq_true c5
   clear c5
   (first | rw [c5b0] | (simp only [i64_w, i32_w]; rw [c5b0]) | skip)
   have H' := Aside0.mk H
   clear H
   have hcz6_0 : w3.cell? ⟨gb113, 0, none⟩ = some (.int .i64 a0_0) := (blk_cell BK113.out 0).trans rfl
   have hcz6_1 : w3.cell? ⟨gb113, 1, none⟩ = some (.slice A0_1 l0_1.length c0_1) := (blk_cell BK113.out 1).trans rfl
   have hcz6_2 : w3.cell? ⟨gb113, 2, none⟩ = some (.slice A0_2 l0_2.length c0_2) := (blk_cell BK113.out 2).trans rfl
   have hfz6_0 := blk_frozen BK113.out 0
   have hfz6_1 := blk_frozen BK113.out 1
   have hfz6_2 := blk_frozen BK113.out 2
   go_wp2
   go_meet
   case rel => exact ⟨_, (true), jr_, H', ⟨by first | omega | exact Nat.le_refl _⟩, ⟨pk_ BK113.out⟩, ⟨bk_ HB.out⟩⟩
  ·rw [if_neg c5] at H
   have c5b0 : decide (a0_0 < 1) = false := decide_eq_false c5
   clear c5
   (first | rw [c5b0] | (simp only [i64_w, i32_w]; rw [c5b0]) | skip)
   by_cases c7 : a0_0 > 4
   ·rw [if_pos c7] at H
    have c7b0 : decide (4 < a0_0) = true := decide_eq_true c7
    clear c7
    have H' := Aside0.mk H
    clear H
    have hcz8_0 : w3.cell? ⟨gb113, 0, none⟩ = some (.int .i64 a0_0) := (blk_cell BK113.out 0).trans rfl
    have hcz8_1 : w3.cell? ⟨gb113, 1, none⟩ = some (.slice A0_1 l0_1.length c0_1) := (blk_cell BK113.out 1).trans rfl
    have hcz8_2 : w3.cell? ⟨gb113, 2, none⟩ = some (.slice A0_2 l0_2.length c0_2) := (blk_cell BK113.out 2).trans rfl
    have hfz8_0 := blk_frozen BK113.out 0
    have hfz8_1 := blk_frozen BK113.out 1
    have hfz8_2 := blk_frozen BK113.out 2
    go_wp2
    go_meet
    case rel => exact ⟨_, (true), jr_, H', ⟨by first | omega | exact Nat.le_refl _⟩, ⟨pk_ BK113.out⟩, ⟨bk_ HB.out⟩⟩
   ·rw [if_neg c7] at H
    have c7b0 : decide (4 < a0_0) = false := decide_eq_false c7
    clear c7
    by_cases c9 : (l0_1.length : Int) < 1
    ·rw [if_pos c9] at H
     have c9b0 : decide ((l0_1.length : Int) < 1) = true := decide_eq_true c9
     have c9b1 : decide (l0_1.length < 1) = true := decide_eq_true (by omega)
     clear c9
     have H' := Aside0.mk H
     clear H
     have hcz10_0 : w3.cell? ⟨gb113, 0, none⟩ = some (.int .i64 a0_0) := (blk_cell BK113.out 0).trans rfl
     have hcz10_1 : w3.cell? ⟨gb113, 1, none⟩ = some (.slice A0_1 l0_1.length c0_1) := (blk_cell BK113.out 1).trans rfl
     have hcz10_2 : w3.cell? ⟨gb113, 2, none⟩ = some (.slice A0_2 l0_2.length c0_2) := (blk_cell BK113.out 2).trans rfl
     have hfz10_0 := blk_frozen BK113.out 0
     have hfz10_1 := blk_frozen BK113.out 1
     have hfz10_2 := blk_frozen BK113.out 2
     go_wp2
     go_meet
     case rel => exact ⟨_, (true), jr_, H', ⟨by first | omega | exact Nat.le_refl _⟩, ⟨pk_ BK113.out⟩, ⟨bk_ HB.out⟩⟩
    ·rw [if_neg c9] at H
     have c9b0 : decide ((l0_1.length : Int) < 1) = false := decide_eq_false c9
     have c9b1 : decide (l0_1.length < 1) = false := decide_eq_false (by omega)
     clear c9
     by_cases c11 : (l0_1.length : Int) > 600
     ·rw [if_pos c11] at H
      have c11b0 : decide (600 < (l0_1.length : Int)) = true := decide_eq_true c11
      have c11b1 : decide (600 < l0_1.length) = true := decide_eq_true (by omega)
      clear c11
      have H' := Aside0.mk H
      clear H
      have hcz12_0 : w3.cell? ⟨gb113, 0, none⟩ = some (.int .i64 a0_0) := (blk_cell BK113.out 0).trans rfl
      have hcz12_1 : w3.cell? ⟨gb113, 1, none⟩ = some (.slice A0_1 l0_1.length c0_1) := (blk_cell BK113.out 1).trans rfl
      have hcz12_2 : w3.cell? ⟨gb113, 2, none⟩ = some (.slice A0_2 l0_2.length c0_2) := (blk_cell BK113.out 2).trans rfl
      have hfz12_0 := blk_frozen BK113.out 0
      have hfz12_1 := blk_frozen BK113.out 1
      have hfz12_2 := blk_frozen BK113.out 2
      go_wp2
      go_meet
      case rel => exact ⟨_, (true), jr_, H', ⟨by first | omega | exact Nat.le_refl _⟩, ⟨pk_ BK113.out⟩, ⟨bk_ HB.out⟩⟩
     ·rw [if_neg c11] at H
      have c11b0 : decide (600 < (l0_1.length : Int)) = false := decide_eq_false c11
      have c11b1 : decide (600 < l0_1.length) = false := decide_eq_false (by omega)
      clear c11
      have H' := Aside0.mk H
      clear H
      have hcz13_0 : w3.cell? ⟨gb113, 0, none⟩ = some (.int .i64 a0_0) := (blk_cell BK113.out 0).trans rfl
      have hcz13_1 : w3.cell? ⟨gb113, 1, none⟩ = some (.slice A0_1 l0_1.length c0_1) := (blk_cell BK113.out 1).trans rfl
      have hcz13_2 : w3.cell? ⟨gb113, 2, none⟩ = some (.slice A0_2 l0_2.length c0_2) := (blk_cell BK113.out 2).trans rfl
      have hfz13_0 := blk_frozen BK113.out 0
      have hfz13_1 := blk_frozen BK113.out 1
      have hfz13_2 := blk_frozen BK113.out 2
      go_wp2
      go_meet
      case rel => exact ⟨_, (((l0_2.length : Int) != (l0_1.length : Int))), jr_, H', ⟨by first | omega | exact Nat.le_refl _⟩, ⟨pk_ BK113.out⟩, ⟨bk_ HB.out⟩⟩
 case rest =>
  clear HC2
  (try clear hcz4_0); (try clear hcz4_1); (try clear hcz4_2); (try clear hfz4_0); (try clear hfz4_1); (try clear hfz4_2)
  obtain ⟨kq, x31_1, rfl, HA, HJ1, BK113, HB⟩ := hcut
  cases kq with
  | zero => exact absurd HA.out (by simp [tag_Valid.j0])
  | succ kj1 =>
   have H := HA.out
   clear HA
   simp only [tag_Valid.j0] at H
   by_cases c14 : x31_1 = true
   ·subst c14
    have H1 : (some false) = some r := by rw [if_pos rfl] at H; exact H
    clear H
    have H := H1
    clear H1
    obtain rfl := Option.some.inj H
    go_wp2
    go_ret
    exact ⟨er_, bk_ HB.out⟩
   ·replace c14 := Bool.eq_false_iff.mpr c14
    subst c14
    have H1 : (tag_Valid.l0 kj1 (l0_1.length : Int) l0_1 (l0_1.length : Int) 0) = some r := by rw [if_neg (show ¬ (false = true) by decide)] at H; exact H
    clear H
    have H := H1
    clear H1
    have H' := Aside0.mk H
    clear H
    have hcz15_0 : wc.cell? ⟨gb113, 0, none⟩ = some (.int .i64 a0_0) := (blk_cell BK113.out 0).trans rfl
    have hcz15_1 : wc.cell? ⟨gb113, 1, none⟩ = some (.slice A0_1 l0_1.length c0_1) := (blk_cell BK113.out 1).trans rfl
    have hcz15_2 : wc.cell? ⟨gb113, 2, none⟩ = some (.slice A0_2 l0_2.length c0_2) := (blk_cell BK113.out 2).trans rfl
    have hfz15_0 := blk_frozen BK113.out 0
    have hfz15_1 := blk_frozen BK113.out 1
    have hfz15_2 := blk_frozen BK113.out 2
    go_wp2
    go_loopg [35] kj1 (fun kq v35 w' => ∃ (x35_2 : Int), v35 = .int .i64 x35_2 ∧ Aside0 (tag_Valid.l0 kq (l0_1.length : Int) l0_1 (l0_1.length : Int) x35_2 = some r) ∧ Aside0 (kq ≤ kj1) ∧ Aside0 (w'.heap[gb113]? = some (.cells #[.int .i64 a0_0, (.slice A0_1 l0_1.length c0_1), (.slice A0_2 l0_2.length c0_2)] 25 (0, 0))) ∧ Aside0 (Below w.heap.size w w'))
    case atStart => exact ⟨(0), jr_, H', ⟨Nat.le_refl _⟩, ⟨pk_ BK113.out⟩, ⟨bk_ HB.out⟩⟩
    case round =>
     clear H'
     (try clear c14); (try clear hcz15_0); (try clear hcz15_1); (try clear hcz15_2); (try clear hcz4_0); (try clear hcz4_1); (try clear hcz4_2); (try clear hfz15_0); (try clear hfz15_1); (try clear hfz15_2); (try clear hfz4_0); (try clear hfz4_1); (try clear hfz4_2)
     obtain ⟨x35_2, rfl, HA, HK2, BK113, HB⟩ := hrel
     cases gk with
     | zero => exact absurd HA.out (by simp [tag_Valid.l0])
     | succ k2 =>
      have H := HA.out
      clear HA
      simp only [tag_Valid.l0] at H
      by_cases c16 : x35_2 < (l0_1.length : Int)
      ·rw [if_pos c16] at H
       have c16b0 : decide (x35_2 < (l0_1.length : Int)) = true := decide_eq_true c16
       clear c16
       by_cases c17 : 0 ≤ x35_2
       ·rw [if_pos c17] at H
        have c17b0 : decide (0 ≤ x35_2) = true := decide_eq_true c17
        clear c17
        by_cases c18 : x35_2 < (l0_1.length : Int)
        ·rw [if_pos c18] at H
         have c18b0 : decide (x35_2 < (l0_1.length : Int)) = true := decide_eq_true c18
         clear c18
         by_cases c19 : ((rd_L1 l0_1 x35_2).length : Int) > 200
         ·rw [if_pos c19] at H
          have c19b0 : decide (200 < ((rd_L1 l0_1 x35_2).length : Int)) = true := decide_eq_true c19
          have c19b1 : decide (200 < (rd_L1 l0_1 x35_2).length) = true := decide_eq_true (by omega)
          clear c19
          obtain rfl := Option.some.inj H
          have p114 : 0 ≤ (x35_2 : Int) := od_
          have q114 : x35_2 < (l0_1.length : Int) := od_
          obtain ⟨ad114, A114_0, c114_0, e114, hx114_0, hl114_0, hi114_0⟩ := at_L1 HR0_1.out x35_2 p114 q114
          cases e114
          replace hx114_0 := lf_ HB.out hx114_0
          have HR114_0 := Aside0.mk hi114_0
          have HC114_0 := Aside0.mk hl114_0
          clear hi114_0 hl114_0
          replace p114 := eq_true p114
          replace q114 := eq_true q114
          go_wp2
          go_ret
          exact ⟨er_, bk_ HB.out⟩
         ·rw [if_neg c19] at H
          have c19b0 : decide (200 < ((rd_L1 l0_1 x35_2).length : Int)) = false := decide_eq_false c19
          have c19b1 : decide (200 < (rd_L1 l0_1 x35_2).length) = false := decide_eq_false (by omega)
          clear c19
          replace H := Option.bind_eq_some_iff.mp H
          obtain ⟨t115, A200, H⟩ := H
          replace H : (if t115 = true then (tag_Valid.l0 k2 (l0_1.length : Int) l0_1 (l0_1.length : Int) (wrap64 (x35_2 + 1))) else (some false)) = some r := H
          have A20 := Aside0.mk A200
          clear A200
          by_cases c21 : t115 = true
          ·subst c21
           have H1 : (tag_Valid.l0 k2 (l0_1.length : Int) l0_1 (l0_1.length : Int) (wrap64 (x35_2 + 1))) = some r := by rw [if_pos rfl] at H; exact H
           clear H
           have H := H1
           clear H1
           have H' := Aside0.mk H
           clear H
           have p114 : 0 ≤ (x35_2 : Int) := od_
           have q114 : x35_2 < (l0_1.length : Int) := od_
           obtain ⟨ad114, A114_0, c114_0, e114, hx114_0, hl114_0, hi114_0⟩ := at_L1 HR0_1.out x35_2 p114 q114
           cases e114
           replace hx114_0 := lf_ HB.out hx114_0
           have HR114_0 := Aside0.mk hi114_0
           have HC114_0 := Aside0.mk hl114_0
           clear hi114_0 hl114_0
           replace p114 := eq_true p114
           replace q114 := eq_true q114
           go_wp2_with (first | (go_at_call 49; (with_reducible refine (tag_letters.calls k2 _ _ (rd_L1 l0_1 x35_2) (l0_1.length : Int) true _ ?side1 ?side2 A20.out).mono ?_); (case side1 => exact ck_ (Kd.C_below HR114_0.out HB.out)); (case side2 => exact HC114_0.out); rintro e w' ⟨rfl, ⟨nd, rfl⟩⟩))
           go_roundg k2
           case measure => have := HJ1.out; have := HK2.out; omega
           case rel => exact ⟨(wrap64 (x35_2 + 1)), jr_, H', ⟨by have := HJ1.out; have := HK2.out; omega⟩, ⟨pk_ BK113.out⟩, ⟨bk_ HB.out⟩⟩
          ·replace c21 := Bool.eq_false_iff.mpr c21
           subst c21
           have H1 : (some false) = some r := by rw [if_neg (show ¬ (false = true) by decide)] at H; exact H
           clear H
           have H := H1
           clear H1
           obtain rfl := Option.some.inj H
           have p114 : 0 ≤ (x35_2 : Int) := od_
           have q114 : x35_2 < (l0_1.length : Int) := od_
           obtain ⟨ad114, A114_0, c114_0, e114, hx114_0, hl114_0, hi114_0⟩ := at_L1 HR0_1.out x35_2 p114 q114
           cases e114
           replace hx114_0 := lf_ HB.out hx114_0
           have HR114_0 := Aside0.mk hi114_0
           have HC114_0 := Aside0.mk hl114_0
           clear hi114_0 hl114_0
           replace p114 := eq_true p114
           replace q114 := eq_true q114
           go_wp2_with (first | (go_at_call 49; (with_reducible refine (tag_letters.calls k2 _ _ (rd_L1 l0_1 x35_2) (l0_1.length : Int) false _ ?side1 ?side2 A20.out).mono ?_); (case side1 => exact ck_ (Kd.C_below HR114_0.out HB.out)); (case side2 => exact HC114_0.out); rintro e w' ⟨rfl, ⟨nd, rfl⟩⟩))
           go_ret
           exact ⟨er_, bk_ HB.out⟩
        ·rw [if_neg c18] at H
         exact absurd H (by simp)
       ·rw [if_neg c17] at H
        exact absurd H (by simp)
      ·rw [if_neg c16] at H
       have c16b0 : decide (x35_2 < (l0_1.length : Int)) = false := decide_eq_false c16
       clear c16
       obtain rfl := Option.some.inj H
       go_wp2
       go_ret
       exact ⟨er_, bk_ HB.out⟩

/-! ### tag_Fits: function 17 -/
def tag_Fits.f (k : Nat) (a0_0 : Int) (l0_1 : List (List Int)) (l0_2 : List Bool) (l1 : List Int) : Option (Bool) := (tag_Valid.f k a0_0 l0_1 l0_2).bind fun t117 => (if t117 = true then (if (l1.length : Int) ≤ 100000 then ((tag_letters.f k l1 (l0_1.length : Int)).bind fun t118 => (some t118)) else (some false)) else (some false))
theorem tag_Fits.mono : ∀ a0 a1 a2 a3 k, LeO (tag_Fits.f k a0 a1 a2 a3) (tag_Fits.f (k + 1) a0 a1 a2 a3) := by
 intro a0 a1 a2 a3 k
 unfold tag_Fits.f
 repeat' first
   | (with_reducible exact tag_Valid.mono _ _ _ _)
   | (with_reducible exact tag_letters.mono _ _ _)
   | (with_reducible exact LeO.refl _)
   | (with_reducible exact LeO.none _)
   | (with_reducible refine LeO.ite ?_ ?_)
   | (with_reducible refine LeO.bind ?_ (fun _ => ?_))
   | exact tag_Valid.mono _ _ _ _
   | exact tag_letters.mono _ _ _
   | exact LeO.none _
   | refine LeO.ite ?_ ?_
   | refine LeO.bind ?_ (fun _ => ?_)
set_option maxHeartbeats 8000000 in
set_option maxRecDepth 100000 in
theorem tag_Fits.calls (k : Nat) (a0_0 : Int) (A0_1 : Option Addr) (c0_1 : Nat) (l0_1 : List (List Int)) (A0_2 : Option Addr) (c0_2 : Nat) (l0_2 : List Bool) (A1 : Option Addr) (c1 : Nat) (l1 : List Int) (r : Bool) (w : World) (hr0_1 : Kd.C (Kd.slice 3 (Kd.int .i64)) w A0_1 l0_1.length l0_1) (hc0_1 : l0_1.length ≤ c0_1) (hr0_2 : Kd.C Kd.bool w A0_2 l0_2.length l0_2) (hc0_2 : l0_2.length ≤ c0_2) (hr1 : Kd.C (Kd.int .i64) w A1 l1.length l1) (hc1 : l1.length ≤ c1) (h : tag_Fits.f k a0_0 l0_1 l0_2 l1 = some r) :
  Calls Try.prog 17 #[.agg #[.int .i64 a0_0, .slice A0_1 l0_1.length c0_1, .slice A0_2 l0_2.length c0_2], .slice A1 l1.length c1] w fun e w' => e = .returned (.bool r) ∧ Below w.heap.size w w' := by
 have hu25 := Try.underlying25
 have HR0_1 := Aside0.mk hr0_1
 have HC0_1 := Aside0.mk hc0_1
 clear hr0_1 hc0_1
 have HR0_2 := Aside0.mk hr0_2
 have HC0_2 := Aside0.mk hc0_2
 clear hr0_2 hc0_2
 have HR1 := Aside0.mk hr1
 have HC1 := Aside0.mk hc1
 clear hr1 hc1
 have HB := A_ (Below.refl w.heap.size w)
 have H : ((tag_Valid.f k a0_0 l0_1 l0_2).bind fun t117 => (if t117 = true then (if (l1.length : Int) ≤ 100000 then ((tag_letters.f k l1 (l0_1.length : Int)).bind fun t118 => (some t118)) else (some false)) else (some false))) = some r := h
 clear h
 replace H := Option.bind_eq_some_iff.mp H
 obtain ⟨t117, A30, H⟩ := H
 replace H : (if t117 = true then (if (l1.length : Int) ≤ 100000 then ((tag_letters.f k l1 (l0_1.length : Int)).bind fun t118 => (some t118)) else (some false)) else (some false)) = some r := H
 have A3 := Aside0.mk A30
 clear A30
 by_cases c4 : t117 = true
 ·subst c4
  have H1 : (if (l1.length : Int) ≤ 100000 then ((tag_letters.f k l1 (l0_1.length : Int)).bind fun t118 => (some t118)) else (some false)) = some r := by rw [if_pos rfl] at H; exact H
  clear H
  have H := H1
  clear H1
  by_cases c5 : (l1.length : Int) ≤ 100000
  ·rw [if_pos c5] at H
   have c5b0 : decide ((l1.length : Int) ≤ 100000) = true := decide_eq_true c5
   have c5b1 : decide (l1.length ≤ 100000) = true := decide_eq_true (by omega)
   clear c5
   replace H := Option.bind_eq_some_iff.mp H
   obtain ⟨t118, A60, H⟩ := H
   replace H : (some t118) = some r := H
   have A6 := Aside0.mk A60
   clear A60
   obtain rfl := Option.some.inj H
   go_enter Try.func17, Try.ntmps17
   go_wp2_with (first | ((with_reducible refine gate_dst (N := 2) rfl ?_); (try (refine gate_guard (by rfl) ?_; dsimp only)); refine box_event ?hg (N := 2) ?hd (cs := #[.int .i64 a0_0, .slice A0_1 l0_1.length c0_1, .slice A0_2 l0_2.length c0_2]) (t := 25) ?hr ?_; (case hd => rfl); (case hg => rfl); (case hr => first | (go_simp; done) | (go_simp; rfl)); intro gb116 hg w7 hbox hb; have n0_ := A_ (below_step (bk_ HB.out) hb); have n1_ := A_ (hbox); have n2_ := A_ ((by rw [hg]; exact (below_size (bk_ HB.out)) : w.heap.size ≤ gb116)); have n3_ := A_ ((by rw [hg]; exact (below_size (bk_ HB.out)) : w.heap.size ≤ gb116)); clear HB; have HB := n0_; have BK116 := n1_; have GW116 := n2_; have GE116 := n3_; clear n0_ n1_ n2_ n3_ hb hbox hg; have hcz8_0 : w7.cell? ⟨gb116, 0, none⟩ = some (.int .i64 a0_0) := (blk_cell BK116.out 0).trans rfl; have hcz8_1 : w7.cell? ⟨gb116, 1, none⟩ = some (.slice A0_1 l0_1.length c0_1) := (blk_cell BK116.out 1).trans rfl; have hcz8_2 : w7.cell? ⟨gb116, 2, none⟩ = some (.slice A0_2 l0_2.length c0_2) := (blk_cell BK116.out 2).trans rfl; have hfz8_0 := blk_frozen BK116.out 0; have hfz8_1 := blk_frozen BK116.out 1; have hfz8_2 := blk_frozen BK116.out 2) | ((with_reducible refine gate_callee (f := 15) rfl ?_); refine goesL_ (some 6) rfl rfl Try.func15 (by kernel_rfl) rfl #[.agg #[.int .i64 a0_0, .slice A0_1 l0_1.length c0_1, .slice A0_2 l0_2.length c0_2]] rfl gl_ ?_; (with_reducible refine (tag_Valid.calls k a0_0 _ _ l0_1 _ _ l0_2 true _ ?side1 ?side2 ?side3 ?side4 A3.out).mono ?_); (case side1 => exact ck_ (Kd.C_below HR0_1.out HB.out)); (case side2 => exact HC0_1.out); (case side3 => exact ck_ (Kd.C_below HR0_2.out HB.out)); (case side4 => exact HC0_2.out); rintro e w9 ⟨rfl, hb⟩; refine ⟨_, rfl, ?_⟩; have n0_ := A_ (blk_below (pk_ BK116.out) hb); have n1_ := A_ (below_step (bk_ HB.out) hb); clear BK116 HB; have BK116 := n0_; have HB := n1_; clear n0_ n1_; (try clear hb); (try clear hb2); (try clear hk); (try clear hi); have hcz10_0 : w9.cell? ⟨gb116, 0, none⟩ = some (.int .i64 a0_0) := (blk_cell BK116.out 0).trans rfl; have hcz10_1 : w9.cell? ⟨gb116, 1, none⟩ = some (.slice A0_1 l0_1.length c0_1) := (blk_cell BK116.out 1).trans rfl; have hcz10_2 : w9.cell? ⟨gb116, 2, none⟩ = some (.slice A0_2 l0_2.length c0_2) := (blk_cell BK116.out 2).trans rfl; have hfz10_0 := blk_frozen BK116.out 0; have hfz10_1 := blk_frozen BK116.out 1; have hfz10_2 := blk_frozen BK116.out 2) | (go_at_call 49; (with_reducible refine (tag_letters.calls k _ _ l1 (l0_1.length : Int) t118 _ ?side1 ?side2 A6.out).mono ?_); (case side1 => exact ck_ (Kd.C_below HR1.out HB.out)); (case side2 => exact HC1.out); rintro e w' ⟨rfl, ⟨nd, rfl⟩⟩))
   go_ret
   exact ⟨er_, bk_ HB.out⟩
  ·rw [if_neg c5] at H
   have c5b0 : decide ((l1.length : Int) ≤ 100000) = false := decide_eq_false c5
   have c5b1 : decide (l1.length ≤ 100000) = false := decide_eq_false (by omega)
   clear c5
   obtain rfl := Option.some.inj H
   go_enter Try.func17, Try.ntmps17
   go_wp2_with (first | ((with_reducible refine gate_dst (N := 2) rfl ?_); (try (refine gate_guard (by rfl) ?_; dsimp only)); refine box_event ?hg (N := 2) ?hd (cs := #[.int .i64 a0_0, .slice A0_1 l0_1.length c0_1, .slice A0_2 l0_2.length c0_2]) (t := 25) ?hr ?_; (case hd => rfl); (case hg => rfl); (case hr => first | (go_simp; done) | (go_simp; rfl)); intro gb116 hg w11 hbox hb; have n0_ := A_ (below_step (bk_ HB.out) hb); have n1_ := A_ (hbox); have n2_ := A_ ((by rw [hg]; exact (below_size (bk_ HB.out)) : w.heap.size ≤ gb116)); have n3_ := A_ ((by rw [hg]; exact (below_size (bk_ HB.out)) : w.heap.size ≤ gb116)); clear HB; have HB := n0_; have BK116 := n1_; have GW116 := n2_; have GE116 := n3_; clear n0_ n1_ n2_ n3_ hb hbox hg; have hcz12_0 : w11.cell? ⟨gb116, 0, none⟩ = some (.int .i64 a0_0) := (blk_cell BK116.out 0).trans rfl; have hcz12_1 : w11.cell? ⟨gb116, 1, none⟩ = some (.slice A0_1 l0_1.length c0_1) := (blk_cell BK116.out 1).trans rfl; have hcz12_2 : w11.cell? ⟨gb116, 2, none⟩ = some (.slice A0_2 l0_2.length c0_2) := (blk_cell BK116.out 2).trans rfl; have hfz12_0 := blk_frozen BK116.out 0; have hfz12_1 := blk_frozen BK116.out 1; have hfz12_2 := blk_frozen BK116.out 2) | ((with_reducible refine gate_callee (f := 15) rfl ?_); refine goesL_ (some 6) rfl rfl Try.func15 (by kernel_rfl) rfl #[.agg #[.int .i64 a0_0, .slice A0_1 l0_1.length c0_1, .slice A0_2 l0_2.length c0_2]] rfl gl_ ?_; (with_reducible refine (tag_Valid.calls k a0_0 _ _ l0_1 _ _ l0_2 true _ ?side1 ?side2 ?side3 ?side4 A3.out).mono ?_); (case side1 => exact ck_ (Kd.C_below HR0_1.out HB.out)); (case side2 => exact HC0_1.out); (case side3 => exact ck_ (Kd.C_below HR0_2.out HB.out)); (case side4 => exact HC0_2.out); rintro e w13 ⟨rfl, hb⟩; refine ⟨_, rfl, ?_⟩; have n0_ := A_ (blk_below (pk_ BK116.out) hb); have n1_ := A_ (below_step (bk_ HB.out) hb); clear BK116 HB; have BK116 := n0_; have HB := n1_; clear n0_ n1_; (try clear hb); (try clear hb2); (try clear hk); (try clear hi)))
   go_ret
   exact ⟨er_, bk_ HB.out⟩
 ·replace c4 := Bool.eq_false_iff.mpr c4
  subst c4
  have H1 : (some false) = some r := by rw [if_neg (show ¬ (false = true) by decide)] at H; exact H
  clear H
  have H := H1
  clear H1
  obtain rfl := Option.some.inj H
  go_enter Try.func17, Try.ntmps17
  go_wp2_with (first | ((with_reducible refine gate_dst (N := 2) rfl ?_); (try (refine gate_guard (by rfl) ?_; dsimp only)); refine box_event ?hg (N := 2) ?hd (cs := #[.int .i64 a0_0, .slice A0_1 l0_1.length c0_1, .slice A0_2 l0_2.length c0_2]) (t := 25) ?hr ?_; (case hd => rfl); (case hg => rfl); (case hr => first | (go_simp; done) | (go_simp; rfl)); intro gb116 hg w14 hbox hb; have n0_ := A_ (below_step (bk_ HB.out) hb); have n1_ := A_ (hbox); have n2_ := A_ ((by rw [hg]; exact (below_size (bk_ HB.out)) : w.heap.size ≤ gb116)); have n3_ := A_ ((by rw [hg]; exact (below_size (bk_ HB.out)) : w.heap.size ≤ gb116)); clear HB; have HB := n0_; have BK116 := n1_; have GW116 := n2_; have GE116 := n3_; clear n0_ n1_ n2_ n3_ hb hbox hg; have hcz15_0 : w14.cell? ⟨gb116, 0, none⟩ = some (.int .i64 a0_0) := (blk_cell BK116.out 0).trans rfl; have hcz15_1 : w14.cell? ⟨gb116, 1, none⟩ = some (.slice A0_1 l0_1.length c0_1) := (blk_cell BK116.out 1).trans rfl; have hcz15_2 : w14.cell? ⟨gb116, 2, none⟩ = some (.slice A0_2 l0_2.length c0_2) := (blk_cell BK116.out 2).trans rfl; have hfz15_0 := blk_frozen BK116.out 0; have hfz15_1 := blk_frozen BK116.out 1; have hfz15_2 := blk_frozen BK116.out 2) | ((with_reducible refine gate_callee (f := 15) rfl ?_); refine goesL_ (some 6) rfl rfl Try.func15 (by kernel_rfl) rfl #[.agg #[.int .i64 a0_0, .slice A0_1 l0_1.length c0_1, .slice A0_2 l0_2.length c0_2]] rfl gl_ ?_; (with_reducible refine (tag_Valid.calls k a0_0 _ _ l0_1 _ _ l0_2 false _ ?side1 ?side2 ?side3 ?side4 A3.out).mono ?_); (case side1 => exact ck_ (Kd.C_below HR0_1.out HB.out)); (case side2 => exact HC0_1.out); (case side3 => exact ck_ (Kd.C_below HR0_2.out HB.out)); (case side4 => exact HC0_2.out); rintro e w16 ⟨rfl, hb⟩; refine ⟨_, rfl, ?_⟩; have n0_ := A_ (blk_below (pk_ BK116.out) hb); have n1_ := A_ (below_step (bk_ HB.out) hb); clear BK116 HB; have BK116 := n0_; have HB := n1_; clear n0_ n1_; (try clear hb); (try clear hb2); (try clear hk); (try clear hi)))
  go_ret
  exact ⟨er_, bk_ HB.out⟩

/-! ### slices_Clone_int_int: function 43 (by hand) -/
def slices_Clone_int_int.f (l0 : List Int) : Option (List Int) := if l0.length < 17592186044416 then (some l0) else (none)
set_option maxHeartbeats 8000000 in
set_option maxRecDepth 100000 in
theorem slices_Clone_int_int.calls (A0 : Option Addr) (c0 : Nat) (l0 : List Int) (r : List Int) (w : World) (hr0 : Kd.C (Kd.int .i64) w A0 l0.length l0) (hc0 : l0.length ≤ c0) (h : slices_Clone_int_int.f l0 = some r) :
    Calls Try.prog 43 #[.slice A0 l0.length c0] w fun e w' => ∃ v0_ : Value, e = .returned (v0_) ∧ Kd.R (Kd.int .i64) 3 w' w.heap.size (fun _ => True) v0_ r ∧ Below w.heap.size w w' := by
  have qn_ : ∀ (w : World) (a : Option Addr) (n c n' c' : Nat), (binOp .eql 26 (.slice a n c) (.slice none n' c')).run Try.prog w = .ok (.bool a.isNone) w := fun w a n c n' c' => Lib.run_eql_slice_nil w _ _ a n c n' c' Try.underlying26
  unfold slices_Clone_int_int.f at h
  split at h
  rotate_left
  · cases h
  rename_i hlen
  obtain rfl := Option.some.inj h
  clear h
  cases A0 with
  | none =>
    have hl : l0.length = 0 := by
      rcases Nat.eq_zero_or_pos l0.length with h0 | h0
      · exact h0
      · obtain ⟨ad, h, _⟩ := hr0.2.2 h0
        cases h
    obtain rfl : l0 = [] := List.eq_nil_of_length_eq_zero hl
    clear hr0 hlen hl
    go_enter Try.func43, Try.ntmps43
    go_wp2
    go_ret
    exact ⟨_, rfl, Kd.R_nil _ _ _ _ _, Below.refl _ _⟩
  | some ad =>
    have HR0 := Aside0.mk hr0
    have HLEN := Aside0.mk hlen
    clear hr0 hlen
    go_enter Try.func43, Try.ntmps43
    go_wp2_with (first | ((with_reducible refine gate_builtin (b := .append) (xs := #[.tmp 5, .tmp 6]) rfl ?_); at_builtin; refine Kd.R_append_rows (Kd.int .i64) (w0 := w) w.heap.size rfl (.tmp 5) (.tmp 6) 26 3 (.int .i64 0) 8 rfl Try.underlying26 info3 rfl (by decide) (by omega) (.slice (some ⟨w.heap.size, 0, none⟩) 0 0) [] l0 _ _ _ (fun _ => True) (fun _ => False) rfl rfl ?aO ?aR (fun _ _ h => h) (fun _ h => h.elim) (fun _ _ => trivial) ?aB ?aS ?aL ?_; (case aO => exact ⟨fun _ _ => trivial, [], World.ownsRow_made w #[] 0 (Nat.le_refl _) (Nat.zero_le _) (by simp), Reps.none _ _⟩); (case aR => exact Kd.C_below HR0.out (below_alloc (Below.refl _ _) _)); (case aB => exact below_alloc (Below.refl _ _) _); (case aS => simp); (case aL => have := HLEN.out; simp; omega); intro v1 w1 ho hb hg hat; clear hg hat))
    go_ret
    exact ⟨_, rfl, by simpa using ho, hb⟩

-- tag_queue_int_size: told with list

-- tag_queue_int_first: told with list

/-! ### the queue of a tag system (by hand) -/
theorem q_size (w : World) (g : Nat) (A : Option Addr) (n c : Nat) (at_ : Int) (hb : w.heap[g]? = some (.cells #[.slice A n c, .int .i64 at_] 75 (0, 0))) :
    Calls Try.prog 44 #[.pointer (some ⟨g, 0, none⟩)] w fun e w' => e = .returned (.int .i64 (wrap64 ((n : Int) - at_))) ∧ ∃ m, w' = w.drewN m := by
  have hc0 := (blk_cell hb 0).trans rfl
  have hc1 := (blk_cell hb 1).trans rfl
  clear hb
  go_enter Try.func44, Try.ntmps44
  go_wp2
  repeat (go_quiet (fail); try go_wp2)
  go_ret
  exact ⟨rfl, _, rfl⟩
theorem q_first (w : World) (g : Nat) (A : Option Addr) (n c : Nat) (at_ : Int) (xs : List Int) (hn : xs.length = n) (hb : w.heap[g]? = some (.cells #[.slice A n c, .int .i64 at_] 75 (0, 0))) (hr : Kd.C (Kd.int .i64) w A n xs) (h0 : 0 ≤ at_) (h1 : at_ < (n : Int)) :
    Calls Try.prog 45 #[.pointer (some ⟨g, 0, none⟩)] w fun e w' => e = .returned (.int .i64 (rd xs at_)) ∧ ∃ m, w' = w.drewN m := by
  subst hn
  have hc0 := (blk_cell hb 0).trans rfl
  have hc1 := (blk_cell hb 1).trans rfl
  obtain ⟨ad, e1, hx⟩ := Kd.at_int hr at_ h0 h1
  cases e1
  replace h0 := eq_true h0
  replace h1 := eq_true h1
  clear hb
  go_enter Try.func45, Try.ntmps45
  go_wp2
  repeat (go_quiet (fail); try go_wp2)
  go_ret
  exact ⟨rfl, _, rfl⟩
theorem q_push (w0 w : World) (base g : Nat) (v : Value) (l : List Int) (at_ : Int) (A2 : Option Addr) (ys : List Int) (c2 : Nat) (hb : w.heap[g]? = some (.cells #[v, .int .i64 at_] 75 (0, 0))) (ho : Kd.R (Kd.int .i64) 3 w base (fun k => k ≠ g) v l) (hr : Kd.C (Kd.int .i64) w A2 ys.length ys) (hB : Below base w0 w) (hg : base ≤ g) (hs : base ≤ w.heap.size) (hl : (l.length + ys.length) * 8 ≤ 140737488355328) :
    Calls Try.prog 47 #[.pointer (some ⟨g, 0, none⟩), .slice A2 ys.length c2] w fun e w' => e = .returned (.tuple #[]) ∧ ∃ v', w'.heap[g]? = some (.cells #[v', .int .i64 at_] 75 (0, 0)) ∧ Kd.R (Kd.int .i64) 3 w' base (fun k => k ≠ g) v' (l ++ ys) ∧ Below base w0 w' ∧ (∀ k o, w.heap[k]? = some o → k ≠ g → some k ≠ v.ownBlock → w'.heap[k]? = some o) := by
  obtain ⟨A, c, rfl⟩ := Kd.R_slice ho
  have hne : some g ≠ (Value.slice A l.length c).ownBlock := Kd.R_ne ho hb (by decide)
  have HO := Aside0.mk ho
  have HR := Aside0.mk hr
  have HB := Aside0.mk hB
  have HK := Aside0.mk hb
  have HN := Aside0.mk hne
  have HS := Aside0.mk hs
  have HG := Aside0.mk hg
  have HL := Aside0.mk hl
  have hc0 := (blk_cell hb 0).trans rfl
  have hlt := Aside0.mk (blk_lt hb)
  clear hb ho hr hB hne hs hg hl
  go_enter Try.func47, Try.ntmps47
  go_wp2_with (first | ((with_reducible refine gate_builtin (b := .append) (xs := #[.tmp 8, .tmp 9]) rfl ?_); at_builtin; refine Kd.R_append_rows (Kd.int .i64) (w0 := w0) base rfl (.tmp 8) (.tmp 9) 26 3 (.int .i64 0) 8 rfl Try.underlying26 info3 rfl (by decide) (by omega) (.slice A l.length c) l ys _ _ _ (fun k => k ≠ g) (fun _ => False) rfl rfl ?aO ?aR (fun _ _ h => h) (fun _ h => h.elim) (fun k hk => by have := hlt.out; omega) ?aB ?aS ?aL ?_; (case aO => exact HO.out); (case aR => exact HR.out); (case aB => exact HB.out); (case aS => exact HS.out); (case aL => exact HL.out); intro v1 w1 ho1 hb1 hg1 hat; obtain ⟨A1, c1, rfl⟩ := Kd.R_slice ho1; rw [List.length_append] at ho1; have HO1 := Aside0.mk ho1; have HB1 := Aside0.mk hb1; have HG1 := Aside0.mk hg1; have HK1 := Aside0.mk (blk_grown HK.out hg1 HN.out); have hz1 := (blk_cell HK1.out 0).trans rfl; have hf1 := blk_frozen HK1.out 0; clear ho1 hb1 hg1 hat))
  refine bodyPost_end (results_none rfl _ _ _) rfl ?_
  refine ⟨rfl, .slice A1 (l.length + ys.length) c1, by simpa using blk_set HK1.out 0 (.slice A1 (l.length + ys.length) c1), Kd.R_far HO1.out (fun k hk => hk) _, HB1.out.setCell HG.out _, ?_⟩
  intro k o hk hkg hkv
  exact (Below.heap_setCell w1 ⟨g, 0, none⟩ _ k (fun e => hkg (by rw [e]))).trans (blk_grown hk HG1.out hkv)
theorem q_cut (A : Option Addr) (c : Nat) (xs : List Int) (m : Nat) (hm : m ≤ xs.length) (hc : xs.length ≤ c) :
    ∃ A' : Option Addr, (∀ W : World, (Instr.slice 26 (.slice A xs.length c) (some (.int .i64 (m : Int))) none none).run Try.prog W = .ok (.slice A' (xs.drop m).length (c - m)) W) ∧
      (∀ w : World, Kd.C (Kd.int .i64) w A xs.length xs → Kd.C (Kd.int .i64) w A' (xs.drop m).length (xs.drop m)) ∧ (xs.drop m).length ≤ c - m := by
  obtain ⟨i3, hi3, hz3⟩ := Option.map_eq_some_iff.1 info3
  have hs3 : i3.size = 1 := congrArg (fun p => p.2.1) hz3
  refine ⟨if c = m then A else A.map (·.add (m * (Kd.int .i64).sz)), fun W => ?_, fun w h => Kd.C_drop h hm hc, by rw [List.length_drop]; omega⟩
  have hel : Try.prog.elem 26 = 3 := by simp [Program.elem, Try.underlying26]
  have hu : Try.prog.underlying 26 = some (.slice (Try.prog.elem 26)) := by rw [hel]; exact Try.underlying26
  rw [run_slice_l W 26 A xs.length c hu .i64 (m : Int) (Int.natCast_nonneg _) (by omega), hel, List.length_drop]
  have hz : (Kd.int .i64).sz = 1 := rfl
  simp [sizeOf, typeInfo, hi3, hs3, sliced, Result.andThen, hz]
theorem q_clone (A' : Option Addr) (c' : Nat) (l : List Int) (e : Nat) (W : World) (h : Kd.C (Kd.int .i64) W A' (l.drop e).length (l.drop e)) (hc : (l.drop e).length ≤ c') (hl : l.length < 17592186044416) :
    Calls Try.prog 43 #[.slice A' (l.length - e) c'] W fun e_ w' => ∃ v0_ : Value, e_ = .returned (v0_) ∧ Kd.R (Kd.int .i64) 3 w' W.heap.size (fun _ => True) v0_ (l.drop e) ∧ Below W.heap.size W w' := by
  have := slices_Clone_int_int.calls A' c' (l.drop e) (l.drop e) W h hc (by unfold slices_Clone_int_int.f; rw [if_pos (by rw [List.length_drop]; omega)])
  rwa [List.length_drop] at this
theorem q_list (w : World) (g : Nat) (A : Option Addr) (c m : Nat) (xs : List Int) (hb : w.heap[g]? = some (.cells #[.slice A xs.length c, .int .i64 (m : Int)] 75 (0, 0))) (hc : xs.length ≤ c) (hr : Kd.C (Kd.int .i64) w A xs.length xs) (hm : m ≤ xs.length) (hlim : xs.length < 17592186044416) :
    Calls Try.prog 46 #[.pointer (some ⟨g, 0, none⟩)] w fun e w' => ∃ v, e = .returned v ∧ Kd.R (Kd.int .i64) 3 w' w.heap.size (fun _ => True) v (xs.drop m) ∧ Below w.heap.size w w' := by
  have hc0 := (blk_cell hb 0).trans rfl
  have hc1 := (blk_cell hb 1).trans rfl
  clear hb
  have HR := Aside0.mk hr
  have HL := Aside0.mk hlim
  clear hr hlim
  obtain ⟨A', hcut, hrd, hcp⟩ := q_cut A c xs m hm hc
  have HCL := Aside0.mk (fun W (hB : Below w.heap.size w W) => slices_Clone_int_int.calls A' (c - m) (xs.drop m) (xs.drop m) W (Kd.C_below (hrd w HR.out) hB) hcp (by unfold slices_Clone_int_int.f; rw [if_pos (by have := HL.out; rw [List.length_drop]; omega)]))
  clear hrd hcp
  obtain ⟨n', hn'⟩ : ∃ n', n' = (xs.drop m).length := ⟨_, rfl⟩
  rw [← hn'] at HCL hcut
  clear hn' hm hc
  go_enter Try.func46, Try.ntmps46
  go_wp2
  go_region_held3 (fun w' => w'.cell? ⟨g, 0, none⟩ = some (.slice A xs.length c) ∧ w'.cell? ⟨g, 1, none⟩ = some (.int .i64 (m : Int)))
    (first | go_keep | (refine ⟨(hB2.cell (World.block_lt_of_cell? _ _ hc0)).trans hc0, (hB2.cell (World.block_lt_of_cell? _ _ hc1)).trans hc1⟩))
    ((go_at_call 43; refine (HCL.out _ (pw_below_drewN (Below.refl _ _) _)).mono ?_; rintro e w2 ⟨v0, rfl, hR2, hB2⟩; obtain ⟨A9, c9, rfl⟩ := Kd.R_slice hR2))
  rw [List.length_drop] at hR2
  go_wp2
  go_ret
  exact ⟨_, rfl, hR2, below_then (pw_below_drewN (Below.refl _ _) _) (Nat.le_refl _) hB2⟩
theorem q_drop (w0 w : World) (base g : Nat) (v : Value) (l : List Int) (m d : Nat) (hb : w.heap[g]? = some (.cells #[v, .int .i64 (m : Int)] 75 (0, 0))) (ho : Kd.R (Kd.int .i64) 3 w base (fun k => k ≠ g) v l) (hB : Below base w0 w) (hg : base ≤ g) (hs : base ≤ w.heap.size) (hm : m + d ≤ l.length) (hl : l.length < 17592186044416) :
    Calls Try.prog 48 #[.pointer (some ⟨g, 0, none⟩), .int .i64 (d : Int)] w fun e w' => e = .returned (.tuple #[]) ∧ ∃ v' l' m', w'.heap[g]? = some (.cells #[v', .int .i64 ((m' : Nat) : Int)] 75 (0, 0)) ∧ Kd.R (Kd.int .i64) 3 w' base (fun k => k ≠ g) v' l' ∧ l'.drop m' = l.drop (m + d) ∧ m' ≤ l'.length ∧ l'.length ≤ l.length ∧ Below base w0 w' ∧ (∀ k o, w.heap[k]? = some o → k ≠ g → w'.heap[k]? = some o) := by
  obtain ⟨A, c, rfl⟩ := Kd.R_slice ho
  have HO := Aside0.mk ho
  have HB := Aside0.mk hB
  have HK := Aside0.mk hb
  have HS := Aside0.mk hs
  have HG := Aside0.mk hg
  have HL := Aside0.mk hl
  have HM := Aside0.mk hm
  have hc0 := (blk_cell hb 0).trans rfl
  have hc1 := (blk_cell hb 1).trans rfl
  have hf1 := blk_frozen hb 1
  obtain ⟨e, he⟩ : ∃ e : Nat, e = m + d := ⟨_, rfl⟩
  have hw : wrap64 ((m : Int) + (d : Int)) = (e : Int) := by unfold wrap64; omega
  rw [← he] at HM ⊢
  clear he
  clear hb ho hB hs hg hl hm
  go_enter Try.func48, Try.ntmps48
  go_wp2
  rw [hw]
  obtain ⟨W1, hW1⟩ : ∃ W : World, W = w.setCell ⟨g, 1, none⟩ (.int .i64 (e : Int)) := ⟨_, rfl⟩
  have hK1 : W1.heap[g]? = some (.cells #[.slice A l.length c, .int .i64 (e : Int)] 75 (0, 0)) := by rw [hW1]; simpa using blk_set HK.out 1 (.int .i64 (e : Int))
  have hk1 : ∀ k o, w.heap[k]? = some o → k ≠ g → W1.heap[k]? = some o := by
    intro k o hk hkg
    rw [hW1]
    exact (Below.heap_setCell w ⟨g, 1, none⟩ _ k hkg).trans hk
  have hO1 : Kd.R (Kd.int .i64) 3 W1 base (fun k => k ≠ g) (.slice A l.length c) l := by rw [hW1]; exact Kd.R_far HO.out (fun k hk => hk) _
  have hB1 : Below base w0 W1 := by rw [hW1]; exact HB.out.setCell HG.out _
  have hS1 : base ≤ W1.heap.size := by rw [hW1]; simpa using HS.out
  rw [← hW1]
  clear hW1
  have HO1 := Aside0.mk hO1
  have HK1 := Aside0.mk hK1
  have HB1 := Aside0.mk hB1
  have Hk1 := Aside0.mk hk1
  have HS1 := Aside0.mk hS1
  clear hO1 hB1 hk1 hS1 HO HK HB HS hc0 hc1 hf1 hw
  have hz0 := (blk_cell hK1 0).trans rfl
  have hz1 := (blk_cell hK1 1).trans rfl
  clear hK1
  obtain ⟨q, hq⟩ : ∃ q : Int, IntKind.i64.wrap ((l.length : Int) / 2) = q := ⟨_, rfl⟩
  by_cases c1 : q < (e : Int)
  · replace c1 := eq_true c1
    by_cases c2 : (1000 : Int) < (e : Int)
    · replace c2 := eq_true c2
      have c3 := eq_true (show decide (q < (e : Int)) = true by simp [c1])
      have hf0 := blk_frozen HK1.out 0
      have hf1 := blk_frozen HK1.out 1
      obtain ⟨A', hcut, hrd, hcp⟩ := q_cut A c l e HM.out (Kd.R_reads' HO1.out).2.1
      have HCL := Aside0.mk (fun W (hB : Below W1.heap.size W1 W) => q_clone A' (c - e) l e W (Kd.C_below (hrd W1 (Kd.R_reads' HO1.out).2.2) hB) hcp HL.out)
      clear hrd hcp
      rw [List.length_drop] at hcut
      go_quiet (fail)
      go_wp2
      have hKd := Aside0.mk (blk_drew (show (W1.drewN nq).heap[g]? = _ from HK1.out))
      have hBd := Aside0.mk (pw_below_drewN (Below.refl W1.heap.size W1) nq)
      refine start_ (n := 18) (S := fun w' => w'.cell? ⟨g, 0, none⟩ = some (.slice A l.length c) ∧ w'.cell? ⟨g, 1, none⟩ = some (.int .i64 (e : Int))) (ds := [14, 17]) #[false, false, false, false, false, false, false, false, false, false, false, false, false, false, false, false, false, false] (by kernel_rfl) rfl rfl ⟨(blk_cell hKd.out 0).trans rfl, (blk_cell hKd.out 1).trans rfl⟩ (fun hHeld => ?_)
      refine pure_ (i := 0) (N := some 30) (v := ?_) (a' := ?_) #[true, false, false, false, false, false, false, false, false, false, false, false, false, false, false, false, false, false] rfl rfl (by kernel_rfl) (fun _ _ _ h => h) (Or.inl ⟨by rfl, ?_⟩) ?_ ?_
      rotate_left
      ·intro w'
       go_simp
       with_reducible rfl
      rotate_left
      ·simp only [Act.put, sa_, sz_, ss_, i64_w, i32_w]
       rfl
      refine pure_ (i := 1) (N := some 31) (v := ?_) (a' := ?_) #[true, true, false, false, false, false, false, false, false, false, false, false, false, false, false, false, false, false] rfl rfl (by kernel_rfl) (fun _ _ _ h => h) (Or.inl ⟨by rfl, ?_⟩) ?_ ?_
      rotate_left
      ·intro w'
       go_simp
       with_reducible rfl
      rotate_left
      ·simp only [Act.put, sa_, sz_, ss_, i64_w, i32_w]
       rfl
      refine pure_ (i := 2) (N := some 32) (v := ?_) (a' := ?_) #[true, true, true, false, false, false, false, false, false, false, false, false, false, false, false, false, false, false] rfl rfl (by kernel_rfl) (fun _ _ _ h => h) (Or.inl ⟨by rfl, ?_⟩) ?_ ?_
      rotate_left
      ·intro w'
       go_simp
       with_reducible rfl
      rotate_left
      ·simp only [Act.put, sa_, sz_, ss_, i64_w, i32_w]
       rfl
      refine pure_ (i := 3) (N := some 33) (v := ?_) (a' := ?_) #[true, true, true, true, false, false, false, false, false, false, false, false, false, false, false, false, false, false] rfl rfl (by kernel_rfl) (fun _ _ _ h => h) (Or.inl ⟨by rfl, ?_⟩) ?_ ?_
      rotate_left
      ·intro w'
       go_simp
       with_reducible rfl
      rotate_left
      ·simp only [Act.put, sa_, sz_, ss_, i64_w, i32_w]
       rfl
      refine pure_ (i := 4) (N := some 34) (v := ?_) (a' := ?_) #[true, true, true, true, true, false, false, false, false, false, false, false, false, false, false, false, false, false] rfl rfl (by kernel_rfl) (fun _ _ _ h => h) (Or.inl ⟨by rfl, ?_⟩) ?_ ?_
      rotate_left
      ·intro w'
       go_simp
       with_reducible rfl
      rotate_left
      ·simp only [Act.put, sa_, sz_, ss_, i64_w, i32_w]
       rfl
      refine take_ (i := 5) (N := some 35) (v := ?_) (a' := ?_) #[true, true, true, true, true, true, false, false, false, false, false, false, false, false, false, false, false, false] rfl rfl (by kernel_rfl) (fun _ _ _ h => h) (Or.inl ⟨by rfl, ?_⟩) hHeld ?_ ?_
      rotate_left
      ·rintro w' ⟨s0, s1⟩
       go_simp
       with_reducible rfl
      rotate_left
      ·simp only [Act.put, sa_, sz_, ss_, i64_w, i32_w]
       rfl
      refine pure_ (i := 6) (N := some 36) (v := ?_) (a' := ?_) #[true, true, true, true, true, true, true, false, false, false, false, false, false, false, false, false, false, false] rfl rfl (by kernel_rfl) (fun _ _ _ h => h) (Or.inl ⟨by rfl, ?_⟩) ?_ ?_
      rotate_left
      ·intro w'
       go_simp
       with_reducible rfl
      rotate_left
      ·simp only [Act.put, sa_, sz_, ss_, i64_w, i32_w]
       rfl
      refine pure_ (i := 7) (N := some 37) (v := ?_) (a' := ?_) #[true, true, true, true, true, true, true, true, false, false, false, false, false, false, false, false, false, false] rfl rfl (by kernel_rfl) (fun _ _ _ h => h) (Or.inl ⟨by rfl, ?_⟩) ?_ ?_
      rotate_left
      ·intro w'
       go_simp
       with_reducible rfl
      rotate_left
      ·simp only [Act.put, sa_, sz_, ss_, i64_w, i32_w]
       rfl
      refine pure_ (i := 8) (N := some 38) (v := ?_) (a' := ?_) #[true, true, true, true, true, true, true, true, true, false, false, false, false, false, false, false, false, false] rfl rfl (by kernel_rfl) (fun _ _ _ h => h) (Or.inl ⟨by rfl, ?_⟩) ?_ ?_
      rotate_left
      ·intro w'
       go_simp
       with_reducible rfl
      rotate_left
      ·simp only [Act.put, sa_, sz_, ss_, i64_w, i32_w]
       rfl
      refine take_ (i := 9) (N := some 39) (v := ?_) (a' := ?_) #[true, true, true, true, true, true, true, true, true, true, false, false, false, false, false, false, false, false] rfl rfl (by kernel_rfl) (fun _ _ _ h => h) (Or.inl ⟨by rfl, ?_⟩) hHeld ?_ ?_
      rotate_left
      ·rintro w' ⟨s0, s1⟩
       go_simp
       with_reducible rfl
      rotate_left
      ·simp only [Act.put, sa_, sz_, ss_, i64_w, i32_w]
       rfl
      refine pure_ (i := 10) (N := some 40) (v := ?_) (a' := ?_) #[true, true, true, true, true, true, true, true, true, true, true, false, false, false, false, false, false, false] rfl rfl (by kernel_rfl) (fun _ _ _ h => h) (Or.inl ⟨by rfl, ?_⟩) ?_ ?_
      rotate_left
      ·intro w'
       go_simp
       with_reducible rfl
      rotate_left
      ·simp only [Act.put, sa_, sz_, ss_, i64_w, i32_w]
       rfl
      refine one_ (i := 11) (N := some 41) #[true, true, true, true, true, true, true, true, true, true, true, true, false, false, false, false, false, false] rfl rfl (by kernel_rfl) (by decide) (fun K hK => ?_)
      refine goes_ Try.func43 (by kernel_rfl) rfl #[.slice A' (l.length - e) (c - e)] (by rfl) rfl rfl (by first | rfl | (simp only [List.map_toArray, List.map_cons, List.map_nil]; rfl) | (simp [Act.eval]; done)) ?_
      refine (HCL.out _ (below_drew hBd.out)).mono ?_
      rintro e2 w2 ⟨v0, rfl, hR2, hB2⟩
      refine ⟨_, rfl, ?_⟩
      obtain ⟨A9, c9, rfl⟩ := Kd.R_slice hR2
      rw [List.length_drop] at hR2
      have hK2 := Aside0.mk (blk_below hKd.out hB2)
      have HR2 := Aside0.mk hR2
      have HB2 := Aside0.mk hB2
      clear hR2 hB2
      rw [List.length_drop]
      refine hK.out _ _ ⟨(blk_cell hK2.out 0).trans rfl, (blk_cell hK2.out 1).trans rfl⟩ (fun hHeld => ?_)
      clear hK K
      refine norm_ (a' := ?_) ?_ ?_
      rotate_left
      ·show Act.put _ (some 41) _ = _
       simp only [Act.put, sa_, sz_, ss_, i64_w, i32_w]
       rfl
      refine pure_ (i := 12) (N := some 42) (v := ?_) (a' := ?_) #[true, true, true, true, true, true, true, true, true, true, true, true, true, false, false, false, false, false] rfl rfl (by kernel_rfl) (fun _ _ _ h => h) (Or.inl ⟨by rfl, ?_⟩) ?_ ?_
      rotate_left
      ·intro w'
       go_simp
       with_reducible rfl
      rotate_left
      ·simp only [Act.put, sa_, sz_, ss_, i64_w, i32_w]
       rfl
      refine pure_ (i := 13) (N := some 43) (v := ?_) (a' := ?_) #[true, true, true, true, true, true, true, true, true, true, true, true, true, true, false, false, false, false] rfl rfl (by kernel_rfl) (fun _ _ _ h => h) (Or.inl ⟨by rfl, ?_⟩) ?_ ?_
      rotate_left
      ·intro w'
       go_simp
       with_reducible rfl
      rotate_left
      ·simp only [Act.put, sa_, sz_, ss_, i64_w, i32_w]
       rfl
      refine last_ (i := 14) (N := none) #[true, true, true, true, true, true, true, true, true, true, true, true, true, true, true, false, false, false] rfl rfl (by kernel_rfl) (by decide) (fun K hK => ?_)
      have hy0 := (blk_cell hK2.out 0).trans rfl
      have hyf0 := blk_frozen hK2.out 0
      refine skip_ (w1 := ?_) (by rfl) rfl ?_ ?_
      rotate_left
      ·go_simp
       rfl
      refine hK.out _ _ ?_
      clear hK K
      refine pure_ (i := 15) (N := some 44) (v := ?_) (a' := ?_) #[true, true, true, true, true, true, true, true, true, true, true, true, true, true, true, true, false, false] rfl rfl (by kernel_rfl) (fun _ _ _ h => h) (Or.inl ⟨by rfl, ?_⟩) ?_ ?_
      rotate_left
      ·intro w'
       go_simp
       with_reducible rfl
      rotate_left
      ·simp only [Act.put, sa_, sz_, ss_, i64_w, i32_w]
       rfl
      refine pure_ (i := 16) (N := some 45) (v := ?_) (a' := ?_) #[true, true, true, true, true, true, true, true, true, true, true, true, true, true, true, true, true, false] rfl rfl (by kernel_rfl) (fun _ _ _ h => h) (Or.inl ⟨by rfl, ?_⟩) ?_ ?_
      rotate_left
      ·intro w'
       go_simp
       with_reducible rfl
      rotate_left
      ·simp only [Act.put, sa_, sz_, ss_, i64_w, i32_w]
       rfl
      refine last_ (i := 17) (N := none) #[true, true, true, true, true, true, true, true, true, true, true, true, true, true, true, true, true, true] rfl rfl (by kernel_rfl) (by decide) (fun K hK => ?_)
      have hyf1 := blk_frozen hK2.out 1
      have hy1 := (blk_cell hK2.out 1).trans rfl
      refine skip_ (w1 := ?_) (by rfl) rfl ?_ ?_
      rotate_left
      ·go_simp
       rfl
      refine hK.out _ _ ?_
      clear hK K
      refine done_ (by kernel_rfl) ?_
      go_wp2
      refine bodyPost_end (results_none rfl _ _ _) rfl ?_
      have hsz := HS1.out
      refine ⟨rfl, .slice A9 (l.length - e) c9, l.drop e, 0, by simpa using blk_set (blk_set hK2.out 0 (.slice A9 (l.length - e) c9)) 1 (.int .i64 0), ?_, by simp, by simp, by simp, ?_, ?_⟩
      · have hlt : ∀ k, (Value.slice A9 (l.length - e) c9).ownBlock = some k → k ≠ g := by
          intro k hk
          have h1 := Kd.R_base HR2.out k hk
          have h2 : g < W1.heap.size := blk_lt HK1.out
          have h3 : ((W1.drewN nq).drew).heap.size = W1.heap.size := rfl
          omega
        refine Kd.R_lower (base := W1.heap.size) ?_ hsz
        exact Kd.R_far (Kd.R_far (Kd.R_of_own (h1 := fun _ => rfl) (Kd.own_of_R HR2.out) hlt) (fun k hk => hk) _) (fun k hk => hk) _
      · exact ((below_then (below_drew (pw_below_drewN HB1.out nq)) hsz HB2.out).setCell HG.out _).setCell HG.out _
      · intro k o hk hkg
        have h1 := blk_below (show ((W1.drewN nq).drew).heap[k]? = some o from Hk1.out k o hk hkg) HB2.out
        exact (Below.heap_setCell _ ⟨g, 1, none⟩ _ k hkg).trans ((Below.heap_setCell _ ⟨g, 0, none⟩ _ k hkg).trans h1)
    · replace c2 := eq_false c2
      go_quiet (fail)
      go_wp2
      refine bodyPost_end (results_none rfl _ _ _) rfl ?_
      exact ⟨rfl, .slice A l.length c, l, e, HK1.out, HO1.out, rfl, HM.out, Nat.le_refl _, pw_below_drewN HB1.out _, Hk1.out⟩
  · replace c1 := eq_false c1
    go_quiet (fail)
    go_wp2
    refine bodyPost_end (results_none rfl _ _ _) rfl ?_
    exact ⟨rfl, .slice A l.length c, l, e, HK1.out, HO1.out, rfl, HM.out, Nat.le_refl _, pw_below_drewN HB1.out _, Hk1.out⟩
theorem rd_drop0 (l : List Int) (m : Nat) : rd l (m : Int) = rd (l.drop m) 0 := by
  simp [rd, List.getD_eq_getElem?_getD, List.getElem?_drop]

-- tag_queue_int_push: told with list

-- tag_queue_int_drop: told with list

end Go.Proofs.Ytkinnaegedbanaa.PTagRuns
