-- out of a turned copy of the print, by a program of this session; Lean checks it
import Derived.Test.YtdkcociababjdaaPLeapLongx0
import Derived.Test.YtdkcociababjdaaPLeapLongx4
namespace Go.Proofs.Ytdkcociababjdaa.PLeapLong
open Go.RowKit Go.Proofs.YtdkcociababjdaaW.PrintWords Go.Proofs.YtdkcociababjdaaW.PrintLast Go.Proofs.YtdkcociababjdaaW.PrintMore
attribute [local go_sem] max2_int min2_int max_two min_two max_three min_three max_four min_four   -- for this text's walks alone
set_option linter.unusedVariables false
set_option linter.unusedSimpArgs false

attribute [local go_sem] isSome_put_
/-! ### tape_Valid: function 39 -/
mutual
def tape_Valid.j0 : Nat → Bool → Int → Int → List (List (S37)) → Option (Bool)
 | 0, _, _, _, _ => none
 | k + 1, x32, x143000, x143001, x143002 => if x32 = true then (some false) else (tape_Valid.l0 k x143002 (x143002.length : Int) 0 x143000 x143001 x143002)
def tape_Valid.l0 : Nat → List (List (S37)) → Int → Int → Int → Int → List (List (S37)) → Option (Bool)
 | 0, _, _, _, _, _, _ => none
 | k + 1, x34, x35, x36, x143000, x143001, x143002 => if x36 < x35 then (if 0 ≤ x36 then (if x36 < (x34.length : Int) then (if ((rd_L2 x34 x36).length : Int) = x143001 then (tape_Valid.l1 k x34 x35 x36 (rd_L2 x34 x36) ((rd_L2 x34 x36).length : Int) 0 x143000 x143001 x143002) else (some false)) else (none)) else (none)) else (some true)
def tape_Valid.l1 : Nat → List (List (S37)) → Int → Int → List (S37) → Int → Int → Int → Int → List (List (S37)) → Option (Bool)
 | 0, _, _, _, _, _, _, _, _, _ => none
 | k + 1, x34, x35, x36, x45, x46, x47, x143000, x143001, x143002 => if x47 < x46 then (if 0 ≤ x47 then (if x47 < (x45.length : Int) then (if ((rd_T37 x45 x47).f0) < 0 then (some false) else (if ((rd_T37 x45 x47).f0) ≥ x143001 then (some false) else (if ((rd_T37 x45 x47).f1) = (-1) then (if ((rd_T37 x45 x47).f2) < (-1) then (some false) else (if ((rd_T37 x45 x47).f2) ≥ x143000 then (some false) else (tape_Valid.l1 k x34 x35 x36 x45 x46 (wrap64 (x47 + 1)) x143000 x143001 x143002))) else (if ((rd_T37 x45 x47).f1) = 1 then (if ((rd_T37 x45 x47).f2) < (-1) then (some false) else (if ((rd_T37 x45 x47).f2) ≥ x143000 then (some false) else (tape_Valid.l1 k x34 x35 x36 x45 x46 (wrap64 (x47 + 1)) x143000 x143001 x143002))) else (some false))))) else (none)) else (none)) else (tape_Valid.l0 k x34 x35 (wrap64 (x36 + 1)) x143000 x143001 x143002)
end
def tape_Valid.f (k : Nat) (a0_0 : Int) (a0_1 : Int) (l0_2 : List (List (S37))) : Option (Bool) := if a0_0 < 1 then (tape_Valid.j0 k true a0_0 a0_1 l0_2) else (if a0_0 > 6 then (tape_Valid.j0 k true a0_0 a0_1 l0_2) else (if a0_1 < 2 then (tape_Valid.j0 k true a0_0 a0_1 l0_2) else (if a0_1 > 4 then (tape_Valid.j0 k true a0_0 a0_1 l0_2) else (tape_Valid.j0 k ((l0_2.length : Int) != a0_0) a0_0 a0_1 l0_2))))
theorem tape_Valid.mono_l : ∀ k, (∀ y0 y1 y2 y3, LeO (tape_Valid.j0 k y0 y1 y2 y3) (tape_Valid.j0 (k + 1) y0 y1 y2 y3)) ∧ (∀ y0 y1 y2 y3 y4 y5, LeO (tape_Valid.l0 k y0 y1 y2 y3 y4 y5) (tape_Valid.l0 (k + 1) y0 y1 y2 y3 y4 y5)) ∧ (∀ y0 y1 y2 y3 y4 y5 y6 y7 y8, LeO (tape_Valid.l1 k y0 y1 y2 y3 y4 y5 y6 y7 y8) (tape_Valid.l1 (k + 1) y0 y1 y2 y3 y4 y5 y6 y7 y8))
 | 0 => ⟨fun _ _ _ _ r h => by simp [tape_Valid.j0] at h, fun _ _ _ _ _ _ r h => by simp [tape_Valid.l0] at h, fun _ _ _ _ _ _ _ _ _ r h => by simp [tape_Valid.l1] at h⟩
 | k + 1 => by
  obtain ⟨ih0, ih1, ih2⟩ := tape_Valid.mono_l k
  refine ⟨?_, ?_, ?_⟩
  ·intro y0 y1 y2 y3
   unfold tape_Valid.j0
   repeat' first
   | (with_reducible exact ih0 _ _ _ _)
   | (with_reducible exact ih1 _ _ _ _ _ _)
   | (with_reducible exact ih2 _ _ _ _ _ _ _ _ _)
   | (with_reducible exact LeO.refl _)
   | (with_reducible exact LeO.none _)
   | (with_reducible refine LeO.ite ?_ ?_)
   | (with_reducible refine LeO.bind ?_ (fun _ => ?_))
   | exact ih0 _ _ _ _
   | exact ih1 _ _ _ _ _ _
   | exact ih2 _ _ _ _ _ _ _ _ _
   | exact LeO.none _
   | refine LeO.ite ?_ ?_
   | refine LeO.bind ?_ (fun _ => ?_)
  ·intro y0 y1 y2 y3 y4 y5
   unfold tape_Valid.l0
   repeat' first
   | (with_reducible exact ih0 _ _ _ _)
   | (with_reducible exact ih1 _ _ _ _ _ _)
   | (with_reducible exact ih2 _ _ _ _ _ _ _ _ _)
   | (with_reducible exact LeO.refl _)
   | (with_reducible exact LeO.none _)
   | (with_reducible refine LeO.ite ?_ ?_)
   | (with_reducible refine LeO.bind ?_ (fun _ => ?_))
   | exact ih0 _ _ _ _
   | exact ih1 _ _ _ _ _ _
   | exact ih2 _ _ _ _ _ _ _ _ _
   | exact LeO.none _
   | refine LeO.ite ?_ ?_
   | refine LeO.bind ?_ (fun _ => ?_)
  ·intro y0 y1 y2 y3 y4 y5 y6 y7 y8
   unfold tape_Valid.l1
   repeat' first
   | (with_reducible exact ih0 _ _ _ _)
   | (with_reducible exact ih1 _ _ _ _ _ _)
   | (with_reducible exact ih2 _ _ _ _ _ _ _ _ _)
   | (with_reducible exact LeO.refl _)
   | (with_reducible exact LeO.none _)
   | (with_reducible refine LeO.ite ?_ ?_)
   | (with_reducible refine LeO.bind ?_ (fun _ => ?_))
   | exact ih0 _ _ _ _
   | exact ih1 _ _ _ _ _ _
   | exact ih2 _ _ _ _ _ _ _ _ _
   | exact LeO.none _
   | refine LeO.ite ?_ ?_
   | refine LeO.bind ?_ (fun _ => ?_)
theorem tape_Valid.mono : ∀ a0 a1 a2 k, LeO (tape_Valid.f k a0 a1 a2) (tape_Valid.f (k + 1) a0 a1 a2) := by
 intro a0 a1 a2 k
 obtain ⟨ih0, ih1, ih2⟩ := tape_Valid.mono_l k
 unfold tape_Valid.f
 repeat' first
   | (with_reducible exact ih0 _ _ _ _)
   | (with_reducible exact ih1 _ _ _ _ _ _)
   | (with_reducible exact ih2 _ _ _ _ _ _ _ _ _)
   | (with_reducible exact LeO.refl _)
   | (with_reducible exact LeO.none _)
   | (with_reducible refine LeO.ite ?_ ?_)
   | (with_reducible refine LeO.bind ?_ (fun _ => ?_))
   | exact ih0 _ _ _ _
   | exact ih1 _ _ _ _ _ _
   | exact ih2 _ _ _ _ _ _ _ _ _
   | exact LeO.none _
   | refine LeO.ite ?_ ?_
   | refine LeO.bind ?_ (fun _ => ?_)
set_option maxHeartbeats 8000000 in
set_option maxRecDepth 100000 in
theorem tape_Valid.calls (k : Nat) (a0_0 : Int) (a0_1 : Int) (A0_2 : Option Addr) (c0_2 : Nat) (l0_2 : List (List (S37))) (r : Bool) (w : World) (hr0_2 : Kd.C (Kd.slice 37 k37) w A0_2 l0_2.length l0_2) (hc0_2 : l0_2.length ≤ c0_2) (h : tape_Valid.f k a0_0 a0_1 l0_2 = some r) :
  Calls Try.prog 39 #[.agg #[.int .i64 a0_0, .int .i64 a0_1, .slice A0_2 l0_2.length c0_2]] w fun e w' => e = .returned (.bool r) ∧ Below w.heap.size w w' := by
 have hu24 := Try.underlying24
 have hu37 := Try.underlying37
 have HR0_2 := Aside0.mk hr0_2
 have HC0_2 := Aside0.mk hc0_2
 clear hr0_2 hc0_2
 have HB := A_ (Below.refl w.heap.size w)
 have H : (if a0_0 < 1 then (tape_Valid.j0 k true a0_0 a0_1 l0_2) else (if a0_0 > 6 then (tape_Valid.j0 k true a0_0 a0_1 l0_2) else (if a0_1 < 2 then (tape_Valid.j0 k true a0_0 a0_1 l0_2) else (if a0_1 > 4 then (tape_Valid.j0 k true a0_0 a0_1 l0_2) else (tape_Valid.j0 k ((l0_2.length : Int) != a0_0) a0_0 a0_1 l0_2))))) = some r := h
 clear h
 have HC2 := Aside0.mk H
 clear H
 go_enter Try.func39, Try.ntmps39
 go_upto_region 1 with (first | ((with_reducible refine gate_dst (N := 1) rfl ?_); (try (refine gate_guard (by rfl) ?_; dsimp only)); refine box_event ?hg (N := 1) ?hd (cs := #[.int .i64 a0_0, .int .i64 a0_1, .slice A0_2 l0_2.length c0_2]) (t := 24) ?hr ?_; (case hd => rfl); (case hg => rfl); (case hr => first | (go_simp; done) | (go_simp; rfl)); intro gb142 hg w3 hbox hb; have n0_ := A_ (below_step (bk_ HB.out) hb); have n1_ := A_ (hbox); have n2_ := A_ (bz_ hg (bk_ HB.out)); have n3_ := A_ (bz_ hg (bk_ HB.out)); clear HB; have HB := n0_; have BK142 := n1_; have GW142 := n2_; have GE142 := n3_; clear n0_ n1_ n2_ n3_ hb hbox hg))
 (try simp only [Act.put, List.setIfInBounds_toArray, List.set_cons_zero, List.set_cons_succ])
 go_cut [32] (fun v32 wc => ∃ (kq : Nat) (x32_1 : Bool), v32 = .bool x32_1 ∧ Aside0 (tape_Valid.j0 kq x32_1 a0_0 a0_1 l0_2 = some r) ∧ Aside0 (kq ≤ k) ∧ Aside0 (wc.heap[gb142]? = some (.cells #[.int .i64 a0_0, .int .i64 a0_1, (.slice A0_2 l0_2.length c0_2)] 24 (0, 0))) ∧ Aside0 (Below w.heap.size w wc))
 case first =>
  have H := HC2.out
  clear HC2
  by_cases c4 : a0_0 < 1
  ·rw [if_pos c4] at H
   have c4b0 : decide (a0_0 < 1) = true := decide_eq_true c4
   clear c4
   (first | rw [c4b0] | (simp only [i64_w, i32_w]; rw [c4b0]) | skip)
   have H' := Aside0.mk H
   clear H
   obtain ⟨hcz5_0, hcz5_1, hcz5_2⟩ := bc3_ BK142.out
   have hfz5_0 := blk_frozen BK142.out 0
   have hfz5_1 := blk_frozen BK142.out 1
   have hfz5_2 := blk_frozen BK142.out 2
   go_wp2
   go_meet
   case rel => exact ⟨_, (true), jr_, H', ⟨by first | omega | exact Nat.le_refl _⟩, ⟨pk_ BK142.out⟩, ⟨bk_ HB.out⟩⟩
  ·rw [if_neg c4] at H
   have c4b0 : decide (a0_0 < 1) = false := decide_eq_false c4
   clear c4
   (first | rw [c4b0] | (simp only [i64_w, i32_w]; rw [c4b0]) | skip)
   by_cases c6 : a0_0 > 6
   ·rw [if_pos c6] at H
    have c6b0 : decide (6 < a0_0) = true := decide_eq_true c6
    clear c6
    have H' := Aside0.mk H
    clear H
    obtain ⟨hcz7_0, hcz7_1, hcz7_2⟩ := bc3_ BK142.out
    have hfz7_0 := blk_frozen BK142.out 0
    have hfz7_1 := blk_frozen BK142.out 1
    have hfz7_2 := blk_frozen BK142.out 2
    go_wp2
    go_meet
    case rel => exact ⟨_, (true), jr_, H', ⟨by first | omega | exact Nat.le_refl _⟩, ⟨pk_ BK142.out⟩, ⟨bk_ HB.out⟩⟩
   ·rw [if_neg c6] at H
    have c6b0 : decide (6 < a0_0) = false := decide_eq_false c6
    clear c6
    by_cases c8 : a0_1 < 2
    ·rw [if_pos c8] at H
     have c8b0 : decide (a0_1 < 2) = true := decide_eq_true c8
     clear c8
     have H' := Aside0.mk H
     clear H
     obtain ⟨hcz9_0, hcz9_1, hcz9_2⟩ := bc3_ BK142.out
     have hfz9_0 := blk_frozen BK142.out 0
     have hfz9_1 := blk_frozen BK142.out 1
     have hfz9_2 := blk_frozen BK142.out 2
     go_wp2
     go_meet
     case rel => exact ⟨_, (true), jr_, H', ⟨by first | omega | exact Nat.le_refl _⟩, ⟨pk_ BK142.out⟩, ⟨bk_ HB.out⟩⟩
    ·rw [if_neg c8] at H
     have c8b0 : decide (a0_1 < 2) = false := decide_eq_false c8
     clear c8
     by_cases c10 : a0_1 > 4
     ·rw [if_pos c10] at H
      have c10b0 : decide (4 < a0_1) = true := decide_eq_true c10
      clear c10
      have H' := Aside0.mk H
      clear H
      obtain ⟨hcz11_0, hcz11_1, hcz11_2⟩ := bc3_ BK142.out
      have hfz11_0 := blk_frozen BK142.out 0
      have hfz11_1 := blk_frozen BK142.out 1
      have hfz11_2 := blk_frozen BK142.out 2
      go_wp2
      go_meet
      case rel => exact ⟨_, (true), jr_, H', ⟨by first | omega | exact Nat.le_refl _⟩, ⟨pk_ BK142.out⟩, ⟨bk_ HB.out⟩⟩
     ·rw [if_neg c10] at H
      have c10b0 : decide (4 < a0_1) = false := decide_eq_false c10
      clear c10
      have H' := Aside0.mk H
      clear H
      obtain ⟨hcz12_0, hcz12_1, hcz12_2⟩ := bc3_ BK142.out
      have hfz12_0 := blk_frozen BK142.out 0
      have hfz12_1 := blk_frozen BK142.out 1
      have hfz12_2 := blk_frozen BK142.out 2
      go_wp2
      go_meet
      case rel => exact ⟨_, (((l0_2.length : Int) != a0_0)), jr_, H', ⟨by first | omega | exact Nat.le_refl _⟩, ⟨pk_ BK142.out⟩, ⟨bk_ HB.out⟩⟩
 case rest =>
  clear HC2
  obtain ⟨kq, x32_1, rfl, HA, HJ1, BK142, HB⟩ := hcut
  cases kq with
  | zero => exact absurd HA.out (by simp [tape_Valid.j0])
  | succ kj1 =>
   have H := HA.out
   clear HA
   simp only [tape_Valid.j0] at H
   by_cases c13 : x32_1 = true
   ·subst c13
    have H1 : (some false) = some r := by rw [if_pos rfl] at H; exact H
    clear H
    have H := H1
    clear H1
    obtain rfl := Option.some.inj H
    go_wp2
    go_ret
    exact ⟨er_, bk_ HB.out⟩
   ·replace c13 := Bool.eq_false_iff.mpr c13
    subst c13
    have H1 : (tape_Valid.l0 kj1 l0_2 (l0_2.length : Int) 0 a0_0 a0_1 l0_2) = some r := by rw [if_neg (show ¬ (false = true) by decide)] at H; exact H
    clear H
    have H := H1
    clear H1
    have H' := Aside0.mk H
    clear H
    obtain ⟨hcz14_0, hcz14_1, hcz14_2⟩ := bc3_ BK142.out
    have hfz14_0 := blk_frozen BK142.out 0
    have hfz14_1 := blk_frozen BK142.out 1
    have hfz14_2 := blk_frozen BK142.out 2
    go_wp2
    go_loopg [36] kj1 (fun kq v36 w' => ∃ (x36_2 : Int), v36 = .int .i64 x36_2 ∧ Aside0 (tape_Valid.l0 kq l0_2 (l0_2.length : Int) x36_2 a0_0 a0_1 l0_2 = some r) ∧ Aside0 (kq ≤ kj1) ∧ Aside0 (w'.heap[gb142]? = some (.cells #[.int .i64 a0_0, .int .i64 a0_1, (.slice A0_2 l0_2.length c0_2)] 24 (0, 0))) ∧ Aside0 (Below w.heap.size w w'))
    case atStart => exact ⟨(0), jr_, H', ⟨Nat.le_refl _⟩, ⟨pk_ BK142.out⟩, ⟨bk_ HB.out⟩⟩
    case round =>
     clear H'
     (try clear c13); (try clear hcz14_0); (try clear hcz14_1); (try clear hcz14_2); (try clear hfz14_0); (try clear hfz14_1); (try clear hfz14_2)
     obtain ⟨x36_2, rfl, HA, HK2, BK142, HB⟩ := hrel
     cases gk with
     | zero => exact absurd HA.out (by simp [tape_Valid.l0])
     | succ k2 =>
      have H := HA.out
      clear HA
      simp only [tape_Valid.l0] at H
      by_cases c15 : x36_2 < (l0_2.length : Int)
      ·rw [if_pos c15] at H
       have c15b0 : decide (x36_2 < (l0_2.length : Int)) = true := decide_eq_true c15
       clear c15
       by_cases c16 : 0 ≤ x36_2
       ·rw [if_pos c16] at H
        have c16b0 : decide (0 ≤ x36_2) = true := decide_eq_true c16
        clear c16
        by_cases c17 : x36_2 < (l0_2.length : Int)
        ·rw [if_pos c17] at H
         have c17b0 : decide (x36_2 < (l0_2.length : Int)) = true := decide_eq_true c17
         clear c17
         by_cases c18 : ((rd_L2 l0_2 x36_2).length : Int) = a0_1
         ·rw [if_pos c18] at H
          have c18b0 : (((rd_L2 l0_2 x36_2).length : Int) == a0_1) = true := beq_iff_eq.mpr c18
          have c18b1 : (((rd_L2 l0_2 x36_2).length : Int) != a0_1) = false := bne_eq_false_iff_eq.mpr c18
          clear c18
          have H' := Aside0.mk H
          clear H
          have p143 : 0 ≤ (x36_2 : Int) := od_
          have q143 : x36_2 < (l0_2.length : Int) := od_
          obtain ⟨ad143, A143_0, c143_0, e143, hx143_0, hl143_0, hi143_0⟩ := at_L2 HR0_2.out x36_2 p143 q143
          cases e143
          replace hx143_0 := lf_ HB.out hx143_0
          have HR143_0 := Aside0.mk hi143_0
          have HC143_0 := Aside0.mk hl143_0
          clear hi143_0 hl143_0
          replace p143 := eq_true p143
          replace q143 := eq_true q143
          obtain ⟨hcz19_0, hcz19_1, hcz19_2⟩ := bc3_ BK142.out
          have hfz19_0 := blk_frozen BK142.out 0
          have hfz19_1 := blk_frozen BK142.out 1
          have hfz19_2 := blk_frozen BK142.out 2
          go_wp2
          go_loopg [47] k2 (fun kq v47 w' => ∃ (x47_3 : Int), v47 = .int .i64 x47_3 ∧ Aside0 (tape_Valid.l1 kq l0_2 (l0_2.length : Int) x36_2 (rd_L2 l0_2 x36_2) ((rd_L2 l0_2 x36_2).length : Int) x47_3 a0_0 a0_1 l0_2 = some r) ∧ Aside0 (kq ≤ k2) ∧ Aside0 (w'.heap[gb142]? = some (.cells #[.int .i64 a0_0, .int .i64 a0_1, (.slice (some ad143) l0_2.length c0_2)] 24 (0, 0))) ∧ Aside0 (Below w.heap.size w w'))
          case atStart => exact ⟨(0), jr_, H', ⟨Nat.le_refl _⟩, ⟨pk_ BK142.out⟩, ⟨bk_ HB.out⟩⟩
          case round =>
           clear H'
           (try clear c13); (try clear c15); (try clear c15b0); (try clear c16); (try clear c16b0); (try clear c17); (try clear c17b0); (try clear c18); (try clear c18b0); (try clear c18b1); (try clear hcz14_0); (try clear hcz14_1); (try clear hcz14_2); (try clear hcz19_0); (try clear hcz19_1); (try clear hcz19_2); (try clear hfz14_0); (try clear hfz14_1); (try clear hfz14_2); (try clear hfz19_0); (try clear hfz19_1); (try clear hfz19_2); (try clear hx143_0); (try clear p143); (try clear q143)
           obtain ⟨x47_3, rfl, HA, HK3, BK142, HB⟩ := hrel
           cases gk with
           | zero => exact absurd HA.out (by simp [tape_Valid.l1])
           | succ k3 =>
            have H := HA.out
            clear HA
            simp only [tape_Valid.l1] at H
            by_cases c20 : x47_3 < ((rd_L2 l0_2 x36_2).length : Int)
            ·rw [if_pos c20] at H
             have c20b0 : decide (x47_3 < ((rd_L2 l0_2 x36_2).length : Int)) = true := decide_eq_true c20
             clear c20
             by_cases c21 : 0 ≤ x47_3
             ·rw [if_pos c21] at H
              have c21b0 : decide (0 ≤ x47_3) = true := decide_eq_true c21
              clear c21
              by_cases c22 : x47_3 < ((rd_L2 l0_2 x36_2).length : Int)
              ·rw [if_pos c22] at H
               have c22b0 : decide (x47_3 < ((rd_L2 l0_2 x36_2).length : Int)) = true := decide_eq_true c22
               clear c22
               by_cases c23 : ((rd_T37 (rd_L2 l0_2 x36_2) x47_3).f0) < 0
               ·rw [if_pos c23] at H
                have c23b0 : decide (((rd_T37 (rd_L2 l0_2 x36_2) x47_3).f0) < 0) = true := decide_eq_true c23
                clear c23
                obtain rfl := Option.some.inj H
                have p144 : 0 ≤ (x47_3 : Int) := od_
                have q144 : x47_3 < ((rd_L2 l0_2 x36_2).length : Int) := od_
                obtain ⟨ad144, e144, hx144_0, hx144_1, hx144_2⟩ := at_T37 HR143_0.out x47_3 p144 q144
                cases e144
                replace hx144_0 := lf_ HB.out hx144_0
                replace hx144_1 := lf_ HB.out hx144_1
                replace hx144_2 := lf_ HB.out hx144_2
                replace p144 := eq_true p144
                replace q144 := eq_true q144
                go_wp2_with (first | ((with_reducible refine gate_dst (N := 6) rfl ?_); (try (refine gate_guard (by rfl) ?_; dsimp only)); refine box_event ?hg (N := 6) ?hd (cs := #[.int .i64 0, .int .i64 0, .int .i64 0]) (t := 37) ?hr ?_; (case hd => rfl); (case hg => rfl); (case hr => first | (go_simp; done) | (go_simp; rfl)); intro gb145 hg w24 hbox hb; have n0_ := A_ (blk_below (pk_ BK142.out) hb); have n1_ := A_ (below_step (bk_ HB.out) hb); have n2_ := A_ (hbox); have n3_ := A_ (bz_ hg (bk_ HB.out)); have n4_ := A_ (bz_ hg (bk_ HB.out)); have n5_ := A_ (nl_ hg (pk_ BK142.out)); have n6_ := A_ (ng_ hg (pk_ BK142.out)); clear BK142 HB; have BK142 := n0_; have HB := n1_; have BK145 := n2_; have GW145 := n3_; have GE145 := n4_; have NB142_145 := n5_; have NB145_142 := n6_; clear n0_ n1_ n2_ n3_ n4_ n5_ n6_ hb hbox hg; have hnb25 := NB145_142.out; have hnc25 := NB142_145.out; obtain ⟨hcz26_0, hcz26_1, hcz26_2⟩ := bc3_ BK145.out; have hfz26_0 := blk_frozen BK145.out 0; have hfz26_1 := blk_frozen BK145.out 1; have hfz26_2 := blk_frozen BK145.out 2))
                go_ret
                exact ⟨er_, bk_ HB.out⟩
               ·rw [if_neg c23] at H
                have c23b0 : decide (((rd_T37 (rd_L2 l0_2 x36_2) x47_3).f0) < 0) = false := decide_eq_false c23
                clear c23
                by_cases c27 : ((rd_T37 (rd_L2 l0_2 x36_2) x47_3).f0) ≥ a0_1
                ·rw [if_pos c27] at H
                 have c27b0 : decide (a0_1 ≤ ((rd_T37 (rd_L2 l0_2 x36_2) x47_3).f0)) = true := decide_eq_true c27
                 clear c27
                 obtain rfl := Option.some.inj H
                 have p144 : 0 ≤ (x47_3 : Int) := od_
                 have q144 : x47_3 < ((rd_L2 l0_2 x36_2).length : Int) := od_
                 obtain ⟨ad144, e144, hx144_0, hx144_1, hx144_2⟩ := at_T37 HR143_0.out x47_3 p144 q144
                 cases e144
                 replace hx144_0 := lf_ HB.out hx144_0
                 replace hx144_1 := lf_ HB.out hx144_1
                 replace hx144_2 := lf_ HB.out hx144_2
                 replace p144 := eq_true p144
                 replace q144 := eq_true q144
                 go_wp2_with (first | ((with_reducible refine gate_dst (N := 6) rfl ?_); (try (refine gate_guard (by rfl) ?_; dsimp only)); refine box_event ?hg (N := 6) ?hd (cs := #[.int .i64 0, .int .i64 0, .int .i64 0]) (t := 37) ?hr ?_; (case hd => rfl); (case hg => rfl); (case hr => first | (go_simp; done) | (go_simp; rfl)); intro gb145 hg w28 hbox hb; have n0_ := A_ (blk_below (pk_ BK142.out) hb); have n1_ := A_ (below_step (bk_ HB.out) hb); have n2_ := A_ (hbox); have n3_ := A_ (bz_ hg (bk_ HB.out)); have n4_ := A_ (bz_ hg (bk_ HB.out)); have n5_ := A_ (nl_ hg (pk_ BK142.out)); have n6_ := A_ (ng_ hg (pk_ BK142.out)); clear BK142 HB; have BK142 := n0_; have HB := n1_; have BK145 := n2_; have GW145 := n3_; have GE145 := n4_; have NB142_145 := n5_; have NB145_142 := n6_; clear n0_ n1_ n2_ n3_ n4_ n5_ n6_ hb hbox hg; have hnb29 := NB145_142.out; have hnc29 := NB142_145.out; obtain ⟨hcz30_0, hcz30_1, hcz30_2⟩ := bc3_ BK145.out; have hfz30_0 := blk_frozen BK145.out 0; have hfz30_1 := blk_frozen BK145.out 1; have hfz30_2 := blk_frozen BK145.out 2; obtain ⟨hcz31_0, hcz31_1, hcz31_2⟩ := bc3_ BK142.out; have hfz31_0 := blk_frozen BK142.out 0; have hfz31_1 := blk_frozen BK142.out 1; have hfz31_2 := blk_frozen BK142.out 2))
                 go_ret
                 exact ⟨er_, bk_ HB.out⟩
                ·rw [if_neg c27] at H
                 have c27b0 : decide (a0_1 ≤ ((rd_T37 (rd_L2 l0_2 x36_2) x47_3).f0)) = false := decide_eq_false c27
                 clear c27
                 by_cases c32 : ((rd_T37 (rd_L2 l0_2 x36_2) x47_3).f1) = (-1)
                 ·rw [if_pos c32] at H
                  have c32b0 : (((rd_T37 (rd_L2 l0_2 x36_2) x47_3).f1) == (-1)) = true := beq_iff_eq.mpr c32
                  have c32b1 : (((rd_T37 (rd_L2 l0_2 x36_2) x47_3).f1) != (-1)) = false := bne_eq_false_iff_eq.mpr c32
                  clear c32
                  by_cases c33 : ((rd_T37 (rd_L2 l0_2 x36_2) x47_3).f2) < (-1)
                  ·rw [if_pos c33] at H
                   have c33b0 : decide (((rd_T37 (rd_L2 l0_2 x36_2) x47_3).f2) < (-1)) = true := decide_eq_true c33
                   clear c33
                   obtain rfl := Option.some.inj H
                   have p144 : 0 ≤ (x47_3 : Int) := od_
                   have q144 : x47_3 < ((rd_L2 l0_2 x36_2).length : Int) := od_
                   obtain ⟨ad144, e144, hx144_0, hx144_1, hx144_2⟩ := at_T37 HR143_0.out x47_3 p144 q144
                   cases e144
                   replace hx144_0 := lf_ HB.out hx144_0
                   replace hx144_1 := lf_ HB.out hx144_1
                   replace hx144_2 := lf_ HB.out hx144_2
                   replace p144 := eq_true p144
                   replace q144 := eq_true q144
                   go_wp2_with (first | ((with_reducible refine gate_dst (N := 6) rfl ?_); (try (refine gate_guard (by rfl) ?_; dsimp only)); refine box_event ?hg (N := 6) ?hd (cs := #[.int .i64 0, .int .i64 0, .int .i64 0]) (t := 37) ?hr ?_; (case hd => rfl); (case hg => rfl); (case hr => first | (go_simp; done) | (go_simp; rfl)); intro gb145 hg w34 hbox hb; have n0_ := A_ (blk_below (pk_ BK142.out) hb); have n1_ := A_ (below_step (bk_ HB.out) hb); have n2_ := A_ (hbox); have n3_ := A_ (bz_ hg (bk_ HB.out)); have n4_ := A_ (bz_ hg (bk_ HB.out)); have n5_ := A_ (nl_ hg (pk_ BK142.out)); have n6_ := A_ (ng_ hg (pk_ BK142.out)); clear BK142 HB; have BK142 := n0_; have HB := n1_; have BK145 := n2_; have GW145 := n3_; have GE145 := n4_; have NB142_145 := n5_; have NB145_142 := n6_; clear n0_ n1_ n2_ n3_ n4_ n5_ n6_ hb hbox hg; have hnb35 := NB145_142.out; have hnc35 := NB142_145.out; obtain ⟨hcz36_0, hcz36_1, hcz36_2⟩ := bc3_ BK145.out; have hfz36_0 := blk_frozen BK145.out 0; have hfz36_1 := blk_frozen BK145.out 1; have hfz36_2 := blk_frozen BK145.out 2; obtain ⟨hcz37_0, hcz37_1, hcz37_2⟩ := bc3_ BK142.out; have hfz37_0 := blk_frozen BK142.out 0; have hfz37_1 := blk_frozen BK142.out 1; have hfz37_2 := blk_frozen BK142.out 2))
                   go_ret
                   exact ⟨er_, bk_ HB.out⟩
                  ·rw [if_neg c33] at H
                   have c33b0 : decide (((rd_T37 (rd_L2 l0_2 x36_2) x47_3).f2) < (-1)) = false := decide_eq_false c33
                   clear c33
                   by_cases c38 : ((rd_T37 (rd_L2 l0_2 x36_2) x47_3).f2) ≥ a0_0
                   ·rw [if_pos c38] at H
                    have c38b0 : decide (a0_0 ≤ ((rd_T37 (rd_L2 l0_2 x36_2) x47_3).f2)) = true := decide_eq_true c38
                    clear c38
                    obtain rfl := Option.some.inj H
                    have p144 : 0 ≤ (x47_3 : Int) := od_
                    have q144 : x47_3 < ((rd_L2 l0_2 x36_2).length : Int) := od_
                    obtain ⟨ad144, e144, hx144_0, hx144_1, hx144_2⟩ := at_T37 HR143_0.out x47_3 p144 q144
                    cases e144
                    replace hx144_0 := lf_ HB.out hx144_0
                    replace hx144_1 := lf_ HB.out hx144_1
                    replace hx144_2 := lf_ HB.out hx144_2
                    replace p144 := eq_true p144
                    replace q144 := eq_true q144
                    go_wp2_with (first | ((with_reducible refine gate_dst (N := 6) rfl ?_); (try (refine gate_guard (by rfl) ?_; dsimp only)); refine box_event ?hg (N := 6) ?hd (cs := #[.int .i64 0, .int .i64 0, .int .i64 0]) (t := 37) ?hr ?_; (case hd => rfl); (case hg => rfl); (case hr => first | (go_simp; done) | (go_simp; rfl)); intro gb145 hg w39 hbox hb; have n0_ := A_ (blk_below (pk_ BK142.out) hb); have n1_ := A_ (below_step (bk_ HB.out) hb); have n2_ := A_ (hbox); have n3_ := A_ (bz_ hg (bk_ HB.out)); have n4_ := A_ (bz_ hg (bk_ HB.out)); have n5_ := A_ (nl_ hg (pk_ BK142.out)); have n6_ := A_ (ng_ hg (pk_ BK142.out)); clear BK142 HB; have BK142 := n0_; have HB := n1_; have BK145 := n2_; have GW145 := n3_; have GE145 := n4_; have NB142_145 := n5_; have NB145_142 := n6_; clear n0_ n1_ n2_ n3_ n4_ n5_ n6_ hb hbox hg; have hnb40 := NB145_142.out; have hnc40 := NB142_145.out; obtain ⟨hcz41_0, hcz41_1, hcz41_2⟩ := bc3_ BK145.out; have hfz41_0 := blk_frozen BK145.out 0; have hfz41_1 := blk_frozen BK145.out 1; have hfz41_2 := blk_frozen BK145.out 2; obtain ⟨hcz42_0, hcz42_1, hcz42_2⟩ := bc3_ BK142.out; have hfz42_0 := blk_frozen BK142.out 0; have hfz42_1 := blk_frozen BK142.out 1; have hfz42_2 := blk_frozen BK142.out 2))
                    go_ret
                    exact ⟨er_, bk_ HB.out⟩
                   ·rw [if_neg c38] at H
                    have c38b0 : decide (a0_0 ≤ ((rd_T37 (rd_L2 l0_2 x36_2) x47_3).f2)) = false := decide_eq_false c38
                    clear c38
                    have H' := Aside0.mk H
                    clear H
                    have p144 : 0 ≤ (x47_3 : Int) := od_
                    have q144 : x47_3 < ((rd_L2 l0_2 x36_2).length : Int) := od_
                    obtain ⟨ad144, e144, hx144_0, hx144_1, hx144_2⟩ := at_T37 HR143_0.out x47_3 p144 q144
                    cases e144
                    replace hx144_0 := lf_ HB.out hx144_0
                    replace hx144_1 := lf_ HB.out hx144_1
                    replace hx144_2 := lf_ HB.out hx144_2
                    replace p144 := eq_true p144
                    replace q144 := eq_true q144
                    go_wp2_with (first | ((with_reducible refine gate_dst (N := 6) rfl ?_); (try (refine gate_guard (by rfl) ?_; dsimp only)); refine box_event ?hg (N := 6) ?hd (cs := #[.int .i64 0, .int .i64 0, .int .i64 0]) (t := 37) ?hr ?_; (case hd => rfl); (case hg => rfl); (case hr => first | (go_simp; done) | (go_simp; rfl)); intro gb145 hg w43 hbox hb; have n0_ := A_ (blk_below (pk_ BK142.out) hb); have n1_ := A_ (below_step (bk_ HB.out) hb); have n2_ := A_ (hbox); have n3_ := A_ (bz_ hg (bk_ HB.out)); have n4_ := A_ (bz_ hg (bk_ HB.out)); have n5_ := A_ (nl_ hg (pk_ BK142.out)); have n6_ := A_ (ng_ hg (pk_ BK142.out)); clear BK142 HB; have BK142 := n0_; have HB := n1_; have BK145 := n2_; have GW145 := n3_; have GE145 := n4_; have NB142_145 := n5_; have NB145_142 := n6_; clear n0_ n1_ n2_ n3_ n4_ n5_ n6_ hb hbox hg; have hnb44 := NB145_142.out; have hnc44 := NB142_145.out; obtain ⟨hcz45_0, hcz45_1, hcz45_2⟩ := bc3_ BK145.out; have hfz45_0 := blk_frozen BK145.out 0; have hfz45_1 := blk_frozen BK145.out 1; have hfz45_2 := blk_frozen BK145.out 2; obtain ⟨hcz46_0, hcz46_1, hcz46_2⟩ := bc3_ BK142.out; have hfz46_0 := blk_frozen BK142.out 0; have hfz46_1 := blk_frozen BK142.out 1; have hfz46_2 := blk_frozen BK142.out 2))
                    go_roundg k3
                    case measure => have := HJ1.out; have := HK2.out; have := HK3.out; omega
                    case rel => exact ⟨(wrap64 (x47_3 + 1)), jr_, H', ⟨by have := HJ1.out; have := HK2.out; have := HK3.out; omega⟩, ⟨by (iterate 3 (refine pk_ ?_; refine blk_far ?_ NB142_145.out _)); exact pk_ BK142.out⟩, ⟨bk_ HB.out⟩⟩
                 ·rw [if_neg c32] at H
                  have c32b0 : (((rd_T37 (rd_L2 l0_2 x36_2) x47_3).f1) == (-1)) = false := beq_eq_false_iff_ne.mpr c32
                  have c32b1 : (((rd_T37 (rd_L2 l0_2 x36_2) x47_3).f1) != (-1)) = true := bne_iff_ne.mpr c32
                  by_cases c47 : ((rd_T37 (rd_L2 l0_2 x36_2) x47_3).f1) = 1
                  ·rw [if_pos c47] at H
                   have c47b0 : (((rd_T37 (rd_L2 l0_2 x36_2) x47_3).f1) == 1) = true := beq_iff_eq.mpr c47
                   have c47b1 : (((rd_T37 (rd_L2 l0_2 x36_2) x47_3).f1) != 1) = false := bne_eq_false_iff_eq.mpr c47
                   clear c47
                   by_cases c48 : ((rd_T37 (rd_L2 l0_2 x36_2) x47_3).f2) < (-1)
                   ·rw [if_pos c48] at H
                    have c48b0 : decide (((rd_T37 (rd_L2 l0_2 x36_2) x47_3).f2) < (-1)) = true := decide_eq_true c48
                    clear c48
                    obtain rfl := Option.some.inj H
                    have p144 : 0 ≤ (x47_3 : Int) := od_
                    have q144 : x47_3 < ((rd_L2 l0_2 x36_2).length : Int) := od_
                    obtain ⟨ad144, e144, hx144_0, hx144_1, hx144_2⟩ := at_T37 HR143_0.out x47_3 p144 q144
                    cases e144
                    replace hx144_0 := lf_ HB.out hx144_0
                    replace hx144_1 := lf_ HB.out hx144_1
                    replace hx144_2 := lf_ HB.out hx144_2
                    replace p144 := eq_true p144
                    replace q144 := eq_true q144
                    go_wp2_with (first | ((with_reducible refine gate_dst (N := 6) rfl ?_); (try (refine gate_guard (by rfl) ?_; dsimp only)); refine box_event ?hg (N := 6) ?hd (cs := #[.int .i64 0, .int .i64 0, .int .i64 0]) (t := 37) ?hr ?_; (case hd => rfl); (case hg => rfl); (case hr => first | (go_simp; done) | (go_simp; rfl)); intro gb145 hg w49 hbox hb; have n0_ := A_ (blk_below (pk_ BK142.out) hb); have n1_ := A_ (below_step (bk_ HB.out) hb); have n2_ := A_ (hbox); have n3_ := A_ (bz_ hg (bk_ HB.out)); have n4_ := A_ (bz_ hg (bk_ HB.out)); have n5_ := A_ (nl_ hg (pk_ BK142.out)); have n6_ := A_ (ng_ hg (pk_ BK142.out)); clear BK142 HB; have BK142 := n0_; have HB := n1_; have BK145 := n2_; have GW145 := n3_; have GE145 := n4_; have NB142_145 := n5_; have NB145_142 := n6_; clear n0_ n1_ n2_ n3_ n4_ n5_ n6_ hb hbox hg; have hnb50 := NB145_142.out; have hnc50 := NB142_145.out; obtain ⟨hcz51_0, hcz51_1, hcz51_2⟩ := bc3_ BK145.out; have hfz51_0 := blk_frozen BK145.out 0; have hfz51_1 := blk_frozen BK145.out 1; have hfz51_2 := blk_frozen BK145.out 2; obtain ⟨hcz52_0, hcz52_1, hcz52_2⟩ := bc3_ BK142.out; have hfz52_0 := blk_frozen BK142.out 0; have hfz52_1 := blk_frozen BK142.out 1; have hfz52_2 := blk_frozen BK142.out 2))
                    go_ret
                    exact ⟨er_, bk_ HB.out⟩
                   ·rw [if_neg c48] at H
                    have c48b0 : decide (((rd_T37 (rd_L2 l0_2 x36_2) x47_3).f2) < (-1)) = false := decide_eq_false c48
                    clear c48
                    by_cases c53 : ((rd_T37 (rd_L2 l0_2 x36_2) x47_3).f2) ≥ a0_0
                    ·rw [if_pos c53] at H
                     have c53b0 : decide (a0_0 ≤ ((rd_T37 (rd_L2 l0_2 x36_2) x47_3).f2)) = true := decide_eq_true c53
                     clear c53
                     obtain rfl := Option.some.inj H
                     have p144 : 0 ≤ (x47_3 : Int) := od_
                     have q144 : x47_3 < ((rd_L2 l0_2 x36_2).length : Int) := od_
                     obtain ⟨ad144, e144, hx144_0, hx144_1, hx144_2⟩ := at_T37 HR143_0.out x47_3 p144 q144
                     cases e144
                     replace hx144_0 := lf_ HB.out hx144_0
                     replace hx144_1 := lf_ HB.out hx144_1
                     replace hx144_2 := lf_ HB.out hx144_2
                     replace p144 := eq_true p144
                     replace q144 := eq_true q144
                     go_wp2_with (first | ((with_reducible refine gate_dst (N := 6) rfl ?_); (try (refine gate_guard (by rfl) ?_; dsimp only)); refine box_event ?hg (N := 6) ?hd (cs := #[.int .i64 0, .int .i64 0, .int .i64 0]) (t := 37) ?hr ?_; (case hd => rfl); (case hg => rfl); (case hr => first | (go_simp; done) | (go_simp; rfl)); intro gb145 hg w54 hbox hb; have n0_ := A_ (blk_below (pk_ BK142.out) hb); have n1_ := A_ (below_step (bk_ HB.out) hb); have n2_ := A_ (hbox); have n3_ := A_ (bz_ hg (bk_ HB.out)); have n4_ := A_ (bz_ hg (bk_ HB.out)); have n5_ := A_ (nl_ hg (pk_ BK142.out)); have n6_ := A_ (ng_ hg (pk_ BK142.out)); clear BK142 HB; have BK142 := n0_; have HB := n1_; have BK145 := n2_; have GW145 := n3_; have GE145 := n4_; have NB142_145 := n5_; have NB145_142 := n6_; clear n0_ n1_ n2_ n3_ n4_ n5_ n6_ hb hbox hg; have hnb55 := NB145_142.out; have hnc55 := NB142_145.out; obtain ⟨hcz56_0, hcz56_1, hcz56_2⟩ := bc3_ BK145.out; have hfz56_0 := blk_frozen BK145.out 0; have hfz56_1 := blk_frozen BK145.out 1; have hfz56_2 := blk_frozen BK145.out 2; obtain ⟨hcz57_0, hcz57_1, hcz57_2⟩ := bc3_ BK142.out; have hfz57_0 := blk_frozen BK142.out 0; have hfz57_1 := blk_frozen BK142.out 1; have hfz57_2 := blk_frozen BK142.out 2))
                     go_ret
                     exact ⟨er_, bk_ HB.out⟩
                    ·rw [if_neg c53] at H
                     have c53b0 : decide (a0_0 ≤ ((rd_T37 (rd_L2 l0_2 x36_2) x47_3).f2)) = false := decide_eq_false c53
                     clear c53
                     have H' := Aside0.mk H
                     clear H
                     have p144 : 0 ≤ (x47_3 : Int) := od_
                     have q144 : x47_3 < ((rd_L2 l0_2 x36_2).length : Int) := od_
                     obtain ⟨ad144, e144, hx144_0, hx144_1, hx144_2⟩ := at_T37 HR143_0.out x47_3 p144 q144
                     cases e144
                     replace hx144_0 := lf_ HB.out hx144_0
                     replace hx144_1 := lf_ HB.out hx144_1
                     replace hx144_2 := lf_ HB.out hx144_2
                     replace p144 := eq_true p144
                     replace q144 := eq_true q144
                     go_wp2_with (first | ((with_reducible refine gate_dst (N := 6) rfl ?_); (try (refine gate_guard (by rfl) ?_; dsimp only)); refine box_event ?hg (N := 6) ?hd (cs := #[.int .i64 0, .int .i64 0, .int .i64 0]) (t := 37) ?hr ?_; (case hd => rfl); (case hg => rfl); (case hr => first | (go_simp; done) | (go_simp; rfl)); intro gb145 hg w58 hbox hb; have n0_ := A_ (blk_below (pk_ BK142.out) hb); have n1_ := A_ (below_step (bk_ HB.out) hb); have n2_ := A_ (hbox); have n3_ := A_ (bz_ hg (bk_ HB.out)); have n4_ := A_ (bz_ hg (bk_ HB.out)); have n5_ := A_ (nl_ hg (pk_ BK142.out)); have n6_ := A_ (ng_ hg (pk_ BK142.out)); clear BK142 HB; have BK142 := n0_; have HB := n1_; have BK145 := n2_; have GW145 := n3_; have GE145 := n4_; have NB142_145 := n5_; have NB145_142 := n6_; clear n0_ n1_ n2_ n3_ n4_ n5_ n6_ hb hbox hg; have hnb59 := NB145_142.out; have hnc59 := NB142_145.out; obtain ⟨hcz60_0, hcz60_1, hcz60_2⟩ := bc3_ BK145.out; have hfz60_0 := blk_frozen BK145.out 0; have hfz60_1 := blk_frozen BK145.out 1; have hfz60_2 := blk_frozen BK145.out 2; obtain ⟨hcz61_0, hcz61_1, hcz61_2⟩ := bc3_ BK142.out; have hfz61_0 := blk_frozen BK142.out 0; have hfz61_1 := blk_frozen BK142.out 1; have hfz61_2 := blk_frozen BK142.out 2))
                     go_roundg k3
                     case measure => have := HJ1.out; have := HK2.out; have := HK3.out; omega
                     case rel => exact ⟨(wrap64 (x47_3 + 1)), jr_, H', ⟨by have := HJ1.out; have := HK2.out; have := HK3.out; omega⟩, ⟨by (iterate 3 (refine pk_ ?_; refine blk_far ?_ NB142_145.out _)); exact pk_ BK142.out⟩, ⟨bk_ HB.out⟩⟩
                  ·rw [if_neg c47] at H
                   have c47b0 : (((rd_T37 (rd_L2 l0_2 x36_2) x47_3).f1) == 1) = false := beq_eq_false_iff_ne.mpr c47
                   have c47b1 : (((rd_T37 (rd_L2 l0_2 x36_2) x47_3).f1) != 1) = true := bne_iff_ne.mpr c47
                   obtain rfl := Option.some.inj H
                   have p144 : 0 ≤ (x47_3 : Int) := od_
                   have q144 : x47_3 < ((rd_L2 l0_2 x36_2).length : Int) := od_
                   obtain ⟨ad144, e144, hx144_0, hx144_1, hx144_2⟩ := at_T37 HR143_0.out x47_3 p144 q144
                   cases e144
                   replace hx144_0 := lf_ HB.out hx144_0
                   replace hx144_1 := lf_ HB.out hx144_1
                   replace hx144_2 := lf_ HB.out hx144_2
                   replace p144 := eq_true p144
                   replace q144 := eq_true q144
                   go_wp2_with (first | ((with_reducible refine gate_dst (N := 6) rfl ?_); (try (refine gate_guard (by rfl) ?_; dsimp only)); refine box_event ?hg (N := 6) ?hd (cs := #[.int .i64 0, .int .i64 0, .int .i64 0]) (t := 37) ?hr ?_; (case hd => rfl); (case hg => rfl); (case hr => first | (go_simp; done) | (go_simp; rfl)); intro gb145 hg w62 hbox hb; have n0_ := A_ (blk_below (pk_ BK142.out) hb); have n1_ := A_ (below_step (bk_ HB.out) hb); have n2_ := A_ (hbox); have n3_ := A_ (bz_ hg (bk_ HB.out)); have n4_ := A_ (bz_ hg (bk_ HB.out)); have n5_ := A_ (nl_ hg (pk_ BK142.out)); have n6_ := A_ (ng_ hg (pk_ BK142.out)); clear BK142 HB; have BK142 := n0_; have HB := n1_; have BK145 := n2_; have GW145 := n3_; have GE145 := n4_; have NB142_145 := n5_; have NB145_142 := n6_; clear n0_ n1_ n2_ n3_ n4_ n5_ n6_ hb hbox hg; have hnb63 := NB145_142.out; have hnc63 := NB142_145.out; obtain ⟨hcz64_0, hcz64_1, hcz64_2⟩ := bc3_ BK145.out; have hfz64_0 := blk_frozen BK145.out 0; have hfz64_1 := blk_frozen BK145.out 1; have hfz64_2 := blk_frozen BK145.out 2; obtain ⟨hcz65_0, hcz65_1, hcz65_2⟩ := bc3_ BK142.out; have hfz65_0 := blk_frozen BK142.out 0; have hfz65_1 := blk_frozen BK142.out 1; have hfz65_2 := blk_frozen BK142.out 2))
                   go_ret
                   exact ⟨er_, bk_ HB.out⟩
              ·rw [if_neg c22] at H
               exact absurd H (by simp)
             ·rw [if_neg c21] at H
              exact absurd H (by simp)
            ·rw [if_neg c20] at H
             have c20b0 : decide (x47_3 < ((rd_L2 l0_2 x36_2).length : Int)) = false := decide_eq_false c20
             clear c20
             have H' := Aside0.mk H
             clear H
             go_wp2
             go_roundg k3
             case measure => have := HJ1.out; have := HK2.out; have := HK3.out; omega
             case rel => exact ⟨(wrap64 (x36_2 + 1)), jr_, H', ⟨by have := HJ1.out; have := HK2.out; have := HK3.out; omega⟩, ⟨pk_ BK142.out⟩, ⟨bk_ HB.out⟩⟩
         ·rw [if_neg c18] at H
          have c18b0 : (((rd_L2 l0_2 x36_2).length : Int) == a0_1) = false := beq_eq_false_iff_ne.mpr c18
          have c18b1 : (((rd_L2 l0_2 x36_2).length : Int) != a0_1) = true := bne_iff_ne.mpr c18
          obtain rfl := Option.some.inj H
          have p143 : 0 ≤ (x36_2 : Int) := od_
          have q143 : x36_2 < (l0_2.length : Int) := od_
          obtain ⟨ad143, A143_0, c143_0, e143, hx143_0, hl143_0, hi143_0⟩ := at_L2 HR0_2.out x36_2 p143 q143
          cases e143
          replace hx143_0 := lf_ HB.out hx143_0
          have HR143_0 := Aside0.mk hi143_0
          have HC143_0 := Aside0.mk hl143_0
          clear hi143_0 hl143_0
          replace p143 := eq_true p143
          replace q143 := eq_true q143
          obtain ⟨hcz66_0, hcz66_1, hcz66_2⟩ := bc3_ BK142.out
          have hfz66_0 := blk_frozen BK142.out 0
          have hfz66_1 := blk_frozen BK142.out 1
          have hfz66_2 := blk_frozen BK142.out 2
          go_wp2
          go_ret
          exact ⟨er_, bk_ HB.out⟩
        ·rw [if_neg c17] at H
         exact absurd H (by simp)
       ·rw [if_neg c16] at H
        exact absurd H (by simp)
      ·rw [if_neg c15] at H
       have c15b0 : decide (x36_2 < (l0_2.length : Int)) = false := decide_eq_false c15
       clear c15
       obtain rfl := Option.some.inj H
       go_wp2
       go_ret
       exact ⟨er_, bk_ HB.out⟩

/-! ### leap_Fits: function 25 -/
def leap_Fits.f (k : Nat) (a0_0 : Int) (a0_1 : Int) (l0_2 : List (List (S37))) (a1_0 : Int) (a1_1 : Int) (a1_2 : Int) (l1_3 : List (S75)) (l1_4 : List (S75)) : Option (Bool) := (tape_Valid.f k a0_0 a0_1 l0_2).bind fun t148 => (if t148 = true then ((leap_fits.f k a0_0 a0_1 a1_0 a1_1 a1_2 l1_3 l1_4).bind fun t149 => (some t149)) else (some false))
theorem leap_Fits.mono : ∀ a0 a1 a2 a3 a4 a5 a6 a7 k, LeO (leap_Fits.f k a0 a1 a2 a3 a4 a5 a6 a7) (leap_Fits.f (k + 1) a0 a1 a2 a3 a4 a5 a6 a7) := by
 intro a0 a1 a2 a3 a4 a5 a6 a7 k
 unfold leap_Fits.f
 repeat' first
   | (with_reducible exact leap_fits.mono _ _ _ _ _ _ _ _)
   | (with_reducible exact tape_Valid.mono _ _ _ _)
   | (with_reducible exact LeO.refl _)
   | (with_reducible exact LeO.none _)
   | (with_reducible refine LeO.ite ?_ ?_)
   | (with_reducible refine LeO.bind ?_ (fun _ => ?_))
   | exact leap_fits.mono _ _ _ _ _ _ _ _
   | exact tape_Valid.mono _ _ _ _
   | exact LeO.none _
   | refine LeO.ite ?_ ?_
   | refine LeO.bind ?_ (fun _ => ?_)
set_option maxHeartbeats 8000000 in
set_option maxRecDepth 100000 in
theorem leap_Fits.calls (k : Nat) (a0_0 : Int) (a0_1 : Int) (A0_2 : Option Addr) (c0_2 : Nat) (l0_2 : List (List (S37))) (a1_0 : Int) (a1_1 : Int) (a1_2 : Int) (A1_3 : Option Addr) (c1_3 : Nat) (l1_3 : List (S75)) (A1_4 : Option Addr) (c1_4 : Nat) (l1_4 : List (S75)) (r : Bool) (w : World) (hr0_2 : Kd.C (Kd.slice 37 k37) w A0_2 l0_2.length l0_2) (hc0_2 : l0_2.length ≤ c0_2) (hr1_3 : Kd.C k75 w A1_3 l1_3.length l1_3) (hc1_3 : l1_3.length ≤ c1_3) (hr1_4 : Kd.C k75 w A1_4 l1_4.length l1_4) (hc1_4 : l1_4.length ≤ c1_4) (h : leap_Fits.f k a0_0 a0_1 l0_2 a1_0 a1_1 a1_2 l1_3 l1_4 = some r) :
  Calls Try.prog 25 #[.agg #[.int .i64 a0_0, .int .i64 a0_1, .slice A0_2 l0_2.length c0_2], .agg #[.int .i64 a1_0, .int .i64 a1_1, .int .i64 a1_2, .slice A1_3 l1_3.length c1_3, .slice A1_4 l1_4.length c1_4]] w fun e w' => e = .returned (.bool r) ∧ Below w.heap.size w w' := by
 have hu24 := Try.underlying24
 have hu27 := Try.underlying27
 have HR0_2 := Aside0.mk hr0_2
 have HC0_2 := Aside0.mk hc0_2
 clear hr0_2 hc0_2
 have HR1_3 := Aside0.mk hr1_3
 have HC1_3 := Aside0.mk hc1_3
 clear hr1_3 hc1_3
 have HR1_4 := Aside0.mk hr1_4
 have HC1_4 := Aside0.mk hc1_4
 clear hr1_4 hc1_4
 have HB := A_ (Below.refl w.heap.size w)
 have H : ((tape_Valid.f k a0_0 a0_1 l0_2).bind fun t148 => (if t148 = true then ((leap_fits.f k a0_0 a0_1 a1_0 a1_1 a1_2 l1_3 l1_4).bind fun t149 => (some t149)) else (some false))) = some r := h
 clear h
 replace H := Option.bind_eq_some_iff.mp H
 obtain ⟨t148, A30, H⟩ := H
 replace H : (if t148 = true then ((leap_fits.f k a0_0 a0_1 a1_0 a1_1 a1_2 l1_3 l1_4).bind fun t149 => (some t149)) else (some false)) = some r := H
 have A3 := Aside0.mk A30
 clear A30
 by_cases c4 : t148 = true
 ·subst c4
  have H1 : ((leap_fits.f k a0_0 a0_1 a1_0 a1_1 a1_2 l1_3 l1_4).bind fun t149 => (some t149)) = some r := by rw [if_pos rfl] at H; exact H
  clear H
  have H := H1
  clear H1
  replace H := Option.bind_eq_some_iff.mp H
  obtain ⟨t149, A50, H⟩ := H
  replace H : (some t149) = some r := H
  have A5 := Aside0.mk A50
  clear A50
  obtain rfl := Option.some.inj H
  go_enter Try.func25, Try.ntmps25
  go_wp2_with (first | ((with_reducible refine gate_dst (N := 2) rfl ?_); refine box_event ?hg (N := 2) ?hd (cs := #[.int .i64 a0_0, .int .i64 a0_1, .slice A0_2 l0_2.length c0_2]) (t := 24) ?hr ?_; (case hd => rfl); (case hg => rfl); (case hr => first | (go_simp; done) | (go_simp; rfl)); intro gb146 hg w6 hbox hb; have n0_ := A_ (below_step (bk_ HB.out) hb); have n1_ := A_ (hbox); have n2_ := A_ (bz_ hg (bk_ HB.out)); have n3_ := A_ (bz_ hg (bk_ HB.out)); clear HB; have HB := n0_; have BK146 := n1_; have GW146 := n2_; have GE146 := n3_; clear n0_ n1_ n2_ n3_ hb hbox hg) | ((with_reducible refine gate_dst (N := 3) rfl ?_); refine box_event ?hg (N := 3) ?hd (cs := #[.int .i64 a1_0, .int .i64 a1_1, .int .i64 a1_2, .slice A1_3 l1_3.length c1_3, .slice A1_4 l1_4.length c1_4]) (t := 27) ?hr ?_; (case hd => rfl); (case hg => rfl); (case hr => first | (go_simp; done) | (go_simp; rfl)); intro gb147 hg w7 hbox hb; have n0_ := A_ (blk_below (pk_ BK146.out) hb); have n1_ := A_ (below_step (bk_ HB.out) hb); have n2_ := A_ (hbox); have n3_ := A_ (bz_ hg (bk_ HB.out)); have n4_ := A_ (bz_ hg (bk_ HB.out)); have n5_ := A_ (nl_ hg (pk_ BK146.out)); have n6_ := A_ (ng_ hg (pk_ BK146.out)); clear BK146 HB; have BK146 := n0_; have HB := n1_; have BK147 := n2_; have GW147 := n3_; have GE147 := n4_; have NB146_147 := n5_; have NB147_146 := n6_; clear n0_ n1_ n2_ n3_ n4_ n5_ n6_ hb hbox hg; have hnb8 := NB146_147.out; have hnc8 := NB147_146.out; obtain ⟨hcz9_0, hcz9_1, hcz9_2⟩ := bc3_ BK146.out; have hfz9_0 := blk_frozen BK146.out 0; have hfz9_1 := blk_frozen BK146.out 1; have hfz9_2 := blk_frozen BK146.out 2) | ((with_reducible refine gate_callee (f := 39) rfl ?_); refine goesL_ (some 6) rfl rfl Try.func39 (by kernel_rfl) rfl #[.agg #[.int .i64 a0_0, .int .i64 a0_1, .slice A0_2 l0_2.length c0_2]] rfl gl_ ?_; (with_reducible refine (tape_Valid.calls k a0_0 a0_1 _ _ l0_2 true _ ?side1 ?side2 A3.out).mono ?_); (case side1 => exact ck_ (Kd.C_below HR0_2.out HB.out)); (case side2 => exact HC0_2.out); rintro e w10 ⟨rfl, hb⟩; refine ⟨_, rfl, ?_⟩; have n0_ := A_ (blk_below (pk_ BK146.out) hb); have n1_ := A_ (blk_below (pk_ BK147.out) hb); have n2_ := A_ (below_step (bk_ HB.out) hb); clear BK146 BK147 HB; have BK146 := n0_; have BK147 := n1_; have HB := n2_; clear n0_ n1_ n2_; (try clear hb); (try clear hb2); (try clear hk); (try clear hi); obtain ⟨hcz11_0, hcz11_1, hcz11_2⟩ := bc3_ BK146.out; have hfz11_0 := blk_frozen BK146.out 0; have hfz11_1 := blk_frozen BK146.out 1; have hfz11_2 := blk_frozen BK146.out 2; obtain ⟨hcz12_0, hcz12_1, hcz12_2, hcz12_3, hcz12_4⟩ := bc5_ BK147.out; have hfz12_0 := blk_frozen BK147.out 0; have hfz12_1 := blk_frozen BK147.out 1; have hfz12_2 := blk_frozen BK147.out 2; have hfz12_3 := blk_frozen BK147.out 3; have hfz12_4 := blk_frozen BK147.out 4) | (go_at_call 35; (with_reducible refine (leap_fits.calls k a0_0 a0_1 a1_0 a1_1 a1_2 _ _ l1_3 _ _ l1_4 t149 _ ?side1 ?side2 ?side3 ?side4 A5.out).mono ?_); (case side1 => exact ck_ (Kd.C_below HR1_3.out HB.out)); (case side2 => exact HC1_3.out); (case side3 => exact ck_ (Kd.C_below HR1_4.out HB.out)); (case side4 => exact HC1_4.out); rintro e w13 ⟨rfl, hb⟩; have n0_ := A_ (blk_below (pk_ BK146.out) hb); have n2_ := A_ (below_step (bk_ HB.out) hb); clear BK146 HB; have BK146 := n0_; have HB := n2_; clear n0_ n2_; (try clear hb); (try clear hb2); (try clear hk); (try clear hi)))
  go_ret
  exact ⟨er_, bk_ HB.out⟩
 ·replace c4 := Bool.eq_false_iff.mpr c4
  subst c4
  have H1 : (some false) = some r := by rw [if_neg (show ¬ (false = true) by decide)] at H; exact H
  clear H
  have H := H1
  clear H1
  obtain rfl := Option.some.inj H
  go_enter Try.func25, Try.ntmps25
  go_wp2_with (first | ((with_reducible refine gate_dst (N := 2) rfl ?_); refine box_event ?hg (N := 2) ?hd (cs := #[.int .i64 a0_0, .int .i64 a0_1, .slice A0_2 l0_2.length c0_2]) (t := 24) ?hr ?_; (case hd => rfl); (case hg => rfl); (case hr => first | (go_simp; done) | (go_simp; rfl)); intro gb146 hg w14 hbox hb; have n0_ := A_ (below_step (bk_ HB.out) hb); have n1_ := A_ (hbox); have n2_ := A_ (bz_ hg (bk_ HB.out)); have n3_ := A_ (bz_ hg (bk_ HB.out)); clear HB; have HB := n0_; have BK146 := n1_; have GW146 := n2_; have GE146 := n3_; clear n0_ n1_ n2_ n3_ hb hbox hg) | ((with_reducible refine gate_dst (N := 3) rfl ?_); refine box_event ?hg (N := 3) ?hd (cs := #[.int .i64 a1_0, .int .i64 a1_1, .int .i64 a1_2, .slice A1_3 l1_3.length c1_3, .slice A1_4 l1_4.length c1_4]) (t := 27) ?hr ?_; (case hd => rfl); (case hg => rfl); (case hr => first | (go_simp; done) | (go_simp; rfl)); intro gb147 hg w15 hbox hb; have n0_ := A_ (blk_below (pk_ BK146.out) hb); have n1_ := A_ (below_step (bk_ HB.out) hb); have n3_ := A_ (bz_ hg (bk_ HB.out)); have n4_ := A_ (bz_ hg (bk_ HB.out)); clear BK146 HB; have BK146 := n0_; have HB := n1_; have GW147 := n3_; have GE147 := n4_; clear n0_ n1_ n3_ n4_ hb hbox hg; obtain ⟨hcz17_0, hcz17_1, hcz17_2⟩ := bc3_ BK146.out; have hfz17_0 := blk_frozen BK146.out 0; have hfz17_1 := blk_frozen BK146.out 1; have hfz17_2 := blk_frozen BK146.out 2) | ((with_reducible refine gate_callee (f := 39) rfl ?_); refine goesL_ (some 6) rfl rfl Try.func39 (by kernel_rfl) rfl #[.agg #[.int .i64 a0_0, .int .i64 a0_1, .slice A0_2 l0_2.length c0_2]] rfl gl_ ?_; (with_reducible refine (tape_Valid.calls k a0_0 a0_1 _ _ l0_2 false _ ?side1 ?side2 A3.out).mono ?_); (case side1 => exact ck_ (Kd.C_below HR0_2.out HB.out)); (case side2 => exact HC0_2.out); rintro e w18 ⟨rfl, hb⟩; refine ⟨_, rfl, ?_⟩; have n2_ := A_ (below_step (bk_ HB.out) hb); clear HB; have HB := n2_; clear n2_; (try clear hb); (try clear hb2); (try clear hk); (try clear hi)))
  go_ret
  exact ⟨er_, bk_ HB.out⟩

/-! ### api_Run: function 57 (by hand) -/
def api_Run.f (l0 : List (S75)) : Option (List (S75)) := if l0.length < 8796093022208 then (some l0) else (none)
set_option maxHeartbeats 8000000 in
set_option maxRecDepth 100000 in
theorem api_Run.calls (A0 : Option Addr) (c0 : Nat) (l0 : List (S75)) (r : List (S75)) (w : World) (hr0 : Kd.C k75 w A0 l0.length l0) (hc0 : l0.length ≤ c0) (h : api_Run.f l0 = some r) :
    Calls Try.prog 57 #[.slice A0 l0.length c0] w fun e w' => ∃ v0_ : Value, e = .returned (v0_) ∧ Kd.R k75 75 w' w.heap.size (fun _ => True) v0_ r ∧ Below w.heap.size w w' := by
  have qn_ : ∀ (w : World) (a : Option Addr) (n c n' c' : Nat), (binOp .eql 25 (.slice a n c) (.slice none n' c')).run Try.prog w = .ok (.bool a.isNone) w := fun w a n c n' c' => Lib.run_eql_slice_nil w _ _ a n c n' c' Try.underlying25
  unfold api_Run.f at h
  split at h
  rotate_left
  · cases h
  rename_i hlen
  obtain rfl := Option.some.inj h
  clear h
  cases A0 with
  | none =>
    have hl : l0.length = 0 := by
      rcases Nat.eq_zero_or_pos l0.length with h0 | h0
      · exact h0
      · obtain ⟨ad, h, _⟩ := hr0.2.2 h0
        cases h
    obtain rfl : l0 = [] := List.eq_nil_of_length_eq_zero hl
    clear hr0 hlen hl
    go_enter Try.func57, Try.ntmps57
    go_wp2
    go_ret
    exact ⟨_, rfl, Kd.R_nil _ _ _ _ _, Below.refl _ _⟩
  | some ad =>
    have HR0 := Aside0.mk hr0
    have HLEN := Aside0.mk hlen
    clear hr0 hlen
    go_enter Try.func57, Try.ntmps57
    go_wp2_with (first | ((with_reducible refine gate_builtin (b := .append) (xs := #[.tmp 5, .tmp 6]) rfl ?_); at_builtin; refine Kd.R_append_rows k75 (w0 := w) w.heap.size rfl (.tmp 5) (.tmp 6) 25 75 (.agg #[(.int .i64 0), (.int .i64 0)]) 16 rfl Try.underlying25 info75 rfl (by decide) (by omega) (.slice (some ⟨w.heap.size, 0, none⟩) 0 0) [] l0 _ _ _ (fun _ => True) (fun _ => False) rfl rfl ?aO ?aR (fun _ _ h => h) (fun _ h => h.elim) (fun _ _ => trivial) ?aB ?aS ?aL ?_; (case aO => exact ⟨fun _ _ => trivial, [], World.ownsRow_made w #[] 0 (Nat.le_refl _) (Nat.zero_le _) (by simp), Reps.none _ _⟩); (case aR => exact Kd.C_below HR0.out (below_alloc (Below.refl _ _) _)); (case aB => exact below_alloc (Below.refl _ _) _); (case aS => simp); (case aL => have := HLEN.out; simp; omega); intro v1 w1 ho hb hg hat; clear hg hat))
    go_ret
    exact ⟨_, rfl, by simpa using ho, hb⟩

/-! ### leap_before: function 55 (by hand) -/
def leap_before.g (x c : Int) (l : List (S75)) : Option (List (S75)) :=
  if l.length < 8000000000000 then (if c = 0 then some l else if x = 0 ∧ (l.length : Int) = 0 then some l else if 0 < l.length then (if (rd_T75 l 0).f0 = x then some (l.set 0 (⟨(rd_T75 l 0).f0, wrap64 ((rd_T75 l 0).f1 + c)⟩ : S75)) else some ((⟨x, c⟩ : S75) :: l)) else some ((⟨x, c⟩ : S75) :: l)) else none
set_option maxHeartbeats 8000000 in
set_option maxRecDepth 100000 in
theorem leap_before.callsC (x c : Int) (A : Option Addr) (cap : Nat) (l r : List (S75)) (w : World) (hC0 : Kd.C k75 w A l.length l) (hc0 : l.length ≤ cap) (h : leap_before.g x c l = some r) :
    Calls Try.prog 55 #[.int .i64 x, .int .i64 c, .slice A l.length cap] w fun e w' => ∃ A' c', e = .returned (.slice A' r.length c') ∧ Kd.C k75 w' A' r.length r ∧ r.length ≤ c' ∧ Below w.heap.size w w' := by
  unfold leap_before.g at h
  by_cases hn0 : l.length < 8000000000000
  rotate_left
  · rw [if_neg hn0] at h
    cases h
  rw [if_pos hn0] at h
  have hC := Aside0.mk hC0
  have hc := Aside0.mk hc0
  have hn := Aside0.mk hn0
  clear hC0 hc0 hn0
  by_cases k1 : c = 0
  · rw [if_pos k1] at h
    obtain rfl := Option.some.inj h
    have k1a : (c == 0) = true := by simpa using k1
    clear k1
    go_enter Try.func55, Try.ntmps55
    go_wp2
    go_ret
    exact ⟨A, cap, rfl, hC.out, hc.out, Below.refl _ _⟩
  rw [if_neg k1] at h
  have k1a : (c == 0) = false := by simpa using k1
  by_cases k2 : x = 0 ∧ (l.length : Int) = 0
  · rw [if_pos k2] at h
    obtain rfl := Option.some.inj h
    have k2a : (x == 0) = true := by simpa using k2.1
    have k2b : ((l.length : Int) == 0) = true := by simpa using k2.2
    clear k1 k2
    go_enter Try.func55, Try.ntmps55
    go_wp2
    go_ret
    exact ⟨A, cap, rfl, hC.out, hc.out, Below.refl _ _⟩
  rw [if_neg k2] at h
  have KX : x ≠ 0 ∨ 0 < l.length := by by_cases hx : x = 0; right; have : ¬ (l.length : Int) = 0 := fun hh => k2 ⟨hx, hh⟩; omega; exact Or.inl hx
  by_cases k3 : 0 < l.length
  · rw [if_pos k3] at h
    have hl0 := Aside0.mk k3
    have k2b : ((l.length : Int) == 0) = false := beq_eq_false_iff_ne.mpr (by omega)
    by_cases k4 : (rd_T75 l 0).f0 = x
    · rw [if_pos k4] at h
      obtain rfl := Option.some.inj h
      have k4a : ((rd_T75 l 0).f0 == x) = true := by simpa using k4
      obtain ⟨ad, rfl, hx0, hx1⟩ := at_T75 hC.out 0 (by omega) (by omega)
      try rw [show ((0 : Int)).toNat = 0 from rfl] at hx0 hx1
      try rw [show 0 * 2 = 0 from rfl] at hx0 hx1
      try rw [Addr.add_zero'] at hx0
      try rw [Addr.add_zero'] at hx1
      have q0 : (0 < l.length) = True := eq_true (by omega)
      have q1 : decide (0 < l.length) = true := decide_eq_true (by omega)
      have q2 : ((0 : Int) < (l.length : Int)) = True := eq_true (by omega)
      have q3 : decide ((0 : Int) < (l.length : Int)) = true := decide_eq_true (by omega)
      clear k1 k2 k3 k4 KX
      go_enter Try.func55, Try.ntmps55
      by_cases kx : x = 0
      · skip
        have kx1 : (x == 0) = true := by simpa using kx
        go_wp2_with fail
        refine (api_Run.calls (some ad) cap l l w hC.out hc.out (if_pos (by have := hn.out; omega))).mono ?_
        rintro e w1 ⟨v1, rfl, ho1, hb1⟩
        obtain ⟨gg, c1, rfl, hgb, hgl, cl1, hG1⟩ := Kd.R_form ho1 (by have := hl0.out; omega)
        have HB1 := Aside0.mk hb1
        obtain ⟨ce, hcl, hM, hcc, hfr⟩ := Kd.R_elem ho1 z75 (0 : Int) (by omega) (by have := hl0.out; omega)
        obtain rfl := k75_openM hM
        have hy0 : w1.cell? ⟨gg, 0, none⟩ = some (.int .i64 (rd_T75 l 0).f0) := hcc 0 _ rfl
        have hy1 : w1.cell? ⟨gg, 1, none⟩ = some (.int .i64 (rd_T75 l 0).f1) := hcc 1 _ rfl
        have hf1 : w1.frozen? ⟨gg, 1, none⟩ = false := hfr 1
        have HP := Aside0.mk (show Kd.R k75 75 (w1.setCell ⟨gg, 1, none⟩ (.int .i64 (wrap64 ((rd_T75 l 0).f1 + c)))) w.heap.size (fun _ => True) (.slice (some ⟨gg, 0, none⟩) l.length c1) (l.set 0 (⟨(rd_T75 l 0).f0, wrap64 ((rd_T75 l 0).f1 + c)⟩ : S75)) from (Kd.R_seg ho1 (0 : Int) (by omega) (by have := hl0.out; omega) (seg := [.int .i64 (wrap64 ((rd_T75 l 0).f1 + c))]) (j := 1) hcl hcc (show 2 ≤ 2 from by decide) (x' := (⟨(rd_T75 l 0).f0, wrap64 ((rd_T75 l 0).f1 + c)⟩ : S75)) (k75_mkM _ _ _ (⟨(rd_T75 l 0).f0, wrap64 ((rd_T75 l 0).f1 + c)⟩ : S75)) (fun _ hk => hk)).1)
        have HGB := Aside0.mk hgb
        clear hcl hM hcc hfr ho1 hb1 hgb hgl hG1
        go_wp2
        go_ret
        refine ⟨some ⟨gg, 0, none⟩, c1, by simp, ?_, ?_, HB1.out.setCell HGB.out _⟩
        · exact (Kd.R_reads' HP.out).2.2
        · have := (Kd.R_reads' HP.out).2.1; simpa using this
      have kx1 : (x == 0) = false := by simpa using kx
      go_wp2_with fail
      refine (api_Run.calls (some ad) cap l l w hC.out hc.out (if_pos (by have := hn.out; omega))).mono ?_
      rintro e w1 ⟨v1, rfl, ho1, hb1⟩
      obtain ⟨gg, c1, rfl, hgb, hgl, cl1, hG1⟩ := Kd.R_form ho1 (by have := hl0.out; omega)
      have HB1 := Aside0.mk hb1
      obtain ⟨ce, hcl, hM, hcc, hfr⟩ := Kd.R_elem ho1 z75 (0 : Int) (by omega) (by have := hl0.out; omega)
      obtain rfl := k75_openM hM
      have hy0 : w1.cell? ⟨gg, 0, none⟩ = some (.int .i64 (rd_T75 l 0).f0) := hcc 0 _ rfl
      have hy1 : w1.cell? ⟨gg, 1, none⟩ = some (.int .i64 (rd_T75 l 0).f1) := hcc 1 _ rfl
      have hf1 : w1.frozen? ⟨gg, 1, none⟩ = false := hfr 1
      have HP := Aside0.mk (show Kd.R k75 75 (w1.setCell ⟨gg, 1, none⟩ (.int .i64 (wrap64 ((rd_T75 l 0).f1 + c)))) w.heap.size (fun _ => True) (.slice (some ⟨gg, 0, none⟩) l.length c1) (l.set 0 (⟨(rd_T75 l 0).f0, wrap64 ((rd_T75 l 0).f1 + c)⟩ : S75)) from (Kd.R_seg ho1 (0 : Int) (by omega) (by have := hl0.out; omega) (seg := [.int .i64 (wrap64 ((rd_T75 l 0).f1 + c))]) (j := 1) hcl hcc (show 2 ≤ 2 from by decide) (x' := (⟨(rd_T75 l 0).f0, wrap64 ((rd_T75 l 0).f1 + c)⟩ : S75)) (k75_mkM _ _ _ (⟨(rd_T75 l 0).f0, wrap64 ((rd_T75 l 0).f1 + c)⟩ : S75)) (fun _ hk => hk)).1)
      have HGB := Aside0.mk hgb
      clear hcl hM hcc hfr ho1 hb1 hgb hgl hG1
      go_wp2
      go_ret
      refine ⟨some ⟨gg, 0, none⟩, c1, by simp, ?_, ?_, HB1.out.setCell HGB.out _⟩
      · exact (Kd.R_reads' HP.out).2.2
      · have := (Kd.R_reads' HP.out).2.1; simpa using this
    rw [if_neg k4] at h
    obtain rfl := Option.some.inj h
    have k4a : ((rd_T75 l 0).f0 == x) = false := by simpa using k4
    obtain ⟨ad, rfl, hx0, hx1⟩ := at_T75 hC.out 0 (by omega) (by omega)
    try rw [show ((0 : Int)).toNat = 0 from rfl] at hx0 hx1
    try rw [show 0 * 2 = 0 from rfl] at hx0 hx1
    try rw [Addr.add_zero'] at hx0
    try rw [Addr.add_zero'] at hx1
    have q0 : (0 < l.length) = True := eq_true (by omega)
    have q1 : decide (0 < l.length) = true := decide_eq_true (by omega)
    have q2 : ((0 : Int) < (l.length : Int)) = True := eq_true (by omega)
    have q3 : decide ((0 : Int) < (l.length : Int)) = true := decide_eq_true (by omega)
    clear k1 k2 k3 k4 KX
    go_enter Try.func55, Try.ntmps55
    by_cases kx : x = 0
    · skip
      have kx1 : (x == 0) = true := by simpa using kx
      clear kx
      go_wp2_with (first | ((with_reducible refine gate_dst (N := 47) rfl ?_); refine Kd.R_lit k75 _ 75 ?hg (N := 47) ?hd (xs := ([(⟨x, c⟩ : S75)] : List S75)) (inner := [.int .i64 x, .int .i64 c]) (ok := fun _ => True) (okp := fun _ => True) ?hr ?hp (fun _ hk => hk) trivial (Below.refl _ _) (Nat.le_refl _) (by simp) ?_; (case hd => rfl); (case hg => rfl); (case hr => first | (go_simp; done) | (go_simp; rfl)); (case hp => exact (Reps.c2 (show Kd.M k75 _ _ _ (⟨x, c⟩ : S75) [.int .i64 x, .int .i64 c] from (k75_mkM _ _ _ (⟨x, c⟩ : S75))) (Reps.none _ _))); intro v1 w1 ho1 hb1 hg_ hnew_; clear hg_ hnew_; obtain ⟨A1, c1, e1⟩ := Kd.R_slice ho1; subst e1; have HO1 := Aside0.mk ho1; have HB1 := Aside0.mk hb1; clear ho1 hb1) | ((with_reducible refine gate_builtin (b := .append) (xs := #[.tmp 47, .tmp 48]) rfl ?_); at_builtin; refine Kd.R_append_rows k75 (w0 := w) w.heap.size rfl (.tmp 47) (.tmp 48) 25 75 (.agg #[(.int .i64 0), (.int .i64 0)]) 16 rfl Try.underlying25 info75 rfl (by decide) (by omega) (.slice A1 _ c1) [(⟨x, c⟩ : S75)] l _ _ _ (fun _ => True) (fun _ => False) rfl rfl ?aO ?aR (fun _ _ h => h) (fun _ h => h.elim) (fun _ _ => trivial) ?aB ?aS ?aL ?_; (case aO => exact HO1.out); (case aR => exact Kd.C_below hC.out HB1.out); (case aB => exact HB1.out); (case aS => exact HB1.out.size); (case aL => have := hn.out; simp; omega); intro v2 w2 ho2 hb2 hg2 hat2; have HO2 := Aside0.mk ho2; have HB2 := Aside0.mk hb2; obtain ⟨A2, c2, e2⟩ := Kd.R_slice ho2; subst e2; clear hg2 hat2 ho2 hb2))
      go_ret
      exact ⟨A2, c2, rfl, (Kd.R_reads' HO2.out).2.2, (Kd.R_reads' HO2.out).2.1, HB2.out⟩
    have kx1 : (x == 0) = false := by simpa using kx
    go_wp2_with (first | ((with_reducible refine gate_dst (N := 47) rfl ?_); refine Kd.R_lit k75 _ 75 ?hg (N := 47) ?hd (xs := ([(⟨x, c⟩ : S75)] : List S75)) (inner := [.int .i64 x, .int .i64 c]) (ok := fun _ => True) (okp := fun _ => True) ?hr ?hp (fun _ hk => hk) trivial (Below.refl _ _) (Nat.le_refl _) (by simp) ?_; (case hd => rfl); (case hg => rfl); (case hr => first | (go_simp; done) | (go_simp; rfl)); (case hp => exact (Reps.c2 (show Kd.M k75 _ _ _ (⟨x, c⟩ : S75) [.int .i64 x, .int .i64 c] from (k75_mkM _ _ _ (⟨x, c⟩ : S75))) (Reps.none _ _))); intro v1 w1 ho1 hb1 hg_ hnew_; clear hg_ hnew_; obtain ⟨A1, c1, e1⟩ := Kd.R_slice ho1; subst e1; have HO1 := Aside0.mk ho1; have HB1 := Aside0.mk hb1; clear ho1 hb1) | ((with_reducible refine gate_builtin (b := .append) (xs := #[.tmp 47, .tmp 48]) rfl ?_); at_builtin; refine Kd.R_append_rows k75 (w0 := w) w.heap.size rfl (.tmp 47) (.tmp 48) 25 75 (.agg #[(.int .i64 0), (.int .i64 0)]) 16 rfl Try.underlying25 info75 rfl (by decide) (by omega) (.slice A1 _ c1) [(⟨x, c⟩ : S75)] l _ _ _ (fun _ => True) (fun _ => False) rfl rfl ?aO ?aR (fun _ _ h => h) (fun _ h => h.elim) (fun _ _ => trivial) ?aB ?aS ?aL ?_; (case aO => exact HO1.out); (case aR => exact Kd.C_below hC.out HB1.out); (case aB => exact HB1.out); (case aS => exact HB1.out.size); (case aL => have := hn.out; simp; omega); intro v2 w2 ho2 hb2 hg2 hat2; have HO2 := Aside0.mk ho2; have HB2 := Aside0.mk hb2; obtain ⟨A2, c2, e2⟩ := Kd.R_slice ho2; subst e2; clear hg2 hat2 ho2 hb2))
    go_ret
    exact ⟨A2, c2, rfl, (Kd.R_reads' HO2.out).2.2, (Kd.R_reads' HO2.out).2.1, HB2.out⟩
  rw [if_neg k3] at h
  obtain rfl := Option.some.inj h
  have kx1 : (x == 0) = false := by have := KX.resolve_right k3; simpa using this
  have q1 : decide (0 < l.length) = false := decide_eq_false k3
  have q3 : decide ((0 : Int) < (l.length : Int)) = false := decide_eq_false (by omega)
  have q0 : (0 < l.length) = False := eq_false k3
  have q2 : ((0 : Int) < (l.length : Int)) = False := eq_false (by omega)
  clear k1 k2 k3 KX
  go_enter Try.func55, Try.ntmps55
  go_wp2_with (first | ((with_reducible refine gate_dst (N := 47) rfl ?_); refine Kd.R_lit k75 _ 75 ?hg (N := 47) ?hd (xs := ([(⟨x, c⟩ : S75)] : List S75)) (inner := [.int .i64 x, .int .i64 c]) (ok := fun _ => True) (okp := fun _ => True) ?hr ?hp (fun _ hk => hk) trivial (Below.refl _ _) (Nat.le_refl _) (by simp) ?_; (case hd => rfl); (case hg => rfl); (case hr => first | (go_simp; done) | (go_simp; rfl)); (case hp => exact (Reps.c2 (show Kd.M k75 _ _ _ (⟨x, c⟩ : S75) [.int .i64 x, .int .i64 c] from (k75_mkM _ _ _ (⟨x, c⟩ : S75))) (Reps.none _ _))); intro v1 w1 ho1 hb1 hg_ hnew_; clear hg_ hnew_; obtain ⟨A1, c1, e1⟩ := Kd.R_slice ho1; subst e1; have HO1 := Aside0.mk ho1; have HB1 := Aside0.mk hb1; clear ho1 hb1) | ((with_reducible refine gate_builtin (b := .append) (xs := #[.tmp 47, .tmp 48]) rfl ?_); at_builtin; refine Kd.R_append_rows k75 (w0 := w) w.heap.size rfl (.tmp 47) (.tmp 48) 25 75 (.agg #[(.int .i64 0), (.int .i64 0)]) 16 rfl Try.underlying25 info75 rfl (by decide) (by omega) (.slice A1 _ c1) [(⟨x, c⟩ : S75)] l _ _ _ (fun _ => True) (fun _ => False) rfl rfl ?aO ?aR (fun _ _ h => h) (fun _ h => h.elim) (fun _ _ => trivial) ?aB ?aS ?aL ?_; (case aO => exact HO1.out); (case aR => exact Kd.C_below hC.out HB1.out); (case aB => exact HB1.out); (case aS => exact HB1.out.size); (case aL => have := hn.out; simp; omega); intro v2 w2 ho2 hb2 hg2 hat2; have HO2 := Aside0.mk ho2; have HB2 := Aside0.mk hb2; obtain ⟨A2, c2, e2⟩ := Kd.R_slice ho2; subst e2; clear hg2 hat2 ho2 hb2))
  go_ret
  exact ⟨A2, c2, rfl, (Kd.R_reads' HO2.out).2.2, (Kd.R_reads' HO2.out).2.1, HB2.out⟩

/-! ### leap_split: function 56 (by hand) -/
def leap_split.g (l : List (S75)) : Option (Int × List (S75)) :=
  if l.length < 8000000000000 then (if (l.length : Int) = 0 then some (0, []) else if (rd_T75 l 0).f1 = 1 then some ((rd_T75 l 0).f0, l.drop 1) else some ((rd_T75 l 0).f0, l.set 0 (⟨(rd_T75 l 0).f0, wrap64 ((rd_T75 l 0).f1 - 1)⟩ : S75))) else none
set_option maxHeartbeats 8000000 in
set_option maxRecDepth 100000 in
theorem leap_split.callsC (A : Option Addr) (cap : Nat) (l : List (S75)) (r1 : Int) (r2 : List (S75)) (w : World) (hC0 : Kd.C k75 w A l.length l) (hc0 : l.length ≤ cap) (h : leap_split.g l = some (r1, r2)) :
    Calls Try.prog 56 #[.slice A l.length cap] w fun e w' => ∃ A' c', e = .returned (.tuple #[.int .i64 r1, .slice A' r2.length c']) ∧ Kd.C k75 w' A' r2.length r2 ∧ r2.length ≤ c' ∧ Below w.heap.size w w' := by
  unfold leap_split.g at h
  by_cases hn0 : l.length < 8000000000000
  rotate_left
  · rw [if_neg hn0] at h
    cases h
  rw [if_pos hn0] at h
  have hC := Aside0.mk hC0
  have hc := Aside0.mk hc0
  have hn := Aside0.mk hn0
  clear hC0 hc0 hn0
  by_cases k1 : (l.length : Int) = 0
  · rw [if_pos k1] at h
    simp only [Option.some.injEq, Prod.mk.injEq] at h
    obtain ⟨rfl, rfl⟩ := h
    have k1a : ((l.length : Int) == 0) = true := by simpa using k1
    clear k1
    go_enter Try.func56, Try.ntmps56
    go_wp2
    refine bodyPost_ret (results_list (rs := [.tmp 2, .tmp 3]) (vs := [.int .i64 0, .slice none 0 0]) rfl (by simp) (Vals.tmp (Vals.tmp Vals.nil))) rfl ?_
    exact ⟨none, 0, rfl, Kd.C_nil _ _, Nat.le_refl _, Below.refl _ _⟩
  rw [if_neg k1] at h
  have hl0 : Aside0 (0 < l.length) := ⟨by omega⟩
  have k1a : ((l.length : Int) == 0) = false := beq_eq_false_iff_ne.mpr k1
  by_cases k4 : (rd_T75 l 0).f1 = 1
  · rw [if_pos k4] at h
    simp only [Option.some.injEq, Prod.mk.injEq] at h
    obtain ⟨rfl, rfl⟩ := h
    have k4a : ((rd_T75 l 0).f1 == 1) = true := by simpa using k4
    obtain ⟨ad, rfl, hx0, hx1⟩ := at_T75 hC.out 0 (by omega) (by omega)
    try rw [show ((0 : Int)).toNat = 0 from rfl] at hx0 hx1
    try rw [show 0 * 2 = 0 from rfl] at hx0 hx1
    try rw [Addr.add_zero'] at hx0
    try rw [Addr.add_zero'] at hx1
    have q0 : (0 < l.length) = True := eq_true (by omega)
    have q1 : decide (0 < l.length) = true := decide_eq_true (by omega)
    have q2 : ((0 : Int) < (l.length : Int)) = True := eq_true (by omega)
    have q3 : decide ((0 : Int) < (l.length : Int)) = true := decide_eq_true (by omega)
    have hcd := Aside0.mk (Kd.C_drop (m := 1) (c := cap) hC.out (by have := hl0.out; omega) hc.out)
    obtain ⟨i0, hi0, _, hsz0, _⟩ := info_parts info75
    have hcut := cut_from (P := Try.prog) 25 75 .i64 Try.underlying25 hi0 2 hsz0 (some ad) l.length cap 1 (by omega) (by have := hl0.out; omega)
    obtain ⟨A8, hA8⟩ : ∃ A1, A1 = (if cap = (1 : Int).toNat then (some ad) else ((some ad) : Option Addr).map (·.add ((1 : Int).toNat * 2))) := ⟨_, rfl⟩
    obtain ⟨y, hy⟩ : ∃ y, y = l.drop 1 := ⟨_, rfl⟩
    have hyl : y.length = l.length - (1 : Int).toNat := by rw [hy, List.length_drop]; rfl
    rw [← hyl, ← hA8] at hcut
    have HA8 := Aside0.mk hA8
    have HYL := Aside0.mk hyl
    rw [← hy] at hcd ⊢
    have hcd : Aside0 (Kd.C k75 w A8 y.length y) := ⟨by rw [HA8.out]; exact hcd.out⟩
    have qs : (1 : Int) ≤ (l.length : Int) := by have := hl0.out; omega
    clear k1 k4 hA8 hyl hy hi0 hsz0
    replace qs := eq_true qs
    go_enter Try.func56, Try.ntmps56
    go_wp2
    repeat (go_quiet (fail); try go_wp2)
    refine bodyPost_ret (results_list (rs := [.tmp 2, .tmp 3]) (vs := [.int .i64 (rd_T75 l 0).f0, .slice A8 y.length (cap - (1 : Int).toNat)]) rfl (by simp) (Vals.tmp (Vals.tmp Vals.nil))) rfl ?_
    exact ⟨A8, cap - (1 : Int).toNat, rfl, Kd.C_drewN hcd.out _, by have h1 := HYL.out; have h2 := hc.out; have h3 : (1 : Int).toNat = 1 := rfl; omega, pw_below_drewN (Below.refl _ _) _⟩
  rw [if_neg k4] at h
  simp only [Option.some.injEq, Prod.mk.injEq] at h
  obtain ⟨rfl, rfl⟩ := h
  have k4a : ((rd_T75 l 0).f1 == 1) = false := by simpa using k4
  obtain ⟨ad, rfl, hx0, hx1⟩ := at_T75 hC.out 0 (by omega) (by omega)
  try rw [show ((0 : Int)).toNat = 0 from rfl] at hx0 hx1
  try rw [show 0 * 2 = 0 from rfl] at hx0 hx1
  try rw [Addr.add_zero'] at hx0
  try rw [Addr.add_zero'] at hx1
  have q0 : (0 < l.length) = True := eq_true (by omega)
  have q1 : decide (0 < l.length) = true := decide_eq_true (by omega)
  have q2 : ((0 : Int) < (l.length : Int)) = True := eq_true (by omega)
  have q3 : decide ((0 : Int) < (l.length : Int)) = true := decide_eq_true (by omega)
  clear k1 k4
  go_enter Try.func56, Try.ntmps56
  go_wp2_with fail
  refine (api_Run.calls (some ad) cap l l w hC.out hc.out (if_pos (by have := hn.out; omega))).mono ?_
  rintro e w1 ⟨v1, rfl, ho1, hb1⟩
  obtain ⟨gg, c1, rfl, hgb, hgl, cl1, hG1⟩ := Kd.R_form ho1 (by have := hl0.out; omega)
  have HB1 := Aside0.mk hb1
  obtain ⟨ce, hcl, hM, hcc, hfr⟩ := Kd.R_elem ho1 z75 (0 : Int) (by omega) (by have := hl0.out; omega)
  obtain rfl := k75_openM hM
  have hy0 : w1.cell? ⟨gg, 0, none⟩ = some (.int .i64 (rd_T75 l 0).f0) := hcc 0 _ rfl
  have hy1 : w1.cell? ⟨gg, 1, none⟩ = some (.int .i64 (rd_T75 l 0).f1) := hcc 1 _ rfl
  have hf1 : w1.frozen? ⟨gg, 1, none⟩ = false := hfr 1
  have HP := Aside0.mk (show Kd.R k75 75 (w1.setCell ⟨gg, 1, none⟩ (.int .i64 (wrap64 ((rd_T75 l 0).f1 - 1)))) w.heap.size (fun _ => True) (.slice (some ⟨gg, 0, none⟩) l.length c1) (l.set 0 (⟨(rd_T75 l 0).f0, wrap64 ((rd_T75 l 0).f1 - 1)⟩ : S75)) from (Kd.R_seg ho1 (0 : Int) (by omega) (by have := hl0.out; omega) (seg := [.int .i64 (wrap64 ((rd_T75 l 0).f1 - 1))]) (j := 1) hcl hcc (show 2 ≤ 2 from by decide) (x' := (⟨(rd_T75 l 0).f0, wrap64 ((rd_T75 l 0).f1 - 1)⟩ : S75)) (k75_mkM _ _ _ (⟨(rd_T75 l 0).f0, wrap64 ((rd_T75 l 0).f1 - 1)⟩ : S75)) (fun _ hk => hk)).1)
  have HGB := Aside0.mk hgb
  clear hcl hM hcc hfr ho1 hb1 hgb hgl hG1
  have hx0' := lf_ (HB1.out.setCell (p := ⟨gg, 1, none⟩) HGB.out (.int .i64 (wrap64 ((rd_T75 l 0).f1 - 1)))) hx0
  go_wp2
  repeat (go_quiet (fail); try go_wp2)
  refine bodyPost_ret (results_list (rs := [.tmp 2, .tmp 3]) (vs := [.int .i64 (rd_T75 l 0).f0, .slice (some ⟨gg, 0, none⟩) l.length c1]) rfl (by simp) (Vals.tmp (Vals.tmp Vals.nil))) rfl ?_
  refine ⟨some ⟨gg, 0, none⟩, c1, by simp, ?_, ?_, HB1.out.setCell HGB.out _⟩
  · exact (Kd.R_reads' HP.out).2.2
  · have := (Kd.R_reads' HP.out).2.1; simpa using this

end Go.Proofs.Ytdkcociababjdaa.PLeapLong
