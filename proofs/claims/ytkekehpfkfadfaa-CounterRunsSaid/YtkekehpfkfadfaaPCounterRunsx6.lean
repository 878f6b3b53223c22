-- out of a turned copy of the print, by a program of this session; Lean checks it
import Derived.Test.YtkekehpfkfadfaaPCounterRunsx0
import Derived.Test.YtkekehpfkfadfaaPCounterRunsx5
namespace Go.Proofs.Ytkekehpfkfadfaa.PCounterRuns
open Go.RowKit Go.Proofs.YtkekehpfkfadfaaW.PrintWords Go.Proofs.YtkekehpfkfadfaaW.PrintLast Go.Proofs.YtkekehpfkfadfaaW.PrintMore
attribute [local go_sem] max2_int min2_int max_two min_two max_three min_three max_four min_four   -- for this text's walks alone
set_option linter.unusedVariables false
set_option linter.unusedSimpArgs false

attribute [local go_sem] isSome_put_
/-! ### standstillref06_SameCount: function 16 -/
mutual
def standstillref06_SameCount.j0 : Nat → Bool → Int → List Int → Int → List Int → Option (Bool)
 | 0, _, _, _, _, _ => none
 | k + 1, x19, x127000, x127001, x128000, x128001 => if x19 = true then (some false) else (standstillref06_SameCount.l0 k 0 x127000 x127001 x128000 x128001)
def standstillref06_SameCount.l0 : Nat → Int → Int → List Int → Int → List Int → Option (Bool)
 | 0, _, _, _, _, _ => none
 | k + 1, x5, x127000, x127001, x128000, x128001 => if x5 < (x127001.length : Int) then (if 0 ≤ x5 then (if x5 < (x128001.length : Int) then (if (rd x127001 x5) = (rd x128001 x5) then (standstillref06_SameCount.l0 k (wrap64 (x5 + 1)) x127000 x127001 x128000 x128001) else (some false)) else (none)) else (none)) else (some true)
end
def standstillref06_SameCount.f (k : Nat) (a0_0 : Int) (l0_1 : List Int) (a1_0 : Int) (l1_1 : List Int) : Option (Bool) := if a0_0 = a1_0 then (standstillref06_SameCount.j0 k ((l0_1.length : Int) != (l1_1.length : Int)) a0_0 l0_1 a1_0 l1_1) else (standstillref06_SameCount.j0 k true a0_0 l0_1 a1_0 l1_1)
theorem standstillref06_SameCount.mono_l : ∀ k, (∀ y0 y1 y2 y3 y4, LeO (standstillref06_SameCount.j0 k y0 y1 y2 y3 y4) (standstillref06_SameCount.j0 (k + 1) y0 y1 y2 y3 y4)) ∧ (∀ y0 y1 y2 y3 y4, LeO (standstillref06_SameCount.l0 k y0 y1 y2 y3 y4) (standstillref06_SameCount.l0 (k + 1) y0 y1 y2 y3 y4))
 | 0 => ⟨fun _ _ _ _ _ r h => by simp [standstillref06_SameCount.j0] at h, fun _ _ _ _ _ r h => by simp [standstillref06_SameCount.l0] at h⟩
 | k + 1 => by
  obtain ⟨ih0, ih1⟩ := standstillref06_SameCount.mono_l k
  refine ⟨?_, ?_⟩
  ·intro y0 y1 y2 y3 y4
   unfold standstillref06_SameCount.j0
   repeat' first
   | (with_reducible exact ih0 _ _ _ _ _)
   | (with_reducible exact ih1 _ _ _ _ _)
   | (with_reducible exact LeO.refl _)
   | (with_reducible exact LeO.none _)
   | (with_reducible refine LeO.ite ?_ ?_)
   | (with_reducible refine LeO.bind ?_ (fun _ => ?_))
   | exact ih0 _ _ _ _ _
   | exact ih1 _ _ _ _ _
   | exact LeO.none _
   | refine LeO.ite ?_ ?_
   | refine LeO.bind ?_ (fun _ => ?_)
  ·intro y0 y1 y2 y3 y4
   unfold standstillref06_SameCount.l0
   repeat' first
   | (with_reducible exact ih0 _ _ _ _ _)
   | (with_reducible exact ih1 _ _ _ _ _)
   | (with_reducible exact LeO.refl _)
   | (with_reducible exact LeO.none _)
   | (with_reducible refine LeO.ite ?_ ?_)
   | (with_reducible refine LeO.bind ?_ (fun _ => ?_))
   | exact ih0 _ _ _ _ _
   | exact ih1 _ _ _ _ _
   | exact LeO.none _
   | refine LeO.ite ?_ ?_
   | refine LeO.bind ?_ (fun _ => ?_)
theorem standstillref06_SameCount.mono : ∀ a0 a1 a2 a3 k, LeO (standstillref06_SameCount.f k a0 a1 a2 a3) (standstillref06_SameCount.f (k + 1) a0 a1 a2 a3) := by
 intro a0 a1 a2 a3 k
 obtain ⟨ih0, ih1⟩ := standstillref06_SameCount.mono_l k
 unfold standstillref06_SameCount.f
 repeat' first
   | (with_reducible exact ih0 _ _ _ _ _)
   | (with_reducible exact ih1 _ _ _ _ _)
   | (with_reducible exact LeO.refl _)
   | (with_reducible exact LeO.none _)
   | (with_reducible refine LeO.ite ?_ ?_)
   | (with_reducible refine LeO.bind ?_ (fun _ => ?_))
   | exact ih0 _ _ _ _ _
   | exact ih1 _ _ _ _ _
   | exact LeO.none _
   | refine LeO.ite ?_ ?_
   | refine LeO.bind ?_ (fun _ => ?_)
set_option maxHeartbeats 8000000 in
set_option maxRecDepth 100000 in
theorem standstillref06_SameCount.calls (k : Nat) (a0_0 : Int) (A0_1 : Option Addr) (c0_1 : Nat) (l0_1 : List Int) (a1_0 : Int) (A1_1 : Option Addr) (c1_1 : Nat) (l1_1 : List Int) (r : Bool) (w : World) (hr0_1 : Kd.C (Kd.int .i64) w A0_1 l0_1.length l0_1) (hc0_1 : l0_1.length ≤ c0_1) (hr1_1 : Kd.C (Kd.int .i64) w A1_1 l1_1.length l1_1) (hc1_1 : l1_1.length ≤ c1_1) (h : standstillref06_SameCount.f k a0_0 l0_1 a1_0 l1_1 = some r) :
  Calls Try.prog 16 #[.agg #[.int .i64 a0_0, .slice A0_1 l0_1.length c0_1], .agg #[.int .i64 a1_0, .slice A1_1 l1_1.length c1_1]] w fun e w' => e = .returned (.bool r) ∧ Below w.heap.size w w' := by
 have hu27 := Try.underlying27
 have HR0_1 := Aside0.mk hr0_1
 have HC0_1 := Aside0.mk hc0_1
 clear hr0_1 hc0_1
 have HR1_1 := Aside0.mk hr1_1
 have HC1_1 := Aside0.mk hc1_1
 clear hr1_1 hc1_1
 have HB := A_ (Below.refl w.heap.size w)
 have H : (if a0_0 = a1_0 then (standstillref06_SameCount.j0 k ((l0_1.length : Int) != (l1_1.length : Int)) a0_0 l0_1 a1_0 l1_1) else (standstillref06_SameCount.j0 k true a0_0 l0_1 a1_0 l1_1)) = some r := h
 clear h
 have HC3 := Aside0.mk H
 clear H
 go_enter Try.func16, Try.ntmps16
 go_upto_region 1 with (first | ((with_reducible refine gate_dst (N := 2) rfl ?_); (try (refine gate_guard (by rfl) ?_; dsimp only)); refine box_event ?hg (N := 2) ?hd (cs := #[.int .i64 a0_0, .slice A0_1 l0_1.length c0_1]) (t := 27) ?hr ?_; (case hd => rfl); (case hg => rfl); (case hr => first | (go_simp; done) | (go_simp; rfl)); intro gb126 hg w4 hbox hb; have n0_ := A_ (below_step (bk_ HB.out) hb); have n1_ := A_ (hbox); have n2_ := A_ (bz_ hg (bk_ HB.out)); have n3_ := A_ (bz_ hg (bk_ HB.out)); clear HB; have HB := n0_; have BK126 := n1_; have GW126 := n2_; have GE126 := n3_; clear n0_ n1_ n2_ n3_ hb hbox hg) | ((with_reducible refine gate_dst (N := 3) rfl ?_); (try (refine gate_guard (by rfl) ?_; dsimp only)); refine box_event ?hg (N := 3) ?hd (cs := #[.int .i64 a1_0, .slice A1_1 l1_1.length c1_1]) (t := 27) ?hr ?_; (case hd => rfl); (case hg => rfl); (case hr => first | (go_simp; done) | (go_simp; rfl)); intro gb127 hg w5 hbox hb; have n0_ := A_ (blk_below (pk_ BK126.out) hb); have n1_ := A_ (below_step (bk_ HB.out) hb); have n2_ := A_ (hbox); have n3_ := A_ (bz_ hg (bk_ HB.out)); have n4_ := A_ (bz_ hg (bk_ HB.out)); have n5_ := A_ (nl_ hg (pk_ BK126.out)); have n6_ := A_ (ng_ hg (pk_ BK126.out)); clear BK126 HB; have BK126 := n0_; have HB := n1_; have BK127 := n2_; have GW127 := n3_; have GE127 := n4_; have NB126_127 := n5_; have NB127_126 := n6_; clear n0_ n1_ n2_ n3_ n4_ n5_ n6_ hb hbox hg))
 repeat (go_quiet (first | ((with_reducible refine gate_dst (N := 2) rfl ?_); (try (refine gate_guard (by rfl) ?_; dsimp only)); refine box_event ?hg (N := 2) ?hd (cs := #[.int .i64 a0_0, .slice A0_1 l0_1.length c0_1]) (t := 27) ?hr ?_; (case hd => rfl); (case hg => rfl); (case hr => first | (go_simp; done) | (go_simp; rfl)); intro gb126 hg w4 hbox hb; have n0_ := A_ (below_step (bk_ HB.out) hb); have n1_ := A_ (hbox); have n2_ := A_ (bz_ hg (bk_ HB.out)); have n3_ := A_ (bz_ hg (bk_ HB.out)); clear HB; have HB := n0_; have BK126 := n1_; have GW126 := n2_; have GE126 := n3_; clear n0_ n1_ n2_ n3_ hb hbox hg) | ((with_reducible refine gate_dst (N := 3) rfl ?_); (try (refine gate_guard (by rfl) ?_; dsimp only)); refine box_event ?hg (N := 3) ?hd (cs := #[.int .i64 a1_0, .slice A1_1 l1_1.length c1_1]) (t := 27) ?hr ?_; (case hd => rfl); (case hg => rfl); (case hr => first | (go_simp; done) | (go_simp; rfl)); intro gb127 hg w5 hbox hb; have n0_ := A_ (blk_below (pk_ BK126.out) hb); have n1_ := A_ (below_step (bk_ HB.out) hb); have n2_ := A_ (hbox); have n3_ := A_ (bz_ hg (bk_ HB.out)); have n4_ := A_ (bz_ hg (bk_ HB.out)); have n5_ := A_ (nl_ hg (pk_ BK126.out)); have n6_ := A_ (ng_ hg (pk_ BK126.out)); clear BK126 HB; have BK126 := n0_; have HB := n1_; have BK127 := n2_; have GW127 := n3_; have GE127 := n4_; have NB126_127 := n5_; have NB127_126 := n6_; clear n0_ n1_ n2_ n3_ n4_ n5_ n6_ hb hbox hg)); go_upto_region 1 with (first | ((with_reducible refine gate_dst (N := 2) rfl ?_); (try (refine gate_guard (by rfl) ?_; dsimp only)); refine box_event ?hg (N := 2) ?hd (cs := #[.int .i64 a0_0, .slice A0_1 l0_1.length c0_1]) (t := 27) ?hr ?_; (case hd => rfl); (case hg => rfl); (case hr => first | (go_simp; done) | (go_simp; rfl)); intro gb126 hg w4 hbox hb; have n0_ := A_ (below_step (bk_ HB.out) hb); have n1_ := A_ (hbox); have n2_ := A_ (bz_ hg (bk_ HB.out)); have n3_ := A_ (bz_ hg (bk_ HB.out)); clear HB; have HB := n0_; have BK126 := n1_; have GW126 := n2_; have GE126 := n3_; clear n0_ n1_ n2_ n3_ hb hbox hg) | ((with_reducible refine gate_dst (N := 3) rfl ?_); (try (refine gate_guard (by rfl) ?_; dsimp only)); refine box_event ?hg (N := 3) ?hd (cs := #[.int .i64 a1_0, .slice A1_1 l1_1.length c1_1]) (t := 27) ?hr ?_; (case hd => rfl); (case hg => rfl); (case hr => first | (go_simp; done) | (go_simp; rfl)); intro gb127 hg w5 hbox hb; have n0_ := A_ (blk_below (pk_ BK126.out) hb); have n1_ := A_ (below_step (bk_ HB.out) hb); have n2_ := A_ (hbox); have n3_ := A_ (bz_ hg (bk_ HB.out)); have n4_ := A_ (bz_ hg (bk_ HB.out)); have n5_ := A_ (nl_ hg (pk_ BK126.out)); have n6_ := A_ (ng_ hg (pk_ BK126.out)); clear BK126 HB; have BK126 := n0_; have HB := n1_; have BK127 := n2_; have GW127 := n3_; have GE127 := n4_; have NB126_127 := n5_; have NB127_126 := n6_; clear n0_ n1_ n2_ n3_ n4_ n5_ n6_ hb hbox hg)))
 (try simp only [Act.put, List.setIfInBounds_toArray, List.set_cons_zero, List.set_cons_succ])
 go_cut [19] (fun v19 wc => ∃ (kq : Nat) (x19_2 : Bool), v19 = .bool x19_2 ∧ Aside0 (standstillref06_SameCount.j0 kq x19_2 a0_0 l0_1 a1_0 l1_1 = some r) ∧ Aside0 (kq ≤ k) ∧ Aside0 (wc.heap[gb126]? = some (.cells #[.int .i64 a0_0, (.slice A0_1 l0_1.length c0_1)] 27 (0, 0))) ∧ Aside0 (wc.heap[gb127]? = some (.cells #[.int .i64 a1_0, (.slice A1_1 l1_1.length c1_1)] 27 (0, 0))) ∧ Aside0 (Below w.heap.size w wc))
 case first =>
  have H := HC3.out
  clear HC3
  by_cases c6 : a0_0 = a1_0
  ·rw [if_pos c6] at H
   have c6b0 : (a0_0 == a1_0) = true := beq_iff_eq.mpr c6
   have c6b1 : (a0_0 != a1_0) = false := bne_eq_false_iff_eq.mpr c6
   clear c6
   (first | rw [c6b0] | (simp only [i64_w, i32_w]; rw [c6b0]) | skip)
   have H' := Aside0.mk H
   clear H
   have hnb7 := NB126_127.out
   have hnc7 := NB127_126.out
   obtain ⟨hcz8_0, hcz8_1⟩ := bc2_ BK126.out
   have hfz8_0 := blk_frozen BK126.out 0
   have hfz8_1 := blk_frozen BK126.out 1
   obtain ⟨hcz9_0, hcz9_1⟩ := bc2_ BK127.out
   have hfz9_0 := blk_frozen BK127.out 0
   have hfz9_1 := blk_frozen BK127.out 1
   go_wp2
   repeat (go_quiet (fail); try go_wp2)
   go_meet
   case rel => exact ⟨_, (((l0_1.length : Int) != (l1_1.length : Int))), jr_, H', ⟨by first | omega | exact Nat.le_refl _⟩, ⟨pk_ BK126.out⟩, ⟨pk_ BK127.out⟩, ⟨bk_ HB.out⟩⟩
  ·rw [if_neg c6] at H
   have c6b0 : (a0_0 == a1_0) = false := beq_eq_false_iff_ne.mpr c6
   have c6b1 : (a0_0 != a1_0) = true := bne_iff_ne.mpr c6
   (first | rw [c6b0] | (simp only [i64_w, i32_w]; rw [c6b0]) | skip)
   have H' := Aside0.mk H
   clear H
   have hnb10 := NB126_127.out
   have hnc10 := NB127_126.out
   obtain ⟨hcz11_0, hcz11_1⟩ := bc2_ BK126.out
   have hfz11_0 := blk_frozen BK126.out 0
   have hfz11_1 := blk_frozen BK126.out 1
   obtain ⟨hcz12_0, hcz12_1⟩ := bc2_ BK127.out
   have hfz12_0 := blk_frozen BK127.out 0
   have hfz12_1 := blk_frozen BK127.out 1
   go_wp2
   repeat (go_quiet (fail); try go_wp2)
   go_meet
   case rel => exact ⟨_, (true), jr_, H', ⟨by first | omega | exact Nat.le_refl _⟩, ⟨pk_ BK126.out⟩, ⟨pk_ BK127.out⟩, ⟨bk_ HB.out⟩⟩
 case rest =>
  clear HC3
  obtain ⟨kq, x19_2, rfl, HA, HJ2, BK126, BK127, HB⟩ := hcut
  cases kq with
  | zero => exact absurd HA.out (by simp [standstillref06_SameCount.j0])
  | succ kj2 =>
   have H := HA.out
   clear HA
   simp only [standstillref06_SameCount.j0] at H
   by_cases c13 : x19_2 = true
   ·subst c13
    have H1 : (some false) = some r := by rw [if_pos rfl] at H; exact H
    clear H
    have H := H1
    clear H1
    obtain rfl := Option.some.inj H
    go_wp2
    repeat (go_quiet (fail); try go_wp2)
    go_ret
    exact ⟨er_, bk_ HB.out⟩
   ·replace c13 := Bool.eq_false_iff.mpr c13
    subst c13
    have H1 : (standstillref06_SameCount.l0 kj2 0 a0_0 l0_1 a1_0 l1_1) = some r := by rw [if_neg (show ¬ (false = true) by decide)] at H; exact H
    clear H
    have H := H1
    clear H1
    have H' := Aside0.mk H
    clear H
    go_wp2
    repeat (go_quiet (fail); try go_wp2)
    go_loopg [5] kj2 (fun kq v5 w' => ∃ (x5_2 : Int), v5 = .int .i64 x5_2 ∧ Aside0 (standstillref06_SameCount.l0 kq x5_2 a0_0 l0_1 a1_0 l1_1 = some r) ∧ Aside0 (kq ≤ kj2) ∧ Aside0 (w'.heap[gb126]? = some (.cells #[.int .i64 a0_0, (.slice A0_1 l0_1.length c0_1)] 27 (0, 0))) ∧ Aside0 (w'.heap[gb127]? = some (.cells #[.int .i64 a1_0, (.slice A1_1 l1_1.length c1_1)] 27 (0, 0))) ∧ Aside0 (Below w.heap.size w w'))
    case atStart => exact ⟨(0), jr_, H', ⟨Nat.le_refl _⟩, ⟨pk_ BK126.out⟩, ⟨pk_ BK127.out⟩, ⟨bk_ HB.out⟩⟩
    case round =>
     clear H'
     (try clear c13)
     obtain ⟨x5_2, rfl, HA, HK2, BK126, BK127, HB⟩ := hrel
     cases gk with
     | zero => exact absurd HA.out (by simp [standstillref06_SameCount.l0])
     | succ k2 =>
      have H := HA.out
      clear HA
      simp only [standstillref06_SameCount.l0] at H
      by_cases c14 : x5_2 < (l0_1.length : Int)
      ·rw [if_pos c14] at H
       have c14b0 : decide (x5_2 < (l0_1.length : Int)) = true := decide_eq_true c14
       clear c14
       by_cases c15 : 0 ≤ x5_2
       ·rw [if_pos c15] at H
        have c15b0 : decide (0 ≤ x5_2) = true := decide_eq_true c15
        clear c15
        by_cases c16 : x5_2 < (l1_1.length : Int)
        ·rw [if_pos c16] at H
         have c16b0 : decide (x5_2 < (l1_1.length : Int)) = true := decide_eq_true c16
         clear c16
         by_cases c17 : (rd l0_1 x5_2) = (rd l1_1 x5_2)
         ·rw [if_pos c17] at H
          have c17b0 : ((rd l0_1 x5_2) == (rd l1_1 x5_2)) = true := beq_iff_eq.mpr c17
          have c17b1 : ((rd l0_1 x5_2) != (rd l1_1 x5_2)) = false := bne_eq_false_iff_eq.mpr c17
          clear c17
          have H' := Aside0.mk H
          clear H
          have hnb18 := NB126_127.out
          have hnc18 := NB127_126.out
          obtain ⟨hcz19_0, hcz19_1⟩ := bc2_ BK126.out
          have hfz19_0 := blk_frozen BK126.out 0
          have hfz19_1 := blk_frozen BK126.out 1
          have p128 : 0 ≤ (x5_2 : Int) := od_
          have q128 : x5_2 < (l0_1.length : Int) := od_
          obtain ⟨ad128, e128, hx128_0⟩ := Kd.at_int HR0_1.out x5_2 p128 q128
          cases e128
          replace hx128_0 := lf_ HB.out hx128_0
          replace p128 := eq_true p128
          replace q128 := eq_true q128
          obtain ⟨hcz20_0, hcz20_1⟩ := bc2_ BK127.out
          have hfz20_0 := blk_frozen BK127.out 0
          have hfz20_1 := blk_frozen BK127.out 1
          have p129 : 0 ≤ (x5_2 : Int) := od_
          have q129 : x5_2 < (l1_1.length : Int) := od_
          obtain ⟨ad129, e129, hx129_0⟩ := Kd.at_int HR1_1.out x5_2 p129 q129
          cases e129
          replace hx129_0 := lf_ HB.out hx129_0
          replace p129 := eq_true p129
          replace q129 := eq_true q129
          go_wp2
          repeat (go_quiet (fail); try go_wp2)
          go_roundg k2
          case measure => have := HJ2.out; have := HK2.out; omega
          case rel => exact ⟨(wrap64 (x5_2 + 1)), jr_, H', ⟨by have := HJ2.out; have := HK2.out; omega⟩, ⟨pk_ BK126.out⟩, ⟨pk_ BK127.out⟩, ⟨bk_ HB.out⟩⟩
         ·rw [if_neg c17] at H
          have c17b0 : ((rd l0_1 x5_2) == (rd l1_1 x5_2)) = false := beq_eq_false_iff_ne.mpr c17
          have c17b1 : ((rd l0_1 x5_2) != (rd l1_1 x5_2)) = true := bne_iff_ne.mpr c17
          obtain rfl := Option.some.inj H
          have hnb21 := NB126_127.out
          have hnc21 := NB127_126.out
          obtain ⟨hcz22_0, hcz22_1⟩ := bc2_ BK126.out
          have hfz22_0 := blk_frozen BK126.out 0
          have hfz22_1 := blk_frozen BK126.out 1
          have p128 : 0 ≤ (x5_2 : Int) := od_
          have q128 : x5_2 < (l0_1.length : Int) := od_
          obtain ⟨ad128, e128, hx128_0⟩ := Kd.at_int HR0_1.out x5_2 p128 q128
          cases e128
          replace hx128_0 := lf_ HB.out hx128_0
          replace p128 := eq_true p128
          replace q128 := eq_true q128
          obtain ⟨hcz23_0, hcz23_1⟩ := bc2_ BK127.out
          have hfz23_0 := blk_frozen BK127.out 0
          have hfz23_1 := blk_frozen BK127.out 1
          have p129 : 0 ≤ (x5_2 : Int) := od_
          have q129 : x5_2 < (l1_1.length : Int) := od_
          obtain ⟨ad129, e129, hx129_0⟩ := Kd.at_int HR1_1.out x5_2 p129 q129
          cases e129
          replace hx129_0 := lf_ HB.out hx129_0
          replace p129 := eq_true p129
          replace q129 := eq_true q129
          go_wp2
          repeat (go_quiet (fail); try go_wp2)
          go_ret
          exact ⟨er_, bk_ HB.out⟩
        ·rw [if_neg c16] at H
         exact absurd H (by simp)
       ·rw [if_neg c15] at H
        exact absurd H (by simp)
      ·rw [if_neg c14] at H
       have c14b0 : decide (x5_2 < (l0_1.length : Int)) = false := decide_eq_false c14
       clear c14
       obtain rfl := Option.some.inj H
       obtain ⟨hcz25_0, hcz25_1⟩ := bc2_ BK126.out
       have hfz25_0 := blk_frozen BK126.out 0
       have hfz25_1 := blk_frozen BK126.out 1
       go_wp2
       repeat (go_quiet (fail); try go_wp2)
       go_ret
       exact ⟨er_, bk_ HB.out⟩

/-! ### standstilllaw06_Moves: function 26 -/
def standstilllaw06_Moves.f  : Option (Int × (List (S33))) := some (2, (([(⟨1, 0, 1, 2⟩ : S33), (⟨0, 1, 0, 0⟩ : S33), (⟨2, 0, 0, 0⟩ : S33)] : List (S33))))
set_option maxHeartbeats 8000000 in
set_option maxRecDepth 100000 in
theorem standstilllaw06_Moves.calls  (r1 : Int) (r2 : List (S33)) (w : World) (h : standstilllaw06_Moves.f  = some (r1, r2)) :
  Calls Try.prog 26 #[] w fun e w' => ∃ v1_ : Value, e = .returned (.agg #[.int .i64 r1, v1_]) ∧ Kd.R k33 33 w' w.heap.size (fun _ => True) v1_ r2 ∧ Below w.heap.size w w' := by
 have hu24 := Try.underlying24
 have hu33 := Try.underlying33
 have HB := A_ (Below.refl w.heap.size w)
 have H : (some (2, (([(⟨1, 0, 1, 2⟩ : S33), (⟨0, 1, 0, 0⟩ : S33), (⟨2, 0, 0, 0⟩ : S33)] : List (S33))))) = some (r1, r2) := h
 clear h
 obtain ⟨y131, hy131⟩ : ∃ y_ : List (S33), y_ = (([(⟨1, 0, 1, 2⟩ : S33), (⟨0, 1, 0, 0⟩ : S33), (⟨2, 0, 0, 0⟩ : S33)] : List (S33))) := ⟨_, rfl⟩
 replace H : (some (2, y131)) = some (r1, r2) := by first | (rw [hy131]; with_reducible exact H) | (have H2_ := (Option.bind_some _ _).symm.trans H; rw [hy131]; with_reducible exact H2_) | (have H2_ := (Option.bind_some _ _).symm.trans H; with_reducible exact H2_) | with_reducible exact H | (rw [hy131]; exact H) | exact H
 have Ny131 := Aside0.mk hy131
 clear hy131
 simp only [Option.some.injEq, Prod.mk.injEq] at H
 obtain ⟨rfl, rfl⟩ := H
 go_enter Try.func26, Try.ntmps26
 go_wp2_with (first | ((with_reducible refine gate_dst (N := 0) rfl ?_); refine box_event ?hg (N := 0) ?hd (cs := #[.int .i64 0, .slice none 0 0]) (t := 24) ?hr ?_; (case hd => rfl); (case hg => rfl); (case hr => first | (go_simp; done) | (go_simp; rfl)); intro gb130 hg w1 hbox hb; have n0_ := A_ (below_step (bk_ HB.out) hb); have n1_ := A_ (hbox); have n2_ := A_ (bz_ hg (bk_ HB.out)); have n3_ := A_ (bz_ hg (bk_ HB.out)); clear HB; have HB := n0_; have BK130 := n1_; have GW130 := n2_; have GE130 := n3_; clear n0_ n1_ n2_ n3_ hb hbox hg) | ((with_reducible refine gate_dst (N := 4) rfl ?_); refine Kd.R_lit k33 _ 33 ?hg (N := 4) ?hd (xs := ([(⟨1, 0, 1, 2⟩ : S33), (⟨0, 1, 0, 0⟩ : S33), (⟨2, 0, 0, 0⟩ : S33)] : List (S33))) (inner := [.int .i64 1, .int .i64 0, .int .i64 1, .int .i64 2, .int .i64 0, .int .i64 1, .int .i64 0, .int .i64 0, .int .i64 2, .int .i64 0, .int .i64 0, .int .i64 0]) (ok := fun _ => True) (okp := fun _ => True) ?hr ?hp (fun _ hk => hk) trivial (Below.refl _ _) (Nat.le_refl _) (by simp) ?_; (case hd => rfl); (case hg => rfl); (case hr => first | (go_simp; done) | (go_simp; rfl)); (case hp => exact (Reps.c4 (show Kd.M k33 _ _ _ (⟨1, 0, 1, 2⟩ : S33) [.int .i64 1, .int .i64 0, .int .i64 1, .int .i64 2] from (k33_mkM _ _ _ (⟨1, 0, 1, 2⟩ : S33) )) (Reps.c4 (show Kd.M k33 _ _ _ (⟨0, 1, 0, 0⟩ : S33) [.int .i64 0, .int .i64 1, .int .i64 0, .int .i64 0] from (k33_mkM _ _ _ (⟨0, 1, 0, 0⟩ : S33) )) (Reps.c4 (show Kd.M k33 _ _ _ (⟨2, 0, 0, 0⟩ : S33) [.int .i64 2, .int .i64 0, .int .i64 0, .int .i64 0] from (k33_mkM _ _ _ (⟨2, 0, 0, 0⟩ : S33) )) (Reps.none _ _))))); intro v132 w2 ho3 hb hg_ hnew_; clear hg_ hnew_; (first | rw [← Ny131.out] at ho3 | (simp only [Int.reduceToNat] at ho3; rw [← Ny131.out] at ho3)); have n0_ := A_ (Kd.R_lower ho3 (below_size (bk_ HB.out))); have n1_ := A_ (blk_below (pk_ BK130.out) hb); have n2_ := A_ (below_step (bk_ HB.out) hb); clear BK130 HB; have HO133 := n0_; have BK130 := n1_; have HB := n2_; clear n0_ n1_ n2_ hb ho3; obtain ⟨Ao4, co4, eo4⟩ := Kd.R_slice HO133.out; subst eo4; obtain ⟨hcz5_0, hcz5_1⟩ := bc2_ BK130.out; have hfz5_0 := blk_frozen BK130.out 0; have hfz5_1 := blk_frozen BK130.out 1))
 refine bodyPost_ret (results_cell_row rfl _ _ gb130 24 #[.int .i64 2, .slice Ao4 y131.length co4] (0, 0) _ rfl (by refine pk_ ?_; refine blk_put (cs := #[.int .i64 2, .slice none 0 0]) ?_ 1 _ rfl; refine pk_ ?_; refine blk_put (cs := #[.int .i64 0, .slice none 0 0]) ?_ 0 _ rfl; exact pk_ BK130.out) Try.underlying24 rfl (by kernel_rfl)) rfl ?_
 exact ⟨_, er_, by (with_reducible repeat (first | apply Kd.R_alloc | apply Kd.R_drewN | apply Kd.R_drew)); exact Kd.R_mono (rf2_ (Kd.R_types HO133.out BK130.out (by decide))) (fun _ hk => trivial), bk_ HB.out⟩

/-! ### standstilllaw06_awake: function 10 -/
def standstilllaw06_awake.f (k : Nat)  : Option (Bool) := (standstilllaw06_Moves.f).bind fun bt134 => ((counter_Run.f k bt134.1 bt134.2 0 (([3, 4] : List Int)) 100).bind fun bt141 => (if bt141.2.2.2 = 0 then (if bt141.2.2.1 = 7 then ((standstillref06_SameCount.f k bt141.1 bt141.2.1 2 (([0, 7] : List Int))).bind fun t151 => (some t151)) else (some false)) else (some false)))
theorem standstilllaw06_awake.mono : ∀ k, LeO (standstilllaw06_awake.f k ) (standstilllaw06_awake.f (k + 1) ) := by
 intro  k
 unfold standstilllaw06_awake.f
 repeat' first
   | (with_reducible exact counter_Run.mono _ _ _ _ _ _)
   | (with_reducible exact standstillref06_SameCount.mono _ _ _ _ _)
   | (with_reducible exact LeO.refl _)
   | (with_reducible exact LeO.none _)
   | (with_reducible refine LeO.ite ?_ ?_)
   | (with_reducible refine LeO.bind ?_ (fun _ => ?_))
   | exact counter_Run.mono _ _ _ _ _ _
   | exact standstillref06_SameCount.mono _ _ _ _ _
   | exact LeO.none _
   | refine LeO.ite ?_ ?_
   | refine LeO.bind ?_ (fun _ => ?_)
set_option maxHeartbeats 8000000 in
set_option maxRecDepth 100000 in
theorem standstilllaw06_awake.calls (k : Nat)  (r : Bool) (w : World) (h : standstilllaw06_awake.f k  = some r) :
  Calls Try.prog 10 #[] w fun e w' => e = .returned (.bool r) ∧ Below w.heap.size w w' := by
 have hu27 := Try.underlying27
 have HB := A_ (Below.refl w.heap.size w)
 have H : ((standstilllaw06_Moves.f).bind fun bt134 => ((counter_Run.f k bt134.1 bt134.2 0 (([3, 4] : List Int)) 100).bind fun bt141 => (if bt141.2.2.2 = 0 then (if bt141.2.2.1 = 7 then ((standstillref06_SameCount.f k bt141.1 bt141.2.1 2 (([0, 7] : List Int))).bind fun t151 => (some t151)) else (some false)) else (some false)))) = some r := h
 clear h
 replace H := Option.bind_eq_some_iff.mp H
 obtain ⟨⟨t134, t135⟩, A10, H⟩ := H
 replace H : ((counter_Run.f k t134 t135 0 (([3, 4] : List Int)) 100).bind fun bt141 => (if bt141.2.2.2 = 0 then (if bt141.2.2.1 = 7 then ((standstillref06_SameCount.f k bt141.1 bt141.2.1 2 (([0, 7] : List Int))).bind fun t151 => (some t151)) else (some false)) else (some false))) = some r := H
 have A1 := Aside0.mk A10
 clear A10
 obtain ⟨y138, hy138⟩ : ∃ y_ : List Int, y_ = (([3, 4] : List Int)) := ⟨_, rfl⟩
 replace H : ((counter_Run.f k t134 t135 0 y138 100).bind fun bt141 => (if bt141.2.2.2 = 0 then (if bt141.2.2.1 = 7 then ((standstillref06_SameCount.f k bt141.1 bt141.2.1 2 (([0, 7] : List Int))).bind fun t151 => (some t151)) else (some false)) else (some false))) = some r := by first | (rw [hy138]; with_reducible exact H) | (have H2_ := (Option.bind_some _ _).symm.trans H; rw [hy138]; with_reducible exact H2_) | (have H2_ := (Option.bind_some _ _).symm.trans H; with_reducible exact H2_) | with_reducible exact H | (rw [hy138]; exact H) | exact H
 have Ny138 := Aside0.mk hy138
 clear hy138
 replace H := Option.bind_eq_some_iff.mp H
 obtain ⟨⟨t141, t142, t145, t146⟩, A20, H⟩ := H
 replace H : (if t146 = 0 then (if t145 = 7 then ((standstillref06_SameCount.f k t141 t142 2 (([0, 7] : List Int))).bind fun t151 => (some t151)) else (some false)) else (some false)) = some r := H
 have A2 := Aside0.mk A20
 clear A20
 by_cases c3 : t146 = 0
 ·rw [if_pos c3] at H
  have c3b0 : (t146 == 0) = true := beq_iff_eq.mpr c3
  have c3b1 : (t146 != 0) = false := bne_eq_false_iff_eq.mpr c3
  clear c3
  by_cases c4 : t145 = 7
  ·rw [if_pos c4] at H
   have c4b0 : (t145 == 7) = true := beq_iff_eq.mpr c4
   have c4b1 : (t145 != 7) = false := bne_eq_false_iff_eq.mpr c4
   clear c4
   obtain ⟨y148, hy148⟩ : ∃ y_ : List Int, y_ = (([0, 7] : List Int)) := ⟨_, rfl⟩
   replace H : ((standstillref06_SameCount.f k t141 t142 2 y148).bind fun t151 => (some t151)) = some r := by first | (rw [hy148]; with_reducible exact H) | (have H2_ := (Option.bind_some _ _).symm.trans H; rw [hy148]; with_reducible exact H2_) | (have H2_ := (Option.bind_some _ _).symm.trans H; with_reducible exact H2_) | with_reducible exact H | (rw [hy148]; exact H) | exact H
   have Ny148 := Aside0.mk hy148
   clear hy148
   replace H := Option.bind_eq_some_iff.mp H
   obtain ⟨t151, A50, H⟩ := H
   replace H : (some t151) = some r := H
   have A5 := Aside0.mk A50
   clear A50
   obtain rfl := Option.some.inj H
   go_enter Try.func10, Try.ntmps10
   go_wp2_with (first | ((with_reducible refine gate_callee (f := 26) rfl ?_); refine goesL_ (some 5) rfl rfl Try.func26 (by kernel_rfl) rfl #[] rfl gl_ ?_; (with_reducible refine (standstilllaw06_Moves.calls  t134 t135 _ A1.out).mono ?_); rintro e w6 ⟨v136, rfl, ho0, hb⟩; refine ⟨_, rfl, ?_⟩; have n0_ := A_ (Kd.R_lower ho0 (below_size (bk_ HB.out))); have n1_ := A_ (below_step (bk_ HB.out) hb); clear HB; have HO137 := n0_; have HB := n1_; clear n0_ n1_; (try clear hb); (try clear hb2); (try clear hk); (try clear hi); (try clear ho0)) | ((with_reducible refine gate_dst (N := 6) rfl ?_); (try (refine gate_guard (by rfl) ?_; dsimp only)); refine Kd.R_lit (Kd.int .i64) _ 3 ?hg (N := 6) ?hd (xs := ([3, 4] : List Int)) (inner := [.int .i64 3, .int .i64 4]) (ok := fun _ => True) (okp := fun _ => True) ?hr ?hp (fun _ hk => hk) trivial (Below.refl _ _) (Nat.le_refl _) (by simp) ?_; (case hd => rfl); (case hg => rfl); (case hr => first | (go_simp; done) | (go_simp; rfl)); (case hp => exact (Reps.one (show Kd.M (Kd.int .i64) _ _ _ 3 [.int .i64 3] from rfl) (Reps.one (show Kd.M (Kd.int .i64) _ _ _ 4 [.int .i64 4] from rfl) (Reps.none _ _)))); intro v139 w7 ho8 hb hg_ hnew_; clear hg_ hnew_; (first | rw [← Ny138.out] at ho8 | (simp only [Int.reduceToNat] at ho8; rw [← Ny138.out] at ho8)); have n0_ := A_ (Kd.R_below (rk_ HO137.out) hb); have n1_ := A_ (Kd.R_lower ho8 (below_size (bk_ HB.out))); have n2_ := A_ (below_step (bk_ HB.out) hb); clear HO137 HB; have HO137 := n0_; have HO140 := n1_; have HB := n2_; clear n0_ n1_ n2_ hb ho8; obtain ⟨Ao9, co9, eo9⟩ := Kd.R_slice HO140.out; subst eo9; obtain ⟨Ao10, co10, eo10⟩ := Kd.R_slice HO137.out; subst eo10) | ((with_reducible refine gate_callee (f := 11) rfl ?_); refine goesL_ (some 8) rfl rfl Try.func11 (by kernel_rfl) rfl #[.agg #[.int .i64 t134, .slice Ao10 t135.length co10], .agg #[.int .i64 0, .slice Ao9 y138.length co9], .int .i64 100] rfl gl_ ?_; (with_reducible refine (counter_Run.calls k t134 _ _ t135 0 _ _ y138 100 t141 t142 t145 t146 _ ?side1 ?side2 ?side3 ?side4 A2.out).mono ?_); (case side1 => repeat (first | exact (Kd.R_reads' HO137.out).2.2 | (with_reducible refine Kd.C_alloc ?_ _) | (with_reducible refine Kd.C_drewN ?_ _) | (with_reducible refine Kd.C_drew ?_))); (case side2 => exact (Kd.R_reads' HO137.out).2.1); (case side3 => repeat (first | exact (Kd.R_reads' HO140.out).2.2 | (with_reducible refine Kd.C_alloc ?_ _) | (with_reducible refine Kd.C_drewN ?_ _) | (with_reducible refine Kd.C_drew ?_))); (case side4 => exact (Kd.R_reads' HO140.out).2.1); rintro e w11 ⟨v143, rfl, ho0, hb⟩; refine ⟨_, rfl, ?_⟩; have n0_ := A_ (Kd.R_below (rk_ HO137.out) hb); have n1_ := A_ (Kd.R_elder' (rk_ HO140.out) (Kd.R_base ho0) hb); have n2_ := A_ (Kd.R_lower (Kd.R_new' ho0 (Kd.R_lt (rk_ HO140.out))) (below_size (bk_ HB.out))); have n3_ := A_ (below_step (bk_ HB.out) hb); clear HO137 HO140 HB; have HO137 := n0_; have HO140 := n1_; have HO144 := n2_; have HB := n3_; clear n0_ n1_ n2_ n3_; (try clear hb); (try clear hb2); (try clear hk); (try clear hi); (try clear ho0)) | ((with_reducible refine gate_dst (N := 1) rfl ?_); (try (refine gate_guard (by rfl) ?_; dsimp only)); refine box_event ?hg (N := 1) ?hd (cs := #[.int .i64 0, .slice none 0 0]) (t := 27) ?hr ?_; (case hd => rfl); (case hg => rfl); (case hr => first | (go_simp; done) | (go_simp; rfl)); intro gb147 hg w12 hbox hb; have n0_ := A_ (Kd.R_below (rk_ HO137.out) hb); have n1_ := A_ (Kd.R_below (rk_ HO140.out) hb); have n2_ := A_ (Kd.R_below (rk_ HO144.out) hb); have n3_ := A_ (below_step (bk_ HB.out) hb); have n4_ := A_ (hbox); have n5_ := A_ (bz_ hg (bk_ HB.out)); have n6_ := A_ (bz_ hg (bk_ HB.out)); clear HO137 HO140 HO144 HB; have HO137 := n0_; have HO140 := n1_; have HO144 := n2_; have HB := n3_; have BK147 := n4_; have GW147 := n5_; have GE147 := n6_; clear n0_ n1_ n2_ n3_ n4_ n5_ n6_ hb hbox hg; obtain ⟨hcz13_0, hcz13_1⟩ := bc2_ BK147.out; have hfz13_0 := blk_frozen BK147.out 0; have hfz13_1 := blk_frozen BK147.out 1; obtain ⟨Ao14, co14, eo14⟩ := Kd.R_slice HO144.out; subst eo14) | ((with_reducible refine gate_dst (N := 20) rfl ?_); (try (refine gate_guard (by rfl) ?_; dsimp only)); refine Kd.R_lit (Kd.int .i64) _ 3 ?hg (N := 20) ?hd (xs := ([0, 7] : List Int)) (inner := [.int .i64 0, .int .i64 7]) (ok := fun _ => True) (okp := fun _ => True) ?hr ?hp (fun _ hk => hk) trivial (Below.refl _ _) (Nat.le_refl _) (by simp) ?_; (case hd => rfl); (case hg => rfl); (case hr => first | (go_simp; done) | (go_simp; rfl)); (case hp => exact (Reps.one (show Kd.M (Kd.int .i64) _ _ _ 0 [.int .i64 0] from rfl) (Reps.one (show Kd.M (Kd.int .i64) _ _ _ 7 [.int .i64 7] from rfl) (Reps.none _ _)))); intro v149 w15 ho16 hb hg_ hnew_; clear hg_ hnew_; (first | rw [← Ny148.out] at ho16 | (simp only [Int.reduceToNat] at ho16; rw [← Ny148.out] at ho16)); have n0_ := A_ (Kd.R_below (rz_ HO137.out BK147.out) hb); have n1_ := A_ (Kd.R_elder' (rz_ HO140.out BK147.out) (Kd.R_base ho16) hb); have n2_ := A_ (Kd.R_elder' (rz_ HO144.out BK147.out) (Kd.R_base ho16) hb); have n3_ := A_ (Kd.R_lower (Kd.R_new' (Kd.R_new' ho16 (Kd.R_lt (rz_ HO140.out BK147.out))) (Kd.R_lt (rz_ HO144.out BK147.out))) (below_size (bk_ HB.out))); have n4_ := A_ (blk_below (g := gb147) (o := .cells #[.int .i64 t141, .slice Ao14 t142.length co14] 27 (0, 0)) (by refine pk_ ?_; refine blk_put (cs := #[.int .i64 t141, .slice none 0 0]) ?_ 1 _ rfl; refine pk_ ?_; refine blk_put (cs := #[.int .i64 0, .slice none 0 0]) ?_ 0 _ rfl; exact pk_ BK147.out) hb); have n5_ := A_ (below_step (bk_ HB.out) hb); clear HO137 HO140 HO144 BK147 HB; have HO137 := n0_; have HO140 := n1_; have HO144 := n2_; have HO150 := n3_; have BK147 := n4_; have HB := n5_; clear n0_ n1_ n2_ n3_ n4_ n5_ hb ho16; obtain ⟨Ao17, co17, eo17⟩ := Kd.R_slice HO150.out; subst eo17) | (go_at_call 16; (with_reducible refine (standstillref06_SameCount.calls k t141 _ _ t142 2 _ _ y148 t151 _ ?side1 ?side2 ?side3 ?side4 A5.out).mono ?_); (case side1 => repeat (first | exact (Kd.R_reads' HO144.out).2.2 | (with_reducible refine Kd.C_alloc ?_ _) | (with_reducible refine Kd.C_drewN ?_ _) | (with_reducible refine Kd.C_drew ?_))); (case side2 => exact (Kd.R_reads' HO144.out).2.1); (case side3 => repeat (first | exact (Kd.R_reads' HO150.out).2.2 | (with_reducible refine Kd.C_alloc ?_ _) | (with_reducible refine Kd.C_drewN ?_ _) | (with_reducible refine Kd.C_drew ?_))); (case side4 => exact (Kd.R_reads' HO150.out).2.1); rintro e w18 ⟨rfl, hb⟩; have n0_ := A_ (Kd.R_below (rk_ HO137.out) hb); have n1_ := A_ (Kd.R_below (rk_ HO140.out) hb); have n2_ := A_ (Kd.R_below (rk_ HO144.out) hb); have n4_ := A_ (blk_below (pk_ BK147.out) hb); have n5_ := A_ (below_step (bk_ HB.out) hb); clear HO137 HO140 HO144 BK147 HB; have HO137 := n0_; have HO140 := n1_; have HO144 := n2_; have BK147 := n4_; have HB := n5_; clear n0_ n1_ n2_ n4_ n5_; (try clear hb); (try clear hb2); (try clear hk); (try clear hi)))
   go_ret
   exact ⟨er_, bk_ HB.out⟩
  ·rw [if_neg c4] at H
   have c4b0 : (t145 == 7) = false := beq_eq_false_iff_ne.mpr c4
   have c4b1 : (t145 != 7) = true := bne_iff_ne.mpr c4
   obtain rfl := Option.some.inj H
   go_enter Try.func10, Try.ntmps10
   go_wp2_with (first | ((with_reducible refine gate_callee (f := 26) rfl ?_); refine goesL_ (some 5) rfl rfl Try.func26 (by kernel_rfl) rfl #[] rfl gl_ ?_; (with_reducible refine (standstilllaw06_Moves.calls  t134 t135 _ A1.out).mono ?_); rintro e w19 ⟨v136, rfl, ho0, hb⟩; refine ⟨_, rfl, ?_⟩; have n0_ := A_ (Kd.R_lower ho0 (below_size (bk_ HB.out))); have n1_ := A_ (below_step (bk_ HB.out) hb); clear HB; have HO137 := n0_; have HB := n1_; clear n0_ n1_; (try clear hb); (try clear hb2); (try clear hk); (try clear hi); (try clear ho0)) | ((with_reducible refine gate_dst (N := 6) rfl ?_); (try (refine gate_guard (by rfl) ?_; dsimp only)); refine Kd.R_lit (Kd.int .i64) _ 3 ?hg (N := 6) ?hd (xs := ([3, 4] : List Int)) (inner := [.int .i64 3, .int .i64 4]) (ok := fun _ => True) (okp := fun _ => True) ?hr ?hp (fun _ hk => hk) trivial (Below.refl _ _) (Nat.le_refl _) (by simp) ?_; (case hd => rfl); (case hg => rfl); (case hr => first | (go_simp; done) | (go_simp; rfl)); (case hp => exact (Reps.one (show Kd.M (Kd.int .i64) _ _ _ 3 [.int .i64 3] from rfl) (Reps.one (show Kd.M (Kd.int .i64) _ _ _ 4 [.int .i64 4] from rfl) (Reps.none _ _)))); intro v139 w20 ho21 hb hg_ hnew_; clear hg_ hnew_; (first | rw [← Ny138.out] at ho21 | (simp only [Int.reduceToNat] at ho21; rw [← Ny138.out] at ho21)); have n0_ := A_ (Kd.R_below (rk_ HO137.out) hb); have n1_ := A_ (Kd.R_lower ho21 (below_size (bk_ HB.out))); have n2_ := A_ (below_step (bk_ HB.out) hb); clear HO137 HB; have HO137 := n0_; have HO140 := n1_; have HB := n2_; clear n0_ n1_ n2_ hb ho21; obtain ⟨Ao22, co22, eo22⟩ := Kd.R_slice HO140.out; subst eo22; obtain ⟨Ao23, co23, eo23⟩ := Kd.R_slice HO137.out; subst eo23) | ((with_reducible refine gate_callee (f := 11) rfl ?_); refine goesL_ (some 8) rfl rfl Try.func11 (by kernel_rfl) rfl #[.agg #[.int .i64 t134, .slice Ao23 t135.length co23], .agg #[.int .i64 0, .slice Ao22 y138.length co22], .int .i64 100] rfl gl_ ?_; (with_reducible refine (counter_Run.calls k t134 _ _ t135 0 _ _ y138 100 t141 t142 t145 t146 _ ?side1 ?side2 ?side3 ?side4 A2.out).mono ?_); (case side1 => repeat (first | exact (Kd.R_reads' HO137.out).2.2 | (with_reducible refine Kd.C_alloc ?_ _) | (with_reducible refine Kd.C_drewN ?_ _) | (with_reducible refine Kd.C_drew ?_))); (case side2 => exact (Kd.R_reads' HO137.out).2.1); (case side3 => repeat (first | exact (Kd.R_reads' HO140.out).2.2 | (with_reducible refine Kd.C_alloc ?_ _) | (with_reducible refine Kd.C_drewN ?_ _) | (with_reducible refine Kd.C_drew ?_))); (case side4 => exact (Kd.R_reads' HO140.out).2.1); rintro e w24 ⟨v143, rfl, ho0, hb⟩; refine ⟨_, rfl, ?_⟩; have n0_ := A_ (Kd.R_below (rk_ HO137.out) hb); have n1_ := A_ (Kd.R_elder' (rk_ HO140.out) (Kd.R_base ho0) hb); have n2_ := A_ (Kd.R_lower (Kd.R_new' ho0 (Kd.R_lt (rk_ HO140.out))) (below_size (bk_ HB.out))); have n3_ := A_ (below_step (bk_ HB.out) hb); clear HO137 HO140 HB; have HO137 := n0_; have HO140 := n1_; have HO144 := n2_; have HB := n3_; clear n0_ n1_ n2_ n3_; (try clear hb); (try clear hb2); (try clear hk); (try clear hi); (try clear ho0)) | ((with_reducible refine gate_dst (N := 1) rfl ?_); (try (refine gate_guard (by rfl) ?_; dsimp only)); refine box_event ?hg (N := 1) ?hd (cs := #[.int .i64 0, .slice none 0 0]) (t := 27) ?hr ?_; (case hd => rfl); (case hg => rfl); (case hr => first | (go_simp; done) | (go_simp; rfl)); intro gb147 hg w25 hbox hb; have n0_ := A_ (Kd.R_below (rk_ HO137.out) hb); have n1_ := A_ (Kd.R_below (rk_ HO140.out) hb); have n2_ := A_ (Kd.R_below (rk_ HO144.out) hb); have n3_ := A_ (below_step (bk_ HB.out) hb); have n4_ := A_ (hbox); have n5_ := A_ (bz_ hg (bk_ HB.out)); have n6_ := A_ (bz_ hg (bk_ HB.out)); clear HO137 HO140 HO144 HB; have HO137 := n0_; have HO140 := n1_; have HO144 := n2_; have HB := n3_; have BK147 := n4_; have GW147 := n5_; have GE147 := n6_; clear n0_ n1_ n2_ n3_ n4_ n5_ n6_ hb hbox hg; obtain ⟨hcz26_0, hcz26_1⟩ := bc2_ BK147.out; have hfz26_0 := blk_frozen BK147.out 0; have hfz26_1 := blk_frozen BK147.out 1; obtain ⟨Ao27, co27, eo27⟩ := Kd.R_slice HO144.out; subst eo27))
   go_ret
   exact ⟨er_, bk_ HB.out⟩
 ·rw [if_neg c3] at H
  have c3b0 : (t146 == 0) = false := beq_eq_false_iff_ne.mpr c3
  have c3b1 : (t146 != 0) = true := bne_iff_ne.mpr c3
  obtain rfl := Option.some.inj H
  go_enter Try.func10, Try.ntmps10
  go_wp2_with (first | ((with_reducible refine gate_callee (f := 26) rfl ?_); refine goesL_ (some 5) rfl rfl Try.func26 (by kernel_rfl) rfl #[] rfl gl_ ?_; (with_reducible refine (standstilllaw06_Moves.calls  t134 t135 _ A1.out).mono ?_); rintro e w28 ⟨v136, rfl, ho0, hb⟩; refine ⟨_, rfl, ?_⟩; have n0_ := A_ (Kd.R_lower ho0 (below_size (bk_ HB.out))); have n1_ := A_ (below_step (bk_ HB.out) hb); clear HB; have HO137 := n0_; have HB := n1_; clear n0_ n1_; (try clear hb); (try clear hb2); (try clear hk); (try clear hi); (try clear ho0)) | ((with_reducible refine gate_dst (N := 6) rfl ?_); (try (refine gate_guard (by rfl) ?_; dsimp only)); refine Kd.R_lit (Kd.int .i64) _ 3 ?hg (N := 6) ?hd (xs := ([3, 4] : List Int)) (inner := [.int .i64 3, .int .i64 4]) (ok := fun _ => True) (okp := fun _ => True) ?hr ?hp (fun _ hk => hk) trivial (Below.refl _ _) (Nat.le_refl _) (by simp) ?_; (case hd => rfl); (case hg => rfl); (case hr => first | (go_simp; done) | (go_simp; rfl)); (case hp => exact (Reps.one (show Kd.M (Kd.int .i64) _ _ _ 3 [.int .i64 3] from rfl) (Reps.one (show Kd.M (Kd.int .i64) _ _ _ 4 [.int .i64 4] from rfl) (Reps.none _ _)))); intro v139 w29 ho30 hb hg_ hnew_; clear hg_ hnew_; (first | rw [← Ny138.out] at ho30 | (simp only [Int.reduceToNat] at ho30; rw [← Ny138.out] at ho30)); have n0_ := A_ (Kd.R_below (rk_ HO137.out) hb); have n1_ := A_ (Kd.R_lower ho30 (below_size (bk_ HB.out))); have n2_ := A_ (below_step (bk_ HB.out) hb); clear HO137 HB; have HO137 := n0_; have HO140 := n1_; have HB := n2_; clear n0_ n1_ n2_ hb ho30; obtain ⟨Ao31, co31, eo31⟩ := Kd.R_slice HO140.out; subst eo31; obtain ⟨Ao32, co32, eo32⟩ := Kd.R_slice HO137.out; subst eo32) | ((with_reducible refine gate_callee (f := 11) rfl ?_); refine goesL_ (some 8) rfl rfl Try.func11 (by kernel_rfl) rfl #[.agg #[.int .i64 t134, .slice Ao32 t135.length co32], .agg #[.int .i64 0, .slice Ao31 y138.length co31], .int .i64 100] rfl gl_ ?_; (with_reducible refine (counter_Run.calls k t134 _ _ t135 0 _ _ y138 100 t141 t142 t145 t146 _ ?side1 ?side2 ?side3 ?side4 A2.out).mono ?_); (case side1 => repeat (first | exact (Kd.R_reads' HO137.out).2.2 | (with_reducible refine Kd.C_alloc ?_ _) | (with_reducible refine Kd.C_drewN ?_ _) | (with_reducible refine Kd.C_drew ?_))); (case side2 => exact (Kd.R_reads' HO137.out).2.1); (case side3 => repeat (first | exact (Kd.R_reads' HO140.out).2.2 | (with_reducible refine Kd.C_alloc ?_ _) | (with_reducible refine Kd.C_drewN ?_ _) | (with_reducible refine Kd.C_drew ?_))); (case side4 => exact (Kd.R_reads' HO140.out).2.1); rintro e w33 ⟨v143, rfl, ho0, hb⟩; refine ⟨_, rfl, ?_⟩; have n2_ := A_ (Kd.R_lower (Kd.R_new' ho0 (Kd.R_lt (rk_ HO140.out))) (below_size (bk_ HB.out))); have n3_ := A_ (below_step (bk_ HB.out) hb); clear HB; have HO144 := n2_; have HB := n3_; clear n2_ n3_; (try clear hb); (try clear hb2); (try clear hk); (try clear hi); (try clear ho0)) | ((with_reducible refine gate_dst (N := 1) rfl ?_); (try (refine gate_guard (by rfl) ?_; dsimp only)); refine box_event ?hg (N := 1) ?hd (cs := #[.int .i64 0, .slice none 0 0]) (t := 27) ?hr ?_; (case hd => rfl); (case hg => rfl); (case hr => first | (go_simp; done) | (go_simp; rfl)); intro gb147 hg w34 hbox hb; have n2_ := A_ (Kd.R_below (rk_ HO144.out) hb); have n3_ := A_ (below_step (bk_ HB.out) hb); have n4_ := A_ (hbox); have n5_ := A_ (bz_ hg (bk_ HB.out)); have n6_ := A_ (bz_ hg (bk_ HB.out)); clear HO144 HB; have HO144 := n2_; have HB := n3_; have BK147 := n4_; have GW147 := n5_; have GE147 := n6_; clear n2_ n3_ n4_ n5_ n6_ hb hbox hg; obtain ⟨hcz35_0, hcz35_1⟩ := bc2_ BK147.out; have hfz35_0 := blk_frozen BK147.out 0; have hfz35_1 := blk_frozen BK147.out 1; obtain ⟨Ao36, co36, eo36⟩ := Kd.R_slice HO144.out; subst eo36))
  go_ret
  exact ⟨er_, bk_ HB.out⟩

/-! ### counter_Step: function 19 (by hand) -/
def counter_Step.f (k : Nat) (a0_0 : Int) (l0_1 : List S33) (a1_0 : Int) (l1_1 : List Int) : Option (Int × List Int × Int) :=
  (counter_Fits.f k a0_0 l0_1 a1_0 l1_1).bind fun b => if b = true then (if 0 ≤ a1_0 ∧ a1_0 < (l0_1.length : Int) then (if (rd_T33 l0_1 a1_0).f0 = 2 then some (0, [], 5) else if l1_1.length < 17592186044416 then (crun l0_1 1 a1_0 l1_1 0).bind fun z => if z.2.2.2 = true then some (z.1, z.2.1, 0) else some (0, [], 4) else none) else none) else some (0, [], 1)
theorem counter_Step.mono : ∀ a0 a1 a2 a3 k, LeO (counter_Step.f k a0 a1 a2 a3) (counter_Step.f (k + 1) a0 a1 a2 a3) := by
  intro a0 a1 a2 a3 k
  unfold counter_Step.f
  exact LeO.bind (counter_Fits.mono _ _ _ _ _) (fun _ => LeO.refl _)
set_option maxHeartbeats 4000000 in
set_option maxRecDepth 100000 in
set_option maxHeartbeats 8000000 in
set_option maxRecDepth 100000 in
theorem counter_Step.calls (k : Nat) (a0_0 : Int) (A0_1 : Option Addr) (c0_1 : Nat) (l0_1 : List S33) (a1_0 : Int) (A1_1 : Option Addr) (c1_1 : Nat) (l1_1 : List Int) (r1 : Int) (r2 : List Int) (r3 : Int) (w : World) (hr0_1 : Kd.C k33 w A0_1 l0_1.length l0_1) (hc0_1 : l0_1.length ≤ c0_1) (hr1_1 : Kd.C (Kd.int .i64) w A1_1 l1_1.length l1_1) (hc1_1 : l1_1.length ≤ c1_1) (h : counter_Step.f k a0_0 l0_1 a1_0 l1_1 = some (r1, r2, r3)) :
    Calls Try.prog 19 #[.agg #[.int .i64 a0_0, .slice A0_1 l0_1.length c0_1], .agg #[.int .i64 a1_0, .slice A1_1 l1_1.length c1_1]] w fun e w' => ∃ v1_ : Value, e = .returned (.tuple #[.agg #[.int .i64 r1, v1_], .int .i64 r3]) ∧ Kd.R (Kd.int .i64) 3 w' w.heap.size (fun _ => True) v1_ r2 ∧ Below w.heap.size w w' := by
  have hu24 := Try.underlying24
  have hu27 := Try.underlying27
  have HR0_1 := Aside0.mk hr0_1
  have HC0_1 := Aside0.mk hc0_1
  have HR1_1 := Aside0.mk hr1_1
  have HC1_1 := Aside0.mk hc1_1
  clear hr0_1 hc0_1 hr1_1 hc1_1
  unfold counter_Step.f at h
  obtain ⟨b, hb, h⟩ := Option.bind_eq_some_iff.1 h
  have hF : ∀ W : World, Below w.heap.size w W → Calls Try.prog 18 #[.agg #[.int .i64 a0_0, .slice A0_1 l0_1.length c0_1], .agg #[.int .i64 a1_0, .slice A1_1 l1_1.length c1_1]] W fun e w' => e = .returned (.bool b) ∧ Below W.heap.size W w' := fun W hW => counter_Fits.calls k a0_0 A0_1 c0_1 l0_1 a1_0 A1_1 c1_1 l1_1 b W (Kd.C_below HR0_1.out hW) HC0_1.out (Kd.C_below HR1_1.out hW) HC1_1.out hb
  have HF := Aside0.mk hF
  have H := Aside0.mk h
  clear h hF hb
  go_enter Try.func19, Try.ntmps19
  go_wp2_with fail
  obtain ⟨W1, hW1⟩ : ∃ W1 : World, W1 = (((w.alloc (.cells #[.int .i64 a0_0, .slice A0_1 l0_1.length c0_1] 24)).alloc (.cells #[.int .i64 a1_0, .slice A1_1 l1_1.length c1_1] 27)).alloc (.cells #[.int .i64 0, .slice none 0 0] 27)) := ⟨_, rfl⟩
  have hBW1 : Below w.heap.size w W1 := by rw [hW1]; exact below_alloc (below_alloc (below_alloc (Below.refl _ _) _) _) _
  have hb4 : W1.heap[w.heap.size]? = some (.cells #[.int .i64 a0_0, .slice A0_1 l0_1.length c0_1] 24 (0, 0)) := by rw [hW1]; exact blk_alloc (blk_alloc (blk_new _ _) _) _
  have hb5 : W1.heap[w.heap.size + 1]? = some (.cells #[.int .i64 a1_0, .slice A1_1 l1_1.length c1_1] 27 (0, 0)) := by rw [hW1]; exact blk_alloc (by have h_ := blk_new (w.alloc (.cells #[.int .i64 a0_0, .slice A0_1 l0_1.length c0_1] 24)) (.cells #[.int .i64 a1_0, .slice A1_1 l1_1.length c1_1] 27); simpa using h_) _
  have hb8 : W1.heap[w.heap.size + 1 + 1]? = some (.cells #[.int .i64 0, .slice none 0 0] 27 (0, 0)) := by rw [hW1]; have h_ := blk_new ((w.alloc (.cells #[.int .i64 a0_0, .slice A0_1 l0_1.length c0_1] 24)).alloc (.cells #[.int .i64 a1_0, .slice A1_1 l1_1.length c1_1] 27)) (.cells #[.int .i64 0, .slice none 0 0] 27); simpa using h_
  rw [← hW1]
  clear hW1
  refine (HF.out _ hBW1).mono ?_
  rintro e w2 ⟨rfl, hB2⟩
  have HB := Aside0.mk (below_step hBW1 hB2)
  have HB8 := Aside0.mk (blk_below hb8 hB2)
  have HB4 := Aside0.mk (blk_below hb4 hB2)
  have HB5 := Aside0.mk (blk_below hb5 hB2)
  have hz40 := (blk_cell HB4.out 0).trans rfl
  have hz41 := (blk_cell HB4.out 1).trans rfl
  have hz50 := (blk_cell HB5.out 0).trans rfl
  have hz51 := (blk_cell HB5.out 1).trans rfl
  have hz80 := (blk_cell HB8.out 0).trans rfl
  have hz81 := (blk_cell HB8.out 1).trans rfl
  have hf80 := blk_frozen HB8.out 0
  have hf81 := blk_frozen HB8.out 1
  clear hb4 hb5 hb8 hBW1 hB2 HF
  have hl8 := blk_lt HB8.out
  cases b with
  | false =>
    have h := H.out
    clear H
    rw [if_neg (by simp)] at h
    simp only [Option.some.injEq, Prod.mk.injEq] at h
    obtain ⟨rfl, rfl, rfl⟩ := h
    go_wp2
    refine bodyPost_ret (results_list (rs := [.cell 4 27, .tmp 5]) (vs := [.agg #[.int .i64 0, .slice none 0 0], .int .i64 1]) rfl (by simp) (Vals.cell (w.heap.size + 1 + 1) 27 #[.int .i64 0, .slice none 0 0] (0, 0) _ rfl (by refine blk_put (cs := #[.int .i64 0, .slice none 0 0]) ?_ 1 _ rfl; refine blk_put (cs := #[.int .i64 0, .slice none 0 0]) ?_ 0 _ rfl; exact HB8.out) Try.underlying27 rfl (by kernel_rfl) (Vals.tmp Vals.nil))) rfl ?_
    exact ⟨_, rfl, Kd.R_nil _ _ _ _ _, below_set (below_set HB.out (by omega)) (by omega)⟩
  | true =>
  have h := H.out
  clear H
  rw [if_pos rfl] at h
  by_cases kp : 0 ≤ a1_0 ∧ a1_0 < (l0_1.length : Int)
  rotate_left
  · rw [if_neg kp] at h
    cases h
  rw [if_pos kp] at h
  obtain ⟨p0, p1⟩ := kp
  obtain ⟨ad, ea, hx0, hx1, hx2, hx3⟩ := at_T33 (Kd.C_below HR0_1.out HB.out) a1_0 p0 p1
  cases ea
  clear hx1 hx2 hx3
  replace p0 := eq_true p0
  replace p1 := eq_true p1
  by_cases ko : (rd_T33 l0_1 a1_0).f0 = 2
  · rw [if_pos ko] at h
    simp only [Option.some.injEq, Prod.mk.injEq] at h
    obtain ⟨rfl, rfl, rfl⟩ := h
    have ko1 : ((rd_T33 l0_1 a1_0).f0 == (2 : Int)) = true := beq_iff_eq.mpr ko
    clear ko
    go_wp2
    refine bodyPost_ret (results_list (rs := [.cell 4 27, .tmp 5]) (vs := [.agg #[.int .i64 0, .slice none 0 0], .int .i64 5]) rfl (by simp) (Vals.cell (w.heap.size + 1 + 1) 27 #[.int .i64 0, .slice none 0 0] (0, 0) _ rfl (by refine blk_put (cs := #[.int .i64 0, .slice none 0 0]) ?_ 1 _ rfl; refine blk_put (cs := #[.int .i64 0, .slice none 0 0]) ?_ 0 _ rfl; exact HB8.out) Try.underlying27 rfl (by kernel_rfl) (Vals.tmp Vals.nil))) rfl ?_
    exact ⟨_, rfl, Kd.R_nil _ _ _ _ _, below_set (below_set HB.out (by omega)) (by omega)⟩
  rw [if_neg ko] at h
  have ko1 : ((rd_T33 l0_1 a1_0).f0 == (2 : Int)) = false := beq_eq_false_iff_ne.mpr ko
  by_cases hlen : l1_1.length < 17592186044416
  rotate_left
  · rw [if_neg hlen] at h
    cases h
  rw [if_pos hlen] at h
  obtain ⟨⟨z1, z2, z3, z4⟩, hz, h⟩ := Option.bind_eq_some_iff.1 h
  have HC := Aside0.mk (fun W hW => crun_calls a0_0 (some ad) c0_1 l0_1 a1_0 A1_1 c1_1 l1_1 1 z1 z2 z3 z4 W (Kd.C_below HR0_1.out hW) HC0_1.out (Kd.C_below HR1_1.out hW) HC1_1.out (by unfold slices_Clone_int_int.f; rw [if_pos hlen]) (by omega) (by omega) hz)
  have HH := Aside0.mk h
  clear h hz ko
  go_wp2_with fail
  refine (HC.out w2 HB.out).mono ?_
  rintro e w3 ⟨v3, rfl, hR3, hB3⟩
  obtain ⟨A9, c9, rfl⟩ := Kd.R_slice hR3
  clear HC hz80 hz81 hf80 hf81 hz40 hz41 hz50 hz51 hx0 ko1
  have hl82 := Aside0.mk hl8
  clear hl8
  have HR3 := Aside0.mk (Kd.R_lower hR3 (below_size HB.out))
  have HRK := Aside0.mk (fun k hk => by have := Kd.R_base hR3 k hk; omega : ∀ k, (Value.slice A9 z2.length c9).ownBlock = some k → w2.heap.size ≤ k)
  replace HB8 := Aside0.mk (blk_below HB8.out hB3)
  replace HB := Aside0.mk (below_step HB.out hB3)
  have hz80 := (blk_cell HB8.out 0).trans rfl
  have hz81 := (blk_cell HB8.out 1).trans rfl
  have hf80 := blk_frozen HB8.out 0
  have hf81 := blk_frozen HB8.out 1
  have hl8 := blk_lt HB8.out
  clear hR3 hB3
  cases z4 with
  | false =>
    have h := HH.out
    simp at h
    obtain ⟨rfl, rfl, rfl⟩ := h
    clear HH
    go_wp2
    refine bodyPost_ret (results_list (rs := [.cell 4 27, .tmp 5]) (vs := [.agg #[.int .i64 0, .slice none 0 0], .int .i64 4]) rfl (by simp) (Vals.cell (w.heap.size + 1 + 1) 27 #[.int .i64 0, .slice none 0 0] (0, 0) _ rfl (by refine blk_alloc ?_ _; refine blk_put (cs := #[.int .i64 0, .slice none 0 0]) ?_ 1 _ rfl; refine blk_put (cs := #[.int .i64 0, .slice none 0 0]) ?_ 0 _ rfl; exact HB8.out) Try.underlying27 rfl (by kernel_rfl) (Vals.tmp Vals.nil))) rfl ?_
    exact ⟨_, rfl, Kd.R_nil _ _ _ _ _, below_alloc (below_set (below_set HB.out (by omega)) (by omega)) _⟩
  | true =>
  have h := HH.out
  simp at h
  obtain ⟨rfl, rfl, rfl⟩ := h
  clear HH
  go_wp2
  refine bodyPost_ret (results_list (rs := [.cell 4 27, .tmp 5]) (vs := [.agg #[.int .i64 z1, .slice A9 z2.length c9], .int .i64 0]) rfl (by simp) (Vals.cell (w.heap.size + 1 + 1) 27 #[.int .i64 z1, .slice A9 z2.length c9] (0, 0) _ rfl (by refine blk_alloc ?_ _; refine blk_put (cs := #[.int .i64 z1, .slice none 0 0]) ?_ 1 _ rfl; refine blk_put (cs := #[.int .i64 0, .slice none 0 0]) ?_ 0 _ rfl; exact HB8.out) Try.underlying27 rfl (by kernel_rfl) (Vals.tmp Vals.nil))) rfl ?_
  exact ⟨_, rfl, Kd.R_alloc (Kd.R_mono (ok := fun k => w.heap.size + 1 + 1 < k) (Kd.R_far (Kd.R_far (Kd.R_of_own (h1 := fun _ => rfl) (Kd.own_of_R HR3.out) (fun k hk => by have := HRK.out k hk; have := hl82.out; omega)) (fun k hk => by simp; omega) _) (fun k hk => by simp; omega) _) (fun _ _ => trivial)) _, below_alloc (below_set (below_set HB.out (by omega)) (by omega)) _⟩

/-! ### cmp_isNaN_int: function 43 -/
def cmp_isNaN_int.f (a0 : Int) : Option (Bool) := some (a0 != a0)
set_option maxHeartbeats 8000000 in
set_option maxRecDepth 100000 in
theorem cmp_isNaN_int.calls (a0 : Int) (r : Bool) (w : World) (h : cmp_isNaN_int.f a0 = some r) :
  Calls Try.prog 43 #[.int .i64 a0] w fun e w' => e = .returned (.bool r) ∧ Drawn0 w w' := by
 have H : (some (a0 != a0)) = some r := h
 clear h
 obtain rfl := Option.some.inj H
 go_enter Try.func43, Try.ntmps43
 go_wp2
 go_ret
 exact ⟨by first | rfl | (simp; done) | (simp [*]; done), by repeat (first | exact Drawn0.refl _ | apply Drawn0.step)⟩

/-! ### cmp_Less_int: function 39 -/
def cmp_Less_int.f (a0 : Int) (a1 : Int) : Option (Bool) := (cmp_isNaN_int.f a0).bind fun t152 => (if t152 = true then ((cmp_isNaN_int.f a1).bind fun t153 => (if t153 = true then (some (decide (a0 < a1))) else (some true))) else (some (decide (a0 < a1))))
set_option maxHeartbeats 8000000 in
set_option maxRecDepth 100000 in
theorem cmp_Less_int.calls (a0 : Int) (a1 : Int) (r : Bool) (w : World) (h : cmp_Less_int.f a0 a1 = some r) :
  Calls Try.prog 39 #[.int .i64 a0, .int .i64 a1] w fun e w' => e = .returned (.bool r) ∧ Drawn0 w w' := by
 have H : ((cmp_isNaN_int.f a0).bind fun t152 => (if t152 = true then ((cmp_isNaN_int.f a1).bind fun t153 => (if t153 = true then (some (decide (a0 < a1))) else (some true))) else (some (decide (a0 < a1))))) = some r := h
 clear h
 replace H := Option.bind_eq_some_iff.mp H
 obtain ⟨t152, A30, H⟩ := H
 replace H : (if t152 = true then ((cmp_isNaN_int.f a1).bind fun t153 => (if t153 = true then (some (decide (a0 < a1))) else (some true))) else (some (decide (a0 < a1)))) = some r := H
 have A3 := Aside0.mk A30
 clear A30
 by_cases c4 : t152 = true
 ·subst c4
  have H1 : ((cmp_isNaN_int.f a1).bind fun t153 => (if t153 = true then (some (decide (a0 < a1))) else (some true))) = some r := by rw [if_pos rfl] at H; exact H
  clear H
  have H := H1
  clear H1
  replace H := Option.bind_eq_some_iff.mp H
  obtain ⟨t153, A50, H⟩ := H
  replace H : (if t153 = true then (some (decide (a0 < a1))) else (some true)) = some r := H
  have A5 := Aside0.mk A50
  clear A50
  by_cases c6 : t153 = true
  ·subst c6
   have H1 : (some (decide (a0 < a1))) = some r := by rw [if_pos rfl] at H; exact H
   clear H
   have H := H1
   clear H1
   obtain rfl := Option.some.inj H
   go_enter Try.func39, Try.ntmps39
   go_wp2_with (first | ((with_reducible refine gate_callee (f := 43) rfl ?_); refine goesL_ (some 6) rfl rfl Try.func43 (by kernel_rfl) rfl #[.int .i64 a0] rfl gl_ ?_; (with_reducible refine (cmp_isNaN_int.calls a0 true _ A3.out).mono ?_); rintro e w' ⟨rfl, ⟨nd, rfl⟩⟩; refine ⟨_, rfl, ?_⟩) | (go_at_call 43; (with_reducible refine (cmp_isNaN_int.calls a1 true _ A5.out).mono ?_); rintro e w' ⟨rfl, ⟨nd, rfl⟩⟩))
   go_ret
   exact ⟨by first | rfl | (simp; done) | (simp [*]; done), by repeat (first | exact Drawn0.refl _ | apply Drawn0.step)⟩
  ·replace c6 := Bool.eq_false_iff.mpr c6
   subst c6
   have H1 : (some true) = some r := by rw [if_neg (show ¬ (false = true) by decide)] at H; exact H
   clear H
   have H := H1
   clear H1
   obtain rfl := Option.some.inj H
   go_enter Try.func39, Try.ntmps39
   go_wp2_with (first | ((with_reducible refine gate_callee (f := 43) rfl ?_); refine goesL_ (some 6) rfl rfl Try.func43 (by kernel_rfl) rfl #[.int .i64 a0] rfl gl_ ?_; (with_reducible refine (cmp_isNaN_int.calls a0 true _ A3.out).mono ?_); rintro e w' ⟨rfl, ⟨nd, rfl⟩⟩; refine ⟨_, rfl, ?_⟩) | (go_at_call 43; (with_reducible refine (cmp_isNaN_int.calls a1 false _ A5.out).mono ?_); rintro e w' ⟨rfl, ⟨nd, rfl⟩⟩))
   go_ret
   exact ⟨by first | rfl | (simp; done) | (simp [*]; done), by repeat (first | exact Drawn0.refl _ | apply Drawn0.step)⟩
 ·replace c4 := Bool.eq_false_iff.mpr c4
  subst c4
  have H1 : (some (decide (a0 < a1))) = some r := by rw [if_neg (show ¬ (false = true) by decide)] at H; exact H
  clear H
  have H := H1
  clear H1
  obtain rfl := Option.some.inj H
  go_enter Try.func39, Try.ntmps39
  go_wp2_with (first | ((with_reducible refine gate_callee (f := 43) rfl ?_); refine goesL_ (some 6) rfl rfl Try.func43 (by kernel_rfl) rfl #[.int .i64 a0] rfl gl_ ?_; (with_reducible refine (cmp_isNaN_int.calls a0 false _ A3.out).mono ?_); rintro e w' ⟨rfl, ⟨nd, rfl⟩⟩; refine ⟨_, rfl, ?_⟩))
  go_ret
  exact ⟨by first | rfl | (simp; done) | (simp [*]; done), by repeat (first | exact Drawn0.refl _ | apply Drawn0.step)⟩

/-! ### slices_isNaN_int: function 40 -/
def slices_isNaN_int.f (a0 : Int) : Option (Bool) := some (a0 != a0)
set_option maxHeartbeats 8000000 in
set_option maxRecDepth 100000 in
theorem slices_isNaN_int.calls (a0 : Int) (r : Bool) (w : World) (h : slices_isNaN_int.f a0 = some r) :
  Calls Try.prog 40 #[.int .i64 a0] w fun e w' => e = .returned (.bool r) ∧ Drawn0 w w' := by
 have H : (some (a0 != a0)) = some r := h
 clear h
 obtain rfl := Option.some.inj H
 go_enter Try.func40, Try.ntmps40
 go_wp2
 go_ret
 exact ⟨by first | rfl | (simp; done) | (simp [*]; done), by repeat (first | exact Drawn0.refl _ | apply Drawn0.step)⟩

/-! ### slices_BinarySearch_int_int: function 31 -/
def slices_BinarySearch_int_int.l0 : Nat → List Int → Int → Int → Int → Int → Option (Int × Bool)
 | 0, _, _, _, _, _ => none
 | k + 1, x0, x1, x6, x7, x8 => if x7 < x8 then (if 0 ≤ (wrap64 ((IntKind.u64.wrap (wrap64 (x7 + x8))) / 2)) then (if (wrap64 ((IntKind.u64.wrap (wrap64 (x7 + x8))) / 2)) < (x0.length : Int) then ((cmp_Less_int.f (rd x0 (wrap64 ((IntKind.u64.wrap (wrap64 (x7 + x8))) / 2))) x1).bind fun t155 => (if t155 = true then (slices_BinarySearch_int_int.l0 k x0 x1 x6 (wrap64 ((wrap64 ((IntKind.u64.wrap (wrap64 (x7 + x8))) / 2)) + 1)) x8) else (slices_BinarySearch_int_int.l0 k x0 x1 x6 x7 (wrap64 ((IntKind.u64.wrap (wrap64 (x7 + x8))) / 2))))) else (none)) else (none)) else (if x7 < x6 then (if 0 ≤ x7 then (if x7 < (x0.length : Int) then (if (rd x0 x7) = x1 then (some (x7, true)) else ((slices_isNaN_int.f (rd x0 x7)).bind fun t158 => (if t158 = true then ((slices_isNaN_int.f x1).bind fun t159 => (some (x7, t159))) else (some (x7, false))))) else (none)) else (none)) else (some (x7, false)))
def slices_BinarySearch_int_int.f (k : Nat) (l0 : List Int) (a1 : Int) : Option (Int × Bool) := slices_BinarySearch_int_int.l0 k l0 a1 (l0.length : Int) 0 (l0.length : Int)
theorem slices_BinarySearch_int_int.mono_l : ∀ k, (∀ y0 y1 y2 y3 y4, LeO (slices_BinarySearch_int_int.l0 k y0 y1 y2 y3 y4) (slices_BinarySearch_int_int.l0 (k + 1) y0 y1 y2 y3 y4))
 | 0 => fun _ _ _ _ _ r h => by simp [slices_BinarySearch_int_int.l0] at h
 | k + 1 => by
  have ih0 := slices_BinarySearch_int_int.mono_l k
  ·intro y0 y1 y2 y3 y4
   unfold slices_BinarySearch_int_int.l0
   repeat' first
   | (with_reducible exact ih0 _ _ _ _ _)
   | (with_reducible exact LeO.refl _)
   | (with_reducible exact LeO.none _)
   | (with_reducible refine LeO.ite ?_ ?_)
   | (with_reducible refine LeO.bind ?_ (fun _ => ?_))
   | exact ih0 _ _ _ _ _
   | exact LeO.none _
   | refine LeO.ite ?_ ?_
   | refine LeO.bind ?_ (fun _ => ?_)
theorem slices_BinarySearch_int_int.mono : ∀ a0 a1 k, LeO (slices_BinarySearch_int_int.f k a0 a1) (slices_BinarySearch_int_int.f (k + 1) a0 a1) := by
 intro a0 a1 k
 have ih0 := slices_BinarySearch_int_int.mono_l k
 unfold slices_BinarySearch_int_int.f
 repeat' first
   | (with_reducible exact ih0 _ _ _ _ _)
   | (with_reducible exact LeO.refl _)
   | (with_reducible exact LeO.none _)
   | (with_reducible refine LeO.ite ?_ ?_)
   | (with_reducible refine LeO.bind ?_ (fun _ => ?_))
   | exact ih0 _ _ _ _ _
   | exact LeO.none _
   | refine LeO.ite ?_ ?_
   | refine LeO.bind ?_ (fun _ => ?_)
set_option maxHeartbeats 8000000 in
set_option maxRecDepth 100000 in
theorem slices_BinarySearch_int_int.calls (k : Nat) (A0 : Option Addr) (c0 : Nat) (l0 : List Int) (a1 : Int) (r1 : Int) (r2 : Bool) (w : World) (hr0 : Kd.C (Kd.int .i64) w A0 l0.length l0) (hc0 : l0.length ≤ c0) (h : slices_BinarySearch_int_int.f k l0 a1 = some (r1, r2)) :
  Calls Try.prog 31 #[.slice A0 l0.length c0, .int .i64 a1] w fun e w' => e = .returned (.tuple #[.int .i64 r1, .bool r2]) ∧ Drawn0 w w' := by
 have HR0 := Aside0.mk hr0
 have HC0 := Aside0.mk hc0
 clear hr0 hc0
 have H : (slices_BinarySearch_int_int.l0 k l0 a1 (l0.length : Int) 0 (l0.length : Int)) = some (r1, r2) := h
 clear h
 have H' := Aside0.mk H
 clear H
 go_enter Try.func31, Try.ntmps31
 go_wp2
 go_loopg [7, 8] k (fun kq v7 v8 w' => ∃ (x7_1 : Int) (x8_1 : Int), v7 = .int .i64 x7_1 ∧ v8 = .int .i64 x8_1 ∧ Aside0 (slices_BinarySearch_int_int.l0 kq l0 a1 (l0.length : Int) x7_1 x8_1 = some (r1, r2)) ∧ Aside0 (kq ≤ k) ∧ Drawn0 w w')
 case atStart => exact ⟨(0), ((l0.length : Int)), jr_, jr_, H', ⟨Nat.le_refl _⟩, by repeat (first | exact Drawn0.refl _ | apply Drawn0.step)⟩
 case round =>
  clear H'
  obtain ⟨x7_1, x8_1, rfl, rfl, HA, HK1, ⟨m1, rfl⟩⟩ := hrel
  cases gk with
  | zero => exact absurd HA.out (by simp [slices_BinarySearch_int_int.l0])
  | succ k1 =>
   have H := HA.out
   clear HA
   simp only [slices_BinarySearch_int_int.l0] at H
   by_cases c3 : x7_1 < x8_1
   ·rw [if_pos c3] at H
    have c3b0 : decide (x7_1 < x8_1) = true := decide_eq_true c3
    clear c3
    obtain ⟨ji4, hji4⟩ : ∃ j_ : Int, (wrap64 ((IntKind.u64.wrap (wrap64 (x7_1 + x8_1))) / 2)) = j_ := ⟨_, rfl⟩
    replace H : (if 0 ≤ (ji4) then (if (ji4) < (l0.length : Int) then ((cmp_Less_int.f (rd l0 (ji4)) a1).bind fun t155 => (if t155 = true then (slices_BinarySearch_int_int.l0 k1 l0 a1 (l0.length : Int) (wrap64 ((ji4) + 1)) x8_1) else (slices_BinarySearch_int_int.l0 k1 l0 a1 (l0.length : Int) x7_1 ji4))) else (none)) else (none)) = some (r1, r2) := by first | (rw [hji4] at H; exact H) | (simp only [hji4] at H ⊢; exact H)
    have hji4w : (IntKind.i64.wrap ((IntKind.u64.wrap (wrap64 (x7_1 + x8_1))) / 2)) = ji4 := (i64_w _).trans hji4
    by_cases c5 : 0 ≤ (ji4)
    ·rw [if_pos c5] at H
     have c5b0 : decide (0 ≤ (ji4)) = true := decide_eq_true c5
     clear c5
     by_cases c6 : (ji4) < (l0.length : Int)
     ·rw [if_pos c6] at H
      have c6b0 : decide ((ji4) < (l0.length : Int)) = true := decide_eq_true c6
      clear c6
      replace H := Option.bind_eq_some_iff.mp H
      obtain ⟨t155, A70, H⟩ := H
      replace H : (if t155 = true then (slices_BinarySearch_int_int.l0 k1 l0 a1 (l0.length : Int) (wrap64 ((ji4) + 1)) x8_1) else (slices_BinarySearch_int_int.l0 k1 l0 a1 (l0.length : Int) x7_1 ji4)) = some (r1, r2) := H
      have A7 := Aside0.mk A70
      clear A70
      by_cases c8 : t155 = true
      ·subst c8
       have H1 : (slices_BinarySearch_int_int.l0 k1 l0 a1 (l0.length : Int) (wrap64 ((ji4) + 1)) x8_1) = some (r1, r2) := by rw [if_pos rfl] at H; exact H
       clear H
       have H := H1
       clear H1
       have H' := Aside0.mk H
       clear H
       have p154 : 0 ≤ ((ji4) : Int) := od_
       have q154 : (ji4) < (l0.length : Int) := od_
       obtain ⟨ad154, e154, hx154_0⟩ := Kd.at_int HR0.out (ji4) p154 q154
       cases e154
       replace p154 := eq_true p154
       replace q154 := eq_true q154
       go_wp2_with (first | ((with_reducible refine gate_callee (f := 39) rfl ?_); refine goesL_ (some 27) rfl rfl Try.func39 (by kernel_rfl) rfl #[.int .i64 (rd l0 (ji4)), .int .i64 a1] rfl (by (try simp only [List.map_toArray, List.map_cons, List.map_nil]); first | done | (simp only [hji4]; rfl) | rfl | (simp only [List.length_drop, List.length_take]; rfl)) ?_; (with_reducible refine (cmp_Less_int.calls (rd l0 (ji4)) a1 true _ A7.out).mono ?_); rintro e w' ⟨rfl, ⟨nd, rfl⟩⟩; refine ⟨_, rfl, ?_⟩))
       go_roundg k1
       case measure => have := HK1.out; omega
       case rel => exact ⟨(wrap64 ((ji4) + 1)), (x8_1), (by first | rfl | (simp; done) | (simp only [← hji4] <;> (first | rfl | simp)) | (simp [*]; done)), jr_, H', ⟨by have := HK1.out; omega⟩, by repeat (first | exact Drawn0.refl _ | apply Drawn0.step)⟩
      ·replace c8 := Bool.eq_false_iff.mpr c8
       subst c8
       have H1 : (slices_BinarySearch_int_int.l0 k1 l0 a1 (l0.length : Int) x7_1 ji4) = some (r1, r2) := by rw [if_neg (show ¬ (false = true) by decide)] at H; exact H
       clear H
       have H := H1
       clear H1
       have H' := Aside0.mk H
       clear H
       have p154 : 0 ≤ ((ji4) : Int) := od_
       have q154 : (ji4) < (l0.length : Int) := od_
       obtain ⟨ad154, e154, hx154_0⟩ := Kd.at_int HR0.out (ji4) p154 q154
       cases e154
       replace p154 := eq_true p154
       replace q154 := eq_true q154
       go_wp2_with (first | ((with_reducible refine gate_callee (f := 39) rfl ?_); refine goesL_ (some 27) rfl rfl Try.func39 (by kernel_rfl) rfl #[.int .i64 (rd l0 (ji4)), .int .i64 a1] rfl (by (try simp only [List.map_toArray, List.map_cons, List.map_nil]); first | done | (simp only [hji4]; rfl) | rfl | (simp only [List.length_drop, List.length_take]; rfl)) ?_; (with_reducible refine (cmp_Less_int.calls (rd l0 (ji4)) a1 false _ A7.out).mono ?_); rintro e w' ⟨rfl, ⟨nd, rfl⟩⟩; refine ⟨_, rfl, ?_⟩))
       go_roundg k1
       case measure => have := HK1.out; omega
       case rel => exact ⟨(x7_1), (ji4), jr_, (by first | rfl | (simp; done) | (simp only [← hji4] <;> (first | rfl | simp)) | (simp [*]; done)), H', ⟨by have := HK1.out; omega⟩, by repeat (first | exact Drawn0.refl _ | apply Drawn0.step)⟩
     ·rw [if_neg c6] at H
      exact absurd H (by simp)
    ·rw [if_neg c5] at H
     exact absurd H (by simp)
   ·rw [if_neg c3] at H
    have c3b0 : decide (x7_1 < x8_1) = false := decide_eq_false c3
    clear c3
    by_cases c9 : x7_1 < (l0.length : Int)
    ·rw [if_pos c9] at H
     have c9b0 : decide (x7_1 < (l0.length : Int)) = true := decide_eq_true c9
     clear c9
     by_cases c10 : 0 ≤ x7_1
     ·rw [if_pos c10] at H
      have c10b0 : decide (0 ≤ x7_1) = true := decide_eq_true c10
      clear c10
      by_cases c11 : x7_1 < (l0.length : Int)
      ·rw [if_pos c11] at H
       have c11b0 : decide (x7_1 < (l0.length : Int)) = true := decide_eq_true c11
       clear c11
       by_cases c12 : (rd l0 x7_1) = a1
       ·rw [if_pos c12] at H
        have c12b0 : ((rd l0 x7_1) == a1) = true := beq_iff_eq.mpr c12
        have c12b1 : ((rd l0 x7_1) != a1) = false := bne_eq_false_iff_eq.mpr c12
        clear c12
        simp only [Option.some.injEq, Prod.mk.injEq] at H
        obtain ⟨rfl, rfl⟩ := H
        have p156 : 0 ≤ (x7_1 : Int) := od_
        have q156 : x7_1 < (l0.length : Int) := od_
        obtain ⟨ad156, e156, hx156_0⟩ := Kd.at_int HR0.out x7_1 p156 q156
        cases e156
        replace p156 := eq_true p156
        replace q156 := eq_true q156
        go_wp2
        go_ret2
        exact ⟨by first | rfl | (simp; done) | (simp [*]; done), by repeat (first | exact Drawn0.refl _ | apply Drawn0.step)⟩
       ·rw [if_neg c12] at H
        have c12b0 : ((rd l0 x7_1) == a1) = false := beq_eq_false_iff_ne.mpr c12
        have c12b1 : ((rd l0 x7_1) != a1) = true := bne_iff_ne.mpr c12
        replace H := Option.bind_eq_some_iff.mp H
        obtain ⟨t158, A130, H⟩ := H
        replace H : (if t158 = true then ((slices_isNaN_int.f a1).bind fun t159 => (some (x7_1, t159))) else (some (x7_1, false))) = some (r1, r2) := H
        have A13 := Aside0.mk A130
        clear A130
        by_cases c14 : t158 = true
        ·subst c14
         have H1 : ((slices_isNaN_int.f a1).bind fun t159 => (some (x7_1, t159))) = some (r1, r2) := by rw [if_pos rfl] at H; exact H
         clear H
         have H := H1
         clear H1
         replace H := Option.bind_eq_some_iff.mp H
         obtain ⟨t159, A150, H⟩ := H
         replace H : (some (x7_1, t159)) = some (r1, r2) := H
         have A15 := Aside0.mk A150
         clear A150
         simp only [Option.some.injEq, Prod.mk.injEq] at H
         obtain ⟨rfl, rfl⟩ := H
         have p156 : 0 ≤ (x7_1 : Int) := od_
         have q156 : x7_1 < (l0.length : Int) := od_
         obtain ⟨ad156, e156, hx156_0⟩ := Kd.at_int HR0.out x7_1 p156 q156
         cases e156
         replace p156 := eq_true p156
         replace q156 := eq_true q156
         have p157 : 0 ≤ (x7_1 : Int) := od_
         have q157 : x7_1 < (l0.length : Int) := od_
         obtain ⟨ad157, e157, hx157_0⟩ := Kd.at_int HR0.out x7_1 p157 q157
         obtain rfl : ad156 = ad157 := (by injection e157)
         replace p157 := eq_true p157
         replace q157 := eq_true q157
         go_wp2_with (first | (go_at_call 40; (with_reducible refine (slices_isNaN_int.calls (rd l0 x7_1) true _ A13.out).mono ?_); rintro e w' ⟨rfl, ⟨nd, rfl⟩⟩) | (go_at_call 40; (with_reducible refine (slices_isNaN_int.calls a1 t159 _ A15.out).mono ?_); rintro e w' ⟨rfl, ⟨nd, rfl⟩⟩))
         go_ret2
         exact ⟨by first | rfl | (simp; done) | (simp [*]; done), by repeat (first | exact Drawn0.refl _ | apply Drawn0.step)⟩
        ·replace c14 := Bool.eq_false_iff.mpr c14
         subst c14
         have H1 : (some (x7_1, false)) = some (r1, r2) := by rw [if_neg (show ¬ (false = true) by decide)] at H; exact H
         clear H
         have H := H1
         clear H1
         simp only [Option.some.injEq, Prod.mk.injEq] at H
         obtain ⟨rfl, rfl⟩ := H
         have p156 : 0 ≤ (x7_1 : Int) := od_
         have q156 : x7_1 < (l0.length : Int) := od_
         obtain ⟨ad156, e156, hx156_0⟩ := Kd.at_int HR0.out x7_1 p156 q156
         cases e156
         replace p156 := eq_true p156
         replace q156 := eq_true q156
         have p157 : 0 ≤ (x7_1 : Int) := od_
         have q157 : x7_1 < (l0.length : Int) := od_
         obtain ⟨ad157, e157, hx157_0⟩ := Kd.at_int HR0.out x7_1 p157 q157
         obtain rfl : ad156 = ad157 := (by injection e157)
         replace p157 := eq_true p157
         replace q157 := eq_true q157
         go_wp2_with (first | (go_at_call 40; (with_reducible refine (slices_isNaN_int.calls (rd l0 x7_1) false _ A13.out).mono ?_); rintro e w' ⟨rfl, ⟨nd, rfl⟩⟩))
         go_ret2
         exact ⟨by first | rfl | (simp; done) | (simp [*]; done), by repeat (first | exact Drawn0.refl _ | apply Drawn0.step)⟩
      ·rw [if_neg c11] at H
       exact absurd H (by simp)
     ·rw [if_neg c10] at H
      exact absurd H (by simp)
    ·rw [if_neg c9] at H
     have c9b0 : decide (x7_1 < (l0.length : Int)) = false := decide_eq_false c9
     clear c9
     simp only [Option.some.injEq, Prod.mk.injEq] at H
     obtain ⟨rfl, rfl⟩ := H
     go_wp2
     go_ret2
     exact ⟨by first | rfl | (simp; done) | (simp [*]; done), by repeat (first | exact Drawn0.refl _ | apply Drawn0.step)⟩

-- NOT PRINTED: function 30 (counter_Until_1)

end Go.Proofs.Ytkekehpfkfadfaa.PCounterRuns
