-- out of a turned copy of the print, by a program of this session; Lean checks it
import Derived.Test.YtdkcociababjdaaPLeapLongx0
namespace Go.Proofs.Ytdkcociababjdaa.PLeapLong
open Go.RowKit Go.Proofs.YtdkcociababjdaaW.PrintWords Go.Proofs.YtdkcociababjdaaW.PrintLast Go.Proofs.YtdkcociababjdaaW.PrintMore
attribute [local go_sem] max2_int min2_int max_two min_two max_three min_three max_four min_four   -- for this text's walks alone
set_option linter.unusedVariables false
set_option linter.unusedSimpArgs false

attribute [local go_sem] isSome_put_
/-! ### standstilllaw04_wide: function 7 -/
def standstilllaw04_wide.l0 : Nat → Int → Int → Int → Int → List (List (S37)) → Option (Bool)
 | 0, _, _, _, _, _ => none
 | k + 1, x7, x8, x102000, x102001, x102002 => if x8 < (x102002.length : Int) then (if x7 ≤ 5000 then (if 0 ≤ x8 then (standstilllaw04_wide.l0 k (wrap64 (x7 + ((rd_L2 x102002 x8).length : Int))) (wrap64 (x8 + 1)) x102000 x102001 x102002) else (none)) else (some (decide (x7 > 5000)))) else (some (decide (x7 > 5000)))
def standstilllaw04_wide.f (k : Nat) (a0_0 : Int) (a0_1 : Int) (l0_2 : List (List (S37))) (a1_0 : Int) (a1_1 : Int) (a1_2 : Int) (l1_3 : List Int) (a2_0 : Int) (a2_1 : Int) (a2_2 : Int) (l2_3 : List (S75)) (l2_4 : List (S75)) : Option (Bool) := standstilllaw04_wide.l0 k (wrap64 ((wrap64 ((wrap64 ((l0_2.length : Int) + (l1_3.length : Int))) + (l2_3.length : Int))) + (l2_4.length : Int))) 0 a0_0 a0_1 l0_2
theorem standstilllaw04_wide.mono_l : ∀ k, (∀ y0 y1 y2 y3 y4, LeO (standstilllaw04_wide.l0 k y0 y1 y2 y3 y4) (standstilllaw04_wide.l0 (k + 1) y0 y1 y2 y3 y4))
 | 0 => fun _ _ _ _ _ r h => by simp [standstilllaw04_wide.l0] at h
 | k + 1 => by
  have ih0 := standstilllaw04_wide.mono_l k
  ·intro y0 y1 y2 y3 y4
   unfold standstilllaw04_wide.l0
   repeat' first
   | (with_reducible exact ih0 _ _ _ _ _)
   | (with_reducible exact LeO.refl _)
   | (with_reducible exact LeO.none _)
   | (with_reducible refine LeO.ite ?_ ?_)
   | (with_reducible refine LeO.bind ?_ (fun _ => ?_))
   | exact ih0 _ _ _ _ _
   | exact LeO.none _
   | refine LeO.ite ?_ ?_
   | refine LeO.bind ?_ (fun _ => ?_)
theorem standstilllaw04_wide.mono : ∀ a0 a1 a2 a3 a4 a5 a6 a7 a8 a9 a10 a11 k, LeO (standstilllaw04_wide.f k a0 a1 a2 a3 a4 a5 a6 a7 a8 a9 a10 a11) (standstilllaw04_wide.f (k + 1) a0 a1 a2 a3 a4 a5 a6 a7 a8 a9 a10 a11) := by
 intro a0 a1 a2 a3 a4 a5 a6 a7 a8 a9 a10 a11 k
 have ih0 := standstilllaw04_wide.mono_l k
 unfold standstilllaw04_wide.f
 repeat' first
   | (with_reducible exact ih0 _ _ _ _ _)
   | (with_reducible exact LeO.refl _)
   | (with_reducible exact LeO.none _)
   | (with_reducible refine LeO.ite ?_ ?_)
   | (with_reducible refine LeO.bind ?_ (fun _ => ?_))
   | exact ih0 _ _ _ _ _
   | exact LeO.none _
   | refine LeO.ite ?_ ?_
   | refine LeO.bind ?_ (fun _ => ?_)
set_option maxHeartbeats 8000000 in
set_option maxRecDepth 100000 in
theorem standstilllaw04_wide.calls (k : Nat) (a0_0 : Int) (a0_1 : Int) (A0_2 : Option Addr) (c0_2 : Nat) (l0_2 : List (List (S37))) (a1_0 : Int) (a1_1 : Int) (a1_2 : Int) (A1_3 : Option Addr) (c1_3 : Nat) (l1_3 : List Int) (a2_0 : Int) (a2_1 : Int) (a2_2 : Int) (A2_3 : Option Addr) (c2_3 : Nat) (l2_3 : List (S75)) (A2_4 : Option Addr) (c2_4 : Nat) (l2_4 : List (S75)) (r : Bool) (w : World) (hr0_2 : Kd.C (Kd.slice 37 k37) w A0_2 l0_2.length l0_2) (hc0_2 : l0_2.length ≤ c0_2) (hr1_3 : Kd.C (Kd.int .i64) w A1_3 l1_3.length l1_3) (hc1_3 : l1_3.length ≤ c1_3) (hr2_3 : Kd.C k75 w A2_3 l2_3.length l2_3) (hc2_3 : l2_3.length ≤ c2_3) (hr2_4 : Kd.C k75 w A2_4 l2_4.length l2_4) (hc2_4 : l2_4.length ≤ c2_4) (h : standstilllaw04_wide.f k a0_0 a0_1 l0_2 a1_0 a1_1 a1_2 l1_3 a2_0 a2_1 a2_2 l2_3 l2_4 = some r) :
  Calls Try.prog 7 #[.agg #[.int .i64 a0_0, .int .i64 a0_1, .slice A0_2 l0_2.length c0_2], .agg #[.int .i64 a1_0, .int .i64 a1_1, .int .i64 a1_2, .slice A1_3 l1_3.length c1_3], .agg #[.int .i64 a2_0, .int .i64 a2_1, .int .i64 a2_2, .slice A2_3 l2_3.length c2_3, .slice A2_4 l2_4.length c2_4]] w fun e w' => e = .returned (.bool r) ∧ Below w.heap.size w w' := by
 have hu24 := Try.underlying24
 have hu32 := Try.underlying32
 have hu27 := Try.underlying27
 have HR0_2 := Aside0.mk hr0_2
 have HC0_2 := Aside0.mk hc0_2
 clear hr0_2 hc0_2
 have HR1_3 := Aside0.mk hr1_3
 have HC1_3 := Aside0.mk hc1_3
 clear hr1_3 hc1_3
 have HR2_3 := Aside0.mk hr2_3
 have HC2_3 := Aside0.mk hc2_3
 clear hr2_3 hc2_3
 have HR2_4 := Aside0.mk hr2_4
 have HC2_4 := Aside0.mk hc2_4
 clear hr2_4 hc2_4
 have HB := A_ (Below.refl w.heap.size w)
 have H : (standstilllaw04_wide.l0 k (wrap64 ((wrap64 ((wrap64 ((l0_2.length : Int) + (l1_3.length : Int))) + (l2_3.length : Int))) + (l2_4.length : Int))) 0 a0_0 a0_1 l0_2) = some r := h
 clear h
 have H' := Aside0.mk H
 clear H
 go_enter Try.func7, Try.ntmps7
 go_wp2_with (first | ((with_reducible refine gate_dst (N := 3) rfl ?_); refine box_event ?hg (N := 3) ?hd (cs := #[.int .i64 a0_0, .int .i64 a0_1, .slice A0_2 l0_2.length c0_2]) (t := 24) ?hr ?_; (case hd => rfl); (case hg => rfl); (case hr => first | (go_simp; done) | (go_simp; rfl)); intro gb101 hg w4 hbox hb; have n0_ := A_ (below_step (bk_ HB.out) hb); have n1_ := A_ (hbox); have n2_ := A_ (bz_ hg (bk_ HB.out)); have n3_ := A_ (bz_ hg (bk_ HB.out)); clear HB; have HB := n0_; have BK101 := n1_; have GW101 := n2_; have GE101 := n3_; clear n0_ n1_ n2_ n3_ hb hbox hg) | ((with_reducible refine gate_dst (N := 4) rfl ?_); refine box_event ?hg (N := 4) ?hd (cs := #[.int .i64 a1_0, .int .i64 a1_1, .int .i64 a1_2, .slice A1_3 l1_3.length c1_3]) (t := 32) ?hr ?_; (case hd => rfl); (case hg => rfl); (case hr => first | (go_simp; done) | (go_simp; rfl)); intro gb102 hg w5 hbox hb; have n0_ := A_ (blk_below (pk_ BK101.out) hb); have n1_ := A_ (below_step (bk_ HB.out) hb); have n2_ := A_ (hbox); have n3_ := A_ (bz_ hg (bk_ HB.out)); have n4_ := A_ (bz_ hg (bk_ HB.out)); have n5_ := A_ (nl_ hg (pk_ BK101.out)); have n6_ := A_ (ng_ hg (pk_ BK101.out)); clear BK101 HB; have BK101 := n0_; have HB := n1_; have BK102 := n2_; have GW102 := n3_; have GE102 := n4_; have NB101_102 := n5_; have NB102_101 := n6_; clear n0_ n1_ n2_ n3_ n4_ n5_ n6_ hb hbox hg) | ((with_reducible refine gate_dst (N := 5) rfl ?_); refine box_event ?hg (N := 5) ?hd (cs := #[.int .i64 a2_0, .int .i64 a2_1, .int .i64 a2_2, .slice A2_3 l2_3.length c2_3, .slice A2_4 l2_4.length c2_4]) (t := 27) ?hr ?_; (case hd => rfl); (case hg => rfl); (case hr => first | (go_simp; done) | (go_simp; rfl)); intro gb103 hg w6 hbox hb; have n0_ := A_ (blk_below (pk_ BK101.out) hb); have n1_ := A_ (blk_below (pk_ BK102.out) hb); have n2_ := A_ (below_step (bk_ HB.out) hb); have n3_ := A_ (hbox); have n4_ := A_ (bz_ hg (bk_ HB.out)); have n5_ := A_ (bz_ hg (bk_ HB.out)); have n6_ := A_ (nl_ hg (pk_ BK101.out)); have n7_ := A_ (ng_ hg (pk_ BK101.out)); have n8_ := A_ (nl_ hg (pk_ BK102.out)); have n9_ := A_ (ng_ hg (pk_ BK102.out)); clear BK101 BK102 HB; have BK101 := n0_; have BK102 := n1_; have HB := n2_; have BK103 := n3_; have GW103 := n4_; have GE103 := n5_; have NB101_103 := n6_; have NB103_101 := n7_; have NB102_103 := n8_; have NB103_102 := n9_; clear n0_ n1_ n2_ n3_ n4_ n5_ n6_ n7_ n8_ n9_ hb hbox hg; have hnb7 := NB101_102.out; have hnc7 := NB102_101.out; have hnb8 := NB101_103.out; have hnc8 := NB103_101.out; obtain ⟨hcz9_0, hcz9_1, hcz9_2⟩ := bc3_ BK101.out; have hfz9_0 := blk_frozen BK101.out 0; have hfz9_1 := blk_frozen BK101.out 1; have hfz9_2 := blk_frozen BK101.out 2; have hnb10 := NB102_103.out; have hnc10 := NB103_102.out; obtain ⟨hcz11_0, hcz11_1, hcz11_2, hcz11_3⟩ := bc4_ BK102.out; have hfz11_0 := blk_frozen BK102.out 0; have hfz11_1 := blk_frozen BK102.out 1; have hfz11_2 := blk_frozen BK102.out 2; have hfz11_3 := blk_frozen BK102.out 3; obtain ⟨hcz12_0, hcz12_1, hcz12_2, hcz12_3, hcz12_4⟩ := bc5_ BK103.out; have hfz12_0 := blk_frozen BK103.out 0; have hfz12_1 := blk_frozen BK103.out 1; have hfz12_2 := blk_frozen BK103.out 2; have hfz12_3 := blk_frozen BK103.out 3; have hfz12_4 := blk_frozen BK103.out 4))
 go_loopg [7, 8] k (fun kq v7 v8 w' => ∃ (x7_1 : Int) (x8_1 : Int), v7 = .int .i64 x7_1 ∧ v8 = .int .i64 x8_1 ∧ Aside0 (standstilllaw04_wide.l0 kq x7_1 x8_1 a0_0 a0_1 l0_2 = some r) ∧ Aside0 (kq ≤ k) ∧ Aside0 (w'.heap[gb101]? = some (.cells #[.int .i64 a0_0, .int .i64 a0_1, (.slice A0_2 l0_2.length c0_2)] 24 (0, 0))) ∧ Aside0 (w'.heap[gb102]? = some (.cells #[.int .i64 a1_0, .int .i64 a1_1, .int .i64 a1_2, (.slice A1_3 l1_3.length c1_3)] 32 (0, 0))) ∧ Aside0 (w'.heap[gb103]? = some (.cells #[.int .i64 a2_0, .int .i64 a2_1, .int .i64 a2_2, (.slice A2_3 l2_3.length c2_3), (.slice A2_4 l2_4.length c2_4)] 27 (0, 0))) ∧ Aside0 (Below w.heap.size w w'))
 case atStart => exact ⟨(wrap64 ((wrap64 ((wrap64 ((l0_2.length : Int) + (l1_3.length : Int))) + (l2_3.length : Int))) + (l2_4.length : Int))), (0), jr_, jr_, H', ⟨Nat.le_refl _⟩, ⟨pk_ BK101.out⟩, ⟨pk_ BK102.out⟩, ⟨pk_ BK103.out⟩, ⟨bk_ HB.out⟩⟩
 case round =>
  clear H'
  (try clear hcz11_0); (try clear hcz11_1); (try clear hcz11_2); (try clear hcz11_3); (try clear hcz12_0); (try clear hcz12_1); (try clear hcz12_2); (try clear hcz12_3); (try clear hcz12_4); (try clear hcz9_0); (try clear hcz9_1); (try clear hcz9_2); (try clear hfz11_0); (try clear hfz11_1); (try clear hfz11_2); (try clear hfz11_3); (try clear hfz12_0); (try clear hfz12_1); (try clear hfz12_2); (try clear hfz12_3); (try clear hfz12_4); (try clear hfz9_0); (try clear hfz9_1); (try clear hfz9_2)
  obtain ⟨x7_1, x8_1, rfl, rfl, HA, HK1, BK101, BK102, BK103, HB⟩ := hrel
  cases gk with
  | zero => exact absurd HA.out (by simp [standstilllaw04_wide.l0])
  | succ k1 =>
   have H := HA.out
   clear HA
   simp only [standstilllaw04_wide.l0] at H
   by_cases c13 : x8_1 < (l0_2.length : Int)
   ·rw [if_pos c13] at H
    have c13b0 : decide (x8_1 < (l0_2.length : Int)) = true := decide_eq_true c13
    clear c13
    by_cases c14 : x7_1 ≤ 5000
    ·rw [if_pos c14] at H
     have c14b0 : decide (x7_1 ≤ 5000) = true := decide_eq_true c14
     clear c14
     by_cases c15 : 0 ≤ x8_1
     ·rw [if_pos c15] at H
      have c15b0 : decide (0 ≤ x8_1) = true := decide_eq_true c15
      clear c15
      have H' := Aside0.mk H
      clear H
      have hnb16 := NB101_102.out
      have hnc16 := NB102_101.out
      have hnb17 := NB101_103.out
      have hnc17 := NB103_101.out
      obtain ⟨hcz18_0, hcz18_1, hcz18_2⟩ := bc3_ BK101.out
      have hfz18_0 := blk_frozen BK101.out 0
      have hfz18_1 := blk_frozen BK101.out 1
      have hfz18_2 := blk_frozen BK101.out 2
      have p104 : 0 ≤ (x8_1 : Int) := od_
      have q104 : x8_1 < (l0_2.length : Int) := od_
      obtain ⟨ad104, A104_0, c104_0, e104, hx104_0, hl104_0, hi104_0⟩ := at_L2 HR0_2.out x8_1 p104 q104
      cases e104
      replace hx104_0 := lf_ HB.out hx104_0
      have HR104_0 := Aside0.mk hi104_0
      have HC104_0 := Aside0.mk hl104_0
      clear hi104_0 hl104_0
      replace p104 := eq_true p104
      replace q104 := eq_true q104
      go_wp2
      go_roundg k1
      case measure => have := HK1.out; omega
      case rel => exact ⟨(wrap64 (x7_1 + ((rd_L2 l0_2 x8_1).length : Int))), (wrap64 (x8_1 + 1)), jr_, jr_, H', ⟨by have := HK1.out; omega⟩, ⟨pk_ BK101.out⟩, ⟨pk_ BK102.out⟩, ⟨pk_ BK103.out⟩, ⟨bk_ HB.out⟩⟩
     ·rw [if_neg c15] at H
      exact absurd H (by simp)
    ·rw [if_neg c14] at H
     have c14b0 : decide (x7_1 ≤ 5000) = false := decide_eq_false c14
     clear c14
     obtain rfl := Option.some.inj H
     obtain ⟨hcz21_0, hcz21_1, hcz21_2⟩ := bc3_ BK101.out
     have hfz21_0 := blk_frozen BK101.out 0
     have hfz21_1 := blk_frozen BK101.out 1
     have hfz21_2 := blk_frozen BK101.out 2
     go_wp2
     go_ret
     exact ⟨er_, bk_ HB.out⟩
   ·rw [if_neg c13] at H
    have c13b0 : decide (x8_1 < (l0_2.length : Int)) = false := decide_eq_false c13
    clear c13
    obtain rfl := Option.some.inj H
    obtain ⟨hcz24_0, hcz24_1, hcz24_2⟩ := bc3_ BK101.out
    have hfz24_0 := blk_frozen BK101.out 0
    have hfz24_1 := blk_frozen BK101.out 1
    have hfz24_2 := blk_frozen BK101.out 2
    go_wp2
    go_ret
    exact ⟨er_, bk_ HB.out⟩

/-! ### standstillref01_Valid: function 19 -/
mutual
def standstillref01_Valid.j0 : Nat → Bool → Int → Int → List (List (S37)) → Option (Bool)
 | 0, _, _, _, _ => none
 | k + 1, x31, x106000, x106001, x106002 => if x31 = true then (some false) else (standstillref01_Valid.l0 k 0 x106000 x106001 x106002)
def standstillref01_Valid.l0 : Nat → Int → Int → Int → List (List (S37)) → Option (Bool)
 | 0, _, _, _, _ => none
 | k + 1, x3, x106000, x106001, x106002 => if x3 < x106000 then (if 0 ≤ x3 then (if x3 < (x106002.length : Int) then (if ((rd_L2 x106002 x3).length : Int) = x106001 then (standstillref01_Valid.l1 k x3 0 x106000 x106001 x106002) else (some false)) else (none)) else (none)) else (some true)
def standstillref01_Valid.l1 : Nat → Int → Int → Int → Int → List (List (S37)) → Option (Bool)
 | 0, _, _, _, _, _ => none
 | k + 1, x3, x4, x106000, x106001, x106002 => if x4 < x106001 then (if 0 ≤ x3 then (if x3 < (x106002.length : Int) then (if 0 ≤ x4 then (if x4 < ((rd_L2 x106002 x3).length : Int) then (if ((rd_T37 (rd_L2 x106002 x3) x4).f0) < 0 then (some false) else (if ((rd_T37 (rd_L2 x106002 x3) x4).f0) ≥ x106001 then (some false) else (if ((rd_T37 (rd_L2 x106002 x3) x4).f1) = (-1) then (if ((rd_T37 (rd_L2 x106002 x3) x4).f2) < (-1) then (some false) else (if ((rd_T37 (rd_L2 x106002 x3) x4).f2) ≥ x106000 then (some false) else (standstillref01_Valid.l1 k x3 (wrap64 (x4 + 1)) x106000 x106001 x106002))) else (if ((rd_T37 (rd_L2 x106002 x3) x4).f1) = 1 then (if ((rd_T37 (rd_L2 x106002 x3) x4).f2) < (-1) then (some false) else (if ((rd_T37 (rd_L2 x106002 x3) x4).f2) ≥ x106000 then (some false) else (standstillref01_Valid.l1 k x3 (wrap64 (x4 + 1)) x106000 x106001 x106002))) else (some false))))) else (none)) else (none)) else (none)) else (none)) else (standstillref01_Valid.l0 k (wrap64 (x3 + 1)) x106000 x106001 x106002)
end
def standstillref01_Valid.f (k : Nat) (a0_0 : Int) (a0_1 : Int) (l0_2 : List (List (S37))) : Option (Bool) := if a0_0 < 1 then (standstillref01_Valid.j0 k true a0_0 a0_1 l0_2) else (if a0_0 > 6 then (standstillref01_Valid.j0 k true a0_0 a0_1 l0_2) else (if a0_1 < 2 then (standstillref01_Valid.j0 k true a0_0 a0_1 l0_2) else (if a0_1 > 4 then (standstillref01_Valid.j0 k true a0_0 a0_1 l0_2) else (standstillref01_Valid.j0 k ((l0_2.length : Int) != a0_0) a0_0 a0_1 l0_2))))
theorem standstillref01_Valid.mono_l : ∀ k, (∀ y0 y1 y2 y3, LeO (standstillref01_Valid.j0 k y0 y1 y2 y3) (standstillref01_Valid.j0 (k + 1) y0 y1 y2 y3)) ∧ (∀ y0 y1 y2 y3, LeO (standstillref01_Valid.l0 k y0 y1 y2 y3) (standstillref01_Valid.l0 (k + 1) y0 y1 y2 y3)) ∧ (∀ y0 y1 y2 y3 y4, LeO (standstillref01_Valid.l1 k y0 y1 y2 y3 y4) (standstillref01_Valid.l1 (k + 1) y0 y1 y2 y3 y4))
 | 0 => ⟨fun _ _ _ _ r h => by simp [standstillref01_Valid.j0] at h, fun _ _ _ _ r h => by simp [standstillref01_Valid.l0] at h, fun _ _ _ _ _ r h => by simp [standstillref01_Valid.l1] at h⟩
 | k + 1 => by
  obtain ⟨ih0, ih1, ih2⟩ := standstillref01_Valid.mono_l k
  refine ⟨?_, ?_, ?_⟩
  ·intro y0 y1 y2 y3
   unfold standstillref01_Valid.j0
   repeat' first
   | (with_reducible exact ih0 _ _ _ _)
   | (with_reducible exact ih1 _ _ _ _)
   | (with_reducible exact ih2 _ _ _ _ _)
   | (with_reducible exact LeO.refl _)
   | (with_reducible exact LeO.none _)
   | (with_reducible refine LeO.ite ?_ ?_)
   | (with_reducible refine LeO.bind ?_ (fun _ => ?_))
   | exact ih0 _ _ _ _
   | exact ih1 _ _ _ _
   | exact ih2 _ _ _ _ _
   | exact LeO.none _
   | refine LeO.ite ?_ ?_
   | refine LeO.bind ?_ (fun _ => ?_)
  ·intro y0 y1 y2 y3
   unfold standstillref01_Valid.l0
   repeat' first
   | (with_reducible exact ih0 _ _ _ _)
   | (with_reducible exact ih1 _ _ _ _)
   | (with_reducible exact ih2 _ _ _ _ _)
   | (with_reducible exact LeO.refl _)
   | (with_reducible exact LeO.none _)
   | (with_reducible refine LeO.ite ?_ ?_)
   | (with_reducible refine LeO.bind ?_ (fun _ => ?_))
   | exact ih0 _ _ _ _
   | exact ih1 _ _ _ _
   | exact ih2 _ _ _ _ _
   | exact LeO.none _
   | refine LeO.ite ?_ ?_
   | refine LeO.bind ?_ (fun _ => ?_)
  ·intro y0 y1 y2 y3 y4
   unfold standstillref01_Valid.l1
   repeat' first
   | (with_reducible exact ih0 _ _ _ _)
   | (with_reducible exact ih1 _ _ _ _)
   | (with_reducible exact ih2 _ _ _ _ _)
   | (with_reducible exact LeO.refl _)
   | (with_reducible exact LeO.none _)
   | (with_reducible refine LeO.ite ?_ ?_)
   | (with_reducible refine LeO.bind ?_ (fun _ => ?_))
   | exact ih0 _ _ _ _
   | exact ih1 _ _ _ _
   | exact ih2 _ _ _ _ _
   | exact LeO.none _
   | refine LeO.ite ?_ ?_
   | refine LeO.bind ?_ (fun _ => ?_)
theorem standstillref01_Valid.mono : ∀ a0 a1 a2 k, LeO (standstillref01_Valid.f k a0 a1 a2) (standstillref01_Valid.f (k + 1) a0 a1 a2) := by
 intro a0 a1 a2 k
 obtain ⟨ih0, ih1, ih2⟩ := standstillref01_Valid.mono_l k
 unfold standstillref01_Valid.f
 repeat' first
   | (with_reducible exact ih0 _ _ _ _)
   | (with_reducible exact ih1 _ _ _ _)
   | (with_reducible exact ih2 _ _ _ _ _)
   | (with_reducible exact LeO.refl _)
   | (with_reducible exact LeO.none _)
   | (with_reducible refine LeO.ite ?_ ?_)
   | (with_reducible refine LeO.bind ?_ (fun _ => ?_))
   | exact ih0 _ _ _ _
   | exact ih1 _ _ _ _
   | exact ih2 _ _ _ _ _
   | exact LeO.none _
   | refine LeO.ite ?_ ?_
   | refine LeO.bind ?_ (fun _ => ?_)
set_option maxHeartbeats 8000000 in
set_option maxRecDepth 100000 in
theorem standstillref01_Valid.calls (k : Nat) (a0_0 : Int) (a0_1 : Int) (A0_2 : Option Addr) (c0_2 : Nat) (l0_2 : List (List (S37))) (r : Bool) (w : World) (hr0_2 : Kd.C (Kd.slice 37 k37) w A0_2 l0_2.length l0_2) (hc0_2 : l0_2.length ≤ c0_2) (h : standstillref01_Valid.f k a0_0 a0_1 l0_2 = some r) :
  Calls Try.prog 19 #[.agg #[.int .i64 a0_0, .int .i64 a0_1, .slice A0_2 l0_2.length c0_2]] w fun e w' => e = .returned (.bool r) ∧ Below w.heap.size w w' := by
 have hu24 := Try.underlying24
 have hu37 := Try.underlying37
 have HR0_2 := Aside0.mk hr0_2
 have HC0_2 := Aside0.mk hc0_2
 clear hr0_2 hc0_2
 have HB := A_ (Below.refl w.heap.size w)
 have H : (if a0_0 < 1 then (standstillref01_Valid.j0 k true a0_0 a0_1 l0_2) else (if a0_0 > 6 then (standstillref01_Valid.j0 k true a0_0 a0_1 l0_2) else (if a0_1 < 2 then (standstillref01_Valid.j0 k true a0_0 a0_1 l0_2) else (if a0_1 > 4 then (standstillref01_Valid.j0 k true a0_0 a0_1 l0_2) else (standstillref01_Valid.j0 k ((l0_2.length : Int) != a0_0) a0_0 a0_1 l0_2))))) = some r := h
 clear h
 have HC2 := Aside0.mk H
 clear H
 go_enter Try.func19, Try.ntmps19
 go_upto_region 1 with (first | ((with_reducible refine gate_dst (N := 1) rfl ?_); (try (refine gate_guard (by rfl) ?_; dsimp only)); refine box_event ?hg (N := 1) ?hd (cs := #[.int .i64 a0_0, .int .i64 a0_1, .slice A0_2 l0_2.length c0_2]) (t := 24) ?hr ?_; (case hd => rfl); (case hg => rfl); (case hr => first | (go_simp; done) | (go_simp; rfl)); intro gb105 hg w3 hbox hb; have n0_ := A_ (below_step (bk_ HB.out) hb); have n1_ := A_ (hbox); have n2_ := A_ (bz_ hg (bk_ HB.out)); have n3_ := A_ (bz_ hg (bk_ HB.out)); clear HB; have HB := n0_; have BK105 := n1_; have GW105 := n2_; have GE105 := n3_; clear n0_ n1_ n2_ n3_ hb hbox hg))
 repeat (go_quiet (first | ((with_reducible refine gate_dst (N := 1) rfl ?_); (try (refine gate_guard (by rfl) ?_; dsimp only)); refine box_event ?hg (N := 1) ?hd (cs := #[.int .i64 a0_0, .int .i64 a0_1, .slice A0_2 l0_2.length c0_2]) (t := 24) ?hr ?_; (case hd => rfl); (case hg => rfl); (case hr => first | (go_simp; done) | (go_simp; rfl)); intro gb105 hg w3 hbox hb; have n0_ := A_ (below_step (bk_ HB.out) hb); have n1_ := A_ (hbox); have n2_ := A_ (bz_ hg (bk_ HB.out)); have n3_ := A_ (bz_ hg (bk_ HB.out)); clear HB; have HB := n0_; have BK105 := n1_; have GW105 := n2_; have GE105 := n3_; clear n0_ n1_ n2_ n3_ hb hbox hg)); go_upto_region 1 with (first | ((with_reducible refine gate_dst (N := 1) rfl ?_); (try (refine gate_guard (by rfl) ?_; dsimp only)); refine box_event ?hg (N := 1) ?hd (cs := #[.int .i64 a0_0, .int .i64 a0_1, .slice A0_2 l0_2.length c0_2]) (t := 24) ?hr ?_; (case hd => rfl); (case hg => rfl); (case hr => first | (go_simp; done) | (go_simp; rfl)); intro gb105 hg w3 hbox hb; have n0_ := A_ (below_step (bk_ HB.out) hb); have n1_ := A_ (hbox); have n2_ := A_ (bz_ hg (bk_ HB.out)); have n3_ := A_ (bz_ hg (bk_ HB.out)); clear HB; have HB := n0_; have BK105 := n1_; have GW105 := n2_; have GE105 := n3_; clear n0_ n1_ n2_ n3_ hb hbox hg)))
 (try simp only [Act.put, List.setIfInBounds_toArray, List.set_cons_zero, List.set_cons_succ])
 go_cut [31] (fun v31 wc => ∃ (kq : Nat) (x31_1 : Bool), v31 = .bool x31_1 ∧ Aside0 (standstillref01_Valid.j0 kq x31_1 a0_0 a0_1 l0_2 = some r) ∧ Aside0 (kq ≤ k) ∧ Aside0 (wc.heap[gb105]? = some (.cells #[.int .i64 a0_0, .int .i64 a0_1, (.slice A0_2 l0_2.length c0_2)] 24 (0, 0))) ∧ Aside0 (Below w.heap.size w wc))
 case first =>
  have H := HC2.out
  clear HC2
  by_cases c4 : a0_0 < 1
  ·rw [if_pos c4] at H
   have c4b0 : decide (a0_0 < 1) = true := decide_eq_true c4
   clear c4
   (first | rw [c4b0] | (simp only [i64_w, i32_w]; rw [c4b0]) | skip)
   have H' := Aside0.mk H
   clear H
   obtain ⟨hcz5_0, hcz5_1, hcz5_2⟩ := bc3_ BK105.out
   have hfz5_0 := blk_frozen BK105.out 0
   have hfz5_1 := blk_frozen BK105.out 1
   have hfz5_2 := blk_frozen BK105.out 2
   go_wp2
   repeat (go_quiet (fail); try go_wp2)
   go_meet
   case rel => exact ⟨_, (true), jr_, H', ⟨by first | omega | exact Nat.le_refl _⟩, ⟨pk_ BK105.out⟩, ⟨bk_ HB.out⟩⟩
  ·rw [if_neg c4] at H
   have c4b0 : decide (a0_0 < 1) = false := decide_eq_false c4
   clear c4
   (first | rw [c4b0] | (simp only [i64_w, i32_w]; rw [c4b0]) | skip)
   by_cases c6 : a0_0 > 6
   ·rw [if_pos c6] at H
    have c6b0 : decide (6 < a0_0) = true := decide_eq_true c6
    clear c6
    have H' := Aside0.mk H
    clear H
    obtain ⟨hcz7_0, hcz7_1, hcz7_2⟩ := bc3_ BK105.out
    have hfz7_0 := blk_frozen BK105.out 0
    have hfz7_1 := blk_frozen BK105.out 1
    have hfz7_2 := blk_frozen BK105.out 2
    go_wp2
    repeat (go_quiet (fail); try go_wp2)
    go_meet
    case rel => exact ⟨_, (true), jr_, H', ⟨by first | omega | exact Nat.le_refl _⟩, ⟨pk_ BK105.out⟩, ⟨bk_ HB.out⟩⟩
   ·rw [if_neg c6] at H
    have c6b0 : decide (6 < a0_0) = false := decide_eq_false c6
    clear c6
    by_cases c8 : a0_1 < 2
    ·rw [if_pos c8] at H
     have c8b0 : decide (a0_1 < 2) = true := decide_eq_true c8
     clear c8
     have H' := Aside0.mk H
     clear H
     obtain ⟨hcz9_0, hcz9_1, hcz9_2⟩ := bc3_ BK105.out
     have hfz9_0 := blk_frozen BK105.out 0
     have hfz9_1 := blk_frozen BK105.out 1
     have hfz9_2 := blk_frozen BK105.out 2
     go_wp2
     repeat (go_quiet (fail); try go_wp2)
     go_meet
     case rel => exact ⟨_, (true), jr_, H', ⟨by first | omega | exact Nat.le_refl _⟩, ⟨pk_ BK105.out⟩, ⟨bk_ HB.out⟩⟩
    ·rw [if_neg c8] at H
     have c8b0 : decide (a0_1 < 2) = false := decide_eq_false c8
     clear c8
     by_cases c10 : a0_1 > 4
     ·rw [if_pos c10] at H
      have c10b0 : decide (4 < a0_1) = true := decide_eq_true c10
      clear c10
      have H' := Aside0.mk H
      clear H
      obtain ⟨hcz11_0, hcz11_1, hcz11_2⟩ := bc3_ BK105.out
      have hfz11_0 := blk_frozen BK105.out 0
      have hfz11_1 := blk_frozen BK105.out 1
      have hfz11_2 := blk_frozen BK105.out 2
      go_wp2
      repeat (go_quiet (fail); try go_wp2)
      go_meet
      case rel => exact ⟨_, (true), jr_, H', ⟨by first | omega | exact Nat.le_refl _⟩, ⟨pk_ BK105.out⟩, ⟨bk_ HB.out⟩⟩
     ·rw [if_neg c10] at H
      have c10b0 : decide (4 < a0_1) = false := decide_eq_false c10
      clear c10
      have H' := Aside0.mk H
      clear H
      obtain ⟨hcz12_0, hcz12_1, hcz12_2⟩ := bc3_ BK105.out
      have hfz12_0 := blk_frozen BK105.out 0
      have hfz12_1 := blk_frozen BK105.out 1
      have hfz12_2 := blk_frozen BK105.out 2
      go_wp2
      repeat (go_quiet (fail); try go_wp2)
      go_meet
      case rel => exact ⟨_, (((l0_2.length : Int) != a0_0)), jr_, H', ⟨by first | omega | exact Nat.le_refl _⟩, ⟨pk_ BK105.out⟩, ⟨bk_ HB.out⟩⟩
 case rest =>
  clear HC2
  obtain ⟨kq, x31_1, rfl, HA, HJ1, BK105, HB⟩ := hcut
  cases kq with
  | zero => exact absurd HA.out (by simp [standstillref01_Valid.j0])
  | succ kj1 =>
   have H := HA.out
   clear HA
   simp only [standstillref01_Valid.j0] at H
   by_cases c13 : x31_1 = true
   ·subst c13
    have H1 : (some false) = some r := by rw [if_pos rfl] at H; exact H
    clear H
    have H := H1
    clear H1
    obtain rfl := Option.some.inj H
    go_wp2
    repeat (go_quiet (fail); try go_wp2)
    go_ret
    exact ⟨er_, bk_ HB.out⟩
   ·replace c13 := Bool.eq_false_iff.mpr c13
    subst c13
    have H1 : (standstillref01_Valid.l0 kj1 0 a0_0 a0_1 l0_2) = some r := by rw [if_neg (show ¬ (false = true) by decide)] at H; exact H
    clear H
    have H := H1
    clear H1
    have H' := Aside0.mk H
    clear H
    go_wp2
    repeat (go_quiet (fail); try go_wp2)
    go_loopg [3] kj1 (fun kq v3 w' => ∃ (x3_2 : Int), v3 = .int .i64 x3_2 ∧ Aside0 (standstillref01_Valid.l0 kq x3_2 a0_0 a0_1 l0_2 = some r) ∧ Aside0 (kq ≤ kj1) ∧ Aside0 (w'.heap[gb105]? = some (.cells #[.int .i64 a0_0, .int .i64 a0_1, (.slice A0_2 l0_2.length c0_2)] 24 (0, 0))) ∧ Aside0 (Below w.heap.size w w'))
    case atStart => exact ⟨(0), jr_, H', ⟨Nat.le_refl _⟩, ⟨pk_ BK105.out⟩, ⟨bk_ HB.out⟩⟩
    case round =>
     clear H'
     (try clear c13)
     obtain ⟨x3_2, rfl, HA, HK2, BK105, HB⟩ := hrel
     cases gk with
     | zero => exact absurd HA.out (by simp [standstillref01_Valid.l0])
     | succ k2 =>
      have H := HA.out
      clear HA
      simp only [standstillref01_Valid.l0] at H
      by_cases c14 : x3_2 < a0_0
      ·rw [if_pos c14] at H
       have c14b0 : decide (x3_2 < a0_0) = true := decide_eq_true c14
       clear c14
       by_cases c15 : 0 ≤ x3_2
       ·rw [if_pos c15] at H
        have c15b0 : decide (0 ≤ x3_2) = true := decide_eq_true c15
        clear c15
        by_cases c16 : x3_2 < (l0_2.length : Int)
        ·rw [if_pos c16] at H
         have c16b0 : decide (x3_2 < (l0_2.length : Int)) = true := decide_eq_true c16
         clear c16
         by_cases c17 : ((rd_L2 l0_2 x3_2).length : Int) = a0_1
         ·rw [if_pos c17] at H
          have c17b0 : (((rd_L2 l0_2 x3_2).length : Int) == a0_1) = true := beq_iff_eq.mpr c17
          have c17b1 : (((rd_L2 l0_2 x3_2).length : Int) != a0_1) = false := bne_eq_false_iff_eq.mpr c17
          clear c17
          have H' := Aside0.mk H
          clear H
          obtain ⟨hcz18_0, hcz18_1, hcz18_2⟩ := bc3_ BK105.out
          have hfz18_0 := blk_frozen BK105.out 0
          have hfz18_1 := blk_frozen BK105.out 1
          have hfz18_2 := blk_frozen BK105.out 2
          have p106 : 0 ≤ (x3_2 : Int) := od_
          have q106 : x3_2 < (l0_2.length : Int) := od_
          obtain ⟨ad106, A106_0, c106_0, e106, hx106_0, hl106_0, hi106_0⟩ := at_L2 HR0_2.out x3_2 p106 q106
          cases e106
          replace hx106_0 := lf_ HB.out hx106_0
          have HR106_0 := Aside0.mk hi106_0
          have HC106_0 := Aside0.mk hl106_0
          clear hi106_0 hl106_0
          replace p106 := eq_true p106
          replace q106 := eq_true q106
          go_wp2
          repeat (go_quiet (fail); try go_wp2)
          go_loopg [4] k2 (fun kq v4 w' => ∃ (x4_3 : Int), v4 = .int .i64 x4_3 ∧ Aside0 (standstillref01_Valid.l1 kq x3_2 x4_3 a0_0 a0_1 l0_2 = some r) ∧ Aside0 (kq ≤ k2) ∧ Aside0 (w'.heap[gb105]? = some (.cells #[.int .i64 a0_0, .int .i64 a0_1, (.slice (some ad106) l0_2.length c0_2)] 24 (0, 0))) ∧ Aside0 (Below w.heap.size w w'))
          case atStart => exact ⟨(0), jr_, H', ⟨Nat.le_refl _⟩, ⟨pk_ BK105.out⟩, ⟨bk_ HB.out⟩⟩
          case round =>
           clear H'
           (try clear c13); (try clear c14); (try clear c14b0); (try clear c15); (try clear c15b0); (try clear c16); (try clear c16b0); (try clear c17); (try clear c17b0); (try clear c17b1); (try clear hcz18_0); (try clear hcz18_1); (try clear hcz18_2); (try clear hfz18_0); (try clear hfz18_1); (try clear hfz18_2); (try clear hx106_0); (try clear p106); (try clear q106)
           obtain ⟨x4_3, rfl, HA, HK3, BK105, HB⟩ := hrel
           cases gk with
           | zero => exact absurd HA.out (by simp [standstillref01_Valid.l1])
           | succ k3 =>
            have H := HA.out
            clear HA
            simp only [standstillref01_Valid.l1] at H
            by_cases c19 : x4_3 < a0_1
            ·rw [if_pos c19] at H
             have c19b0 : decide (x4_3 < a0_1) = true := decide_eq_true c19
             clear c19
             by_cases c20 : 0 ≤ x3_2
             ·rw [if_pos c20] at H
              have c20b0 : decide (0 ≤ x3_2) = true := decide_eq_true c20
              clear c20
              by_cases c21 : x3_2 < (l0_2.length : Int)
              ·rw [if_pos c21] at H
               have c21b0 : decide (x3_2 < (l0_2.length : Int)) = true := decide_eq_true c21
               clear c21
               by_cases c22 : 0 ≤ x4_3
               ·rw [if_pos c22] at H
                have c22b0 : decide (0 ≤ x4_3) = true := decide_eq_true c22
                clear c22
                by_cases c23 : x4_3 < ((rd_L2 l0_2 x3_2).length : Int)
                ·rw [if_pos c23] at H
                 have c23b0 : decide (x4_3 < ((rd_L2 l0_2 x3_2).length : Int)) = true := decide_eq_true c23
                 clear c23
                 by_cases c24 : ((rd_T37 (rd_L2 l0_2 x3_2) x4_3).f0) < 0
                 ·rw [if_pos c24] at H
                  have c24b0 : decide (((rd_T37 (rd_L2 l0_2 x3_2) x4_3).f0) < 0) = true := decide_eq_true c24
                  clear c24
                  obtain rfl := Option.some.inj H
                  obtain ⟨hcz25_0, hcz25_1, hcz25_2⟩ := bc3_ BK105.out
                  have hfz25_0 := blk_frozen BK105.out 0
                  have hfz25_1 := blk_frozen BK105.out 1
                  have hfz25_2 := blk_frozen BK105.out 2
                  have p107 : 0 ≤ (x3_2 : Int) := od_
                  have q107 : x3_2 < (l0_2.length : Int) := od_
                  obtain ⟨ad107, A107_0, c107_0, e107, hx107_0, hl107_0, hi107_0⟩ := at_L2 HR0_2.out x3_2 p107 q107
                  obtain rfl : ad106 = ad107 := (by injection e107)
                  replace hx107_0 := lf_ HB.out hx107_0
                  have HR107_0 := Aside0.mk hi107_0
                  have HC107_0 := Aside0.mk hl107_0
                  clear hi107_0 hl107_0
                  replace p107 := eq_true p107
                  replace q107 := eq_true q107
                  have p108 : 0 ≤ (x4_3 : Int) := od_
                  have q108 : x4_3 < ((rd_L2 l0_2 x3_2).length : Int) := od_
                  obtain ⟨ad108, e108, hx108_0, hx108_1, hx108_2⟩ := at_T37 HR107_0.out x4_3 p108 q108
                  cases e108
                  replace hx108_0 := lf_ HB.out hx108_0
                  replace hx108_1 := lf_ HB.out hx108_1
                  replace hx108_2 := lf_ HB.out hx108_2
                  replace p108 := eq_true p108
                  replace q108 := eq_true q108
                  go_wp2_with (first | ((with_reducible refine gate_dst (N := 5) rfl ?_); (try (refine gate_guard (by rfl) ?_; dsimp only)); refine box_event ?hg (N := 5) ?hd (cs := #[.int .i64 0, .int .i64 0, .int .i64 0]) (t := 37) ?hr ?_; (case hd => rfl); (case hg => rfl); (case hr => first | (go_simp; done) | (go_simp; rfl)); intro gb109 hg w26 hbox hb; have n0_ := A_ (blk_below (pk_ BK105.out) hb); have n1_ := A_ (below_step (bk_ HB.out) hb); have n2_ := A_ (hbox); have n3_ := A_ (bz_ hg (bk_ HB.out)); have n4_ := A_ (bz_ hg (bk_ HB.out)); have n5_ := A_ (nl_ hg (pk_ BK105.out)); have n6_ := A_ (ng_ hg (pk_ BK105.out)); clear BK105 HB; have BK105 := n0_; have HB := n1_; have BK109 := n2_; have GW109 := n3_; have GE109 := n4_; have NB105_109 := n5_; have NB109_105 := n6_; clear n0_ n1_ n2_ n3_ n4_ n5_ n6_ hb hbox hg; have hnb27 := NB109_105.out; have hnc27 := NB105_109.out; obtain ⟨hcz28_0, hcz28_1, hcz28_2⟩ := bc3_ BK109.out; have hfz28_0 := blk_frozen BK109.out 0; have hfz28_1 := blk_frozen BK109.out 1; have hfz28_2 := blk_frozen BK109.out 2))
                  repeat (go_quiet (first | ((with_reducible refine gate_dst (N := 5) rfl ?_); (try (refine gate_guard (by rfl) ?_; dsimp only)); refine box_event ?hg (N := 5) ?hd (cs := #[.int .i64 0, .int .i64 0, .int .i64 0]) (t := 37) ?hr ?_; (case hd => rfl); (case hg => rfl); (case hr => first | (go_simp; done) | (go_simp; rfl)); intro gb109 hg w26 hbox hb; have n0_ := A_ (blk_below (pk_ BK105.out) hb); have n1_ := A_ (below_step (bk_ HB.out) hb); have n2_ := A_ (hbox); have n3_ := A_ (bz_ hg (bk_ HB.out)); have n4_ := A_ (bz_ hg (bk_ HB.out)); have n5_ := A_ (nl_ hg (pk_ BK105.out)); have n6_ := A_ (ng_ hg (pk_ BK105.out)); clear BK105 HB; have BK105 := n0_; have HB := n1_; have BK109 := n2_; have GW109 := n3_; have GE109 := n4_; have NB105_109 := n5_; have NB109_105 := n6_; clear n0_ n1_ n2_ n3_ n4_ n5_ n6_ hb hbox hg; have hnb27 := NB109_105.out; have hnc27 := NB105_109.out; obtain ⟨hcz28_0, hcz28_1, hcz28_2⟩ := bc3_ BK109.out; have hfz28_0 := blk_frozen BK109.out 0; have hfz28_1 := blk_frozen BK109.out 1; have hfz28_2 := blk_frozen BK109.out 2)); try go_wp2_with (first | ((with_reducible refine gate_dst (N := 5) rfl ?_); (try (refine gate_guard (by rfl) ?_; dsimp only)); refine box_event ?hg (N := 5) ?hd (cs := #[.int .i64 0, .int .i64 0, .int .i64 0]) (t := 37) ?hr ?_; (case hd => rfl); (case hg => rfl); (case hr => first | (go_simp; done) | (go_simp; rfl)); intro gb109 hg w26 hbox hb; have n0_ := A_ (blk_below (pk_ BK105.out) hb); have n1_ := A_ (below_step (bk_ HB.out) hb); have n2_ := A_ (hbox); have n3_ := A_ (bz_ hg (bk_ HB.out)); have n4_ := A_ (bz_ hg (bk_ HB.out)); have n5_ := A_ (nl_ hg (pk_ BK105.out)); have n6_ := A_ (ng_ hg (pk_ BK105.out)); clear BK105 HB; have BK105 := n0_; have HB := n1_; have BK109 := n2_; have GW109 := n3_; have GE109 := n4_; have NB105_109 := n5_; have NB109_105 := n6_; clear n0_ n1_ n2_ n3_ n4_ n5_ n6_ hb hbox hg; have hnb27 := NB109_105.out; have hnc27 := NB105_109.out; obtain ⟨hcz28_0, hcz28_1, hcz28_2⟩ := bc3_ BK109.out; have hfz28_0 := blk_frozen BK109.out 0; have hfz28_1 := blk_frozen BK109.out 1; have hfz28_2 := blk_frozen BK109.out 2)))
                  go_ret
                  exact ⟨er_, bk_ HB.out⟩
                 ·rw [if_neg c24] at H
                  have c24b0 : decide (((rd_T37 (rd_L2 l0_2 x3_2) x4_3).f0) < 0) = false := decide_eq_false c24
                  clear c24
                  by_cases c29 : ((rd_T37 (rd_L2 l0_2 x3_2) x4_3).f0) ≥ a0_1
                  ·rw [if_pos c29] at H
                   have c29b0 : decide (a0_1 ≤ ((rd_T37 (rd_L2 l0_2 x3_2) x4_3).f0)) = true := decide_eq_true c29
                   clear c29
                   obtain rfl := Option.some.inj H
                   obtain ⟨hcz30_0, hcz30_1, hcz30_2⟩ := bc3_ BK105.out
                   have hfz30_0 := blk_frozen BK105.out 0
                   have hfz30_1 := blk_frozen BK105.out 1
                   have hfz30_2 := blk_frozen BK105.out 2
                   have p107 : 0 ≤ (x3_2 : Int) := od_
                   have q107 : x3_2 < (l0_2.length : Int) := od_
                   obtain ⟨ad107, A107_0, c107_0, e107, hx107_0, hl107_0, hi107_0⟩ := at_L2 HR0_2.out x3_2 p107 q107
                   obtain rfl : ad106 = ad107 := (by injection e107)
                   replace hx107_0 := lf_ HB.out hx107_0
                   have HR107_0 := Aside0.mk hi107_0
                   have HC107_0 := Aside0.mk hl107_0
                   clear hi107_0 hl107_0
                   replace p107 := eq_true p107
                   replace q107 := eq_true q107
                   have p108 : 0 ≤ (x4_3 : Int) := od_
                   have q108 : x4_3 < ((rd_L2 l0_2 x3_2).length : Int) := od_
                   obtain ⟨ad108, e108, hx108_0, hx108_1, hx108_2⟩ := at_T37 HR107_0.out x4_3 p108 q108
                   cases e108
                   replace hx108_0 := lf_ HB.out hx108_0
                   replace hx108_1 := lf_ HB.out hx108_1
                   replace hx108_2 := lf_ HB.out hx108_2
                   replace p108 := eq_true p108
                   replace q108 := eq_true q108
                   go_wp2_with (first | ((with_reducible refine gate_dst (N := 5) rfl ?_); (try (refine gate_guard (by rfl) ?_; dsimp only)); refine box_event ?hg (N := 5) ?hd (cs := #[.int .i64 0, .int .i64 0, .int .i64 0]) (t := 37) ?hr ?_; (case hd => rfl); (case hg => rfl); (case hr => first | (go_simp; done) | (go_simp; rfl)); intro gb109 hg w31 hbox hb; have n0_ := A_ (blk_below (pk_ BK105.out) hb); have n1_ := A_ (below_step (bk_ HB.out) hb); have n2_ := A_ (hbox); have n3_ := A_ (bz_ hg (bk_ HB.out)); have n4_ := A_ (bz_ hg (bk_ HB.out)); have n5_ := A_ (nl_ hg (pk_ BK105.out)); have n6_ := A_ (ng_ hg (pk_ BK105.out)); clear BK105 HB; have BK105 := n0_; have HB := n1_; have BK109 := n2_; have GW109 := n3_; have GE109 := n4_; have NB105_109 := n5_; have NB109_105 := n6_; clear n0_ n1_ n2_ n3_ n4_ n5_ n6_ hb hbox hg; have hnb32 := NB109_105.out; have hnc32 := NB105_109.out; obtain ⟨hcz33_0, hcz33_1, hcz33_2⟩ := bc3_ BK109.out; have hfz33_0 := blk_frozen BK109.out 0; have hfz33_1 := blk_frozen BK109.out 1; have hfz33_2 := blk_frozen BK109.out 2; obtain ⟨hcz34_0, hcz34_1, hcz34_2⟩ := bc3_ BK105.out; have hfz34_0 := blk_frozen BK105.out 0; have hfz34_1 := blk_frozen BK105.out 1; have hfz34_2 := blk_frozen BK105.out 2))
                   repeat (go_quiet (first | ((with_reducible refine gate_dst (N := 5) rfl ?_); (try (refine gate_guard (by rfl) ?_; dsimp only)); refine box_event ?hg (N := 5) ?hd (cs := #[.int .i64 0, .int .i64 0, .int .i64 0]) (t := 37) ?hr ?_; (case hd => rfl); (case hg => rfl); (case hr => first | (go_simp; done) | (go_simp; rfl)); intro gb109 hg w31 hbox hb; have n0_ := A_ (blk_below (pk_ BK105.out) hb); have n1_ := A_ (below_step (bk_ HB.out) hb); have n2_ := A_ (hbox); have n3_ := A_ (bz_ hg (bk_ HB.out)); have n4_ := A_ (bz_ hg (bk_ HB.out)); have n5_ := A_ (nl_ hg (pk_ BK105.out)); have n6_ := A_ (ng_ hg (pk_ BK105.out)); clear BK105 HB; have BK105 := n0_; have HB := n1_; have BK109 := n2_; have GW109 := n3_; have GE109 := n4_; have NB105_109 := n5_; have NB109_105 := n6_; clear n0_ n1_ n2_ n3_ n4_ n5_ n6_ hb hbox hg; have hnb32 := NB109_105.out; have hnc32 := NB105_109.out; obtain ⟨hcz33_0, hcz33_1, hcz33_2⟩ := bc3_ BK109.out; have hfz33_0 := blk_frozen BK109.out 0; have hfz33_1 := blk_frozen BK109.out 1; have hfz33_2 := blk_frozen BK109.out 2; obtain ⟨hcz34_0, hcz34_1, hcz34_2⟩ := bc3_ BK105.out; have hfz34_0 := blk_frozen BK105.out 0; have hfz34_1 := blk_frozen BK105.out 1; have hfz34_2 := blk_frozen BK105.out 2)); try go_wp2_with (first | ((with_reducible refine gate_dst (N := 5) rfl ?_); (try (refine gate_guard (by rfl) ?_; dsimp only)); refine box_event ?hg (N := 5) ?hd (cs := #[.int .i64 0, .int .i64 0, .int .i64 0]) (t := 37) ?hr ?_; (case hd => rfl); (case hg => rfl); (case hr => first | (go_simp; done) | (go_simp; rfl)); intro gb109 hg w31 hbox hb; have n0_ := A_ (blk_below (pk_ BK105.out) hb); have n1_ := A_ (below_step (bk_ HB.out) hb); have n2_ := A_ (hbox); have n3_ := A_ (bz_ hg (bk_ HB.out)); have n4_ := A_ (bz_ hg (bk_ HB.out)); have n5_ := A_ (nl_ hg (pk_ BK105.out)); have n6_ := A_ (ng_ hg (pk_ BK105.out)); clear BK105 HB; have BK105 := n0_; have HB := n1_; have BK109 := n2_; have GW109 := n3_; have GE109 := n4_; have NB105_109 := n5_; have NB109_105 := n6_; clear n0_ n1_ n2_ n3_ n4_ n5_ n6_ hb hbox hg; have hnb32 := NB109_105.out; have hnc32 := NB105_109.out; obtain ⟨hcz33_0, hcz33_1, hcz33_2⟩ := bc3_ BK109.out; have hfz33_0 := blk_frozen BK109.out 0; have hfz33_1 := blk_frozen BK109.out 1; have hfz33_2 := blk_frozen BK109.out 2; obtain ⟨hcz34_0, hcz34_1, hcz34_2⟩ := bc3_ BK105.out; have hfz34_0 := blk_frozen BK105.out 0; have hfz34_1 := blk_frozen BK105.out 1; have hfz34_2 := blk_frozen BK105.out 2)))
                   go_ret
                   exact ⟨er_, bk_ HB.out⟩
                  ·rw [if_neg c29] at H
                   have c29b0 : decide (a0_1 ≤ ((rd_T37 (rd_L2 l0_2 x3_2) x4_3).f0)) = false := decide_eq_false c29
                   clear c29
                   by_cases c35 : ((rd_T37 (rd_L2 l0_2 x3_2) x4_3).f1) = (-1)
                   ·rw [if_pos c35] at H
                    have c35b0 : (((rd_T37 (rd_L2 l0_2 x3_2) x4_3).f1) == (-1)) = true := beq_iff_eq.mpr c35
                    have c35b1 : (((rd_T37 (rd_L2 l0_2 x3_2) x4_3).f1) != (-1)) = false := bne_eq_false_iff_eq.mpr c35
                    clear c35
                    by_cases c36 : ((rd_T37 (rd_L2 l0_2 x3_2) x4_3).f2) < (-1)
                    ·rw [if_pos c36] at H
                     have c36b0 : decide (((rd_T37 (rd_L2 l0_2 x3_2) x4_3).f2) < (-1)) = true := decide_eq_true c36
                     clear c36
                     obtain rfl := Option.some.inj H
                     obtain ⟨hcz37_0, hcz37_1, hcz37_2⟩ := bc3_ BK105.out
                     have hfz37_0 := blk_frozen BK105.out 0
                     have hfz37_1 := blk_frozen BK105.out 1
                     have hfz37_2 := blk_frozen BK105.out 2
                     have p107 : 0 ≤ (x3_2 : Int) := od_
                     have q107 : x3_2 < (l0_2.length : Int) := od_
                     obtain ⟨ad107, A107_0, c107_0, e107, hx107_0, hl107_0, hi107_0⟩ := at_L2 HR0_2.out x3_2 p107 q107
                     obtain rfl : ad106 = ad107 := (by injection e107)
                     replace hx107_0 := lf_ HB.out hx107_0
                     have HR107_0 := Aside0.mk hi107_0
                     have HC107_0 := Aside0.mk hl107_0
                     clear hi107_0 hl107_0
                     replace p107 := eq_true p107
                     replace q107 := eq_true q107
                     have p108 : 0 ≤ (x4_3 : Int) := od_
                     have q108 : x4_3 < ((rd_L2 l0_2 x3_2).length : Int) := od_
                     obtain ⟨ad108, e108, hx108_0, hx108_1, hx108_2⟩ := at_T37 HR107_0.out x4_3 p108 q108
                     cases e108
                     replace hx108_0 := lf_ HB.out hx108_0
                     replace hx108_1 := lf_ HB.out hx108_1
                     replace hx108_2 := lf_ HB.out hx108_2
                     replace p108 := eq_true p108
                     replace q108 := eq_true q108
                     go_wp2_with (first | ((with_reducible refine gate_dst (N := 5) rfl ?_); (try (refine gate_guard (by rfl) ?_; dsimp only)); refine box_event ?hg (N := 5) ?hd (cs := #[.int .i64 0, .int .i64 0, .int .i64 0]) (t := 37) ?hr ?_; (case hd => rfl); (case hg => rfl); (case hr => first | (go_simp; done) | (go_simp; rfl)); intro gb109 hg w38 hbox hb; have n0_ := A_ (blk_below (pk_ BK105.out) hb); have n1_ := A_ (below_step (bk_ HB.out) hb); have n2_ := A_ (hbox); have n3_ := A_ (bz_ hg (bk_ HB.out)); have n4_ := A_ (bz_ hg (bk_ HB.out)); have n5_ := A_ (nl_ hg (pk_ BK105.out)); have n6_ := A_ (ng_ hg (pk_ BK105.out)); clear BK105 HB; have BK105 := n0_; have HB := n1_; have BK109 := n2_; have GW109 := n3_; have GE109 := n4_; have NB105_109 := n5_; have NB109_105 := n6_; clear n0_ n1_ n2_ n3_ n4_ n5_ n6_ hb hbox hg; have hnb39 := NB109_105.out; have hnc39 := NB105_109.out; obtain ⟨hcz40_0, hcz40_1, hcz40_2⟩ := bc3_ BK109.out; have hfz40_0 := blk_frozen BK109.out 0; have hfz40_1 := blk_frozen BK109.out 1; have hfz40_2 := blk_frozen BK109.out 2; obtain ⟨hcz41_0, hcz41_1, hcz41_2⟩ := bc3_ BK105.out; have hfz41_0 := blk_frozen BK105.out 0; have hfz41_1 := blk_frozen BK105.out 1; have hfz41_2 := blk_frozen BK105.out 2))
                     repeat (go_quiet (first | ((with_reducible refine gate_dst (N := 5) rfl ?_); (try (refine gate_guard (by rfl) ?_; dsimp only)); refine box_event ?hg (N := 5) ?hd (cs := #[.int .i64 0, .int .i64 0, .int .i64 0]) (t := 37) ?hr ?_; (case hd => rfl); (case hg => rfl); (case hr => first | (go_simp; done) | (go_simp; rfl)); intro gb109 hg w38 hbox hb; have n0_ := A_ (blk_below (pk_ BK105.out) hb); have n1_ := A_ (below_step (bk_ HB.out) hb); have n2_ := A_ (hbox); have n3_ := A_ (bz_ hg (bk_ HB.out)); have n4_ := A_ (bz_ hg (bk_ HB.out)); have n5_ := A_ (nl_ hg (pk_ BK105.out)); have n6_ := A_ (ng_ hg (pk_ BK105.out)); clear BK105 HB; have BK105 := n0_; have HB := n1_; have BK109 := n2_; have GW109 := n3_; have GE109 := n4_; have NB105_109 := n5_; have NB109_105 := n6_; clear n0_ n1_ n2_ n3_ n4_ n5_ n6_ hb hbox hg; have hnb39 := NB109_105.out; have hnc39 := NB105_109.out; obtain ⟨hcz40_0, hcz40_1, hcz40_2⟩ := bc3_ BK109.out; have hfz40_0 := blk_frozen BK109.out 0; have hfz40_1 := blk_frozen BK109.out 1; have hfz40_2 := blk_frozen BK109.out 2; obtain ⟨hcz41_0, hcz41_1, hcz41_2⟩ := bc3_ BK105.out; have hfz41_0 := blk_frozen BK105.out 0; have hfz41_1 := blk_frozen BK105.out 1; have hfz41_2 := blk_frozen BK105.out 2)); try go_wp2_with (first | ((with_reducible refine gate_dst (N := 5) rfl ?_); (try (refine gate_guard (by rfl) ?_; dsimp only)); refine box_event ?hg (N := 5) ?hd (cs := #[.int .i64 0, .int .i64 0, .int .i64 0]) (t := 37) ?hr ?_; (case hd => rfl); (case hg => rfl); (case hr => first | (go_simp; done) | (go_simp; rfl)); intro gb109 hg w38 hbox hb; have n0_ := A_ (blk_below (pk_ BK105.out) hb); have n1_ := A_ (below_step (bk_ HB.out) hb); have n2_ := A_ (hbox); have n3_ := A_ (bz_ hg (bk_ HB.out)); have n4_ := A_ (bz_ hg (bk_ HB.out)); have n5_ := A_ (nl_ hg (pk_ BK105.out)); have n6_ := A_ (ng_ hg (pk_ BK105.out)); clear BK105 HB; have BK105 := n0_; have HB := n1_; have BK109 := n2_; have GW109 := n3_; have GE109 := n4_; have NB105_109 := n5_; have NB109_105 := n6_; clear n0_ n1_ n2_ n3_ n4_ n5_ n6_ hb hbox hg; have hnb39 := NB109_105.out; have hnc39 := NB105_109.out; obtain ⟨hcz40_0, hcz40_1, hcz40_2⟩ := bc3_ BK109.out; have hfz40_0 := blk_frozen BK109.out 0; have hfz40_1 := blk_frozen BK109.out 1; have hfz40_2 := blk_frozen BK109.out 2; obtain ⟨hcz41_0, hcz41_1, hcz41_2⟩ := bc3_ BK105.out; have hfz41_0 := blk_frozen BK105.out 0; have hfz41_1 := blk_frozen BK105.out 1; have hfz41_2 := blk_frozen BK105.out 2)))
                     go_ret
                     exact ⟨er_, bk_ HB.out⟩
                    ·rw [if_neg c36] at H
                     have c36b0 : decide (((rd_T37 (rd_L2 l0_2 x3_2) x4_3).f2) < (-1)) = false := decide_eq_false c36
                     clear c36
                     by_cases c42 : ((rd_T37 (rd_L2 l0_2 x3_2) x4_3).f2) ≥ a0_0
                     ·rw [if_pos c42] at H
                      have c42b0 : decide (a0_0 ≤ ((rd_T37 (rd_L2 l0_2 x3_2) x4_3).f2)) = true := decide_eq_true c42
                      clear c42
                      obtain rfl := Option.some.inj H
                      obtain ⟨hcz43_0, hcz43_1, hcz43_2⟩ := bc3_ BK105.out
                      have hfz43_0 := blk_frozen BK105.out 0
                      have hfz43_1 := blk_frozen BK105.out 1
                      have hfz43_2 := blk_frozen BK105.out 2
                      have p107 : 0 ≤ (x3_2 : Int) := od_
                      have q107 : x3_2 < (l0_2.length : Int) := od_
                      obtain ⟨ad107, A107_0, c107_0, e107, hx107_0, hl107_0, hi107_0⟩ := at_L2 HR0_2.out x3_2 p107 q107
                      obtain rfl : ad106 = ad107 := (by injection e107)
                      replace hx107_0 := lf_ HB.out hx107_0
                      have HR107_0 := Aside0.mk hi107_0
                      have HC107_0 := Aside0.mk hl107_0
                      clear hi107_0 hl107_0
                      replace p107 := eq_true p107
                      replace q107 := eq_true q107
                      have p108 : 0 ≤ (x4_3 : Int) := od_
                      have q108 : x4_3 < ((rd_L2 l0_2 x3_2).length : Int) := od_
                      obtain ⟨ad108, e108, hx108_0, hx108_1, hx108_2⟩ := at_T37 HR107_0.out x4_3 p108 q108
                      cases e108
                      replace hx108_0 := lf_ HB.out hx108_0
                      replace hx108_1 := lf_ HB.out hx108_1
                      replace hx108_2 := lf_ HB.out hx108_2
                      replace p108 := eq_true p108
                      replace q108 := eq_true q108
                      go_wp2_with (first | ((with_reducible refine gate_dst (N := 5) rfl ?_); (try (refine gate_guard (by rfl) ?_; dsimp only)); refine box_event ?hg (N := 5) ?hd (cs := #[.int .i64 0, .int .i64 0, .int .i64 0]) (t := 37) ?hr ?_; (case hd => rfl); (case hg => rfl); (case hr => first | (go_simp; done) | (go_simp; rfl)); intro gb109 hg w44 hbox hb; have n0_ := A_ (blk_below (pk_ BK105.out) hb); have n1_ := A_ (below_step (bk_ HB.out) hb); have n2_ := A_ (hbox); have n3_ := A_ (bz_ hg (bk_ HB.out)); have n4_ := A_ (bz_ hg (bk_ HB.out)); have n5_ := A_ (nl_ hg (pk_ BK105.out)); have n6_ := A_ (ng_ hg (pk_ BK105.out)); clear BK105 HB; have BK105 := n0_; have HB := n1_; have BK109 := n2_; have GW109 := n3_; have GE109 := n4_; have NB105_109 := n5_; have NB109_105 := n6_; clear n0_ n1_ n2_ n3_ n4_ n5_ n6_ hb hbox hg; have hnb45 := NB109_105.out; have hnc45 := NB105_109.out; obtain ⟨hcz46_0, hcz46_1, hcz46_2⟩ := bc3_ BK109.out; have hfz46_0 := blk_frozen BK109.out 0; have hfz46_1 := blk_frozen BK109.out 1; have hfz46_2 := blk_frozen BK109.out 2; obtain ⟨hcz47_0, hcz47_1, hcz47_2⟩ := bc3_ BK105.out; have hfz47_0 := blk_frozen BK105.out 0; have hfz47_1 := blk_frozen BK105.out 1; have hfz47_2 := blk_frozen BK105.out 2))
                      repeat (go_quiet (first | ((with_reducible refine gate_dst (N := 5) rfl ?_); (try (refine gate_guard (by rfl) ?_; dsimp only)); refine box_event ?hg (N := 5) ?hd (cs := #[.int .i64 0, .int .i64 0, .int .i64 0]) (t := 37) ?hr ?_; (case hd => rfl); (case hg => rfl); (case hr => first | (go_simp; done) | (go_simp; rfl)); intro gb109 hg w44 hbox hb; have n0_ := A_ (blk_below (pk_ BK105.out) hb); have n1_ := A_ (below_step (bk_ HB.out) hb); have n2_ := A_ (hbox); have n3_ := A_ (bz_ hg (bk_ HB.out)); have n4_ := A_ (bz_ hg (bk_ HB.out)); have n5_ := A_ (nl_ hg (pk_ BK105.out)); have n6_ := A_ (ng_ hg (pk_ BK105.out)); clear BK105 HB; have BK105 := n0_; have HB := n1_; have BK109 := n2_; have GW109 := n3_; have GE109 := n4_; have NB105_109 := n5_; have NB109_105 := n6_; clear n0_ n1_ n2_ n3_ n4_ n5_ n6_ hb hbox hg; have hnb45 := NB109_105.out; have hnc45 := NB105_109.out; obtain ⟨hcz46_0, hcz46_1, hcz46_2⟩ := bc3_ BK109.out; have hfz46_0 := blk_frozen BK109.out 0; have hfz46_1 := blk_frozen BK109.out 1; have hfz46_2 := blk_frozen BK109.out 2; obtain ⟨hcz47_0, hcz47_1, hcz47_2⟩ := bc3_ BK105.out; have hfz47_0 := blk_frozen BK105.out 0; have hfz47_1 := blk_frozen BK105.out 1; have hfz47_2 := blk_frozen BK105.out 2)); try go_wp2_with (first | ((with_reducible refine gate_dst (N := 5) rfl ?_); (try (refine gate_guard (by rfl) ?_; dsimp only)); refine box_event ?hg (N := 5) ?hd (cs := #[.int .i64 0, .int .i64 0, .int .i64 0]) (t := 37) ?hr ?_; (case hd => rfl); (case hg => rfl); (case hr => first | (go_simp; done) | (go_simp; rfl)); intro gb109 hg w44 hbox hb; have n0_ := A_ (blk_below (pk_ BK105.out) hb); have n1_ := A_ (below_step (bk_ HB.out) hb); have n2_ := A_ (hbox); have n3_ := A_ (bz_ hg (bk_ HB.out)); have n4_ := A_ (bz_ hg (bk_ HB.out)); have n5_ := A_ (nl_ hg (pk_ BK105.out)); have n6_ := A_ (ng_ hg (pk_ BK105.out)); clear BK105 HB; have BK105 := n0_; have HB := n1_; have BK109 := n2_; have GW109 := n3_; have GE109 := n4_; have NB105_109 := n5_; have NB109_105 := n6_; clear n0_ n1_ n2_ n3_ n4_ n5_ n6_ hb hbox hg; have hnb45 := NB109_105.out; have hnc45 := NB105_109.out; obtain ⟨hcz46_0, hcz46_1, hcz46_2⟩ := bc3_ BK109.out; have hfz46_0 := blk_frozen BK109.out 0; have hfz46_1 := blk_frozen BK109.out 1; have hfz46_2 := blk_frozen BK109.out 2; obtain ⟨hcz47_0, hcz47_1, hcz47_2⟩ := bc3_ BK105.out; have hfz47_0 := blk_frozen BK105.out 0; have hfz47_1 := blk_frozen BK105.out 1; have hfz47_2 := blk_frozen BK105.out 2)))
                      go_ret
                      exact ⟨er_, bk_ HB.out⟩
                     ·rw [if_neg c42] at H
                      have c42b0 : decide (a0_0 ≤ ((rd_T37 (rd_L2 l0_2 x3_2) x4_3).f2)) = false := decide_eq_false c42
                      clear c42
                      have H' := Aside0.mk H
                      clear H
                      obtain ⟨hcz48_0, hcz48_1, hcz48_2⟩ := bc3_ BK105.out
                      have hfz48_0 := blk_frozen BK105.out 0
                      have hfz48_1 := blk_frozen BK105.out 1
                      have hfz48_2 := blk_frozen BK105.out 2
                      have p107 : 0 ≤ (x3_2 : Int) := od_
                      have q107 : x3_2 < (l0_2.length : Int) := od_
                      obtain ⟨ad107, A107_0, c107_0, e107, hx107_0, hl107_0, hi107_0⟩ := at_L2 HR0_2.out x3_2 p107 q107
                      obtain rfl : ad106 = ad107 := (by injection e107)
                      replace hx107_0 := lf_ HB.out hx107_0
                      have HR107_0 := Aside0.mk hi107_0
                      have HC107_0 := Aside0.mk hl107_0
                      clear hi107_0 hl107_0
                      replace p107 := eq_true p107
                      replace q107 := eq_true q107
                      have p108 : 0 ≤ (x4_3 : Int) := od_
                      have q108 : x4_3 < ((rd_L2 l0_2 x3_2).length : Int) := od_
                      obtain ⟨ad108, e108, hx108_0, hx108_1, hx108_2⟩ := at_T37 HR107_0.out x4_3 p108 q108
                      cases e108
                      replace hx108_0 := lf_ HB.out hx108_0
                      replace hx108_1 := lf_ HB.out hx108_1
                      replace hx108_2 := lf_ HB.out hx108_2
                      replace p108 := eq_true p108
                      replace q108 := eq_true q108
                      go_wp2_with (first | ((with_reducible refine gate_dst (N := 5) rfl ?_); (try (refine gate_guard (by rfl) ?_; dsimp only)); refine box_event ?hg (N := 5) ?hd (cs := #[.int .i64 0, .int .i64 0, .int .i64 0]) (t := 37) ?hr ?_; (case hd => rfl); (case hg => rfl); (case hr => first | (go_simp; done) | (go_simp; rfl)); intro gb109 hg w49 hbox hb; have n0_ := A_ (blk_below (pk_ BK105.out) hb); have n1_ := A_ (below_step (bk_ HB.out) hb); have n2_ := A_ (hbox); have n3_ := A_ (bz_ hg (bk_ HB.out)); have n4_ := A_ (bz_ hg (bk_ HB.out)); have n5_ := A_ (nl_ hg (pk_ BK105.out)); have n6_ := A_ (ng_ hg (pk_ BK105.out)); clear BK105 HB; have BK105 := n0_; have HB := n1_; have BK109 := n2_; have GW109 := n3_; have GE109 := n4_; have NB105_109 := n5_; have NB109_105 := n6_; clear n0_ n1_ n2_ n3_ n4_ n5_ n6_ hb hbox hg; have hnb50 := NB109_105.out; have hnc50 := NB105_109.out; obtain ⟨hcz51_0, hcz51_1, hcz51_2⟩ := bc3_ BK109.out; have hfz51_0 := blk_frozen BK109.out 0; have hfz51_1 := blk_frozen BK109.out 1; have hfz51_2 := blk_frozen BK109.out 2; obtain ⟨hcz52_0, hcz52_1, hcz52_2⟩ := bc3_ BK105.out; have hfz52_0 := blk_frozen BK105.out 0; have hfz52_1 := blk_frozen BK105.out 1; have hfz52_2 := blk_frozen BK105.out 2))
                      repeat (go_quiet (first | ((with_reducible refine gate_dst (N := 5) rfl ?_); (try (refine gate_guard (by rfl) ?_; dsimp only)); refine box_event ?hg (N := 5) ?hd (cs := #[.int .i64 0, .int .i64 0, .int .i64 0]) (t := 37) ?hr ?_; (case hd => rfl); (case hg => rfl); (case hr => first | (go_simp; done) | (go_simp; rfl)); intro gb109 hg w49 hbox hb; have n0_ := A_ (blk_below (pk_ BK105.out) hb); have n1_ := A_ (below_step (bk_ HB.out) hb); have n2_ := A_ (hbox); have n3_ := A_ (bz_ hg (bk_ HB.out)); have n4_ := A_ (bz_ hg (bk_ HB.out)); have n5_ := A_ (nl_ hg (pk_ BK105.out)); have n6_ := A_ (ng_ hg (pk_ BK105.out)); clear BK105 HB; have BK105 := n0_; have HB := n1_; have BK109 := n2_; have GW109 := n3_; have GE109 := n4_; have NB105_109 := n5_; have NB109_105 := n6_; clear n0_ n1_ n2_ n3_ n4_ n5_ n6_ hb hbox hg; have hnb50 := NB109_105.out; have hnc50 := NB105_109.out; obtain ⟨hcz51_0, hcz51_1, hcz51_2⟩ := bc3_ BK109.out; have hfz51_0 := blk_frozen BK109.out 0; have hfz51_1 := blk_frozen BK109.out 1; have hfz51_2 := blk_frozen BK109.out 2; obtain ⟨hcz52_0, hcz52_1, hcz52_2⟩ := bc3_ BK105.out; have hfz52_0 := blk_frozen BK105.out 0; have hfz52_1 := blk_frozen BK105.out 1; have hfz52_2 := blk_frozen BK105.out 2)); try go_wp2_with (first | ((with_reducible refine gate_dst (N := 5) rfl ?_); (try (refine gate_guard (by rfl) ?_; dsimp only)); refine box_event ?hg (N := 5) ?hd (cs := #[.int .i64 0, .int .i64 0, .int .i64 0]) (t := 37) ?hr ?_; (case hd => rfl); (case hg => rfl); (case hr => first | (go_simp; done) | (go_simp; rfl)); intro gb109 hg w49 hbox hb; have n0_ := A_ (blk_below (pk_ BK105.out) hb); have n1_ := A_ (below_step (bk_ HB.out) hb); have n2_ := A_ (hbox); have n3_ := A_ (bz_ hg (bk_ HB.out)); have n4_ := A_ (bz_ hg (bk_ HB.out)); have n5_ := A_ (nl_ hg (pk_ BK105.out)); have n6_ := A_ (ng_ hg (pk_ BK105.out)); clear BK105 HB; have BK105 := n0_; have HB := n1_; have BK109 := n2_; have GW109 := n3_; have GE109 := n4_; have NB105_109 := n5_; have NB109_105 := n6_; clear n0_ n1_ n2_ n3_ n4_ n5_ n6_ hb hbox hg; have hnb50 := NB109_105.out; have hnc50 := NB105_109.out; obtain ⟨hcz51_0, hcz51_1, hcz51_2⟩ := bc3_ BK109.out; have hfz51_0 := blk_frozen BK109.out 0; have hfz51_1 := blk_frozen BK109.out 1; have hfz51_2 := blk_frozen BK109.out 2; obtain ⟨hcz52_0, hcz52_1, hcz52_2⟩ := bc3_ BK105.out; have hfz52_0 := blk_frozen BK105.out 0; have hfz52_1 := blk_frozen BK105.out 1; have hfz52_2 := blk_frozen BK105.out 2)))
                      go_roundg k3
                      case measure => have := HJ1.out; have := HK2.out; have := HK3.out; omega
                      case rel => exact ⟨(wrap64 (x4_3 + 1)), jr_, H', ⟨by have := HJ1.out; have := HK2.out; have := HK3.out; omega⟩, ⟨by (iterate 3 (refine pk_ ?_; refine blk_far ?_ NB105_109.out _)); exact pk_ BK105.out⟩, ⟨bk_ HB.out⟩⟩
                   ·rw [if_neg c35] at H
                    have c35b0 : (((rd_T37 (rd_L2 l0_2 x3_2) x4_3).f1) == (-1)) = false := beq_eq_false_iff_ne.mpr c35
                    have c35b1 : (((rd_T37 (rd_L2 l0_2 x3_2) x4_3).f1) != (-1)) = true := bne_iff_ne.mpr c35
                    by_cases c53 : ((rd_T37 (rd_L2 l0_2 x3_2) x4_3).f1) = 1
                    ·rw [if_pos c53] at H
                     have c53b0 : (((rd_T37 (rd_L2 l0_2 x3_2) x4_3).f1) == 1) = true := beq_iff_eq.mpr c53
                     have c53b1 : (((rd_T37 (rd_L2 l0_2 x3_2) x4_3).f1) != 1) = false := bne_eq_false_iff_eq.mpr c53
                     clear c53
                     by_cases c54 : ((rd_T37 (rd_L2 l0_2 x3_2) x4_3).f2) < (-1)
                     ·rw [if_pos c54] at H
                      have c54b0 : decide (((rd_T37 (rd_L2 l0_2 x3_2) x4_3).f2) < (-1)) = true := decide_eq_true c54
                      clear c54
                      obtain rfl := Option.some.inj H
                      obtain ⟨hcz55_0, hcz55_1, hcz55_2⟩ := bc3_ BK105.out
                      have hfz55_0 := blk_frozen BK105.out 0
                      have hfz55_1 := blk_frozen BK105.out 1
                      have hfz55_2 := blk_frozen BK105.out 2
                      have p107 : 0 ≤ (x3_2 : Int) := od_
                      have q107 : x3_2 < (l0_2.length : Int) := od_
                      obtain ⟨ad107, A107_0, c107_0, e107, hx107_0, hl107_0, hi107_0⟩ := at_L2 HR0_2.out x3_2 p107 q107
                      obtain rfl : ad106 = ad107 := (by injection e107)
                      replace hx107_0 := lf_ HB.out hx107_0
                      have HR107_0 := Aside0.mk hi107_0
                      have HC107_0 := Aside0.mk hl107_0
                      clear hi107_0 hl107_0
                      replace p107 := eq_true p107
                      replace q107 := eq_true q107
                      have p108 : 0 ≤ (x4_3 : Int) := od_
                      have q108 : x4_3 < ((rd_L2 l0_2 x3_2).length : Int) := od_
                      obtain ⟨ad108, e108, hx108_0, hx108_1, hx108_2⟩ := at_T37 HR107_0.out x4_3 p108 q108
                      cases e108
                      replace hx108_0 := lf_ HB.out hx108_0
                      replace hx108_1 := lf_ HB.out hx108_1
                      replace hx108_2 := lf_ HB.out hx108_2
                      replace p108 := eq_true p108
                      replace q108 := eq_true q108
                      go_wp2_with (first | ((with_reducible refine gate_dst (N := 5) rfl ?_); (try (refine gate_guard (by rfl) ?_; dsimp only)); refine box_event ?hg (N := 5) ?hd (cs := #[.int .i64 0, .int .i64 0, .int .i64 0]) (t := 37) ?hr ?_; (case hd => rfl); (case hg => rfl); (case hr => first | (go_simp; done) | (go_simp; rfl)); intro gb109 hg w56 hbox hb; have n0_ := A_ (blk_below (pk_ BK105.out) hb); have n1_ := A_ (below_step (bk_ HB.out) hb); have n2_ := A_ (hbox); have n3_ := A_ (bz_ hg (bk_ HB.out)); have n4_ := A_ (bz_ hg (bk_ HB.out)); have n5_ := A_ (nl_ hg (pk_ BK105.out)); have n6_ := A_ (ng_ hg (pk_ BK105.out)); clear BK105 HB; have BK105 := n0_; have HB := n1_; have BK109 := n2_; have GW109 := n3_; have GE109 := n4_; have NB105_109 := n5_; have NB109_105 := n6_; clear n0_ n1_ n2_ n3_ n4_ n5_ n6_ hb hbox hg; have hnb57 := NB109_105.out; have hnc57 := NB105_109.out; obtain ⟨hcz58_0, hcz58_1, hcz58_2⟩ := bc3_ BK109.out; have hfz58_0 := blk_frozen BK109.out 0; have hfz58_1 := blk_frozen BK109.out 1; have hfz58_2 := blk_frozen BK109.out 2; obtain ⟨hcz59_0, hcz59_1, hcz59_2⟩ := bc3_ BK105.out; have hfz59_0 := blk_frozen BK105.out 0; have hfz59_1 := blk_frozen BK105.out 1; have hfz59_2 := blk_frozen BK105.out 2))
                      repeat (go_quiet (first | ((with_reducible refine gate_dst (N := 5) rfl ?_); (try (refine gate_guard (by rfl) ?_; dsimp only)); refine box_event ?hg (N := 5) ?hd (cs := #[.int .i64 0, .int .i64 0, .int .i64 0]) (t := 37) ?hr ?_; (case hd => rfl); (case hg => rfl); (case hr => first | (go_simp; done) | (go_simp; rfl)); intro gb109 hg w56 hbox hb; have n0_ := A_ (blk_below (pk_ BK105.out) hb); have n1_ := A_ (below_step (bk_ HB.out) hb); have n2_ := A_ (hbox); have n3_ := A_ (bz_ hg (bk_ HB.out)); have n4_ := A_ (bz_ hg (bk_ HB.out)); have n5_ := A_ (nl_ hg (pk_ BK105.out)); have n6_ := A_ (ng_ hg (pk_ BK105.out)); clear BK105 HB; have BK105 := n0_; have HB := n1_; have BK109 := n2_; have GW109 := n3_; have GE109 := n4_; have NB105_109 := n5_; have NB109_105 := n6_; clear n0_ n1_ n2_ n3_ n4_ n5_ n6_ hb hbox hg; have hnb57 := NB109_105.out; have hnc57 := NB105_109.out; obtain ⟨hcz58_0, hcz58_1, hcz58_2⟩ := bc3_ BK109.out; have hfz58_0 := blk_frozen BK109.out 0; have hfz58_1 := blk_frozen BK109.out 1; have hfz58_2 := blk_frozen BK109.out 2; obtain ⟨hcz59_0, hcz59_1, hcz59_2⟩ := bc3_ BK105.out; have hfz59_0 := blk_frozen BK105.out 0; have hfz59_1 := blk_frozen BK105.out 1; have hfz59_2 := blk_frozen BK105.out 2)); try go_wp2_with (first | ((with_reducible refine gate_dst (N := 5) rfl ?_); (try (refine gate_guard (by rfl) ?_; dsimp only)); refine box_event ?hg (N := 5) ?hd (cs := #[.int .i64 0, .int .i64 0, .int .i64 0]) (t := 37) ?hr ?_; (case hd => rfl); (case hg => rfl); (case hr => first | (go_simp; done) | (go_simp; rfl)); intro gb109 hg w56 hbox hb; have n0_ := A_ (blk_below (pk_ BK105.out) hb); have n1_ := A_ (below_step (bk_ HB.out) hb); have n2_ := A_ (hbox); have n3_ := A_ (bz_ hg (bk_ HB.out)); have n4_ := A_ (bz_ hg (bk_ HB.out)); have n5_ := A_ (nl_ hg (pk_ BK105.out)); have n6_ := A_ (ng_ hg (pk_ BK105.out)); clear BK105 HB; have BK105 := n0_; have HB := n1_; have BK109 := n2_; have GW109 := n3_; have GE109 := n4_; have NB105_109 := n5_; have NB109_105 := n6_; clear n0_ n1_ n2_ n3_ n4_ n5_ n6_ hb hbox hg; have hnb57 := NB109_105.out; have hnc57 := NB105_109.out; obtain ⟨hcz58_0, hcz58_1, hcz58_2⟩ := bc3_ BK109.out; have hfz58_0 := blk_frozen BK109.out 0; have hfz58_1 := blk_frozen BK109.out 1; have hfz58_2 := blk_frozen BK109.out 2; obtain ⟨hcz59_0, hcz59_1, hcz59_2⟩ := bc3_ BK105.out; have hfz59_0 := blk_frozen BK105.out 0; have hfz59_1 := blk_frozen BK105.out 1; have hfz59_2 := blk_frozen BK105.out 2)))
                      go_ret
                      exact ⟨er_, bk_ HB.out⟩
                     ·rw [if_neg c54] at H
                      have c54b0 : decide (((rd_T37 (rd_L2 l0_2 x3_2) x4_3).f2) < (-1)) = false := decide_eq_false c54
                      clear c54
                      by_cases c60 : ((rd_T37 (rd_L2 l0_2 x3_2) x4_3).f2) ≥ a0_0
                      ·rw [if_pos c60] at H
                       have c60b0 : decide (a0_0 ≤ ((rd_T37 (rd_L2 l0_2 x3_2) x4_3).f2)) = true := decide_eq_true c60
                       clear c60
                       obtain rfl := Option.some.inj H
                       obtain ⟨hcz61_0, hcz61_1, hcz61_2⟩ := bc3_ BK105.out
                       have hfz61_0 := blk_frozen BK105.out 0
                       have hfz61_1 := blk_frozen BK105.out 1
                       have hfz61_2 := blk_frozen BK105.out 2
                       have p107 : 0 ≤ (x3_2 : Int) := od_
                       have q107 : x3_2 < (l0_2.length : Int) := od_
                       obtain ⟨ad107, A107_0, c107_0, e107, hx107_0, hl107_0, hi107_0⟩ := at_L2 HR0_2.out x3_2 p107 q107
                       obtain rfl : ad106 = ad107 := (by injection e107)
                       replace hx107_0 := lf_ HB.out hx107_0
                       have HR107_0 := Aside0.mk hi107_0
                       have HC107_0 := Aside0.mk hl107_0
                       clear hi107_0 hl107_0
                       replace p107 := eq_true p107
                       replace q107 := eq_true q107
                       have p108 : 0 ≤ (x4_3 : Int) := od_
                       have q108 : x4_3 < ((rd_L2 l0_2 x3_2).length : Int) := od_
                       obtain ⟨ad108, e108, hx108_0, hx108_1, hx108_2⟩ := at_T37 HR107_0.out x4_3 p108 q108
                       cases e108
                       replace hx108_0 := lf_ HB.out hx108_0
                       replace hx108_1 := lf_ HB.out hx108_1
                       replace hx108_2 := lf_ HB.out hx108_2
                       replace p108 := eq_true p108
                       replace q108 := eq_true q108
                       go_wp2_with (first | ((with_reducible refine gate_dst (N := 5) rfl ?_); (try (refine gate_guard (by rfl) ?_; dsimp only)); refine box_event ?hg (N := 5) ?hd (cs := #[.int .i64 0, .int .i64 0, .int .i64 0]) (t := 37) ?hr ?_; (case hd => rfl); (case hg => rfl); (case hr => first | (go_simp; done) | (go_simp; rfl)); intro gb109 hg w62 hbox hb; have n0_ := A_ (blk_below (pk_ BK105.out) hb); have n1_ := A_ (below_step (bk_ HB.out) hb); have n2_ := A_ (hbox); have n3_ := A_ (bz_ hg (bk_ HB.out)); have n4_ := A_ (bz_ hg (bk_ HB.out)); have n5_ := A_ (nl_ hg (pk_ BK105.out)); have n6_ := A_ (ng_ hg (pk_ BK105.out)); clear BK105 HB; have BK105 := n0_; have HB := n1_; have BK109 := n2_; have GW109 := n3_; have GE109 := n4_; have NB105_109 := n5_; have NB109_105 := n6_; clear n0_ n1_ n2_ n3_ n4_ n5_ n6_ hb hbox hg; have hnb63 := NB109_105.out; have hnc63 := NB105_109.out; obtain ⟨hcz64_0, hcz64_1, hcz64_2⟩ := bc3_ BK109.out; have hfz64_0 := blk_frozen BK109.out 0; have hfz64_1 := blk_frozen BK109.out 1; have hfz64_2 := blk_frozen BK109.out 2; obtain ⟨hcz65_0, hcz65_1, hcz65_2⟩ := bc3_ BK105.out; have hfz65_0 := blk_frozen BK105.out 0; have hfz65_1 := blk_frozen BK105.out 1; have hfz65_2 := blk_frozen BK105.out 2))
                       repeat (go_quiet (first | ((with_reducible refine gate_dst (N := 5) rfl ?_); (try (refine gate_guard (by rfl) ?_; dsimp only)); refine box_event ?hg (N := 5) ?hd (cs := #[.int .i64 0, .int .i64 0, .int .i64 0]) (t := 37) ?hr ?_; (case hd => rfl); (case hg => rfl); (case hr => first | (go_simp; done) | (go_simp; rfl)); intro gb109 hg w62 hbox hb; have n0_ := A_ (blk_below (pk_ BK105.out) hb); have n1_ := A_ (below_step (bk_ HB.out) hb); have n2_ := A_ (hbox); have n3_ := A_ (bz_ hg (bk_ HB.out)); have n4_ := A_ (bz_ hg (bk_ HB.out)); have n5_ := A_ (nl_ hg (pk_ BK105.out)); have n6_ := A_ (ng_ hg (pk_ BK105.out)); clear BK105 HB; have BK105 := n0_; have HB := n1_; have BK109 := n2_; have GW109 := n3_; have GE109 := n4_; have NB105_109 := n5_; have NB109_105 := n6_; clear n0_ n1_ n2_ n3_ n4_ n5_ n6_ hb hbox hg; have hnb63 := NB109_105.out; have hnc63 := NB105_109.out; obtain ⟨hcz64_0, hcz64_1, hcz64_2⟩ := bc3_ BK109.out; have hfz64_0 := blk_frozen BK109.out 0; have hfz64_1 := blk_frozen BK109.out 1; have hfz64_2 := blk_frozen BK109.out 2; obtain ⟨hcz65_0, hcz65_1, hcz65_2⟩ := bc3_ BK105.out; have hfz65_0 := blk_frozen BK105.out 0; have hfz65_1 := blk_frozen BK105.out 1; have hfz65_2 := blk_frozen BK105.out 2)); try go_wp2_with (first | ((with_reducible refine gate_dst (N := 5) rfl ?_); (try (refine gate_guard (by rfl) ?_; dsimp only)); refine box_event ?hg (N := 5) ?hd (cs := #[.int .i64 0, .int .i64 0, .int .i64 0]) (t := 37) ?hr ?_; (case hd => rfl); (case hg => rfl); (case hr => first | (go_simp; done) | (go_simp; rfl)); intro gb109 hg w62 hbox hb; have n0_ := A_ (blk_below (pk_ BK105.out) hb); have n1_ := A_ (below_step (bk_ HB.out) hb); have n2_ := A_ (hbox); have n3_ := A_ (bz_ hg (bk_ HB.out)); have n4_ := A_ (bz_ hg (bk_ HB.out)); have n5_ := A_ (nl_ hg (pk_ BK105.out)); have n6_ := A_ (ng_ hg (pk_ BK105.out)); clear BK105 HB; have BK105 := n0_; have HB := n1_; have BK109 := n2_; have GW109 := n3_; have GE109 := n4_; have NB105_109 := n5_; have NB109_105 := n6_; clear n0_ n1_ n2_ n3_ n4_ n5_ n6_ hb hbox hg; have hnb63 := NB109_105.out; have hnc63 := NB105_109.out; obtain ⟨hcz64_0, hcz64_1, hcz64_2⟩ := bc3_ BK109.out; have hfz64_0 := blk_frozen BK109.out 0; have hfz64_1 := blk_frozen BK109.out 1; have hfz64_2 := blk_frozen BK109.out 2; obtain ⟨hcz65_0, hcz65_1, hcz65_2⟩ := bc3_ BK105.out; have hfz65_0 := blk_frozen BK105.out 0; have hfz65_1 := blk_frozen BK105.out 1; have hfz65_2 := blk_frozen BK105.out 2)))
                       go_ret
                       exact ⟨er_, bk_ HB.out⟩
                      ·rw [if_neg c60] at H
                       have c60b0 : decide (a0_0 ≤ ((rd_T37 (rd_L2 l0_2 x3_2) x4_3).f2)) = false := decide_eq_false c60
                       clear c60
                       have H' := Aside0.mk H
                       clear H
                       obtain ⟨hcz66_0, hcz66_1, hcz66_2⟩ := bc3_ BK105.out
                       have hfz66_0 := blk_frozen BK105.out 0
                       have hfz66_1 := blk_frozen BK105.out 1
                       have hfz66_2 := blk_frozen BK105.out 2
                       have p107 : 0 ≤ (x3_2 : Int) := od_
                       have q107 : x3_2 < (l0_2.length : Int) := od_
                       obtain ⟨ad107, A107_0, c107_0, e107, hx107_0, hl107_0, hi107_0⟩ := at_L2 HR0_2.out x3_2 p107 q107
                       obtain rfl : ad106 = ad107 := (by injection e107)
                       replace hx107_0 := lf_ HB.out hx107_0
                       have HR107_0 := Aside0.mk hi107_0
                       have HC107_0 := Aside0.mk hl107_0
                       clear hi107_0 hl107_0
                       replace p107 := eq_true p107
                       replace q107 := eq_true q107
                       have p108 : 0 ≤ (x4_3 : Int) := od_
                       have q108 : x4_3 < ((rd_L2 l0_2 x3_2).length : Int) := od_
                       obtain ⟨ad108, e108, hx108_0, hx108_1, hx108_2⟩ := at_T37 HR107_0.out x4_3 p108 q108
                       cases e108
                       replace hx108_0 := lf_ HB.out hx108_0
                       replace hx108_1 := lf_ HB.out hx108_1
                       replace hx108_2 := lf_ HB.out hx108_2
                       replace p108 := eq_true p108
                       replace q108 := eq_true q108
                       go_wp2_with (first | ((with_reducible refine gate_dst (N := 5) rfl ?_); (try (refine gate_guard (by rfl) ?_; dsimp only)); refine box_event ?hg (N := 5) ?hd (cs := #[.int .i64 0, .int .i64 0, .int .i64 0]) (t := 37) ?hr ?_; (case hd => rfl); (case hg => rfl); (case hr => first | (go_simp; done) | (go_simp; rfl)); intro gb109 hg w67 hbox hb; have n0_ := A_ (blk_below (pk_ BK105.out) hb); have n1_ := A_ (below_step (bk_ HB.out) hb); have n2_ := A_ (hbox); have n3_ := A_ (bz_ hg (bk_ HB.out)); have n4_ := A_ (bz_ hg (bk_ HB.out)); have n5_ := A_ (nl_ hg (pk_ BK105.out)); have n6_ := A_ (ng_ hg (pk_ BK105.out)); clear BK105 HB; have BK105 := n0_; have HB := n1_; have BK109 := n2_; have GW109 := n3_; have GE109 := n4_; have NB105_109 := n5_; have NB109_105 := n6_; clear n0_ n1_ n2_ n3_ n4_ n5_ n6_ hb hbox hg; have hnb68 := NB109_105.out; have hnc68 := NB105_109.out; obtain ⟨hcz69_0, hcz69_1, hcz69_2⟩ := bc3_ BK109.out; have hfz69_0 := blk_frozen BK109.out 0; have hfz69_1 := blk_frozen BK109.out 1; have hfz69_2 := blk_frozen BK109.out 2; obtain ⟨hcz70_0, hcz70_1, hcz70_2⟩ := bc3_ BK105.out; have hfz70_0 := blk_frozen BK105.out 0; have hfz70_1 := blk_frozen BK105.out 1; have hfz70_2 := blk_frozen BK105.out 2))
                       repeat (go_quiet (first | ((with_reducible refine gate_dst (N := 5) rfl ?_); (try (refine gate_guard (by rfl) ?_; dsimp only)); refine box_event ?hg (N := 5) ?hd (cs := #[.int .i64 0, .int .i64 0, .int .i64 0]) (t := 37) ?hr ?_; (case hd => rfl); (case hg => rfl); (case hr => first | (go_simp; done) | (go_simp; rfl)); intro gb109 hg w67 hbox hb; have n0_ := A_ (blk_below (pk_ BK105.out) hb); have n1_ := A_ (below_step (bk_ HB.out) hb); have n2_ := A_ (hbox); have n3_ := A_ (bz_ hg (bk_ HB.out)); have n4_ := A_ (bz_ hg (bk_ HB.out)); have n5_ := A_ (nl_ hg (pk_ BK105.out)); have n6_ := A_ (ng_ hg (pk_ BK105.out)); clear BK105 HB; have BK105 := n0_; have HB := n1_; have BK109 := n2_; have GW109 := n3_; have GE109 := n4_; have NB105_109 := n5_; have NB109_105 := n6_; clear n0_ n1_ n2_ n3_ n4_ n5_ n6_ hb hbox hg; have hnb68 := NB109_105.out; have hnc68 := NB105_109.out; obtain ⟨hcz69_0, hcz69_1, hcz69_2⟩ := bc3_ BK109.out; have hfz69_0 := blk_frozen BK109.out 0; have hfz69_1 := blk_frozen BK109.out 1; have hfz69_2 := blk_frozen BK109.out 2; obtain ⟨hcz70_0, hcz70_1, hcz70_2⟩ := bc3_ BK105.out; have hfz70_0 := blk_frozen BK105.out 0; have hfz70_1 := blk_frozen BK105.out 1; have hfz70_2 := blk_frozen BK105.out 2)); try go_wp2_with (first | ((with_reducible refine gate_dst (N := 5) rfl ?_); (try (refine gate_guard (by rfl) ?_; dsimp only)); refine box_event ?hg (N := 5) ?hd (cs := #[.int .i64 0, .int .i64 0, .int .i64 0]) (t := 37) ?hr ?_; (case hd => rfl); (case hg => rfl); (case hr => first | (go_simp; done) | (go_simp; rfl)); intro gb109 hg w67 hbox hb; have n0_ := A_ (blk_below (pk_ BK105.out) hb); have n1_ := A_ (below_step (bk_ HB.out) hb); have n2_ := A_ (hbox); have n3_ := A_ (bz_ hg (bk_ HB.out)); have n4_ := A_ (bz_ hg (bk_ HB.out)); have n5_ := A_ (nl_ hg (pk_ BK105.out)); have n6_ := A_ (ng_ hg (pk_ BK105.out)); clear BK105 HB; have BK105 := n0_; have HB := n1_; have BK109 := n2_; have GW109 := n3_; have GE109 := n4_; have NB105_109 := n5_; have NB109_105 := n6_; clear n0_ n1_ n2_ n3_ n4_ n5_ n6_ hb hbox hg; have hnb68 := NB109_105.out; have hnc68 := NB105_109.out; obtain ⟨hcz69_0, hcz69_1, hcz69_2⟩ := bc3_ BK109.out; have hfz69_0 := blk_frozen BK109.out 0; have hfz69_1 := blk_frozen BK109.out 1; have hfz69_2 := blk_frozen BK109.out 2; obtain ⟨hcz70_0, hcz70_1, hcz70_2⟩ := bc3_ BK105.out; have hfz70_0 := blk_frozen BK105.out 0; have hfz70_1 := blk_frozen BK105.out 1; have hfz70_2 := blk_frozen BK105.out 2)))
                       go_roundg k3
                       case measure => have := HJ1.out; have := HK2.out; have := HK3.out; omega
                       case rel => exact ⟨(wrap64 (x4_3 + 1)), jr_, H', ⟨by have := HJ1.out; have := HK2.out; have := HK3.out; omega⟩, ⟨by (iterate 3 (refine pk_ ?_; refine blk_far ?_ NB105_109.out _)); exact pk_ BK105.out⟩, ⟨bk_ HB.out⟩⟩
                    ·rw [if_neg c53] at H
                     have c53b0 : (((rd_T37 (rd_L2 l0_2 x3_2) x4_3).f1) == 1) = false := beq_eq_false_iff_ne.mpr c53
                     have c53b1 : (((rd_T37 (rd_L2 l0_2 x3_2) x4_3).f1) != 1) = true := bne_iff_ne.mpr c53
                     obtain rfl := Option.some.inj H
                     obtain ⟨hcz71_0, hcz71_1, hcz71_2⟩ := bc3_ BK105.out
                     have hfz71_0 := blk_frozen BK105.out 0
                     have hfz71_1 := blk_frozen BK105.out 1
                     have hfz71_2 := blk_frozen BK105.out 2
                     have p107 : 0 ≤ (x3_2 : Int) := od_
                     have q107 : x3_2 < (l0_2.length : Int) := od_
                     obtain ⟨ad107, A107_0, c107_0, e107, hx107_0, hl107_0, hi107_0⟩ := at_L2 HR0_2.out x3_2 p107 q107
                     obtain rfl : ad106 = ad107 := (by injection e107)
                     replace hx107_0 := lf_ HB.out hx107_0
                     have HR107_0 := Aside0.mk hi107_0
                     have HC107_0 := Aside0.mk hl107_0
                     clear hi107_0 hl107_0
                     replace p107 := eq_true p107
                     replace q107 := eq_true q107
                     have p108 : 0 ≤ (x4_3 : Int) := od_
                     have q108 : x4_3 < ((rd_L2 l0_2 x3_2).length : Int) := od_
                     obtain ⟨ad108, e108, hx108_0, hx108_1, hx108_2⟩ := at_T37 HR107_0.out x4_3 p108 q108
                     cases e108
                     replace hx108_0 := lf_ HB.out hx108_0
                     replace hx108_1 := lf_ HB.out hx108_1
                     replace hx108_2 := lf_ HB.out hx108_2
                     replace p108 := eq_true p108
                     replace q108 := eq_true q108
                     go_wp2_with (first | ((with_reducible refine gate_dst (N := 5) rfl ?_); (try (refine gate_guard (by rfl) ?_; dsimp only)); refine box_event ?hg (N := 5) ?hd (cs := #[.int .i64 0, .int .i64 0, .int .i64 0]) (t := 37) ?hr ?_; (case hd => rfl); (case hg => rfl); (case hr => first | (go_simp; done) | (go_simp; rfl)); intro gb109 hg w72 hbox hb; have n0_ := A_ (blk_below (pk_ BK105.out) hb); have n1_ := A_ (below_step (bk_ HB.out) hb); have n2_ := A_ (hbox); have n3_ := A_ (bz_ hg (bk_ HB.out)); have n4_ := A_ (bz_ hg (bk_ HB.out)); have n5_ := A_ (nl_ hg (pk_ BK105.out)); have n6_ := A_ (ng_ hg (pk_ BK105.out)); clear BK105 HB; have BK105 := n0_; have HB := n1_; have BK109 := n2_; have GW109 := n3_; have GE109 := n4_; have NB105_109 := n5_; have NB109_105 := n6_; clear n0_ n1_ n2_ n3_ n4_ n5_ n6_ hb hbox hg; have hnb73 := NB109_105.out; have hnc73 := NB105_109.out; obtain ⟨hcz74_0, hcz74_1, hcz74_2⟩ := bc3_ BK109.out; have hfz74_0 := blk_frozen BK109.out 0; have hfz74_1 := blk_frozen BK109.out 1; have hfz74_2 := blk_frozen BK109.out 2; obtain ⟨hcz75_0, hcz75_1, hcz75_2⟩ := bc3_ BK105.out; have hfz75_0 := blk_frozen BK105.out 0; have hfz75_1 := blk_frozen BK105.out 1; have hfz75_2 := blk_frozen BK105.out 2))
                     repeat (go_quiet (first | ((with_reducible refine gate_dst (N := 5) rfl ?_); (try (refine gate_guard (by rfl) ?_; dsimp only)); refine box_event ?hg (N := 5) ?hd (cs := #[.int .i64 0, .int .i64 0, .int .i64 0]) (t := 37) ?hr ?_; (case hd => rfl); (case hg => rfl); (case hr => first | (go_simp; done) | (go_simp; rfl)); intro gb109 hg w72 hbox hb; have n0_ := A_ (blk_below (pk_ BK105.out) hb); have n1_ := A_ (below_step (bk_ HB.out) hb); have n2_ := A_ (hbox); have n3_ := A_ (bz_ hg (bk_ HB.out)); have n4_ := A_ (bz_ hg (bk_ HB.out)); have n5_ := A_ (nl_ hg (pk_ BK105.out)); have n6_ := A_ (ng_ hg (pk_ BK105.out)); clear BK105 HB; have BK105 := n0_; have HB := n1_; have BK109 := n2_; have GW109 := n3_; have GE109 := n4_; have NB105_109 := n5_; have NB109_105 := n6_; clear n0_ n1_ n2_ n3_ n4_ n5_ n6_ hb hbox hg; have hnb73 := NB109_105.out; have hnc73 := NB105_109.out; obtain ⟨hcz74_0, hcz74_1, hcz74_2⟩ := bc3_ BK109.out; have hfz74_0 := blk_frozen BK109.out 0; have hfz74_1 := blk_frozen BK109.out 1; have hfz74_2 := blk_frozen BK109.out 2; obtain ⟨hcz75_0, hcz75_1, hcz75_2⟩ := bc3_ BK105.out; have hfz75_0 := blk_frozen BK105.out 0; have hfz75_1 := blk_frozen BK105.out 1; have hfz75_2 := blk_frozen BK105.out 2)); try go_wp2_with (first | ((with_reducible refine gate_dst (N := 5) rfl ?_); (try (refine gate_guard (by rfl) ?_; dsimp only)); refine box_event ?hg (N := 5) ?hd (cs := #[.int .i64 0, .int .i64 0, .int .i64 0]) (t := 37) ?hr ?_; (case hd => rfl); (case hg => rfl); (case hr => first | (go_simp; done) | (go_simp; rfl)); intro gb109 hg w72 hbox hb; have n0_ := A_ (blk_below (pk_ BK105.out) hb); have n1_ := A_ (below_step (bk_ HB.out) hb); have n2_ := A_ (hbox); have n3_ := A_ (bz_ hg (bk_ HB.out)); have n4_ := A_ (bz_ hg (bk_ HB.out)); have n5_ := A_ (nl_ hg (pk_ BK105.out)); have n6_ := A_ (ng_ hg (pk_ BK105.out)); clear BK105 HB; have BK105 := n0_; have HB := n1_; have BK109 := n2_; have GW109 := n3_; have GE109 := n4_; have NB105_109 := n5_; have NB109_105 := n6_; clear n0_ n1_ n2_ n3_ n4_ n5_ n6_ hb hbox hg; have hnb73 := NB109_105.out; have hnc73 := NB105_109.out; obtain ⟨hcz74_0, hcz74_1, hcz74_2⟩ := bc3_ BK109.out; have hfz74_0 := blk_frozen BK109.out 0; have hfz74_1 := blk_frozen BK109.out 1; have hfz74_2 := blk_frozen BK109.out 2; obtain ⟨hcz75_0, hcz75_1, hcz75_2⟩ := bc3_ BK105.out; have hfz75_0 := blk_frozen BK105.out 0; have hfz75_1 := blk_frozen BK105.out 1; have hfz75_2 := blk_frozen BK105.out 2)))
                     go_ret
                     exact ⟨er_, bk_ HB.out⟩
                ·rw [if_neg c23] at H
                 exact absurd H (by simp)
               ·rw [if_neg c22] at H
                exact absurd H (by simp)
              ·rw [if_neg c21] at H
               exact absurd H (by simp)
             ·rw [if_neg c20] at H
              exact absurd H (by simp)
            ·rw [if_neg c19] at H
             have c19b0 : decide (x4_3 < a0_1) = false := decide_eq_false c19
             clear c19
             have H' := Aside0.mk H
             clear H
             obtain ⟨hcz76_0, hcz76_1, hcz76_2⟩ := bc3_ BK105.out
             have hfz76_0 := blk_frozen BK105.out 0
             have hfz76_1 := blk_frozen BK105.out 1
             have hfz76_2 := blk_frozen BK105.out 2
             go_wp2
             repeat (go_quiet (fail); try go_wp2)
             go_roundg k3
             case measure => have := HJ1.out; have := HK2.out; have := HK3.out; omega
             case rel => exact ⟨(wrap64 (x3_2 + 1)), jr_, H', ⟨by have := HJ1.out; have := HK2.out; have := HK3.out; omega⟩, ⟨pk_ BK105.out⟩, ⟨bk_ HB.out⟩⟩
         ·rw [if_neg c17] at H
          have c17b0 : (((rd_L2 l0_2 x3_2).length : Int) == a0_1) = false := beq_eq_false_iff_ne.mpr c17
          have c17b1 : (((rd_L2 l0_2 x3_2).length : Int) != a0_1) = true := bne_iff_ne.mpr c17
          obtain rfl := Option.some.inj H
          obtain ⟨hcz77_0, hcz77_1, hcz77_2⟩ := bc3_ BK105.out
          have hfz77_0 := blk_frozen BK105.out 0
          have hfz77_1 := blk_frozen BK105.out 1
          have hfz77_2 := blk_frozen BK105.out 2
          have p106 : 0 ≤ (x3_2 : Int) := od_
          have q106 : x3_2 < (l0_2.length : Int) := od_
          obtain ⟨ad106, A106_0, c106_0, e106, hx106_0, hl106_0, hi106_0⟩ := at_L2 HR0_2.out x3_2 p106 q106
          cases e106
          replace hx106_0 := lf_ HB.out hx106_0
          have HR106_0 := Aside0.mk hi106_0
          have HC106_0 := Aside0.mk hl106_0
          clear hi106_0 hl106_0
          replace p106 := eq_true p106
          replace q106 := eq_true q106
          go_wp2
          repeat (go_quiet (fail); try go_wp2)
          go_ret
          exact ⟨er_, bk_ HB.out⟩
        ·rw [if_neg c16] at H
         exact absurd H (by simp)
       ·rw [if_neg c15] at H
        exact absurd H (by simp)
      ·rw [if_neg c14] at H
       have c14b0 : decide (x3_2 < a0_0) = false := decide_eq_false c14
       clear c14
       obtain rfl := Option.some.inj H
       obtain ⟨hcz78_0, hcz78_1, hcz78_2⟩ := bc3_ BK105.out
       have hfz78_0 := blk_frozen BK105.out 0
       have hfz78_1 := blk_frozen BK105.out 1
       have hfz78_2 := blk_frozen BK105.out 2
       go_wp2
       repeat (go_quiet (fail); try go_wp2)
       go_ret
       exact ⟨er_, bk_ HB.out⟩

end Go.Proofs.Ytdkcociababjdaa.PLeapLong
