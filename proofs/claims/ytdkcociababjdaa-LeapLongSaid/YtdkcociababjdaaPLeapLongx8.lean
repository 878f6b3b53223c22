-- out of a turned copy of the print, by a program of this session; Lean checks it
import Derived.Test.YtdkcociababjdaaPLeapLongx0
namespace Go.Proofs.Ytdkcociababjdaa.PLeapLong
open Go.RowKit Go.Proofs.YtdkcociababjdaaW.PrintWords Go.Proofs.YtdkcociababjdaaW.PrintLast Go.Proofs.YtdkcociababjdaaW.PrintMore
attribute [local go_sem] max2_int min2_int max_two min_two max_three min_three max_four min_four   -- for this text's walks alone
set_option linter.unusedVariables false
set_option linter.unusedSimpArgs false

attribute [local go_sem] isSome_put_
/-! ### standstillref01_Text: function 62 -/
mutual
def standstillref01_Text.l0 : Nat → ByteArray → Int → Int → Int → List (List (S37)) → Option (ByteArray)
 | 0, _, _, _, _, _ => none
 | k + 1, x3, x4, x165000, x165001, x165002 => if x4 < x165000 then (if x4 > 0 then (if x3.size + 1 ≤ 9223372036854775807 then (standstillref01_Text.j1 k (x3 ++ (⟨#[95]⟩ : ByteArray)) x4 x165000 x165001 x165002) else (none)) else (standstillref01_Text.j1 k x3 x4 x165000 x165001 x165002)) else (some x3)
def standstillref01_Text.j1 : Nat → ByteArray → Int → Int → Int → List (List (S37)) → Option (ByteArray)
 | 0, _, _, _, _, _ => none
 | k + 1, x3, x4, x165000, x165001, x165002 => standstillref01_Text.l1 k x3 x4 0 x165000 x165001 x165002
def standstillref01_Text.l1 : Nat → ByteArray → Int → Int → Int → Int → List (List (S37)) → Option (ByteArray)
 | 0, _, _, _, _, _, _ => none
 | k + 1, x3, x4, x5, x165000, x165001, x165002 => if x5 < x165001 then (if 0 ≤ x4 then (if x4 < (x165002.length : Int) then (if 0 ≤ x5 then (if x5 < ((rd_L2 x165002 x4).length : Int) then (if ((rd_T37 (rd_L2 x165002 x4) x5).f1) < 0 then (if ((rd_T37 (rd_L2 x165002 x4) x5).f2) ≥ 0 then ((some (([(wrap64 (48 + ((rd_T37 (rd_L2 x165002 x4) x5).f0))) % 256, 76, (wrap64 (65 + ((rd_T37 (rd_L2 x165002 x4) x5).f2))) % 256] : List Int) : List Int)).bind fun y168 => (if x3.size + (strOfNums y168).size ≤ 9223372036854775807 then (standstillref01_Text.l1 k (x3 ++ (strOfNums y168)) x4 (wrap64 (x5 + 1)) x165000 x165001 x165002) else (none))) else ((some (([(wrap64 (48 + ((rd_T37 (rd_L2 x165002 x4) x5).f0))) % 256, 76, 90] : List Int) : List Int)).bind fun y171 => (if x3.size + (strOfNums y171).size ≤ 9223372036854775807 then (standstillref01_Text.l1 k (x3 ++ (strOfNums y171)) x4 (wrap64 (x5 + 1)) x165000 x165001 x165002) else (none)))) else (if ((rd_T37 (rd_L2 x165002 x4) x5).f2) ≥ 0 then ((some (([(wrap64 (48 + ((rd_T37 (rd_L2 x165002 x4) x5).f0))) % 256, 82, (wrap64 (65 + ((rd_T37 (rd_L2 x165002 x4) x5).f2))) % 256] : List Int) : List Int)).bind fun y174 => (if x3.size + (strOfNums y174).size ≤ 9223372036854775807 then (standstillref01_Text.l1 k (x3 ++ (strOfNums y174)) x4 (wrap64 (x5 + 1)) x165000 x165001 x165002) else (none))) else ((some (([(wrap64 (48 + ((rd_T37 (rd_L2 x165002 x4) x5).f0))) % 256, 82, 90] : List Int) : List Int)).bind fun y177 => (if x3.size + (strOfNums y177).size ≤ 9223372036854775807 then (standstillref01_Text.l1 k (x3 ++ (strOfNums y177)) x4 (wrap64 (x5 + 1)) x165000 x165001 x165002) else (none))))) else (none)) else (none)) else (none)) else (none)) else (standstillref01_Text.l0 k x3 (wrap64 (x4 + 1)) x165000 x165001 x165002)
end
def standstillref01_Text.f (k : Nat) (a0_0 : Int) (a0_1 : Int) (l0_2 : List (List (S37))) : Option (ByteArray) := standstillref01_Text.l0 k (⟨#[]⟩ : ByteArray) 0 a0_0 a0_1 l0_2
theorem standstillref01_Text.mono_l : ∀ k, (∀ y0 y1 y2 y3 y4, LeO (standstillref01_Text.l0 k y0 y1 y2 y3 y4) (standstillref01_Text.l0 (k + 1) y0 y1 y2 y3 y4)) ∧ (∀ y0 y1 y2 y3 y4, LeO (standstillref01_Text.j1 k y0 y1 y2 y3 y4) (standstillref01_Text.j1 (k + 1) y0 y1 y2 y3 y4)) ∧ (∀ y0 y1 y2 y3 y4 y5, LeO (standstillref01_Text.l1 k y0 y1 y2 y3 y4 y5) (standstillref01_Text.l1 (k + 1) y0 y1 y2 y3 y4 y5))
 | 0 => ⟨fun _ _ _ _ _ r h => by simp [standstillref01_Text.l0] at h, fun _ _ _ _ _ r h => by simp [standstillref01_Text.j1] at h, fun _ _ _ _ _ _ r h => by simp [standstillref01_Text.l1] at h⟩
 | k + 1 => by
  obtain ⟨ih0, ih1, ih2⟩ := standstillref01_Text.mono_l k
  refine ⟨?_, ?_, ?_⟩
  ·intro y0 y1 y2 y3 y4
   unfold standstillref01_Text.l0
   repeat' first
   | (with_reducible exact ih0 _ _ _ _ _)
   | (with_reducible exact ih1 _ _ _ _ _)
   | (with_reducible exact ih2 _ _ _ _ _ _)
   | (with_reducible exact LeO.refl _)
   | (with_reducible exact LeO.none _)
   | (with_reducible refine LeO.ite ?_ ?_)
   | (with_reducible refine LeO.bind ?_ (fun _ => ?_))
   | exact ih0 _ _ _ _ _
   | exact ih1 _ _ _ _ _
   | exact ih2 _ _ _ _ _ _
   | exact LeO.none _
   | refine LeO.ite ?_ ?_
   | refine LeO.bind ?_ (fun _ => ?_)
  ·intro y0 y1 y2 y3 y4
   unfold standstillref01_Text.j1
   repeat' first
   | (with_reducible exact ih0 _ _ _ _ _)
   | (with_reducible exact ih1 _ _ _ _ _)
   | (with_reducible exact ih2 _ _ _ _ _ _)
   | (with_reducible exact LeO.refl _)
   | (with_reducible exact LeO.none _)
   | (with_reducible refine LeO.ite ?_ ?_)
   | (with_reducible refine LeO.bind ?_ (fun _ => ?_))
   | exact ih0 _ _ _ _ _
   | exact ih1 _ _ _ _ _
   | exact ih2 _ _ _ _ _ _
   | exact LeO.none _
   | refine LeO.ite ?_ ?_
   | refine LeO.bind ?_ (fun _ => ?_)
  ·intro y0 y1 y2 y3 y4 y5
   unfold standstillref01_Text.l1
   repeat' first
   | (with_reducible exact ih0 _ _ _ _ _)
   | (with_reducible exact ih1 _ _ _ _ _)
   | (with_reducible exact ih2 _ _ _ _ _ _)
   | (with_reducible exact LeO.refl _)
   | (with_reducible exact LeO.none _)
   | (with_reducible refine LeO.ite ?_ ?_)
   | (with_reducible refine LeO.bind ?_ (fun _ => ?_))
   | exact ih0 _ _ _ _ _
   | exact ih1 _ _ _ _ _
   | exact ih2 _ _ _ _ _ _
   | exact LeO.none _
   | refine LeO.ite ?_ ?_
   | refine LeO.bind ?_ (fun _ => ?_)
theorem standstillref01_Text.mono : ∀ a0 a1 a2 k, LeO (standstillref01_Text.f k a0 a1 a2) (standstillref01_Text.f (k + 1) a0 a1 a2) := by
 intro a0 a1 a2 k
 obtain ⟨ih0, ih1, ih2⟩ := standstillref01_Text.mono_l k
 unfold standstillref01_Text.f
 repeat' first
   | (with_reducible exact ih0 _ _ _ _ _)
   | (with_reducible exact ih1 _ _ _ _ _)
   | (with_reducible exact ih2 _ _ _ _ _ _)
   | (with_reducible exact LeO.refl _)
   | (with_reducible exact LeO.none _)
   | (with_reducible refine LeO.ite ?_ ?_)
   | (with_reducible refine LeO.bind ?_ (fun _ => ?_))
   | exact ih0 _ _ _ _ _
   | exact ih1 _ _ _ _ _
   | exact ih2 _ _ _ _ _ _
   | exact LeO.none _
   | refine LeO.ite ?_ ?_
   | refine LeO.bind ?_ (fun _ => ?_)
set_option maxHeartbeats 8000000 in
set_option maxRecDepth 100000 in
theorem standstillref01_Text.calls (k : Nat) (a0_0 : Int) (a0_1 : Int) (A0_2 : Option Addr) (c0_2 : Nat) (l0_2 : List (List (S37))) (r : ByteArray) (w : World) (hr0_2 : Kd.C (Kd.slice 37 k37) w A0_2 l0_2.length l0_2) (hc0_2 : l0_2.length ≤ c0_2) (h : standstillref01_Text.f k a0_0 a0_1 l0_2 = some r) :
  Calls Try.prog 62 #[.agg #[.int .i64 a0_0, .int .i64 a0_1, .slice A0_2 l0_2.length c0_2]] w fun e w' => e = .returned (.string r) ∧ Below w.heap.size w w' := by
 have hu24 := Try.underlying24
 have hu37 := Try.underlying37
 have HR0_2 := Aside0.mk hr0_2
 have HC0_2 := Aside0.mk hc0_2
 clear hr0_2 hc0_2
 have HB := A_ (Below.refl w.heap.size w)
 have H : (standstillref01_Text.l0 k (⟨#[]⟩ : ByteArray) 0 a0_0 a0_1 l0_2) = some r := h
 clear h
 have H' := Aside0.mk H
 clear H
 go_enter Try.func62, Try.ntmps62
 go_wp2_with (first | ((with_reducible refine gate_dst (N := 1) rfl ?_); refine box_event ?hg (N := 1) ?hd (cs := #[.int .i64 a0_0, .int .i64 a0_1, .slice A0_2 l0_2.length c0_2]) (t := 24) ?hr ?_; (case hd => rfl); (case hg => rfl); (case hr => first | (go_simp; done) | (go_simp; rfl)); intro gb164 hg w2 hbox hb; have n0_ := A_ (below_step (bk_ HB.out) hb); have n1_ := A_ (hbox); have n2_ := A_ (bz_ hg (bk_ HB.out)); have n3_ := A_ (bz_ hg (bk_ HB.out)); clear HB; have HB := n0_; have BK164 := n1_; have GW164 := n2_; have GE164 := n3_; clear n0_ n1_ n2_ n3_ hb hbox hg))
 go_loopg [3, 4] k (fun kq v3 v4 w' => ∃ (x3_1 : ByteArray) (x4_1 : Int), v3 = .string x3_1 ∧ v4 = .int .i64 x4_1 ∧ Aside0 (standstillref01_Text.l0 kq x3_1 x4_1 a0_0 a0_1 l0_2 = some r) ∧ Aside0 (kq ≤ k) ∧ Aside0 (w'.heap[gb164]? = some (.cells #[.int .i64 a0_0, .int .i64 a0_1, (.slice A0_2 l0_2.length c0_2)] 24 (0, 0))) ∧ Aside0 (Below w.heap.size w w'))
 case atStart => exact ⟨((⟨#[]⟩ : ByteArray)), (0), jr_, jr_, H', ⟨Nat.le_refl _⟩, ⟨pk_ BK164.out⟩, ⟨bk_ HB.out⟩⟩
 case round =>
  clear H'
  obtain ⟨x3_1, x4_1, rfl, rfl, HA, HK1, BK164, HB⟩ := hrel
  cases gk with
  | zero => exact absurd HA.out (by simp [standstillref01_Text.l0])
  | succ k1 =>
   have H := HA.out
   clear HA
   simp only [standstillref01_Text.l0] at H
   by_cases c3 : x4_1 < a0_0
   ·rw [if_pos c3] at H
    have c3b0 : decide (x4_1 < a0_0) = true := decide_eq_true c3
    clear c3
    have HC4 := Aside0.mk H
    clear H
    obtain ⟨hcz5_0, hcz5_1, hcz5_2⟩ := bc3_ BK164.out
    have hfz5_0 := blk_frozen BK164.out 0
    have hfz5_1 := blk_frozen BK164.out 1
    have hfz5_2 := blk_frozen BK164.out 2
    go_upto_if 16 with (fail)
    go_cut [3] (fun v3 wc => ∃ (kq : Nat) (x3_3 : ByteArray), v3 = .string x3_3 ∧ Aside0 (standstillref01_Text.j1 kq x3_3 x4_1 a0_0 a0_1 l0_2 = some r) ∧ Aside0 (kq ≤ k1) ∧ Aside0 (wc.heap[gb164]? = some (.cells #[.int .i64 a0_0, .int .i64 a0_1, (.slice A0_2 l0_2.length c0_2)] 24 (0, 0))) ∧ Aside0 (Below w.heap.size w wc))
    case first =>
     have H := HC4.out
     clear HC4
     by_cases c6 : x4_1 > 0
     ·rw [if_pos c6] at H
      have c6b0 : decide (0 < x4_1) = true := decide_eq_true c6
      clear c6
      (first | rw [c6b0] | (simp only [i64_w, i32_w]; rw [c6b0]) | skip)
      by_cases c7 : x3_1.size + 1 ≤ 9223372036854775807
      ·rw [if_pos c7] at H
       have c7b0 := eq_true c7
       have c7b1 : decide (x3_1.size + 1 ≤ 9223372036854775807) = true := decide_eq_true c7
       try have c7b2 : (9223372036854775807 < x3_1.size + 1) = False := eq_false (Nat.not_lt.2 c7)
       have H' := Aside0.mk H
       clear H
       go_wp2
       go_meet
       case rel => exact ⟨_, (x3_1 ++ (⟨#[95]⟩ : ByteArray)), jr_, H', ⟨by have := HK1.out; first | omega | exact Nat.le_refl _⟩, ⟨pk_ BK164.out⟩, ⟨bk_ HB.out⟩⟩
      ·rw [if_neg c7] at H
       exact absurd H (by simp)
     ·rw [if_neg c6] at H
      have c6b0 : decide (0 < x4_1) = false := decide_eq_false c6
      clear c6
      (first | rw [c6b0] | (simp only [i64_w, i32_w]; rw [c6b0]) | skip)
      have H' := Aside0.mk H
      clear H
      go_wp2
      go_meet
      case rel => exact ⟨_, (x3_1), jr_, H', ⟨by have := HK1.out; first | omega | exact Nat.le_refl _⟩, ⟨pk_ BK164.out⟩, ⟨bk_ HB.out⟩⟩
    case rest =>
     clear HC4
     (try clear c3); (try clear c3b0); (try clear hcz5_0); (try clear hcz5_1); (try clear hcz5_2); (try clear hfz5_0); (try clear hfz5_1); (try clear hfz5_2)
     obtain ⟨kq, x3_3, rfl, HA, HJ3, BK164, HB⟩ := hcut
     cases kq with
     | zero => exact absurd HA.out (by simp [standstillref01_Text.j1])
     | succ kj3 =>
      have H := HA.out
      clear HA
      simp only [standstillref01_Text.j1] at H
      have H' := Aside0.mk H
      clear H
      go_wp2
      go_loopg [3, 5] kj3 (fun kq v3 v5 w' => ∃ (x3_3 : ByteArray) (x5_3 : Int), v3 = .string x3_3 ∧ v5 = .int .i64 x5_3 ∧ Aside0 (standstillref01_Text.l1 kq x3_3 x4_1 x5_3 a0_0 a0_1 l0_2 = some r) ∧ Aside0 (kq ≤ kj3) ∧ Aside0 (w'.heap[gb164]? = some (.cells #[.int .i64 a0_0, .int .i64 a0_1, (.slice A0_2 l0_2.length c0_2)] 24 (0, 0))) ∧ Aside0 (Below w.heap.size w w'))
      case atStart => exact ⟨(x3_3), (0), jr_, jr_, H', ⟨Nat.le_refl _⟩, ⟨pk_ BK164.out⟩, ⟨bk_ HB.out⟩⟩
      case round =>
       clear H'
       (try clear c3); (try clear c3b0); (try clear hcz5_0); (try clear hcz5_1); (try clear hcz5_2); (try clear hfz5_0); (try clear hfz5_1); (try clear hfz5_2)
       obtain ⟨x3_3, x5_3, rfl, rfl, HA, HK3, BK164, HB⟩ := hrel
       cases gk with
       | zero => exact absurd HA.out (by simp [standstillref01_Text.l1])
       | succ k3 =>
        have H := HA.out
        clear HA
        simp only [standstillref01_Text.l1] at H
        by_cases c8 : x5_3 < a0_1
        ·rw [if_pos c8] at H
         have c8b0 : decide (x5_3 < a0_1) = true := decide_eq_true c8
         clear c8
         by_cases c9 : 0 ≤ x4_1
         ·rw [if_pos c9] at H
          have c9b0 : decide (0 ≤ x4_1) = true := decide_eq_true c9
          clear c9
          by_cases c10 : x4_1 < (l0_2.length : Int)
          ·rw [if_pos c10] at H
           have c10b0 : decide (x4_1 < (l0_2.length : Int)) = true := decide_eq_true c10
           clear c10
           by_cases c11 : 0 ≤ x5_3
           ·rw [if_pos c11] at H
            have c11b0 : decide (0 ≤ x5_3) = true := decide_eq_true c11
            clear c11
            by_cases c12 : x5_3 < ((rd_L2 l0_2 x4_1).length : Int)
            ·rw [if_pos c12] at H
             have c12b0 : decide (x5_3 < ((rd_L2 l0_2 x4_1).length : Int)) = true := decide_eq_true c12
             clear c12
             by_cases c13 : ((rd_T37 (rd_L2 l0_2 x4_1) x5_3).f1) < 0
             ·rw [if_pos c13] at H
              have c13b0 : decide (((rd_T37 (rd_L2 l0_2 x4_1) x5_3).f1) < 0) = true := decide_eq_true c13
              clear c13
              by_cases c14 : ((rd_T37 (rd_L2 l0_2 x4_1) x5_3).f2) ≥ 0
              ·rw [if_pos c14] at H
               have c14b0 : decide (0 ≤ ((rd_T37 (rd_L2 l0_2 x4_1) x5_3).f2)) = true := decide_eq_true c14
               clear c14
               obtain ⟨y168, hy168⟩ : ∃ y_ : List Int, y_ = (([(wrap64 (48 + ((rd_T37 (rd_L2 l0_2 x4_1) x5_3).f0))) % 256, 76, (wrap64 (65 + ((rd_T37 (rd_L2 l0_2 x4_1) x5_3).f2))) % 256] : List Int)) := ⟨_, rfl⟩
               replace H : (if x3_3.size + (strOfNums y168).size ≤ 9223372036854775807 then (standstillref01_Text.l1 k3 (x3_3 ++ (strOfNums y168)) x4_1 (wrap64 (x5_3 + 1)) a0_0 a0_1 l0_2) else (none)) = some r := by first | (rw [hy168]; with_reducible exact H) | (have H2_ := (Option.bind_some _ _).symm.trans H; rw [hy168]; with_reducible exact H2_) | (have H2_ := (Option.bind_some _ _).symm.trans H; with_reducible exact H2_) | with_reducible exact H | (rw [hy168]; exact H) | exact H
               have Ny168 := Aside0.mk hy168
               clear hy168
               by_cases c15 : x3_3.size + (strOfNums y168).size ≤ 9223372036854775807
               ·rw [if_pos c15] at H
                have c15b0 := eq_true c15
                have c15b1 : decide (x3_3.size + (strOfNums y168).size ≤ 9223372036854775807) = true := decide_eq_true c15
                try have c15b2 : (9223372036854775807 < x3_3.size + (strOfNums y168).size) = False := eq_false (Nat.not_lt.2 c15)
                have H' := Aside0.mk H
                clear H
                obtain ⟨hcz16_0, hcz16_1, hcz16_2⟩ := bc3_ BK164.out
                have hfz16_0 := blk_frozen BK164.out 0
                have hfz16_1 := blk_frozen BK164.out 1
                have hfz16_2 := blk_frozen BK164.out 2
                have p165 : 0 ≤ (x4_1 : Int) := od_
                have q165 : x4_1 < (l0_2.length : Int) := od_
                obtain ⟨ad165, A165_0, c165_0, e165, hx165_0, hl165_0, hi165_0⟩ := at_L2 HR0_2.out x4_1 p165 q165
                cases e165
                replace hx165_0 := lf_ HB.out hx165_0
                have HR165_0 := Aside0.mk hi165_0
                have HC165_0 := Aside0.mk hl165_0
                clear hi165_0 hl165_0
                replace p165 := eq_true p165
                replace q165 := eq_true q165
                have p166 : 0 ≤ (x5_3 : Int) := od_
                have q166 : x5_3 < ((rd_L2 l0_2 x4_1).length : Int) := od_
                obtain ⟨ad166, e166, hx166_0, hx166_1, hx166_2⟩ := at_T37 HR165_0.out x5_3 p166 q166
                cases e166
                replace hx166_0 := lf_ HB.out hx166_0
                replace hx166_1 := lf_ HB.out hx166_1
                replace hx166_2 := lf_ HB.out hx166_2
                replace p166 := eq_true p166
                replace q166 := eq_true q166
                go_wp2_with (first | ((with_reducible refine gate_dst (N := 6) rfl ?_); refine box_event ?hg (N := 6) ?hd (cs := #[.int .i64 0, .int .i64 0, .int .i64 0]) (t := 37) ?hr ?_; (case hd => rfl); (case hg => rfl); (case hr => first | (go_simp; done) | (go_simp; rfl)); intro gb167 hg w17 hbox hb; have n0_ := A_ (blk_below (pk_ BK164.out) hb); have n1_ := A_ (below_step (bk_ HB.out) hb); have n2_ := A_ (hbox); have n3_ := A_ (bz_ hg (bk_ HB.out)); have n4_ := A_ (bz_ hg (bk_ HB.out)); have n5_ := A_ (nl_ hg (pk_ BK164.out)); have n6_ := A_ (ng_ hg (pk_ BK164.out)); clear BK164 HB; have BK164 := n0_; have HB := n1_; have BK167 := n2_; have GW167 := n3_; have GE167 := n4_; have NB164_167 := n5_; have NB167_164 := n6_; clear n0_ n1_ n2_ n3_ n4_ n5_ n6_ hb hbox hg; have hnb18 := NB167_164.out; have hnc18 := NB164_167.out; obtain ⟨hcz19_0, hcz19_1, hcz19_2⟩ := bc3_ BK167.out; have hfz19_0 := blk_frozen BK167.out 0; have hfz19_1 := blk_frozen BK167.out 1; have hfz19_2 := blk_frozen BK167.out 2) | ((with_reducible refine gate_dst (N := 50) rfl ?_); refine Kd.R_lit (Kd.int .u8) _ 5 ?hg (N := 50) ?hd (xs := ([(wrap64 (48 + ((rd_T37 (rd_L2 l0_2 x4_1) x5_3).f0))) % 256, 76, (wrap64 (65 + ((rd_T37 (rd_L2 l0_2 x4_1) x5_3).f2))) % 256] : List Int)) (inner := [.int .u8 ((wrap64 (48 + ((rd_T37 (rd_L2 l0_2 x4_1) x5_3).f0))) % 256), .int .u8 76, .int .u8 ((wrap64 (65 + ((rd_T37 (rd_L2 l0_2 x4_1) x5_3).f2))) % 256)]) (ok := fun _ => True) (okp := fun _ => True) ?hr ?hp (fun _ hk => hk) trivial (Below.refl _ _) (Nat.le_refl _) (by simp) ?_; (case hd => rfl); (case hg => rfl); (case hr => first | (go_simp; done) | (go_simp; rfl)); (case hp => exact (Reps.one (show Kd.M (Kd.int .u8) _ _ _ ((wrap64 (48 + ((rd_T37 (rd_L2 l0_2 x4_1) x5_3).f0))) % 256) [.int .u8 ((wrap64 (48 + ((rd_T37 (rd_L2 l0_2 x4_1) x5_3).f0))) % 256)] from rfl) (Reps.one (show Kd.M (Kd.int .u8) _ _ _ 76 [.int .u8 76] from rfl) (Reps.one (show Kd.M (Kd.int .u8) _ _ _ ((wrap64 (65 + ((rd_T37 (rd_L2 l0_2 x4_1) x5_3).f2))) % 256) [.int .u8 ((wrap64 (65 + ((rd_T37 (rd_L2 l0_2 x4_1) x5_3).f2))) % 256)] from rfl) (Reps.none _ _))))); intro v169 w20 ho21 hb hg_ hnew_; clear hg_ hnew_; (first | rw [← Ny168.out] at ho21 | (simp only [Int.reduceToNat] at ho21; rw [← Ny168.out] at ho21)); have n0_ := A_ (Kd.R_lower ho21 (below_size (bk_ HB.out))); have n1_ := A_ (bf_ BK164.out NB164_167.out hb); have n2_ := A_ (blk_below (g := gb167) (o := .cells #[.int .i64 ((rd_T37 (rd_L2 l0_2 x4_1) x5_3).f0), .int .i64 ((rd_T37 (rd_L2 l0_2 x4_1) x5_3).f1), .int .i64 ((rd_T37 (rd_L2 l0_2 x4_1) x5_3).f2)] 37 (0, 0)) (by refine pk_ ?_; refine blk_put (cs := #[.int .i64 ((rd_T37 (rd_L2 l0_2 x4_1) x5_3).f0), .int .i64 ((rd_T37 (rd_L2 l0_2 x4_1) x5_3).f1), .int .i64 0]) ?_ 2 _ rfl; refine pk_ ?_; refine blk_put (cs := #[.int .i64 ((rd_T37 (rd_L2 l0_2 x4_1) x5_3).f0), .int .i64 0, .int .i64 0]) ?_ 1 _ rfl; refine pk_ ?_; refine blk_put (cs := #[.int .i64 0, .int .i64 0, .int .i64 0]) ?_ 0 _ rfl; exact pk_ BK167.out) hb); have n3_ := A_ (below_step (bk_ HB.out) hb); clear BK164 BK167 HB; have HO170 := n0_; have BK164 := n1_; have BK167 := n2_; have HB := n3_; clear n0_ n1_ n2_ n3_ hb ho21; have hcv22 := own_string (P := Try.prog) Try.underlying106 Try.underlying5 Try.underlying9 (Kd.own_of_R HO170.out)))
                go_roundg k3
                case measure => have := HK1.out; have := HJ3.out; have := HK3.out; omega
                case rel => exact ⟨(x3_3 ++ (strOfNums y168)), (wrap64 (x5_3 + 1)), jr_, jr_, H', ⟨by have := HK1.out; have := HJ3.out; have := HK3.out; omega⟩, ⟨pk_ BK164.out⟩, ⟨bk_ HB.out⟩⟩
               ·rw [if_neg c15] at H
                exact absurd H (by simp)
              ·rw [if_neg c14] at H
               have c14b0 : decide (0 ≤ ((rd_T37 (rd_L2 l0_2 x4_1) x5_3).f2)) = false := decide_eq_false c14
               clear c14
               obtain ⟨y171, hy171⟩ : ∃ y_ : List Int, y_ = (([(wrap64 (48 + ((rd_T37 (rd_L2 l0_2 x4_1) x5_3).f0))) % 256, 76, 90] : List Int)) := ⟨_, rfl⟩
               replace H : (if x3_3.size + (strOfNums y171).size ≤ 9223372036854775807 then (standstillref01_Text.l1 k3 (x3_3 ++ (strOfNums y171)) x4_1 (wrap64 (x5_3 + 1)) a0_0 a0_1 l0_2) else (none)) = some r := by first | (rw [hy171]; with_reducible exact H) | (have H2_ := (Option.bind_some _ _).symm.trans H; rw [hy171]; with_reducible exact H2_) | (have H2_ := (Option.bind_some _ _).symm.trans H; with_reducible exact H2_) | with_reducible exact H | (rw [hy171]; exact H) | exact H
               have Ny171 := Aside0.mk hy171
               clear hy171
               by_cases c23 : x3_3.size + (strOfNums y171).size ≤ 9223372036854775807
               ·rw [if_pos c23] at H
                have c23b0 := eq_true c23
                have c23b1 : decide (x3_3.size + (strOfNums y171).size ≤ 9223372036854775807) = true := decide_eq_true c23
                try have c23b2 : (9223372036854775807 < x3_3.size + (strOfNums y171).size) = False := eq_false (Nat.not_lt.2 c23)
                have H' := Aside0.mk H
                clear H
                obtain ⟨hcz24_0, hcz24_1, hcz24_2⟩ := bc3_ BK164.out
                have hfz24_0 := blk_frozen BK164.out 0
                have hfz24_1 := blk_frozen BK164.out 1
                have hfz24_2 := blk_frozen BK164.out 2
                have p165 : 0 ≤ (x4_1 : Int) := od_
                have q165 : x4_1 < (l0_2.length : Int) := od_
                obtain ⟨ad165, A165_0, c165_0, e165, hx165_0, hl165_0, hi165_0⟩ := at_L2 HR0_2.out x4_1 p165 q165
                cases e165
                replace hx165_0 := lf_ HB.out hx165_0
                have HR165_0 := Aside0.mk hi165_0
                have HC165_0 := Aside0.mk hl165_0
                clear hi165_0 hl165_0
                replace p165 := eq_true p165
                replace q165 := eq_true q165
                have p166 : 0 ≤ (x5_3 : Int) := od_
                have q166 : x5_3 < ((rd_L2 l0_2 x4_1).length : Int) := od_
                obtain ⟨ad166, e166, hx166_0, hx166_1, hx166_2⟩ := at_T37 HR165_0.out x5_3 p166 q166
                cases e166
                replace hx166_0 := lf_ HB.out hx166_0
                replace hx166_1 := lf_ HB.out hx166_1
                replace hx166_2 := lf_ HB.out hx166_2
                replace p166 := eq_true p166
                replace q166 := eq_true q166
                go_wp2_with (first | ((with_reducible refine gate_dst (N := 6) rfl ?_); refine box_event ?hg (N := 6) ?hd (cs := #[.int .i64 0, .int .i64 0, .int .i64 0]) (t := 37) ?hr ?_; (case hd => rfl); (case hg => rfl); (case hr => first | (go_simp; done) | (go_simp; rfl)); intro gb167 hg w25 hbox hb; have n0_ := A_ (blk_below (pk_ BK164.out) hb); have n1_ := A_ (below_step (bk_ HB.out) hb); have n2_ := A_ (hbox); have n3_ := A_ (bz_ hg (bk_ HB.out)); have n4_ := A_ (bz_ hg (bk_ HB.out)); have n5_ := A_ (nl_ hg (pk_ BK164.out)); have n6_ := A_ (ng_ hg (pk_ BK164.out)); clear BK164 HB; have BK164 := n0_; have HB := n1_; have BK167 := n2_; have GW167 := n3_; have GE167 := n4_; have NB164_167 := n5_; have NB167_164 := n6_; clear n0_ n1_ n2_ n3_ n4_ n5_ n6_ hb hbox hg; have hnb26 := NB167_164.out; have hnc26 := NB164_167.out; obtain ⟨hcz27_0, hcz27_1, hcz27_2⟩ := bc3_ BK167.out; have hfz27_0 := blk_frozen BK167.out 0; have hfz27_1 := blk_frozen BK167.out 1; have hfz27_2 := blk_frozen BK167.out 2) | ((with_reducible refine gate_dst (N := 50) rfl ?_); refine Kd.R_lit (Kd.int .u8) _ 5 ?hg (N := 50) ?hd (xs := ([(wrap64 (48 + ((rd_T37 (rd_L2 l0_2 x4_1) x5_3).f0))) % 256, 76, 90] : List Int)) (inner := [.int .u8 ((wrap64 (48 + ((rd_T37 (rd_L2 l0_2 x4_1) x5_3).f0))) % 256), .int .u8 76, .int .u8 90]) (ok := fun _ => True) (okp := fun _ => True) ?hr ?hp (fun _ hk => hk) trivial (Below.refl _ _) (Nat.le_refl _) (by simp) ?_; (case hd => rfl); (case hg => rfl); (case hr => first | (go_simp; done) | (go_simp; rfl)); (case hp => exact (Reps.one (show Kd.M (Kd.int .u8) _ _ _ ((wrap64 (48 + ((rd_T37 (rd_L2 l0_2 x4_1) x5_3).f0))) % 256) [.int .u8 ((wrap64 (48 + ((rd_T37 (rd_L2 l0_2 x4_1) x5_3).f0))) % 256)] from rfl) (Reps.one (show Kd.M (Kd.int .u8) _ _ _ 76 [.int .u8 76] from rfl) (Reps.one (show Kd.M (Kd.int .u8) _ _ _ 90 [.int .u8 90] from rfl) (Reps.none _ _))))); intro v172 w28 ho29 hb hg_ hnew_; clear hg_ hnew_; (first | rw [← Ny171.out] at ho29 | (simp only [Int.reduceToNat] at ho29; rw [← Ny171.out] at ho29)); have n0_ := A_ (Kd.R_lower ho29 (below_size (bk_ HB.out))); have n1_ := A_ (bf_ BK164.out NB164_167.out hb); have n2_ := A_ (blk_below (g := gb167) (o := .cells #[.int .i64 ((rd_T37 (rd_L2 l0_2 x4_1) x5_3).f0), .int .i64 ((rd_T37 (rd_L2 l0_2 x4_1) x5_3).f1), .int .i64 ((rd_T37 (rd_L2 l0_2 x4_1) x5_3).f2)] 37 (0, 0)) (by refine pk_ ?_; refine blk_put (cs := #[.int .i64 ((rd_T37 (rd_L2 l0_2 x4_1) x5_3).f0), .int .i64 ((rd_T37 (rd_L2 l0_2 x4_1) x5_3).f1), .int .i64 0]) ?_ 2 _ rfl; refine pk_ ?_; refine blk_put (cs := #[.int .i64 ((rd_T37 (rd_L2 l0_2 x4_1) x5_3).f0), .int .i64 0, .int .i64 0]) ?_ 1 _ rfl; refine pk_ ?_; refine blk_put (cs := #[.int .i64 0, .int .i64 0, .int .i64 0]) ?_ 0 _ rfl; exact pk_ BK167.out) hb); have n3_ := A_ (below_step (bk_ HB.out) hb); clear BK164 BK167 HB; have HO173 := n0_; have BK164 := n1_; have BK167 := n2_; have HB := n3_; clear n0_ n1_ n2_ n3_ hb ho29; have hcv30 := own_string (P := Try.prog) Try.underlying106 Try.underlying5 Try.underlying9 (Kd.own_of_R HO173.out)))
                go_roundg k3
                case measure => have := HK1.out; have := HJ3.out; have := HK3.out; omega
                case rel => exact ⟨(x3_3 ++ (strOfNums y171)), (wrap64 (x5_3 + 1)), jr_, jr_, H', ⟨by have := HK1.out; have := HJ3.out; have := HK3.out; omega⟩, ⟨pk_ BK164.out⟩, ⟨bk_ HB.out⟩⟩
               ·rw [if_neg c23] at H
                exact absurd H (by simp)
             ·rw [if_neg c13] at H
              have c13b0 : decide (((rd_T37 (rd_L2 l0_2 x4_1) x5_3).f1) < 0) = false := decide_eq_false c13
              clear c13
              by_cases c31 : ((rd_T37 (rd_L2 l0_2 x4_1) x5_3).f2) ≥ 0
              ·rw [if_pos c31] at H
               have c31b0 : decide (0 ≤ ((rd_T37 (rd_L2 l0_2 x4_1) x5_3).f2)) = true := decide_eq_true c31
               clear c31
               obtain ⟨y174, hy174⟩ : ∃ y_ : List Int, y_ = (([(wrap64 (48 + ((rd_T37 (rd_L2 l0_2 x4_1) x5_3).f0))) % 256, 82, (wrap64 (65 + ((rd_T37 (rd_L2 l0_2 x4_1) x5_3).f2))) % 256] : List Int)) := ⟨_, rfl⟩
               replace H : (if x3_3.size + (strOfNums y174).size ≤ 9223372036854775807 then (standstillref01_Text.l1 k3 (x3_3 ++ (strOfNums y174)) x4_1 (wrap64 (x5_3 + 1)) a0_0 a0_1 l0_2) else (none)) = some r := by first | (rw [hy174]; with_reducible exact H) | (have H2_ := (Option.bind_some _ _).symm.trans H; rw [hy174]; with_reducible exact H2_) | (have H2_ := (Option.bind_some _ _).symm.trans H; with_reducible exact H2_) | with_reducible exact H | (rw [hy174]; exact H) | exact H
               have Ny174 := Aside0.mk hy174
               clear hy174
               by_cases c32 : x3_3.size + (strOfNums y174).size ≤ 9223372036854775807
               ·rw [if_pos c32] at H
                have c32b0 := eq_true c32
                have c32b1 : decide (x3_3.size + (strOfNums y174).size ≤ 9223372036854775807) = true := decide_eq_true c32
                try have c32b2 : (9223372036854775807 < x3_3.size + (strOfNums y174).size) = False := eq_false (Nat.not_lt.2 c32)
                have H' := Aside0.mk H
                clear H
                obtain ⟨hcz33_0, hcz33_1, hcz33_2⟩ := bc3_ BK164.out
                have hfz33_0 := blk_frozen BK164.out 0
                have hfz33_1 := blk_frozen BK164.out 1
                have hfz33_2 := blk_frozen BK164.out 2
                have p165 : 0 ≤ (x4_1 : Int) := od_
                have q165 : x4_1 < (l0_2.length : Int) := od_
                obtain ⟨ad165, A165_0, c165_0, e165, hx165_0, hl165_0, hi165_0⟩ := at_L2 HR0_2.out x4_1 p165 q165
                cases e165
                replace hx165_0 := lf_ HB.out hx165_0
                have HR165_0 := Aside0.mk hi165_0
                have HC165_0 := Aside0.mk hl165_0
                clear hi165_0 hl165_0
                replace p165 := eq_true p165
                replace q165 := eq_true q165
                have p166 : 0 ≤ (x5_3 : Int) := od_
                have q166 : x5_3 < ((rd_L2 l0_2 x4_1).length : Int) := od_
                obtain ⟨ad166, e166, hx166_0, hx166_1, hx166_2⟩ := at_T37 HR165_0.out x5_3 p166 q166
                cases e166
                replace hx166_0 := lf_ HB.out hx166_0
                replace hx166_1 := lf_ HB.out hx166_1
                replace hx166_2 := lf_ HB.out hx166_2
                replace p166 := eq_true p166
                replace q166 := eq_true q166
                go_wp2_with (first | ((with_reducible refine gate_dst (N := 6) rfl ?_); refine box_event ?hg (N := 6) ?hd (cs := #[.int .i64 0, .int .i64 0, .int .i64 0]) (t := 37) ?hr ?_; (case hd => rfl); (case hg => rfl); (case hr => first | (go_simp; done) | (go_simp; rfl)); intro gb167 hg w34 hbox hb; have n0_ := A_ (blk_below (pk_ BK164.out) hb); have n1_ := A_ (below_step (bk_ HB.out) hb); have n2_ := A_ (hbox); have n3_ := A_ (bz_ hg (bk_ HB.out)); have n4_ := A_ (bz_ hg (bk_ HB.out)); have n5_ := A_ (nl_ hg (pk_ BK164.out)); have n6_ := A_ (ng_ hg (pk_ BK164.out)); clear BK164 HB; have BK164 := n0_; have HB := n1_; have BK167 := n2_; have GW167 := n3_; have GE167 := n4_; have NB164_167 := n5_; have NB167_164 := n6_; clear n0_ n1_ n2_ n3_ n4_ n5_ n6_ hb hbox hg; have hnb35 := NB167_164.out; have hnc35 := NB164_167.out; obtain ⟨hcz36_0, hcz36_1, hcz36_2⟩ := bc3_ BK167.out; have hfz36_0 := blk_frozen BK167.out 0; have hfz36_1 := blk_frozen BK167.out 1; have hfz36_2 := blk_frozen BK167.out 2) | ((with_reducible refine gate_dst (N := 50) rfl ?_); refine Kd.R_lit (Kd.int .u8) _ 5 ?hg (N := 50) ?hd (xs := ([(wrap64 (48 + ((rd_T37 (rd_L2 l0_2 x4_1) x5_3).f0))) % 256, 82, (wrap64 (65 + ((rd_T37 (rd_L2 l0_2 x4_1) x5_3).f2))) % 256] : List Int)) (inner := [.int .u8 ((wrap64 (48 + ((rd_T37 (rd_L2 l0_2 x4_1) x5_3).f0))) % 256), .int .u8 82, .int .u8 ((wrap64 (65 + ((rd_T37 (rd_L2 l0_2 x4_1) x5_3).f2))) % 256)]) (ok := fun _ => True) (okp := fun _ => True) ?hr ?hp (fun _ hk => hk) trivial (Below.refl _ _) (Nat.le_refl _) (by simp) ?_; (case hd => rfl); (case hg => rfl); (case hr => first | (go_simp; done) | (go_simp; rfl)); (case hp => exact (Reps.one (show Kd.M (Kd.int .u8) _ _ _ ((wrap64 (48 + ((rd_T37 (rd_L2 l0_2 x4_1) x5_3).f0))) % 256) [.int .u8 ((wrap64 (48 + ((rd_T37 (rd_L2 l0_2 x4_1) x5_3).f0))) % 256)] from rfl) (Reps.one (show Kd.M (Kd.int .u8) _ _ _ 82 [.int .u8 82] from rfl) (Reps.one (show Kd.M (Kd.int .u8) _ _ _ ((wrap64 (65 + ((rd_T37 (rd_L2 l0_2 x4_1) x5_3).f2))) % 256) [.int .u8 ((wrap64 (65 + ((rd_T37 (rd_L2 l0_2 x4_1) x5_3).f2))) % 256)] from rfl) (Reps.none _ _))))); intro v175 w37 ho38 hb hg_ hnew_; clear hg_ hnew_; (first | rw [← Ny174.out] at ho38 | (simp only [Int.reduceToNat] at ho38; rw [← Ny174.out] at ho38)); have n0_ := A_ (Kd.R_lower ho38 (below_size (bk_ HB.out))); have n1_ := A_ (bf_ BK164.out NB164_167.out hb); have n2_ := A_ (blk_below (g := gb167) (o := .cells #[.int .i64 ((rd_T37 (rd_L2 l0_2 x4_1) x5_3).f0), .int .i64 ((rd_T37 (rd_L2 l0_2 x4_1) x5_3).f1), .int .i64 ((rd_T37 (rd_L2 l0_2 x4_1) x5_3).f2)] 37 (0, 0)) (by refine pk_ ?_; refine blk_put (cs := #[.int .i64 ((rd_T37 (rd_L2 l0_2 x4_1) x5_3).f0), .int .i64 ((rd_T37 (rd_L2 l0_2 x4_1) x5_3).f1), .int .i64 0]) ?_ 2 _ rfl; refine pk_ ?_; refine blk_put (cs := #[.int .i64 ((rd_T37 (rd_L2 l0_2 x4_1) x5_3).f0), .int .i64 0, .int .i64 0]) ?_ 1 _ rfl; refine pk_ ?_; refine blk_put (cs := #[.int .i64 0, .int .i64 0, .int .i64 0]) ?_ 0 _ rfl; exact pk_ BK167.out) hb); have n3_ := A_ (below_step (bk_ HB.out) hb); clear BK164 BK167 HB; have HO176 := n0_; have BK164 := n1_; have BK167 := n2_; have HB := n3_; clear n0_ n1_ n2_ n3_ hb ho38; have hcv39 := own_string (P := Try.prog) Try.underlying106 Try.underlying5 Try.underlying9 (Kd.own_of_R HO176.out)))
                go_roundg k3
                case measure => have := HK1.out; have := HJ3.out; have := HK3.out; omega
                case rel => exact ⟨(x3_3 ++ (strOfNums y174)), (wrap64 (x5_3 + 1)), jr_, jr_, H', ⟨by have := HK1.out; have := HJ3.out; have := HK3.out; omega⟩, ⟨pk_ BK164.out⟩, ⟨bk_ HB.out⟩⟩
               ·rw [if_neg c32] at H
                exact absurd H (by simp)
              ·rw [if_neg c31] at H
               have c31b0 : decide (0 ≤ ((rd_T37 (rd_L2 l0_2 x4_1) x5_3).f2)) = false := decide_eq_false c31
               clear c31
               obtain ⟨y177, hy177⟩ : ∃ y_ : List Int, y_ = (([(wrap64 (48 + ((rd_T37 (rd_L2 l0_2 x4_1) x5_3).f0))) % 256, 82, 90] : List Int)) := ⟨_, rfl⟩
               replace H : (if x3_3.size + (strOfNums y177).size ≤ 9223372036854775807 then (standstillref01_Text.l1 k3 (x3_3 ++ (strOfNums y177)) x4_1 (wrap64 (x5_3 + 1)) a0_0 a0_1 l0_2) else (none)) = some r := by first | (rw [hy177]; with_reducible exact H) | (have H2_ := (Option.bind_some _ _).symm.trans H; rw [hy177]; with_reducible exact H2_) | (have H2_ := (Option.bind_some _ _).symm.trans H; with_reducible exact H2_) | with_reducible exact H | (rw [hy177]; exact H) | exact H
               have Ny177 := Aside0.mk hy177
               clear hy177
               by_cases c40 : x3_3.size + (strOfNums y177).size ≤ 9223372036854775807
               ·rw [if_pos c40] at H
                have c40b0 := eq_true c40
                have c40b1 : decide (x3_3.size + (strOfNums y177).size ≤ 9223372036854775807) = true := decide_eq_true c40
                try have c40b2 : (9223372036854775807 < x3_3.size + (strOfNums y177).size) = False := eq_false (Nat.not_lt.2 c40)
                have H' := Aside0.mk H
                clear H
                obtain ⟨hcz41_0, hcz41_1, hcz41_2⟩ := bc3_ BK164.out
                have hfz41_0 := blk_frozen BK164.out 0
                have hfz41_1 := blk_frozen BK164.out 1
                have hfz41_2 := blk_frozen BK164.out 2
                have p165 : 0 ≤ (x4_1 : Int) := od_
                have q165 : x4_1 < (l0_2.length : Int) := od_
                obtain ⟨ad165, A165_0, c165_0, e165, hx165_0, hl165_0, hi165_0⟩ := at_L2 HR0_2.out x4_1 p165 q165
                cases e165
                replace hx165_0 := lf_ HB.out hx165_0
                have HR165_0 := Aside0.mk hi165_0
                have HC165_0 := Aside0.mk hl165_0
                clear hi165_0 hl165_0
                replace p165 := eq_true p165
                replace q165 := eq_true q165
                have p166 : 0 ≤ (x5_3 : Int) := od_
                have q166 : x5_3 < ((rd_L2 l0_2 x4_1).length : Int) := od_
                obtain ⟨ad166, e166, hx166_0, hx166_1, hx166_2⟩ := at_T37 HR165_0.out x5_3 p166 q166
                cases e166
                replace hx166_0 := lf_ HB.out hx166_0
                replace hx166_1 := lf_ HB.out hx166_1
                replace hx166_2 := lf_ HB.out hx166_2
                replace p166 := eq_true p166
                replace q166 := eq_true q166
                go_wp2_with (first | ((with_reducible refine gate_dst (N := 6) rfl ?_); refine box_event ?hg (N := 6) ?hd (cs := #[.int .i64 0, .int .i64 0, .int .i64 0]) (t := 37) ?hr ?_; (case hd => rfl); (case hg => rfl); (case hr => first | (go_simp; done) | (go_simp; rfl)); intro gb167 hg w42 hbox hb; have n0_ := A_ (blk_below (pk_ BK164.out) hb); have n1_ := A_ (below_step (bk_ HB.out) hb); have n2_ := A_ (hbox); have n3_ := A_ (bz_ hg (bk_ HB.out)); have n4_ := A_ (bz_ hg (bk_ HB.out)); have n5_ := A_ (nl_ hg (pk_ BK164.out)); have n6_ := A_ (ng_ hg (pk_ BK164.out)); clear BK164 HB; have BK164 := n0_; have HB := n1_; have BK167 := n2_; have GW167 := n3_; have GE167 := n4_; have NB164_167 := n5_; have NB167_164 := n6_; clear n0_ n1_ n2_ n3_ n4_ n5_ n6_ hb hbox hg; have hnb43 := NB167_164.out; have hnc43 := NB164_167.out; obtain ⟨hcz44_0, hcz44_1, hcz44_2⟩ := bc3_ BK167.out; have hfz44_0 := blk_frozen BK167.out 0; have hfz44_1 := blk_frozen BK167.out 1; have hfz44_2 := blk_frozen BK167.out 2) | ((with_reducible refine gate_dst (N := 50) rfl ?_); refine Kd.R_lit (Kd.int .u8) _ 5 ?hg (N := 50) ?hd (xs := ([(wrap64 (48 + ((rd_T37 (rd_L2 l0_2 x4_1) x5_3).f0))) % 256, 82, 90] : List Int)) (inner := [.int .u8 ((wrap64 (48 + ((rd_T37 (rd_L2 l0_2 x4_1) x5_3).f0))) % 256), .int .u8 82, .int .u8 90]) (ok := fun _ => True) (okp := fun _ => True) ?hr ?hp (fun _ hk => hk) trivial (Below.refl _ _) (Nat.le_refl _) (by simp) ?_; (case hd => rfl); (case hg => rfl); (case hr => first | (go_simp; done) | (go_simp; rfl)); (case hp => exact (Reps.one (show Kd.M (Kd.int .u8) _ _ _ ((wrap64 (48 + ((rd_T37 (rd_L2 l0_2 x4_1) x5_3).f0))) % 256) [.int .u8 ((wrap64 (48 + ((rd_T37 (rd_L2 l0_2 x4_1) x5_3).f0))) % 256)] from rfl) (Reps.one (show Kd.M (Kd.int .u8) _ _ _ 82 [.int .u8 82] from rfl) (Reps.one (show Kd.M (Kd.int .u8) _ _ _ 90 [.int .u8 90] from rfl) (Reps.none _ _))))); intro v178 w45 ho46 hb hg_ hnew_; clear hg_ hnew_; (first | rw [← Ny177.out] at ho46 | (simp only [Int.reduceToNat] at ho46; rw [← Ny177.out] at ho46)); have n0_ := A_ (Kd.R_lower ho46 (below_size (bk_ HB.out))); have n1_ := A_ (bf_ BK164.out NB164_167.out hb); have n3_ := A_ (below_step (bk_ HB.out) hb); clear BK164 HB; have HO179 := n0_; have BK164 := n1_; have HB := n3_; clear n0_ n1_ n3_ hb ho46; have hcv47 := own_string (P := Try.prog) Try.underlying106 Try.underlying5 Try.underlying9 (Kd.own_of_R HO179.out)))
                go_roundg k3
                case measure => have := HK1.out; have := HJ3.out; have := HK3.out; omega
                case rel => exact ⟨(x3_3 ++ (strOfNums y177)), (wrap64 (x5_3 + 1)), jr_, jr_, H', ⟨by have := HK1.out; have := HJ3.out; have := HK3.out; omega⟩, ⟨pk_ BK164.out⟩, ⟨bk_ HB.out⟩⟩
               ·rw [if_neg c40] at H
                exact absurd H (by simp)
            ·rw [if_neg c12] at H
             exact absurd H (by simp)
           ·rw [if_neg c11] at H
            exact absurd H (by simp)
          ·rw [if_neg c10] at H
           exact absurd H (by simp)
         ·rw [if_neg c9] at H
          exact absurd H (by simp)
        ·rw [if_neg c8] at H
         have c8b0 : decide (x5_3 < a0_1) = false := decide_eq_false c8
         clear c8
         have H' := Aside0.mk H
         clear H
         obtain ⟨hcz48_0, hcz48_1, hcz48_2⟩ := bc3_ BK164.out
         have hfz48_0 := blk_frozen BK164.out 0
         have hfz48_1 := blk_frozen BK164.out 1
         have hfz48_2 := blk_frozen BK164.out 2
         go_wp2
         go_roundg k3
         case measure => have := HK1.out; have := HJ3.out; have := HK3.out; omega
         case rel => exact ⟨(x3_3), (wrap64 (x4_1 + 1)), jr_, jr_, H', ⟨by have := HK1.out; have := HJ3.out; have := HK3.out; omega⟩, ⟨pk_ BK164.out⟩, ⟨bk_ HB.out⟩⟩
   ·rw [if_neg c3] at H
    have c3b0 : decide (x4_1 < a0_0) = false := decide_eq_false c3
    clear c3
    obtain rfl := Option.some.inj H
    obtain ⟨hcz49_0, hcz49_1, hcz49_2⟩ := bc3_ BK164.out
    have hfz49_0 := blk_frozen BK164.out 0
    have hfz49_1 := blk_frozen BK164.out 1
    have hfz49_2 := blk_frozen BK164.out 2
    go_wp2
    go_ret
    exact ⟨er_, bk_ HB.out⟩

end Go.Proofs.Ytdkcociababjdaa.PLeapLong
