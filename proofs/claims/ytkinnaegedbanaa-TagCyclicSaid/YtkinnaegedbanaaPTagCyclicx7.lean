-- out of a turned copy of the print, by a program of this session; Lean checks it
import Derived.Test.YtkinnaegedbanaaPTagCyclicx0
import Derived.Test.YtkinnaegedbanaaPTagCyclicx1
import Derived.Test.YtkinnaegedbanaaPTagCyclicx3
import Derived.Test.YtkinnaegedbanaaPTagCyclicx4
import Derived.Test.YtkinnaegedbanaaPTagCyclicx5
import Derived.Test.YtkinnaegedbanaaPTagCyclicx6
namespace Go.Proofs.Ytkinnaegedbanaa.PTagCyclic
open Go.RowKit Go.Proofs.YtkinnaegedbanaaW.PrintWords Go.Proofs.YtkinnaegedbanaaW.PrintLast Go.Proofs.YtkinnaegedbanaaW.PrintMore
attribute [local go_sem] max2_int min2_int max_two min_two max_three min_three max_four min_four   -- for this text's walks alone
set_option linter.unusedVariables false
set_option linter.unusedSimpArgs false

attribute [local go_sem] isSome_put_
/-! ### standstilllaw07_TagCyclic: function 8 -/
mutual
def standstilllaw07_TagCyclic.j0 : Nat → List Int → Int → Bool → Int → List (List Int) → List Bool → Option (Bool)
 | 0, _, _, _, _, _, _ => none
 | k + 1, x1, x2, x47, x217000, x217001, x217002 => if x47 = true then ((standstilllaw07_awake.f k).bind fun t220 => (some t220)) else ((tag_ToCyclic.f k x217000 x217001 x217002).bind fun bt221 => ((tag_Bits.f k x217000 x217001 x217002 x1).bind fun bt226 => (if bt221.2 = 0 then (standstilllaw07_TagCyclic.j1 k x1 x2 bt226.1 (bt226.2 != 0) x217000 x217001 x217002 bt221.1) else (standstilllaw07_TagCyclic.j1 k x1 x2 bt226.1 true x217000 x217001 x217002 bt221.1))))
def standstilllaw07_TagCyclic.j1 : Nat → List Int → Int → List Int → Bool → Int → List (List Int) → List Bool → List (List Int) → Option (Bool)
 | 0, _, _, _, _, _, _, _, _ => none
 | k + 1, x1, x2, x9, x65, x217000, x217001, x217002, x226000 => if x65 = true then (some false) else ((tag_Run.f k x217000 x217001 x217002 x1 (wrap64 (x2))).bind fun bt230 => ((tag_Roll.f k x226000 0 x9 (wrap64 ((wrap64 (bt230.2.1 * x217000)) * (x217001.length : Int)))).bind fun bt235 => (if bt230.2.2 = 0 then (if bt235.2.2.2 = 0 then (if bt235.2.2.1 = (wrap64 ((wrap64 (bt230.2.1 * x217000)) * (x217001.length : Int))) then ((standstillref07_Fits.f k x217000 x217001 x217002 bt230.1).bind fun t242 => (standstilllaw07_TagCyclic.j2 k x2 bt230.1 bt230.2.1 (!t242) x217000 x217001 x217002 bt235.1 bt235.2.1)) else (standstilllaw07_TagCyclic.j2 k x2 bt230.1 bt230.2.1 true x217000 x217001 x217002 bt235.1 bt235.2.1)) else (standstilllaw07_TagCyclic.j2 k x2 bt230.1 bt230.2.1 true x217000 x217001 x217002 bt235.1 bt235.2.1)) else (standstilllaw07_TagCyclic.j2 k x2 bt230.1 bt230.2.1 true x217000 x217001 x217002 bt235.1 bt235.2.1))))
def standstilllaw07_TagCyclic.j2 : Nat → Int → List Int → Int → Bool → Int → List (List Int) → List Bool → Int → List Int → Option (Bool)
 | 0, _, _, _, _, _, _, _, _, _ => none
 | k + 1, x2, x11, x12, x114, x217000, x217001, x217002, x242000, x242001 => if x114 = true then (some false) else ((tag_Bits.f k x217000 x217001 x217002 x11).bind fun bt243 => (if bt243.2 = 0 then ((standstillref07_SameWheel.f k x242000 x242001 0 bt243.1).bind fun t247 => (if t247 = true then (if x12 = (wrap64 (x2)) then ((standstilllaw07_awake.f k).bind fun t248 => (some t248)) else (if (x11.length : Int) < x217000 then ((standstilllaw07_awake.f k).bind fun t249 => (some t249)) else (if 0 < (x11.length : Int) then (if 0 ≤ (rd x11 0) then (if (rd x11 0) < (x217002.length : Int) then (if rdOf false x217002 (rd x11 0) = true then ((standstilllaw07_awake.f k).bind fun t252 => (some t252)) else (some false)) else (none)) else (none)) else (none)))) else (some false))) else (some false)))
end
def standstilllaw07_TagCyclic.f (k : Nat) (a0_0 : Int) (l0_1 : List (List Int)) (l0_2 : List Bool) (l1 : List Int) (a2 : Int) : Option (Bool) := if (l0_1.length : Int) > 40 then (standstilllaw07_TagCyclic.j0 k l1 a2 true a0_0 l0_1 l0_2) else ((standstilllaw07_wide.f k a0_0 l0_1 l0_2 l1).bind fun t217 => (if t217 = true then (standstilllaw07_TagCyclic.j0 k l1 a2 true a0_0 l0_1 l0_2) else ((standstillref07_Fits.f k a0_0 l0_1 l0_2 l1).bind fun t218 => (if t218 = true then (if (l1.length : Int) > 400 then (standstilllaw07_TagCyclic.j0 k l1 a2 true a0_0 l0_1 l0_2) else ((standstilllaw07_rules.f k a0_0 l0_1 l0_2).bind fun t219 => (if t219 > 16000 then (standstilllaw07_TagCyclic.j0 k l1 a2 true a0_0 l0_1 l0_2) else (standstilllaw07_TagCyclic.j0 k l1 a2 (decide (a2 > 12)) a0_0 l0_1 l0_2)))) else (standstilllaw07_TagCyclic.j0 k l1 a2 true a0_0 l0_1 l0_2)))))
theorem standstilllaw07_TagCyclic.mono_l : ∀ k, (∀ y0 y1 y2 y3 y4 y5, LeO (standstilllaw07_TagCyclic.j0 k y0 y1 y2 y3 y4 y5) (standstilllaw07_TagCyclic.j0 (k + 1) y0 y1 y2 y3 y4 y5)) ∧ (∀ y0 y1 y2 y3 y4 y5 y6 y7, LeO (standstilllaw07_TagCyclic.j1 k y0 y1 y2 y3 y4 y5 y6 y7) (standstilllaw07_TagCyclic.j1 (k + 1) y0 y1 y2 y3 y4 y5 y6 y7)) ∧ (∀ y0 y1 y2 y3 y4 y5 y6 y7 y8, LeO (standstilllaw07_TagCyclic.j2 k y0 y1 y2 y3 y4 y5 y6 y7 y8) (standstilllaw07_TagCyclic.j2 (k + 1) y0 y1 y2 y3 y4 y5 y6 y7 y8))
 | 0 => ⟨fun _ _ _ _ _ _ r h => by simp [standstilllaw07_TagCyclic.j0] at h, fun _ _ _ _ _ _ _ _ r h => by simp [standstilllaw07_TagCyclic.j1] at h, fun _ _ _ _ _ _ _ _ _ r h => by simp [standstilllaw07_TagCyclic.j2] at h⟩
 | k + 1 => by
  obtain ⟨ih0, ih1, ih2⟩ := standstilllaw07_TagCyclic.mono_l k
  refine ⟨?_, ?_, ?_⟩
  ·intro y0 y1 y2 y3 y4 y5
   unfold standstilllaw07_TagCyclic.j0
   repeat' first
   | (with_reducible exact ih0 _ _ _ _ _ _)
   | (with_reducible exact ih1 _ _ _ _ _ _ _ _)
   | (with_reducible exact ih2 _ _ _ _ _ _ _ _ _)
   | (with_reducible exact standstilllaw07_awake.mono _)
   | (with_reducible exact standstilllaw07_rules.mono _ _ _ _)
   | (with_reducible exact standstilllaw07_wide.mono _ _ _ _ _)
   | (with_reducible exact standstillref07_Fits.mono _ _ _ _ _)
   | (with_reducible exact standstillref07_SameWheel.mono _ _ _ _ _)
   | (with_reducible exact tag_Bits.mono _ _ _ _ _)
   | (with_reducible exact tag_Roll.mono _ _ _ _ _)
   | (with_reducible exact tag_Run.mono _ _ _ _ _ _)
   | (with_reducible exact tag_ToCyclic.mono _ _ _ _)
   | (with_reducible exact LeO.refl _)
   | (with_reducible exact LeO.none _)
   | (with_reducible refine LeO.ite ?_ ?_)
   | (with_reducible refine LeO.bind ?_ (fun _ => ?_))
   | exact ih0 _ _ _ _ _ _
   | exact ih1 _ _ _ _ _ _ _ _
   | exact ih2 _ _ _ _ _ _ _ _ _
   | exact standstilllaw07_awake.mono _
   | exact standstilllaw07_rules.mono _ _ _ _
   | exact standstilllaw07_wide.mono _ _ _ _ _
   | exact standstillref07_Fits.mono _ _ _ _ _
   | exact standstillref07_SameWheel.mono _ _ _ _ _
   | exact tag_Bits.mono _ _ _ _ _
   | exact tag_Roll.mono _ _ _ _ _
   | exact tag_Run.mono _ _ _ _ _ _
   | exact tag_ToCyclic.mono _ _ _ _
   | exact LeO.none _
   | refine LeO.ite ?_ ?_
   | refine LeO.bind ?_ (fun _ => ?_)
  ·intro y0 y1 y2 y3 y4 y5 y6 y7
   unfold standstilllaw07_TagCyclic.j1
   repeat' first
   | (with_reducible exact ih0 _ _ _ _ _ _)
   | (with_reducible exact ih1 _ _ _ _ _ _ _ _)
   | (with_reducible exact ih2 _ _ _ _ _ _ _ _ _)
   | (with_reducible exact standstilllaw07_awake.mono _)
   | (with_reducible exact standstilllaw07_rules.mono _ _ _ _)
   | (with_reducible exact standstilllaw07_wide.mono _ _ _ _ _)
   | (with_reducible exact standstillref07_Fits.mono _ _ _ _ _)
   | (with_reducible exact standstillref07_SameWheel.mono _ _ _ _ _)
   | (with_reducible exact tag_Bits.mono _ _ _ _ _)
   | (with_reducible exact tag_Roll.mono _ _ _ _ _)
   | (with_reducible exact tag_Run.mono _ _ _ _ _ _)
   | (with_reducible exact tag_ToCyclic.mono _ _ _ _)
   | (with_reducible exact LeO.refl _)
   | (with_reducible exact LeO.none _)
   | (with_reducible refine LeO.ite ?_ ?_)
   | (with_reducible refine LeO.bind ?_ (fun _ => ?_))
   | exact ih0 _ _ _ _ _ _
   | exact ih1 _ _ _ _ _ _ _ _
   | exact ih2 _ _ _ _ _ _ _ _ _
   | exact standstilllaw07_awake.mono _
   | exact standstilllaw07_rules.mono _ _ _ _
   | exact standstilllaw07_wide.mono _ _ _ _ _
   | exact standstillref07_Fits.mono _ _ _ _ _
   | exact standstillref07_SameWheel.mono _ _ _ _ _
   | exact tag_Bits.mono _ _ _ _ _
   | exact tag_Roll.mono _ _ _ _ _
   | exact tag_Run.mono _ _ _ _ _ _
   | exact tag_ToCyclic.mono _ _ _ _
   | exact LeO.none _
   | refine LeO.ite ?_ ?_
   | refine LeO.bind ?_ (fun _ => ?_)
  ·intro y0 y1 y2 y3 y4 y5 y6 y7 y8
   unfold standstilllaw07_TagCyclic.j2
   repeat' first
   | (with_reducible exact ih0 _ _ _ _ _ _)
   | (with_reducible exact ih1 _ _ _ _ _ _ _ _)
   | (with_reducible exact ih2 _ _ _ _ _ _ _ _ _)
   | (with_reducible exact standstilllaw07_awake.mono _)
   | (with_reducible exact standstilllaw07_rules.mono _ _ _ _)
   | (with_reducible exact standstilllaw07_wide.mono _ _ _ _ _)
   | (with_reducible exact standstillref07_Fits.mono _ _ _ _ _)
   | (with_reducible exact standstillref07_SameWheel.mono _ _ _ _ _)
   | (with_reducible exact tag_Bits.mono _ _ _ _ _)
   | (with_reducible exact tag_Roll.mono _ _ _ _ _)
   | (with_reducible exact tag_Run.mono _ _ _ _ _ _)
   | (with_reducible exact tag_ToCyclic.mono _ _ _ _)
   | (with_reducible exact LeO.refl _)
   | (with_reducible exact LeO.none _)
   | (with_reducible refine LeO.ite ?_ ?_)
   | (with_reducible refine LeO.bind ?_ (fun _ => ?_))
   | exact ih0 _ _ _ _ _ _
   | exact ih1 _ _ _ _ _ _ _ _
   | exact ih2 _ _ _ _ _ _ _ _ _
   | exact standstilllaw07_awake.mono _
   | exact standstilllaw07_rules.mono _ _ _ _
   | exact standstilllaw07_wide.mono _ _ _ _ _
   | exact standstillref07_Fits.mono _ _ _ _ _
   | exact standstillref07_SameWheel.mono _ _ _ _ _
   | exact tag_Bits.mono _ _ _ _ _
   | exact tag_Roll.mono _ _ _ _ _
   | exact tag_Run.mono _ _ _ _ _ _
   | exact tag_ToCyclic.mono _ _ _ _
   | exact LeO.none _
   | refine LeO.ite ?_ ?_
   | refine LeO.bind ?_ (fun _ => ?_)
theorem standstilllaw07_TagCyclic.mono : ∀ a0 a1 a2 a3 a4 k, LeO (standstilllaw07_TagCyclic.f k a0 a1 a2 a3 a4) (standstilllaw07_TagCyclic.f (k + 1) a0 a1 a2 a3 a4) := by
 intro a0 a1 a2 a3 a4 k
 obtain ⟨ih0, ih1, ih2⟩ := standstilllaw07_TagCyclic.mono_l k
 unfold standstilllaw07_TagCyclic.f
 repeat' first
   | (with_reducible exact ih0 _ _ _ _ _ _)
   | (with_reducible exact ih1 _ _ _ _ _ _ _ _)
   | (with_reducible exact ih2 _ _ _ _ _ _ _ _ _)
   | (with_reducible exact standstilllaw07_awake.mono _)
   | (with_reducible exact standstilllaw07_rules.mono _ _ _ _)
   | (with_reducible exact standstilllaw07_wide.mono _ _ _ _ _)
   | (with_reducible exact standstillref07_Fits.mono _ _ _ _ _)
   | (with_reducible exact standstillref07_SameWheel.mono _ _ _ _ _)
   | (with_reducible exact tag_Bits.mono _ _ _ _ _)
   | (with_reducible exact tag_Roll.mono _ _ _ _ _)
   | (with_reducible exact tag_Run.mono _ _ _ _ _ _)
   | (with_reducible exact tag_ToCyclic.mono _ _ _ _)
   | (with_reducible exact LeO.refl _)
   | (with_reducible exact LeO.none _)
   | (with_reducible refine LeO.ite ?_ ?_)
   | (with_reducible refine LeO.bind ?_ (fun _ => ?_))
   | exact ih0 _ _ _ _ _ _
   | exact ih1 _ _ _ _ _ _ _ _
   | exact ih2 _ _ _ _ _ _ _ _ _
   | exact standstilllaw07_awake.mono _
   | exact standstilllaw07_rules.mono _ _ _ _
   | exact standstilllaw07_wide.mono _ _ _ _ _
   | exact standstillref07_Fits.mono _ _ _ _ _
   | exact standstillref07_SameWheel.mono _ _ _ _ _
   | exact tag_Bits.mono _ _ _ _ _
   | exact tag_Roll.mono _ _ _ _ _
   | exact tag_Run.mono _ _ _ _ _ _
   | exact tag_ToCyclic.mono _ _ _ _
   | exact LeO.none _
   | refine LeO.ite ?_ ?_
   | refine LeO.bind ?_ (fun _ => ?_)
def standstilllaw07_TagCyclic.T14 : Bool × List (List Nat × List Nat) := (true, [([], []), ([], []), ([1], [1]), ([0, 2], [0, 2]), ([3], [3]), ([4], [4]), ([5, 4], [4, 5]), ([4], [4]), ([7, 4], [4, 7]), ([6, 8, 4], [4, 6, 8]), ([4, 9], [4, 9]), ([10, 4], [10]), ([11], [11]), ([12, 11], [11, 12]), ([11], [11]), ([14, 11], [11, 14]), ([15, 11], [11, 15]), ([13, 16, 11], [11, 13, 16]), ([17, 11], [11, 17]), ([11, 18], [11, 18]), ([19, 11], [19]), ([20, 20], [20]), ([20, 21], [20, 21]), ([22, 21, 0, 1, 2, 3, 4, 5, 6, 7, 8, 9, 10, 11, 12, 13, 14, 15, 16, 17, 18, 19, 20, 21, 22], [22])])
def standstilllaw07_TagCyclic.B14 : List Nat := [0, 0, 2, 7, 15, 31, 63, 31, 159, 511, 1023, 2047, 4095, 8191, 4095, 20479, 53247, 131071, 262143, 524287, 1048575, 2097151, 4194303, 8388607]
theorem standstilllaw07_TagCyclic.tab14 : rtab .any (opsOf Try.f8 14) = standstilllaw07_TagCyclic.T14 := by kernel_rfl
theorem standstilllaw07_TagCyclic.bits14 : waitsOk standstilllaw07_TagCyclic.T14.2 standstilllaw07_TagCyclic.B14 = true := by kernel_rfl
set_option maxHeartbeats 8000000 in
set_option maxRecDepth 100000 in
theorem standstilllaw07_TagCyclic.calls (k : Nat) (a0_0 : Int) (A0_1 : Option Addr) (c0_1 : Nat) (l0_1 : List (List Int)) (A0_2 : Option Addr) (c0_2 : Nat) (l0_2 : List Bool) (A1 : Option Addr) (c1 : Nat) (l1 : List Int) (a2 : Int) (r : Bool) (w : World) (hr0_1 : Kd.C (Kd.slice 3 (Kd.int .i64)) w A0_1 l0_1.length l0_1) (hc0_1 : l0_1.length ≤ c0_1) (hr0_2 : Kd.C Kd.bool w A0_2 l0_2.length l0_2) (hc0_2 : l0_2.length ≤ c0_2) (hr1 : Kd.C (Kd.int .i64) w A1 l1.length l1) (hc1 : l1.length ≤ c1) (h : standstilllaw07_TagCyclic.f k a0_0 l0_1 l0_2 l1 a2 = some r) :
  Calls Try.prog 8 #[.agg #[.int .i64 a0_0, .slice A0_1 l0_1.length c0_1, .slice A0_2 l0_2.length c0_2], .slice A1 l1.length c1, .int .u8 a2] w fun e w' => e = .returned (.bool r) ∧ Below w.heap.size w w' := by
 have hu25 := Try.underlying25
 have hu45 := Try.underlying45
 have hu47 := Try.underlying47
 have HR0_1 := Aside0.mk hr0_1
 have HC0_1 := Aside0.mk hc0_1
 clear hr0_1 hc0_1
 have HR0_2 := Aside0.mk hr0_2
 have HC0_2 := Aside0.mk hc0_2
 clear hr0_2 hc0_2
 have HR1 := Aside0.mk hr1
 have HC1 := Aside0.mk hc1
 clear hr1 hc1
 have HB := A_ (Below.refl w.heap.size w)
 have H : (if (l0_1.length : Int) > 40 then (standstilllaw07_TagCyclic.j0 k l1 a2 true a0_0 l0_1 l0_2) else ((standstilllaw07_wide.f k a0_0 l0_1 l0_2 l1).bind fun t217 => (if t217 = true then (standstilllaw07_TagCyclic.j0 k l1 a2 true a0_0 l0_1 l0_2) else ((standstillref07_Fits.f k a0_0 l0_1 l0_2 l1).bind fun t218 => (if t218 = true then (if (l1.length : Int) > 400 then (standstilllaw07_TagCyclic.j0 k l1 a2 true a0_0 l0_1 l0_2) else ((standstilllaw07_rules.f k a0_0 l0_1 l0_2).bind fun t219 => (if t219 > 16000 then (standstilllaw07_TagCyclic.j0 k l1 a2 true a0_0 l0_1 l0_2) else (standstilllaw07_TagCyclic.j0 k l1 a2 (decide (a2 > 12)) a0_0 l0_1 l0_2)))) else (standstilllaw07_TagCyclic.j0 k l1 a2 true a0_0 l0_1 l0_2)))))) = some r := h
 clear h
 have HC4 := Aside0.mk H
 clear H
 go_enter Try.func8, Try.ntmps8
 go_upto_region 1 with (first | ((with_reducible refine gate_dst (N := 3) rfl ?_); (try (refine gate_guard (by rfl) ?_; dsimp only)); refine box_event ?hg (N := 3) ?hd (cs := #[.int .i64 a0_0, .slice A0_1 l0_1.length c0_1, .slice A0_2 l0_2.length c0_2]) (t := 25) ?hr ?_; (case hd => rfl); (case hg => rfl); (case hr => first | (go_simp; done) | (go_simp; rfl)); intro gb216 hg w5 hbox hb; have n0_ := A_ (below_step (bk_ HB.out) hb); have n1_ := A_ (hbox); have n2_ := A_ ((by rw [hg]; exact (below_size (bk_ HB.out)) : w.heap.size ≤ gb216)); have n3_ := A_ ((by rw [hg]; exact (below_size (bk_ HB.out)) : w.heap.size ≤ gb216)); clear HB; have HB := n0_; have BK216 := n1_; have GW216 := n2_; have GE216 := n3_; clear n0_ n1_ n2_ n3_ hb hbox hg))
 (try simp only [Act.put, List.setIfInBounds_toArray, List.set_cons_zero, List.set_cons_succ])
 go_cut [47] (fun v47 wc => ∃ (kq : Nat) (x47_3 : Bool), v47 = .bool x47_3 ∧ Aside0 (standstilllaw07_TagCyclic.j0 kq l1 a2 x47_3 a0_0 l0_1 l0_2 = some r) ∧ Aside0 (kq ≤ k) ∧ Aside0 (wc.heap[gb216]? = some (.cells #[.int .i64 a0_0, (.slice A0_1 l0_1.length c0_1), (.slice A0_2 l0_2.length c0_2)] 25 (0, 0))) ∧ Aside0 (Below w.heap.size w wc))
 case first => as_aux_lemma =>
  have H := HC4.out
  clear HC4
  by_cases c6 : (l0_1.length : Int) > 40
  ·rw [if_pos c6] at H
   have c6b0 : decide (40 < (l0_1.length : Int)) = true := decide_eq_true c6
   have c6b1 : decide (40 < l0_1.length) = true := decide_eq_true (by omega)
   clear c6
   (first | rw [c6b0] | (simp only [i64_w, i32_w]; rw [c6b0]) | skip)
   have H' := Aside0.mk H
   clear H
   have hcz7_0 : w5.cell? ⟨gb216, 0, none⟩ = some (.int .i64 a0_0) := (blk_cell BK216.out 0).trans rfl
   have hcz7_1 : w5.cell? ⟨gb216, 1, none⟩ = some (.slice A0_1 l0_1.length c0_1) := (blk_cell BK216.out 1).trans rfl
   have hcz7_2 : w5.cell? ⟨gb216, 2, none⟩ = some (.slice A0_2 l0_2.length c0_2) := (blk_cell BK216.out 2).trans rfl
   have hfz7_0 := blk_frozen BK216.out 0
   have hfz7_1 := blk_frozen BK216.out 1
   have hfz7_2 := blk_frozen BK216.out 2
   go_wp2
   go_meet
   case rel => exact ⟨_, (true), jr_, H', ⟨by first | omega | exact Nat.le_refl _⟩, ⟨pk_ BK216.out⟩, ⟨bk_ HB.out⟩⟩
  ·rw [if_neg c6] at H
   have c6b0 : decide (40 < (l0_1.length : Int)) = false := decide_eq_false c6
   have c6b1 : decide (40 < l0_1.length) = false := decide_eq_false (by omega)
   clear c6
   (first | rw [c6b0] | (simp only [i64_w, i32_w]; rw [c6b0]) | skip)
   replace H := Option.bind_eq_some_iff.mp H
   obtain ⟨t217, A80, H⟩ := H
   replace H : (if t217 = true then (standstilllaw07_TagCyclic.j0 k l1 a2 true a0_0 l0_1 l0_2) else ((standstillref07_Fits.f k a0_0 l0_1 l0_2 l1).bind fun t218 => (if t218 = true then (if (l1.length : Int) > 400 then (standstilllaw07_TagCyclic.j0 k l1 a2 true a0_0 l0_1 l0_2) else ((standstilllaw07_rules.f k a0_0 l0_1 l0_2).bind fun t219 => (if t219 > 16000 then (standstilllaw07_TagCyclic.j0 k l1 a2 true a0_0 l0_1 l0_2) else (standstilllaw07_TagCyclic.j0 k l1 a2 (decide (a2 > 12)) a0_0 l0_1 l0_2)))) else (standstilllaw07_TagCyclic.j0 k l1 a2 true a0_0 l0_1 l0_2)))) = some r := H
   have A8 := Aside0.mk A80
   clear A80
   by_cases c9 : t217 = true
   ·subst c9
    have H1 : (standstilllaw07_TagCyclic.j0 k l1 a2 true a0_0 l0_1 l0_2) = some r := by rw [if_pos rfl] at H; exact H
    clear H
    have H := H1
    clear H1
    have H' := Aside0.mk H
    clear H
    have hcz10_0 : w5.cell? ⟨gb216, 0, none⟩ = some (.int .i64 a0_0) := (blk_cell BK216.out 0).trans rfl
    have hcz10_1 : w5.cell? ⟨gb216, 1, none⟩ = some (.slice A0_1 l0_1.length c0_1) := (blk_cell BK216.out 1).trans rfl
    have hcz10_2 : w5.cell? ⟨gb216, 2, none⟩ = some (.slice A0_2 l0_2.length c0_2) := (blk_cell BK216.out 2).trans rfl
    have hfz10_0 := blk_frozen BK216.out 0
    have hfz10_1 := blk_frozen BK216.out 1
    have hfz10_2 := blk_frozen BK216.out 2
    go_wp2_with (first | (go_at_call 9; (with_reducible refine (standstilllaw07_wide.calls k a0_0 _ _ l0_1 _ _ l0_2 _ _ l1 true _ ?side1 ?side2 ?side3 ?side4 ?side5 ?side6 A8.out).mono ?_); (case side1 => exact ck_ (Kd.C_below HR0_1.out HB.out)); (case side2 => exact HC0_1.out); (case side3 => exact ck_ (Kd.C_below HR0_2.out HB.out)); (case side4 => exact HC0_2.out); (case side5 => exact ck_ (Kd.C_below HR1.out HB.out)); (case side6 => exact HC1.out); rintro e w11 ⟨rfl, hb⟩; have n0_ := A_ (blk_below (pk_ BK216.out) hb); have n1_ := A_ (below_step (bk_ HB.out) hb); clear BK216 HB; have BK216 := n0_; have HB := n1_; clear n0_ n1_; (try clear hb); (try clear hb2); (try clear hk); (try clear hi)))
    go_meet
    case rel => exact ⟨_, (true), jr_, H', ⟨by first | omega | exact Nat.le_refl _⟩, ⟨pk_ BK216.out⟩, ⟨bk_ HB.out⟩⟩
   ·replace c9 := Bool.eq_false_iff.mpr c9
    subst c9
    have H1 : ((standstillref07_Fits.f k a0_0 l0_1 l0_2 l1).bind fun t218 => (if t218 = true then (if (l1.length : Int) > 400 then (standstilllaw07_TagCyclic.j0 k l1 a2 true a0_0 l0_1 l0_2) else ((standstilllaw07_rules.f k a0_0 l0_1 l0_2).bind fun t219 => (if t219 > 16000 then (standstilllaw07_TagCyclic.j0 k l1 a2 true a0_0 l0_1 l0_2) else (standstilllaw07_TagCyclic.j0 k l1 a2 (decide (a2 > 12)) a0_0 l0_1 l0_2)))) else (standstilllaw07_TagCyclic.j0 k l1 a2 true a0_0 l0_1 l0_2))) = some r := by rw [if_neg (show ¬ (false = true) by decide)] at H; exact H
    clear H
    have H := H1
    clear H1
    replace H := Option.bind_eq_some_iff.mp H
    obtain ⟨t218, A120, H⟩ := H
    replace H : (if t218 = true then (if (l1.length : Int) > 400 then (standstilllaw07_TagCyclic.j0 k l1 a2 true a0_0 l0_1 l0_2) else ((standstilllaw07_rules.f k a0_0 l0_1 l0_2).bind fun t219 => (if t219 > 16000 then (standstilllaw07_TagCyclic.j0 k l1 a2 true a0_0 l0_1 l0_2) else (standstilllaw07_TagCyclic.j0 k l1 a2 (decide (a2 > 12)) a0_0 l0_1 l0_2)))) else (standstilllaw07_TagCyclic.j0 k l1 a2 true a0_0 l0_1 l0_2)) = some r := H
    have A12 := Aside0.mk A120
    clear A120
    by_cases c13 : t218 = true
    ·subst c13
     have H1 : (if (l1.length : Int) > 400 then (standstilllaw07_TagCyclic.j0 k l1 a2 true a0_0 l0_1 l0_2) else ((standstilllaw07_rules.f k a0_0 l0_1 l0_2).bind fun t219 => (if t219 > 16000 then (standstilllaw07_TagCyclic.j0 k l1 a2 true a0_0 l0_1 l0_2) else (standstilllaw07_TagCyclic.j0 k l1 a2 (decide (a2 > 12)) a0_0 l0_1 l0_2)))) = some r := by rw [if_pos rfl] at H; exact H
     clear H
     have H := H1
     clear H1
     by_cases c14 : (l1.length : Int) > 400
     ·rw [if_pos c14] at H
      have c14b0 : decide (400 < (l1.length : Int)) = true := decide_eq_true c14
      have c14b1 : decide (400 < l1.length) = true := decide_eq_true (by omega)
      clear c14
      have H' := Aside0.mk H
      clear H
      have hcz15_0 : w5.cell? ⟨gb216, 0, none⟩ = some (.int .i64 a0_0) := (blk_cell BK216.out 0).trans rfl
      have hcz15_1 : w5.cell? ⟨gb216, 1, none⟩ = some (.slice A0_1 l0_1.length c0_1) := (blk_cell BK216.out 1).trans rfl
      have hcz15_2 : w5.cell? ⟨gb216, 2, none⟩ = some (.slice A0_2 l0_2.length c0_2) := (blk_cell BK216.out 2).trans rfl
      have hfz15_0 := blk_frozen BK216.out 0
      have hfz15_1 := blk_frozen BK216.out 1
      have hfz15_2 := blk_frozen BK216.out 2
      go_wp2_with (first | (go_at_call 9; (with_reducible refine (standstilllaw07_wide.calls k a0_0 _ _ l0_1 _ _ l0_2 _ _ l1 false _ ?side1 ?side2 ?side3 ?side4 ?side5 ?side6 A8.out).mono ?_); (case side1 => exact ck_ (Kd.C_below HR0_1.out HB.out)); (case side2 => exact HC0_1.out); (case side3 => exact ck_ (Kd.C_below HR0_2.out HB.out)); (case side4 => exact HC0_2.out); (case side5 => exact ck_ (Kd.C_below HR1.out HB.out)); (case side6 => exact HC1.out); rintro e w16 ⟨rfl, hb⟩; have n0_ := A_ (blk_below (pk_ BK216.out) hb); have n1_ := A_ (below_step (bk_ HB.out) hb); clear BK216 HB; have BK216 := n0_; have HB := n1_; clear n0_ n1_; (try clear hb); (try clear hb2); (try clear hk); (try clear hi); have hcz17_0 : w16.cell? ⟨gb216, 0, none⟩ = some (.int .i64 a0_0) := (blk_cell BK216.out 0).trans rfl; have hcz17_1 : w16.cell? ⟨gb216, 1, none⟩ = some (.slice A0_1 l0_1.length c0_1) := (blk_cell BK216.out 1).trans rfl; have hcz17_2 : w16.cell? ⟨gb216, 2, none⟩ = some (.slice A0_2 l0_2.length c0_2) := (blk_cell BK216.out 2).trans rfl; have hfz17_0 := blk_frozen BK216.out 0; have hfz17_1 := blk_frozen BK216.out 1; have hfz17_2 := blk_frozen BK216.out 2) | (go_at_call 10; (with_reducible refine (standstillref07_Fits.calls k a0_0 _ _ l0_1 _ _ l0_2 _ _ l1 true _ ?side1 ?side2 ?side3 ?side4 ?side5 ?side6 A12.out).mono ?_); (case side1 => exact ck_ (Kd.C_below HR0_1.out HB.out)); (case side2 => exact HC0_1.out); (case side3 => exact ck_ (Kd.C_below HR0_2.out HB.out)); (case side4 => exact HC0_2.out); (case side5 => exact ck_ (Kd.C_below HR1.out HB.out)); (case side6 => exact HC1.out); rintro e w18 ⟨rfl, hb⟩; have n0_ := A_ (blk_below (pk_ BK216.out) hb); have n1_ := A_ (below_step (bk_ HB.out) hb); clear BK216 HB; have BK216 := n0_; have HB := n1_; clear n0_ n1_; (try clear hb); (try clear hb2); (try clear hk); (try clear hi)))
      go_meet
      case rel => exact ⟨_, (true), jr_, H', ⟨by first | omega | exact Nat.le_refl _⟩, ⟨pk_ BK216.out⟩, ⟨bk_ HB.out⟩⟩
     ·rw [if_neg c14] at H
      have c14b0 : decide (400 < (l1.length : Int)) = false := decide_eq_false c14
      have c14b1 : decide (400 < l1.length) = false := decide_eq_false (by omega)
      clear c14
      replace H := Option.bind_eq_some_iff.mp H
      obtain ⟨t219, A190, H⟩ := H
      replace H : (if t219 > 16000 then (standstilllaw07_TagCyclic.j0 k l1 a2 true a0_0 l0_1 l0_2) else (standstilllaw07_TagCyclic.j0 k l1 a2 (decide (a2 > 12)) a0_0 l0_1 l0_2)) = some r := H
      have A19 := Aside0.mk A190
      clear A190
      by_cases c20 : t219 > 16000
      ·rw [if_pos c20] at H
       have c20b0 : decide (16000 < t219) = true := decide_eq_true c20
       clear c20
       have H' := Aside0.mk H
       clear H
       have hcz21_0 : w5.cell? ⟨gb216, 0, none⟩ = some (.int .i64 a0_0) := (blk_cell BK216.out 0).trans rfl
       have hcz21_1 : w5.cell? ⟨gb216, 1, none⟩ = some (.slice A0_1 l0_1.length c0_1) := (blk_cell BK216.out 1).trans rfl
       have hcz21_2 : w5.cell? ⟨gb216, 2, none⟩ = some (.slice A0_2 l0_2.length c0_2) := (blk_cell BK216.out 2).trans rfl
       have hfz21_0 := blk_frozen BK216.out 0
       have hfz21_1 := blk_frozen BK216.out 1
       have hfz21_2 := blk_frozen BK216.out 2
       go_wp2_with (first | (go_at_call 9; (with_reducible refine (standstilllaw07_wide.calls k a0_0 _ _ l0_1 _ _ l0_2 _ _ l1 false _ ?side1 ?side2 ?side3 ?side4 ?side5 ?side6 A8.out).mono ?_); (case side1 => exact ck_ (Kd.C_below HR0_1.out HB.out)); (case side2 => exact HC0_1.out); (case side3 => exact ck_ (Kd.C_below HR0_2.out HB.out)); (case side4 => exact HC0_2.out); (case side5 => exact ck_ (Kd.C_below HR1.out HB.out)); (case side6 => exact HC1.out); rintro e w22 ⟨rfl, hb⟩; have n0_ := A_ (blk_below (pk_ BK216.out) hb); have n1_ := A_ (below_step (bk_ HB.out) hb); clear BK216 HB; have BK216 := n0_; have HB := n1_; clear n0_ n1_; (try clear hb); (try clear hb2); (try clear hk); (try clear hi); have hcz23_0 : w22.cell? ⟨gb216, 0, none⟩ = some (.int .i64 a0_0) := (blk_cell BK216.out 0).trans rfl; have hcz23_1 : w22.cell? ⟨gb216, 1, none⟩ = some (.slice A0_1 l0_1.length c0_1) := (blk_cell BK216.out 1).trans rfl; have hcz23_2 : w22.cell? ⟨gb216, 2, none⟩ = some (.slice A0_2 l0_2.length c0_2) := (blk_cell BK216.out 2).trans rfl; have hfz23_0 := blk_frozen BK216.out 0; have hfz23_1 := blk_frozen BK216.out 1; have hfz23_2 := blk_frozen BK216.out 2) | (go_at_call 10; (with_reducible refine (standstillref07_Fits.calls k a0_0 _ _ l0_1 _ _ l0_2 _ _ l1 true _ ?side1 ?side2 ?side3 ?side4 ?side5 ?side6 A12.out).mono ?_); (case side1 => exact ck_ (Kd.C_below HR0_1.out HB.out)); (case side2 => exact HC0_1.out); (case side3 => exact ck_ (Kd.C_below HR0_2.out HB.out)); (case side4 => exact HC0_2.out); (case side5 => exact ck_ (Kd.C_below HR1.out HB.out)); (case side6 => exact HC1.out); rintro e w24 ⟨rfl, hb⟩; have n0_ := A_ (blk_below (pk_ BK216.out) hb); have n1_ := A_ (below_step (bk_ HB.out) hb); clear BK216 HB; have BK216 := n0_; have HB := n1_; clear n0_ n1_; (try clear hb); (try clear hb2); (try clear hk); (try clear hi); have hcz25_0 : w24.cell? ⟨gb216, 0, none⟩ = some (.int .i64 a0_0) := (blk_cell BK216.out 0).trans rfl; have hcz25_1 : w24.cell? ⟨gb216, 1, none⟩ = some (.slice A0_1 l0_1.length c0_1) := (blk_cell BK216.out 1).trans rfl; have hcz25_2 : w24.cell? ⟨gb216, 2, none⟩ = some (.slice A0_2 l0_2.length c0_2) := (blk_cell BK216.out 2).trans rfl; have hfz25_0 := blk_frozen BK216.out 0; have hfz25_1 := blk_frozen BK216.out 1; have hfz25_2 := blk_frozen BK216.out 2) | (go_at_call 37; (with_reducible refine (standstilllaw07_rules.calls k a0_0 _ _ l0_1 _ _ l0_2 t219 _ ?side1 ?side2 ?side3 ?side4 A19.out).mono ?_); (case side1 => exact ck_ (Kd.C_below HR0_1.out HB.out)); (case side2 => exact HC0_1.out); (case side3 => exact ck_ (Kd.C_below HR0_2.out HB.out)); (case side4 => exact HC0_2.out); rintro e w26 ⟨rfl, hb⟩; have n0_ := A_ (blk_below (pk_ BK216.out) hb); have n1_ := A_ (below_step (bk_ HB.out) hb); clear BK216 HB; have BK216 := n0_; have HB := n1_; clear n0_ n1_; (try clear hb); (try clear hb2); (try clear hk); (try clear hi)))
       go_meet
       case rel => exact ⟨_, (true), jr_, H', ⟨by first | omega | exact Nat.le_refl _⟩, ⟨pk_ BK216.out⟩, ⟨bk_ HB.out⟩⟩
      ·rw [if_neg c20] at H
       have c20b0 : decide (16000 < t219) = false := decide_eq_false c20
       clear c20
       have H' := Aside0.mk H
       clear H
       have hcz27_0 : w5.cell? ⟨gb216, 0, none⟩ = some (.int .i64 a0_0) := (blk_cell BK216.out 0).trans rfl
       have hcz27_1 : w5.cell? ⟨gb216, 1, none⟩ = some (.slice A0_1 l0_1.length c0_1) := (blk_cell BK216.out 1).trans rfl
       have hcz27_2 : w5.cell? ⟨gb216, 2, none⟩ = some (.slice A0_2 l0_2.length c0_2) := (blk_cell BK216.out 2).trans rfl
       have hfz27_0 := blk_frozen BK216.out 0
       have hfz27_1 := blk_frozen BK216.out 1
       have hfz27_2 := blk_frozen BK216.out 2
       go_wp2_with (first | (go_at_call 9; (with_reducible refine (standstilllaw07_wide.calls k a0_0 _ _ l0_1 _ _ l0_2 _ _ l1 false _ ?side1 ?side2 ?side3 ?side4 ?side5 ?side6 A8.out).mono ?_); (case side1 => exact ck_ (Kd.C_below HR0_1.out HB.out)); (case side2 => exact HC0_1.out); (case side3 => exact ck_ (Kd.C_below HR0_2.out HB.out)); (case side4 => exact HC0_2.out); (case side5 => exact ck_ (Kd.C_below HR1.out HB.out)); (case side6 => exact HC1.out); rintro e w28 ⟨rfl, hb⟩; have n0_ := A_ (blk_below (pk_ BK216.out) hb); have n1_ := A_ (below_step (bk_ HB.out) hb); clear BK216 HB; have BK216 := n0_; have HB := n1_; clear n0_ n1_; (try clear hb); (try clear hb2); (try clear hk); (try clear hi); have hcz29_0 : w28.cell? ⟨gb216, 0, none⟩ = some (.int .i64 a0_0) := (blk_cell BK216.out 0).trans rfl; have hcz29_1 : w28.cell? ⟨gb216, 1, none⟩ = some (.slice A0_1 l0_1.length c0_1) := (blk_cell BK216.out 1).trans rfl; have hcz29_2 : w28.cell? ⟨gb216, 2, none⟩ = some (.slice A0_2 l0_2.length c0_2) := (blk_cell BK216.out 2).trans rfl; have hfz29_0 := blk_frozen BK216.out 0; have hfz29_1 := blk_frozen BK216.out 1; have hfz29_2 := blk_frozen BK216.out 2) | (go_at_call 10; (with_reducible refine (standstillref07_Fits.calls k a0_0 _ _ l0_1 _ _ l0_2 _ _ l1 true _ ?side1 ?side2 ?side3 ?side4 ?side5 ?side6 A12.out).mono ?_); (case side1 => exact ck_ (Kd.C_below HR0_1.out HB.out)); (case side2 => exact HC0_1.out); (case side3 => exact ck_ (Kd.C_below HR0_2.out HB.out)); (case side4 => exact HC0_2.out); (case side5 => exact ck_ (Kd.C_below HR1.out HB.out)); (case side6 => exact HC1.out); rintro e w30 ⟨rfl, hb⟩; have n0_ := A_ (blk_below (pk_ BK216.out) hb); have n1_ := A_ (below_step (bk_ HB.out) hb); clear BK216 HB; have BK216 := n0_; have HB := n1_; clear n0_ n1_; (try clear hb); (try clear hb2); (try clear hk); (try clear hi); have hcz31_0 : w30.cell? ⟨gb216, 0, none⟩ = some (.int .i64 a0_0) := (blk_cell BK216.out 0).trans rfl; have hcz31_1 : w30.cell? ⟨gb216, 1, none⟩ = some (.slice A0_1 l0_1.length c0_1) := (blk_cell BK216.out 1).trans rfl; have hcz31_2 : w30.cell? ⟨gb216, 2, none⟩ = some (.slice A0_2 l0_2.length c0_2) := (blk_cell BK216.out 2).trans rfl; have hfz31_0 := blk_frozen BK216.out 0; have hfz31_1 := blk_frozen BK216.out 1; have hfz31_2 := blk_frozen BK216.out 2) | (go_at_call 37; (with_reducible refine (standstilllaw07_rules.calls k a0_0 _ _ l0_1 _ _ l0_2 t219 _ ?side1 ?side2 ?side3 ?side4 A19.out).mono ?_); (case side1 => exact ck_ (Kd.C_below HR0_1.out HB.out)); (case side2 => exact HC0_1.out); (case side3 => exact ck_ (Kd.C_below HR0_2.out HB.out)); (case side4 => exact HC0_2.out); rintro e w32 ⟨rfl, hb⟩; have n0_ := A_ (blk_below (pk_ BK216.out) hb); have n1_ := A_ (below_step (bk_ HB.out) hb); clear BK216 HB; have BK216 := n0_; have HB := n1_; clear n0_ n1_; (try clear hb); (try clear hb2); (try clear hk); (try clear hi)))
       go_meet
       case rel => exact ⟨_, (decide (a2 > 12)), jr_, H', ⟨by first | omega | exact Nat.le_refl _⟩, ⟨pk_ BK216.out⟩, ⟨bk_ HB.out⟩⟩
    ·replace c13 := Bool.eq_false_iff.mpr c13
     subst c13
     have H1 : (standstilllaw07_TagCyclic.j0 k l1 a2 true a0_0 l0_1 l0_2) = some r := by rw [if_neg (show ¬ (false = true) by decide)] at H; exact H
     clear H
     have H := H1
     clear H1
     have H' := Aside0.mk H
     clear H
     have hcz33_0 : w5.cell? ⟨gb216, 0, none⟩ = some (.int .i64 a0_0) := (blk_cell BK216.out 0).trans rfl
     have hcz33_1 : w5.cell? ⟨gb216, 1, none⟩ = some (.slice A0_1 l0_1.length c0_1) := (blk_cell BK216.out 1).trans rfl
     have hcz33_2 : w5.cell? ⟨gb216, 2, none⟩ = some (.slice A0_2 l0_2.length c0_2) := (blk_cell BK216.out 2).trans rfl
     have hfz33_0 := blk_frozen BK216.out 0
     have hfz33_1 := blk_frozen BK216.out 1
     have hfz33_2 := blk_frozen BK216.out 2
     go_wp2_with (first | (go_at_call 9; (with_reducible refine (standstilllaw07_wide.calls k a0_0 _ _ l0_1 _ _ l0_2 _ _ l1 false _ ?side1 ?side2 ?side3 ?side4 ?side5 ?side6 A8.out).mono ?_); (case side1 => exact ck_ (Kd.C_below HR0_1.out HB.out)); (case side2 => exact HC0_1.out); (case side3 => exact ck_ (Kd.C_below HR0_2.out HB.out)); (case side4 => exact HC0_2.out); (case side5 => exact ck_ (Kd.C_below HR1.out HB.out)); (case side6 => exact HC1.out); rintro e w34 ⟨rfl, hb⟩; have n0_ := A_ (blk_below (pk_ BK216.out) hb); have n1_ := A_ (below_step (bk_ HB.out) hb); clear BK216 HB; have BK216 := n0_; have HB := n1_; clear n0_ n1_; (try clear hb); (try clear hb2); (try clear hk); (try clear hi); have hcz35_0 : w34.cell? ⟨gb216, 0, none⟩ = some (.int .i64 a0_0) := (blk_cell BK216.out 0).trans rfl; have hcz35_1 : w34.cell? ⟨gb216, 1, none⟩ = some (.slice A0_1 l0_1.length c0_1) := (blk_cell BK216.out 1).trans rfl; have hcz35_2 : w34.cell? ⟨gb216, 2, none⟩ = some (.slice A0_2 l0_2.length c0_2) := (blk_cell BK216.out 2).trans rfl; have hfz35_0 := blk_frozen BK216.out 0; have hfz35_1 := blk_frozen BK216.out 1; have hfz35_2 := blk_frozen BK216.out 2) | (go_at_call 10; (with_reducible refine (standstillref07_Fits.calls k a0_0 _ _ l0_1 _ _ l0_2 _ _ l1 false _ ?side1 ?side2 ?side3 ?side4 ?side5 ?side6 A12.out).mono ?_); (case side1 => exact ck_ (Kd.C_below HR0_1.out HB.out)); (case side2 => exact HC0_1.out); (case side3 => exact ck_ (Kd.C_below HR0_2.out HB.out)); (case side4 => exact HC0_2.out); (case side5 => exact ck_ (Kd.C_below HR1.out HB.out)); (case side6 => exact HC1.out); rintro e w36 ⟨rfl, hb⟩; have n0_ := A_ (blk_below (pk_ BK216.out) hb); have n1_ := A_ (below_step (bk_ HB.out) hb); clear BK216 HB; have BK216 := n0_; have HB := n1_; clear n0_ n1_; (try clear hb); (try clear hb2); (try clear hk); (try clear hi)))
     go_meet
     case rel => exact ⟨_, (true), jr_, H', ⟨by first | omega | exact Nat.le_refl _⟩, ⟨pk_ BK216.out⟩, ⟨bk_ HB.out⟩⟩
 case rest => as_aux_lemma =>
  clear HC4
  (try clear c1)
  obtain ⟨kq, x47_3, rfl, HA, HJ3, BK216, HB⟩ := hcut
  cases kq with
  | zero => exact absurd HA.out (by simp [standstilllaw07_TagCyclic.j0])
  | succ kj3 =>
   have H := HA.out
   clear HA
   simp only [standstilllaw07_TagCyclic.j0] at H
   by_cases c37 : x47_3 = true
   ·subst c37
    have H1 : ((standstilllaw07_awake.f kj3).bind fun t220 => (some t220)) = some r := by rw [if_pos rfl] at H; exact H
    clear H
    have H := H1
    clear H1
    replace H := Option.bind_eq_some_iff.mp H
    obtain ⟨t220, A380, H⟩ := H
    replace H : (some t220) = some r := H
    have A38 := Aside0.mk A380
    clear A380
    obtain rfl := Option.some.inj H
    go_wp2_with (first | ((with_reducible refine gate_callee (f := 11) rfl ?_); refine goesL_ (some 48) rfl rfl Try.func11 (by kernel_rfl) rfl #[] rfl gl_ ?_; (with_reducible refine (standstilllaw07_awake.calls kj3  t220 _ A38.out).mono ?_); rintro e w39 ⟨rfl, hb⟩; refine ⟨_, rfl, ?_⟩; have n0_ := A_ (blk_below (pk_ BK216.out) hb); have n1_ := A_ (below_step (bk_ HB.out) hb); clear BK216 HB; have BK216 := n0_; have HB := n1_; clear n0_ n1_; (try clear hb); (try clear hb2); (try clear hk); (try clear hi)))
    go_ret
    exact ⟨er_, bk_ HB.out⟩
   ·replace c37 := Bool.eq_false_iff.mpr c37
    subst c37
    have H1 : ((tag_ToCyclic.f kj3 a0_0 l0_1 l0_2).bind fun bt221 => ((tag_Bits.f kj3 a0_0 l0_1 l0_2 l1).bind fun bt226 => (if bt221.2 = 0 then (standstilllaw07_TagCyclic.j1 kj3 l1 a2 bt226.1 (bt226.2 != 0) a0_0 l0_1 l0_2 bt221.1) else (standstilllaw07_TagCyclic.j1 kj3 l1 a2 bt226.1 true a0_0 l0_1 l0_2 bt221.1)))) = some r := by rw [if_neg (show ¬ (false = true) by decide)] at H; exact H
    clear H
    have H := H1
    clear H1
    replace H := Option.bind_eq_some_iff.mp H
    obtain ⟨⟨t221, t224⟩, A400, H⟩ := H
    replace H : ((tag_Bits.f kj3 a0_0 l0_1 l0_2 l1).bind fun bt226 => (if t224 = 0 then (standstilllaw07_TagCyclic.j1 kj3 l1 a2 bt226.1 (bt226.2 != 0) a0_0 l0_1 l0_2 t221) else (standstilllaw07_TagCyclic.j1 kj3 l1 a2 bt226.1 true a0_0 l0_1 l0_2 t221))) = some r := H
    have A40 := Aside0.mk A400
    clear A400
    replace H := Option.bind_eq_some_iff.mp H
    obtain ⟨⟨t226, t229⟩, A410, H⟩ := H
    replace H : (if t224 = 0 then (standstilllaw07_TagCyclic.j1 kj3 l1 a2 t226 (t229 != 0) a0_0 l0_1 l0_2 t221) else (standstilllaw07_TagCyclic.j1 kj3 l1 a2 t226 true a0_0 l0_1 l0_2 t221)) = some r := H
    have A41 := Aside0.mk A410
    clear A410
    have HC42 := Aside0.mk H
    clear H
    have hcz43_0 : wc.cell? ⟨gb216, 0, none⟩ = some (.int .i64 a0_0) := (blk_cell BK216.out 0).trans rfl
    have hcz43_1 : wc.cell? ⟨gb216, 1, none⟩ = some (.slice A0_1 l0_1.length c0_1) := (blk_cell BK216.out 1).trans rfl
    have hcz43_2 : wc.cell? ⟨gb216, 2, none⟩ = some (.slice A0_2 l0_2.length c0_2) := (blk_cell BK216.out 2).trans rfl
    have hfz43_0 := blk_frozen BK216.out 0
    have hfz43_1 := blk_frozen BK216.out 1
    have hfz43_2 := blk_frozen BK216.out 2
    go_upto_region 5 with (first | ((with_reducible refine gate_callee (f := 35) rfl ?_); refine goesL_ (some 51) rfl rfl Try.func35 (by kernel_rfl) rfl #[.agg #[.int .i64 a0_0, .slice A0_1 l0_1.length c0_1, .slice A0_2 l0_2.length c0_2]] rfl gl_ ?_; (with_reducible refine (tag_ToCyclic.calls kj3 a0_0 _ _ l0_1 _ _ l0_2 t221 t224 _ ?side1 ?side2 ?side3 ?side4 A40.out).mono ?_); (case side1 => exact ck_ (Kd.C_below HR0_1.out HB.out)); (case side2 => exact HC0_1.out); (case side3 => exact ck_ (Kd.C_below HR0_2.out HB.out)); (case side4 => exact HC0_2.out); rintro e w44 ⟨v222, rfl, ho0, hb⟩; refine ⟨_, rfl, ?_⟩; have n0_ := A_ (Kd.S_lower ho0 (below_size (bk_ HB.out))); have n1_ := A_ (blk_below (pk_ BK216.out) hb); have n2_ := A_ (below_step (bk_ HB.out) hb); clear BK216 HB; have HO223 := n0_; have BK216 := n1_; have HB := n2_; clear n0_ n1_ n2_; (try clear hb); (try clear hb2); (try clear hk); (try clear hi); (try clear ho0)) | ((with_reducible refine gate_dst (N := 7) rfl ?_); (try (refine gate_guard (by rfl) ?_; dsimp only)); refine box_event ?hg (N := 7) ?hd (cs := #[.slice none 0 0]) (t := 45) ?hr ?_; (case hd => rfl); (case hg => rfl); (case hr => first | (go_simp; done) | (go_simp; rfl)); intro gb225 hg w45 hbox hb; have n0_ := A_ (Kd.S_below (by (with_reducible repeat (first | apply Kd.S_alloc | apply Kd.S_drewN | apply Kd.S_drew)); exact HO223.out) hb); have n1_ := A_ (blk_below (pk_ BK216.out) hb); have n2_ := A_ (below_step (bk_ HB.out) hb); have n3_ := A_ (hbox); have n4_ := A_ ((by rw [hg]; exact (below_size (bk_ HB.out)) : w.heap.size ≤ gb225)); have n5_ := A_ ((by rw [hg]; exact (below_size (bk_ HB.out)) : w.heap.size ≤ gb225)); have n6_ := A_ ((by rw [hg]; exact Nat.ne_of_lt (blk_lt (pk_ BK216.out)) : gb216 ≠ gb225)); have n7_ := A_ ((by rw [hg]; exact Nat.ne_of_gt (blk_lt (pk_ BK216.out)) : gb225 ≠ gb216)); clear HO223 BK216 HB; have HO223 := n0_; have BK216 := n1_; have HB := n2_; have BK225 := n3_; have GW225 := n4_; have GE225 := n5_; have NB216_225 := n6_; have NB225_216 := n7_; clear n0_ n1_ n2_ n3_ n4_ n5_ n6_ n7_ hb hbox hg; obtain ⟨Ao46, co46, eo46⟩ := Kd.S_slice HO223.out; subst eo46; have hnb47 := NB225_216.out; have hnc47 := NB216_225.out; have hcz48_0 : w45.cell? ⟨gb225, 0, none⟩ = some (.slice none 0 0) := (blk_cell BK225.out 0).trans rfl; have hfz48_0 := blk_frozen BK225.out 0; have hcz49_0 : w45.cell? ⟨gb216, 0, none⟩ = some (.int .i64 a0_0) := (blk_cell BK216.out 0).trans rfl; have hcz49_1 : w45.cell? ⟨gb216, 1, none⟩ = some (.slice A0_1 l0_1.length c0_1) := (blk_cell BK216.out 1).trans rfl; have hcz49_2 : w45.cell? ⟨gb216, 2, none⟩ = some (.slice A0_2 l0_2.length c0_2) := (blk_cell BK216.out 2).trans rfl; have hfz49_0 := blk_frozen BK216.out 0; have hfz49_1 := blk_frozen BK216.out 1; have hfz49_2 := blk_frozen BK216.out 2) | ((with_reducible refine gate_callee (f := 33) rfl ?_); refine goesL_ (some 57) rfl rfl Try.func33 (by kernel_rfl) rfl #[.agg #[.int .i64 a0_0, .slice A0_1 l0_1.length c0_1, .slice A0_2 l0_2.length c0_2], .slice A1 l1.length c1] rfl gl_ ?_; (with_reducible refine (tag_Bits.calls kj3 a0_0 _ _ l0_1 _ _ l0_2 _ _ l1 t226 t229 _ ?side1 ?side2 ?side3 ?side4 ?side5 ?side6 A41.out).mono ?_); (case side1 => exact Kd.C_below HR0_1.out (bk_ HB.out)); (case side2 => exact HC0_1.out); (case side3 => exact Kd.C_below HR0_2.out (bk_ HB.out)); (case side4 => exact HC0_2.out); (case side5 => exact Kd.C_below HR1.out (bk_ HB.out)); (case side6 => exact HC1.out); rintro e w50 ⟨v227, rfl, ho0, hb⟩; refine ⟨_, rfl, ?_⟩; have n0_ := A_ (Kd.S_elder' (by (with_reducible repeat (first | apply Kd.S_alloc | apply Kd.S_drewN | apply Kd.S_drew)); exact (Kd.S_mono (Kd.S_far (p := ⟨gb225, 0, none⟩) (Kd.S_types HO223.out BK225.out (by decide)) (fun _ hk => hk.2) (.slice Ao46 t221.length co46)) (fun _ h_ => h_.1))) (Kd.R_base ho0) hb); have n1_ := A_ (Kd.R_lower ho0 (below_size (bk_ HB.out))); have n2_ := A_ (blk_below (g := gb216) (o := .cells #[.int .i64 a0_0, .slice A0_1 l0_1.length c0_1, .slice A0_2 l0_2.length c0_2] 25 (0, 0)) (by refine pk_ ?_; refine blk_far ?_ NB216_225.out _; exact pk_ BK216.out) hb); have n3_ := A_ (blk_below (g := gb225) (o := .cells #[.slice Ao46 t221.length co46] 45 (0, 0)) (by refine pk_ ?_; refine blk_put (cs := #[.slice none 0 0]) ?_ 0 _ rfl; exact pk_ BK225.out) hb); have n4_ := A_ (below_step (bk_ HB.out) hb); clear HO223 BK216 BK225 HB; have HO223 := n0_; have HO228 := n1_; have BK216 := n2_; have BK225 := n3_; have HB := n4_; clear n0_ n1_ n2_ n3_ n4_; (try clear hb); (try clear hb2); (try clear hk); (try clear hi); (try clear ho0)))
    (try simp only [Act.put, List.setIfInBounds_toArray, List.set_cons_zero, List.set_cons_succ])
    go_cut [65] (fun v65 wc => ∃ (kq : Nat) (x65_41 : Bool), v65 = .bool x65_41 ∧ Aside0 (standstilllaw07_TagCyclic.j1 kq l1 a2 t226 x65_41 a0_0 l0_1 l0_2 t221 = some r) ∧ Aside0 (kq ≤ kj3) ∧ Aside0 (Kd.R (Kd.int .i64) 3 wc w.heap.size (fun _ => True) v227 t226) ∧ Aside0 (Kd.S (Kd.slice 3 (Kd.int .i64)) 26 wc w.heap.size (fun k_ => some k_ ≠ (v227 : Value).ownBlock) (.slice Ao46 t221.length co46) t221) ∧ Aside0 (wc.heap[gb216]? = some (.cells #[.int .i64 a0_0, (.slice A0_1 l0_1.length c0_1), (.slice A0_2 l0_2.length c0_2)] 25 (0, 0))) ∧ Aside0 (wc.heap[gb225]? = some (.cells #[(.slice Ao46 t221.length co46)] 45 (0, 0))) ∧ Aside0 (Below w.heap.size w wc))
    case first => as_aux_lemma =>
     have H := HC42.out
     clear HC42
     by_cases c51 : t224 = 0
     ·rw [if_pos c51] at H
      have c51b0 : (t224 == 0) = true := beq_iff_eq.mpr c51
      have c51b1 : (t224 != 0) = false := bne_eq_false_iff_eq.mpr c51
      clear c51
      (first | rw [c51b0] | (simp only [i64_w, i32_w]; rw [c51b0]) | skip)
      have H' := Aside0.mk H
      clear H
      go_wp2
      go_meet
      case rel => exact ⟨_, ((t229 != 0)), jr_, H', ⟨by have := HJ3.out; first | omega | exact Nat.le_refl _⟩, ⟨rk_ HO228.out⟩, ⟨by (with_reducible repeat (first | apply Kd.S_alloc | apply Kd.S_drewN | apply Kd.S_drew)); exact Kd.S_mono HO223.out (fun _ hk => hk.2)⟩, ⟨pk_ BK216.out⟩, ⟨pk_ BK225.out⟩, ⟨bk_ HB.out⟩⟩
     ·rw [if_neg c51] at H
      have c51b0 : (t224 == 0) = false := beq_eq_false_iff_ne.mpr c51
      have c51b1 : (t224 != 0) = true := bne_iff_ne.mpr c51
      (first | rw [c51b0] | (simp only [i64_w, i32_w]; rw [c51b0]) | skip)
      have H' := Aside0.mk H
      clear H
      go_wp2
      go_meet
      case rel => exact ⟨_, (true), jr_, H', ⟨by have := HJ3.out; first | omega | exact Nat.le_refl _⟩, ⟨rk_ HO228.out⟩, ⟨by (with_reducible repeat (first | apply Kd.S_alloc | apply Kd.S_drewN | apply Kd.S_drew)); exact Kd.S_mono HO223.out (fun _ hk => hk.2)⟩, ⟨pk_ BK216.out⟩, ⟨pk_ BK225.out⟩, ⟨bk_ HB.out⟩⟩
    case rest => as_aux_lemma =>
     clear HC42
     (try clear c1); (try clear c37); (try clear hcz43_0); (try clear hcz43_1); (try clear hcz43_2); (try clear hcz48_0); (try clear hcz49_0); (try clear hcz49_1); (try clear hcz49_2); (try clear hfz43_0); (try clear hfz43_1); (try clear hfz43_2); (try clear hfz48_0); (try clear hfz49_0); (try clear hfz49_1); (try clear hfz49_2)
     obtain ⟨kq, x65_41, rfl, HA, HJ41, HO_9, HO_226000, BK216, BK225, HB⟩ := hcut
     cases kq with
     | zero => exact absurd HA.out (by simp [standstilllaw07_TagCyclic.j1])
     | succ kj41 =>
      have H := HA.out
      clear HA
      simp only [standstilllaw07_TagCyclic.j1] at H
      by_cases c52 : x65_41 = true
      ·subst c52
       have H1 : (some false) = some r := by rw [if_pos rfl] at H; exact H
       clear H
       have H := H1
       clear H1
       obtain rfl := Option.some.inj H
       go_wp2
       go_ret
       exact ⟨er_, bk_ HB.out⟩
      ·replace c52 := Bool.eq_false_iff.mpr c52
       subst c52
       have H1 : ((tag_Run.f kj41 a0_0 l0_1 l0_2 l1 (wrap64 (a2))).bind fun bt230 => ((tag_Roll.f kj41 t221 0 t226 (wrap64 ((wrap64 (bt230.2.1 * a0_0)) * (l0_1.length : Int)))).bind fun bt235 => (if bt230.2.2 = 0 then (if bt235.2.2.2 = 0 then (if bt235.2.2.1 = (wrap64 ((wrap64 (bt230.2.1 * a0_0)) * (l0_1.length : Int))) then ((standstillref07_Fits.f kj41 a0_0 l0_1 l0_2 bt230.1).bind fun t242 => (standstilllaw07_TagCyclic.j2 kj41 a2 bt230.1 bt230.2.1 (!t242) a0_0 l0_1 l0_2 bt235.1 bt235.2.1)) else (standstilllaw07_TagCyclic.j2 kj41 a2 bt230.1 bt230.2.1 true a0_0 l0_1 l0_2 bt235.1 bt235.2.1)) else (standstilllaw07_TagCyclic.j2 kj41 a2 bt230.1 bt230.2.1 true a0_0 l0_1 l0_2 bt235.1 bt235.2.1)) else (standstilllaw07_TagCyclic.j2 kj41 a2 bt230.1 bt230.2.1 true a0_0 l0_1 l0_2 bt235.1 bt235.2.1)))) = some r := by rw [if_neg (show ¬ (false = true) by decide)] at H; exact H
       clear H
       have H := H1
       clear H1
       replace H := Option.bind_eq_some_iff.mp H
       obtain ⟨⟨t230, t233, t234⟩, A530, H⟩ := H
       replace H : ((tag_Roll.f kj41 t221 0 t226 (wrap64 ((wrap64 (t233 * a0_0)) * (l0_1.length : Int)))).bind fun bt235 => (if t234 = 0 then (if bt235.2.2.2 = 0 then (if bt235.2.2.1 = (wrap64 ((wrap64 (t233 * a0_0)) * (l0_1.length : Int))) then ((standstillref07_Fits.f kj41 a0_0 l0_1 l0_2 t230).bind fun t242 => (standstilllaw07_TagCyclic.j2 kj41 a2 t230 t233 (!t242) a0_0 l0_1 l0_2 bt235.1 bt235.2.1)) else (standstilllaw07_TagCyclic.j2 kj41 a2 t230 t233 true a0_0 l0_1 l0_2 bt235.1 bt235.2.1)) else (standstilllaw07_TagCyclic.j2 kj41 a2 t230 t233 true a0_0 l0_1 l0_2 bt235.1 bt235.2.1)) else (standstilllaw07_TagCyclic.j2 kj41 a2 t230 t233 true a0_0 l0_1 l0_2 bt235.1 bt235.2.1))) = some r := H
       have A53 := Aside0.mk A530
       clear A530
       replace H := Option.bind_eq_some_iff.mp H
       obtain ⟨⟨t235, t236, t239, t240⟩, A540, H⟩ := H
       replace H : (if t234 = 0 then (if t240 = 0 then (if t239 = (wrap64 ((wrap64 (t233 * a0_0)) * (l0_1.length : Int))) then ((standstillref07_Fits.f kj41 a0_0 l0_1 l0_2 t230).bind fun t242 => (standstilllaw07_TagCyclic.j2 kj41 a2 t230 t233 (!t242) a0_0 l0_1 l0_2 t235 t236)) else (standstilllaw07_TagCyclic.j2 kj41 a2 t230 t233 true a0_0 l0_1 l0_2 t235 t236)) else (standstilllaw07_TagCyclic.j2 kj41 a2 t230 t233 true a0_0 l0_1 l0_2 t235 t236)) else (standstilllaw07_TagCyclic.j2 kj41 a2 t230 t233 true a0_0 l0_1 l0_2 t235 t236)) = some r := H
       have A54 := Aside0.mk A540
       clear A540
       have HC55 := Aside0.mk H
       clear H
       have hnb56 := NB216_225.out
       have hnc56 := NB225_216.out
       have hcz57_0 : wc.cell? ⟨gb216, 0, none⟩ = some (.int .i64 a0_0) := (blk_cell BK216.out 0).trans rfl
       have hcz57_1 : wc.cell? ⟨gb216, 1, none⟩ = some (.slice A0_1 l0_1.length c0_1) := (blk_cell BK216.out 1).trans rfl
       have hcz57_2 : wc.cell? ⟨gb216, 2, none⟩ = some (.slice A0_2 l0_2.length c0_2) := (blk_cell BK216.out 2).trans rfl
       have hfz57_0 := blk_frozen BK216.out 0
       have hfz57_1 := blk_frozen BK216.out 1
       have hfz57_2 := blk_frozen BK216.out 2
       go_upto_region 9 with (first | ((with_reducible refine gate_callee (f := 13) rfl ?_); refine goesL_ (some 71) rfl rfl Try.func13 (by kernel_rfl) rfl #[.agg #[.int .i64 a0_0, .slice A0_1 l0_1.length c0_1, .slice A0_2 l0_2.length c0_2], .slice A1 l1.length c1, .int .i64 (wrap64 (a2))] rfl gl_ ?_; (with_reducible refine (tag_Run.calls kj41 a0_0 _ _ l0_1 _ _ l0_2 _ _ l1 (wrap64 (a2)) t230 t233 t234 _ ?side1 ?side2 ?side3 ?side4 ?side5 ?side6 A53.out).mono ?_); (case side1 => exact ck_ (Kd.C_below HR0_1.out HB.out)); (case side2 => exact HC0_1.out); (case side3 => exact ck_ (Kd.C_below HR0_2.out HB.out)); (case side4 => exact HC0_2.out); (case side5 => exact ck_ (Kd.C_below HR1.out HB.out)); (case side6 => exact HC1.out); rintro e w58 ⟨v231, rfl, ho0, hb⟩; refine ⟨_, rfl, ?_⟩; have n0_ := A_ (Kd.R_elder' (rk_ HO_9.out) (Kd.R_base ho0) hb); have n1_ := A_ (Kd.S_elder' (by (with_reducible repeat (first | apply Kd.S_alloc | apply Kd.S_drewN | apply Kd.S_drew)); exact HO_226000.out) (Kd.R_base ho0) hb); have n2_ := A_ (Kd.R_lower (Kd.R_new' ho0 (Kd.R_lt (rk_ HO_9.out))) (below_size (bk_ HB.out))); have n3_ := A_ (blk_below (pk_ BK216.out) hb); have n4_ := A_ (blk_below (pk_ BK225.out) hb); have n5_ := A_ (below_step (bk_ HB.out) hb); clear HO_9 HO_226000 BK216 BK225 HB; have HO_9 := n0_; have HO_226000 := n1_; have HO232 := n2_; have BK216 := n3_; have BK225 := n4_; have HB := n5_; clear n0_ n1_ n2_ n3_ n4_ n5_; (try clear hb); (try clear hb2); (try clear hk); (try clear hi); (try clear ho0); have hcz59_0 : w58.cell? ⟨gb225, 0, none⟩ = some (.slice Ao46 t221.length co46) := (blk_cell BK225.out 0).trans rfl; have hfz59_0 := blk_frozen BK225.out 0; obtain ⟨Ao60, co60, eo60⟩ := Kd.R_slice HO_9.out; subst eo60; have hcz61_0 : w58.cell? ⟨gb216, 0, none⟩ = some (.int .i64 a0_0) := (blk_cell BK216.out 0).trans rfl; have hcz61_1 : w58.cell? ⟨gb216, 1, none⟩ = some (.slice A0_1 l0_1.length c0_1) := (blk_cell BK216.out 1).trans rfl; have hcz61_2 : w58.cell? ⟨gb216, 2, none⟩ = some (.slice A0_2 l0_2.length c0_2) := (blk_cell BK216.out 2).trans rfl; have hfz61_0 := blk_frozen BK216.out 0; have hfz61_1 := blk_frozen BK216.out 1; have hfz61_2 := blk_frozen BK216.out 2) | ((with_reducible refine gate_callee (f := 29) rfl ?_); refine goesL_ (some 87) rfl rfl Try.func29 (by kernel_rfl) rfl #[.agg #[.slice Ao46 t221.length co46], .agg #[.int .i64 0, .slice Ao60 t226.length co60], .int .i64 (wrap64 ((wrap64 (t233 * a0_0)) * (l0_1.length : Int)))] rfl gl_ ?_; (with_reducible refine (tag_Roll.calls kj41 _ _ t221 0 _ _ t226 (wrap64 ((wrap64 (t233 * a0_0)) * (l0_1.length : Int))) t235 t236 t239 t240 _ ?side1 ?side2 ?side3 ?side4 A54.out).mono ?_); (case side1 => repeat (first | exact (Kd.S_reads' HO_226000.out).2.2 | (with_reducible refine Kd.C_alloc ?_ _) | (with_reducible refine Kd.C_drewN ?_ _) | (with_reducible refine Kd.C_drew ?_))); (case side2 => exact (Kd.S_reads' HO_226000.out).2.1); (case side3 => repeat (first | exact (Kd.R_reads' HO_9.out).2.2 | (with_reducible refine Kd.C_alloc ?_ _) | (with_reducible refine Kd.C_drewN ?_ _) | (with_reducible refine Kd.C_drew ?_))); (case side4 => exact (Kd.R_reads' HO_9.out).2.1); rintro e w62 ⟨v237, rfl, ho0, hb⟩; refine ⟨_, rfl, ?_⟩; have n0_ := A_ (Kd.R_elder' (rk_ HO_9.out) (Kd.R_base ho0) hb); have n1_ := A_ (Kd.S_elder' (by (with_reducible repeat (first | apply Kd.S_alloc | apply Kd.S_drewN | apply Kd.S_drew)); exact HO_226000.out) (Kd.R_base ho0) hb); have n2_ := A_ (Kd.R_elder' (rk_ HO232.out) (Kd.R_base ho0) hb); have n3_ := A_ (Kd.R_lower (Kd.R_new' (Kd.R_new' ho0 (Kd.R_lt (rk_ HO_9.out))) (Kd.R_lt (rk_ HO232.out))) (below_size (bk_ HB.out))); have n4_ := A_ (blk_below (pk_ BK216.out) hb); have n5_ := A_ (blk_below (pk_ BK225.out) hb); have n6_ := A_ (below_step (bk_ HB.out) hb); clear HO_9 HO_226000 HO232 BK216 BK225 HB; have HO_9 := n0_; have HO_226000 := n1_; have HO232 := n2_; have HO238 := n3_; have BK216 := n4_; have BK225 := n5_; have HB := n6_; clear n0_ n1_ n2_ n3_ n4_ n5_ n6_; (try clear hb); (try clear hb2); (try clear hk); (try clear hi); (try clear ho0)) | ((with_reducible refine gate_dst (N := 14) rfl ?_); (try (refine gate_guard (by rfl) ?_; dsimp only)); refine box_event ?hg (N := 14) ?hd (cs := #[.int .i64 0, .slice none 0 0]) (t := 47) ?hr ?_; (case hd => rfl); (case hg => rfl); (case hr => first | (go_simp; done) | (go_simp; rfl)); intro gb241 hg w63 hbox hb; have n0_ := A_ (Kd.R_below (rk_ HO_9.out) hb); have n1_ := A_ (Kd.S_below (by (with_reducible repeat (first | apply Kd.S_alloc | apply Kd.S_drewN | apply Kd.S_drew)); exact HO_226000.out) hb); have n2_ := A_ (Kd.R_below (rk_ HO232.out) hb); have n3_ := A_ (Kd.R_below (rk_ HO238.out) hb); have n4_ := A_ (blk_below (pk_ BK216.out) hb); have n5_ := A_ (blk_below (pk_ BK225.out) hb); have n6_ := A_ (below_step (bk_ HB.out) hb); have n7_ := A_ (hbox); have n8_ := A_ ((by rw [hg]; exact (below_size (bk_ HB.out)) : w.heap.size ≤ gb241)); have n9_ := A_ ((by rw [hg]; exact (below_size (bk_ HB.out)) : w.heap.size ≤ gb241)); have n10_ := A_ ((by rw [hg]; exact Nat.ne_of_lt (blk_lt (pk_ BK216.out)) : gb216 ≠ gb241)); have n11_ := A_ ((by rw [hg]; exact Nat.ne_of_gt (blk_lt (pk_ BK216.out)) : gb241 ≠ gb216)); have n12_ := A_ ((by rw [hg]; exact Nat.ne_of_lt (blk_lt (pk_ BK225.out)) : gb225 ≠ gb241)); have n13_ := A_ ((by rw [hg]; exact Nat.ne_of_gt (blk_lt (pk_ BK225.out)) : gb241 ≠ gb225)); clear HO_9 HO_226000 HO232 HO238 BK216 BK225 HB; have HO_9 := n0_; have HO_226000 := n1_; have HO232 := n2_; have HO238 := n3_; have BK216 := n4_; have BK225 := n5_; have HB := n6_; have BK241 := n7_; have GW241 := n8_; have GE241 := n9_; have NB216_241 := n10_; have NB241_216 := n11_; have NB225_241 := n12_; have NB241_225 := n13_; clear n0_ n1_ n2_ n3_ n4_ n5_ n6_ n7_ n8_ n9_ n10_ n11_ n12_ n13_ hb hbox hg; have hnb64 := NB241_216.out; have hnc64 := NB216_241.out; have hnb65 := NB241_225.out; have hnc65 := NB225_241.out; have hcz66_0 : w63.cell? ⟨gb241, 0, none⟩ = some (.int .i64 0) := (blk_cell BK241.out 0).trans rfl; have hcz66_1 : w63.cell? ⟨gb241, 1, none⟩ = some (.slice none 0 0) := (blk_cell BK241.out 1).trans rfl; have hfz66_0 := blk_frozen BK241.out 0; have hfz66_1 := blk_frozen BK241.out 1; obtain ⟨Ao67, co67, eo67⟩ := Kd.R_slice HO238.out; subst eo67))
       (try simp only [Act.put, List.setIfInBounds_toArray, List.set_cons_zero, List.set_cons_succ])
       go_cut [114] (fun v114 wc => ∃ (kq : Nat) (x114_54 : Bool), v114 = .bool x114_54 ∧ Aside0 (standstilllaw07_TagCyclic.j2 kq a2 t230 t233 x114_54 a0_0 l0_1 l0_2 t235 t236 = some r) ∧ Aside0 (kq ≤ kj41) ∧ Aside0 (Kd.R (Kd.int .i64) 3 wc w.heap.size (fun k_ => some k_ ≠ ((.slice Ao67 t236.length co67) : Value).ownBlock) v231 t230) ∧ Aside0 (Kd.S (Kd.slice 3 (Kd.int .i64)) 26 wc w.heap.size (fun k_ => some k_ ≠ (v231 : Value).ownBlock ∧ some k_ ≠ ((.slice Ao67 t236.length co67) : Value).ownBlock) (.slice Ao46 t221.length co46) t221) ∧ Aside0 (Kd.R (Kd.int .i64) 3 wc w.heap.size (fun k_ => some k_ ≠ (v231 : Value).ownBlock) (.slice Ao67 t236.length co67) t236) ∧ Aside0 (wc.heap[gb216]? = some (.cells #[.int .i64 a0_0, (.slice A0_1 l0_1.length c0_1), (.slice A0_2 l0_2.length c0_2)] 25 (0, 0))) ∧ Aside0 (wc.heap[gb225]? = some (.cells #[(.slice Ao46 t221.length co46)] 45 (0, 0))) ∧ Aside0 (wc.heap[gb241]? = some (.cells #[.int .i64 t235, (.slice Ao67 t236.length co67)] 47 (0, 0))) ∧ Aside0 (Below w.heap.size w wc))
       case first => as_aux_lemma =>
        have H := HC55.out
        clear HC55
        by_cases c68 : t234 = 0
        ·rw [if_pos c68] at H
         have c68b0 : (t234 == 0) = true := beq_iff_eq.mpr c68
         have c68b1 : (t234 != 0) = false := bne_eq_false_iff_eq.mpr c68
         clear c68
         (first | rw [c68b0] | (simp only [i64_w, i32_w]; rw [c68b0]) | skip)
         by_cases c69 : t240 = 0
         ·rw [if_pos c69] at H
          have c69b0 : (t240 == 0) = true := beq_iff_eq.mpr c69
          have c69b1 : (t240 != 0) = false := bne_eq_false_iff_eq.mpr c69
          clear c69
          by_cases c70 : t239 = (wrap64 ((wrap64 (t233 * a0_0)) * (l0_1.length : Int)))
          ·rw [if_pos c70] at H
           have c70b0 : (t239 == (wrap64 ((wrap64 (t233 * a0_0)) * (l0_1.length : Int)))) = true := beq_iff_eq.mpr c70
           have c70b1 : (t239 != (wrap64 ((wrap64 (t233 * a0_0)) * (l0_1.length : Int)))) = false := bne_eq_false_iff_eq.mpr c70
           clear c70
           replace H := Option.bind_eq_some_iff.mp H
           obtain ⟨t242, A710, H⟩ := H
           replace H : (standstilllaw07_TagCyclic.j2 kj41 a2 t230 t233 (!t242) a0_0 l0_1 l0_2 t235 t236) = some r := H
           have A71 := Aside0.mk A710
           clear A710
           have H' := Aside0.mk H
           clear H
           have hnb72 := NB216_225.out
           have hnc72 := NB225_216.out
           have hnb73 := NB216_241.out
           have hnc73 := NB241_216.out
           have hcz74_0 : w63.cell? ⟨gb216, 0, none⟩ = some (.int .i64 a0_0) := (blk_cell BK216.out 0).trans rfl
           have hcz74_1 : w63.cell? ⟨gb216, 1, none⟩ = some (.slice A0_1 l0_1.length c0_1) := (blk_cell BK216.out 1).trans rfl
           have hcz74_2 : w63.cell? ⟨gb216, 2, none⟩ = some (.slice A0_2 l0_2.length c0_2) := (blk_cell BK216.out 2).trans rfl
           have hfz74_0 := blk_frozen BK216.out 0
           have hfz74_1 := blk_frozen BK216.out 1
           have hfz74_2 := blk_frozen BK216.out 2
           obtain ⟨Ao75, co75, eo75⟩ := Kd.R_slice HO232.out
           subst eo75
           go_wp2_with (first | (go_at_call 10; (with_reducible refine (standstillref07_Fits.calls kj41 a0_0 _ _ l0_1 _ _ l0_2 _ _ t230 t242 _ ?side1 ?side2 ?side3 ?side4 ?side5 ?side6 A71.out).mono ?_); (case side1 => exact Kd.C_below HR0_1.out (bk_ HB.out)); (case side2 => exact HC0_1.out); (case side3 => exact Kd.C_below HR0_2.out (bk_ HB.out)); (case side4 => exact HC0_2.out); (case side5 => refine (Kd.R_reads' (e := 3) (base := w.heap.size) (ok := fun k_ => ((True ∧ some k_ ≠ (.slice Ao60 t226.length co60 : Value).ownBlock) ∧ some k_ ≠ (.slice Ao67 t236.length co67 : Value).ownBlock)) (n := t230.length) (c := co75) ?_).2.2; exact (by (with_reducible repeat (first | apply Kd.R_alloc | apply Kd.R_drewN | apply Kd.R_drew)); exact (Kd.R_mono (Kd.R_far (p := ⟨gb241, 1, none⟩) (Kd.R_far (p := ⟨gb241, 0, none⟩) (Kd.R_types HO232.out BK241.out (by decide)) (fun _ hk => hk.2) (.int .i64 t235)) (fun _ hk => hk.2) (.slice Ao67 t236.length co67)) (fun _ h_ => h_.1)))); (case side6 => exact (Kd.R_reads' HO232.out).2.1); rintro e w76 ⟨rfl, hb⟩; have n0_ := A_ (Kd.R_below (by (with_reducible repeat (first | apply Kd.R_alloc | apply Kd.R_drewN | apply Kd.R_drew)); exact (Kd.R_mono (Kd.R_far (p := ⟨gb241, 1, none⟩) (Kd.R_far (p := ⟨gb241, 0, none⟩) (Kd.R_types HO_9.out BK241.out (by decide)) (fun _ hk => hk.2) (.int .i64 t235)) (fun _ hk => hk.2) (.slice Ao67 t236.length co67)) (fun _ h_ => h_.1))) hb); have n1_ := A_ (Kd.S_below (by (with_reducible repeat (first | apply Kd.S_alloc | apply Kd.S_drewN | apply Kd.S_drew)); exact (Kd.S_mono (Kd.S_far (p := ⟨gb241, 1, none⟩) (Kd.S_far (p := ⟨gb241, 0, none⟩) (Kd.S_types HO_226000.out BK241.out (by decide)) (fun _ hk => hk.2) (.int .i64 t235)) (fun _ hk => hk.2) (.slice Ao67 t236.length co67)) (fun _ h_ => h_.1))) hb); have n2_ := A_ (Kd.R_below (by (with_reducible repeat (first | apply Kd.R_alloc | apply Kd.R_drewN | apply Kd.R_drew)); exact (Kd.R_mono (Kd.R_far (p := ⟨gb241, 1, none⟩) (Kd.R_far (p := ⟨gb241, 0, none⟩) (Kd.R_types HO232.out BK241.out (by decide)) (fun _ hk => hk.2) (.int .i64 t235)) (fun _ hk => hk.2) (.slice Ao67 t236.length co67)) (fun _ h_ => h_.1))) hb); have n3_ := A_ (Kd.R_below (by (with_reducible repeat (first | apply Kd.R_alloc | apply Kd.R_drewN | apply Kd.R_drew)); exact (Kd.R_mono (Kd.R_far (p := ⟨gb241, 1, none⟩) (Kd.R_far (p := ⟨gb241, 0, none⟩) (Kd.R_types HO238.out BK241.out (by decide)) (fun _ hk => hk.2) (.int .i64 t235)) (fun _ hk => hk.2) (.slice Ao67 t236.length co67)) (fun _ h_ => h_.1))) hb); have n4_ := A_ (blk_below (g := gb216) (o := .cells #[.int .i64 a0_0, .slice A0_1 l0_1.length c0_1, .slice A0_2 l0_2.length c0_2] 25 (0, 0)) (by refine pk_ ?_; refine blk_far ?_ NB216_241.out _; refine pk_ ?_; refine blk_far ?_ NB216_241.out _; exact pk_ BK216.out) hb); have n5_ := A_ (blk_below (g := gb225) (o := .cells #[.slice Ao46 t221.length co46] 45 (0, 0)) (by refine pk_ ?_; refine blk_far ?_ NB225_241.out _; refine pk_ ?_; refine blk_far ?_ NB225_241.out _; exact pk_ BK225.out) hb); have n6_ := A_ (blk_below (g := gb241) (o := .cells #[.int .i64 t235, .slice Ao67 t236.length co67] 47 (0, 0)) (by refine pk_ ?_; refine blk_put (cs := #[.int .i64 t235, .slice none 0 0]) ?_ 1 _ rfl; refine pk_ ?_; refine blk_put (cs := #[.int .i64 0, .slice none 0 0]) ?_ 0 _ rfl; exact pk_ BK241.out) hb); have n7_ := A_ (below_step (bk_ HB.out) hb); clear HO_9 HO_226000 HO232 HO238 BK216 BK225 BK241 HB; have HO_9 := n0_; have HO_226000 := n1_; have HO232 := n2_; have HO238 := n3_; have BK216 := n4_; have BK225 := n5_; have BK241 := n6_; have HB := n7_; clear n0_ n1_ n2_ n3_ n4_ n5_ n6_ n7_; (try clear hb); (try clear hb2); (try clear hk); (try clear hi)))
           go_meet
           case rel => exact ⟨_, (!t242), jr_, H', ⟨by have := HJ3.out; have := HJ41.out; first | omega | exact Nat.le_refl _⟩, ⟨by (with_reducible repeat (first | apply Kd.R_alloc | apply Kd.R_drewN | apply Kd.R_drew)); exact Kd.R_mono HO232.out (fun _ hk => hk.2)⟩, ⟨by (with_reducible repeat (first | apply Kd.S_alloc | apply Kd.S_drewN | apply Kd.S_drew)); exact Kd.S_mono HO_226000.out (fun _ hk => ⟨hk.1.2, hk.2⟩)⟩, ⟨by (with_reducible repeat (first | apply Kd.R_alloc | apply Kd.R_drewN | apply Kd.R_drew)); exact Kd.R_mono HO238.out (fun _ hk => hk.2)⟩, ⟨pk_ BK216.out⟩, ⟨pk_ BK225.out⟩, ⟨pk_ BK241.out⟩, ⟨bk_ HB.out⟩⟩
          ·rw [if_neg c70] at H
           have c70b0 : (t239 == (wrap64 ((wrap64 (t233 * a0_0)) * (l0_1.length : Int)))) = false := beq_eq_false_iff_ne.mpr c70
           have c70b1 : (t239 != (wrap64 ((wrap64 (t233 * a0_0)) * (l0_1.length : Int)))) = true := bne_iff_ne.mpr c70
           have H' := Aside0.mk H
           clear H
           have hnb77 := NB216_225.out
           have hnc77 := NB225_216.out
           have hnb78 := NB216_241.out
           have hnc78 := NB241_216.out
           have hcz79_0 : w63.cell? ⟨gb216, 0, none⟩ = some (.int .i64 a0_0) := (blk_cell BK216.out 0).trans rfl
           have hcz79_1 : w63.cell? ⟨gb216, 1, none⟩ = some (.slice A0_1 l0_1.length c0_1) := (blk_cell BK216.out 1).trans rfl
           have hcz79_2 : w63.cell? ⟨gb216, 2, none⟩ = some (.slice A0_2 l0_2.length c0_2) := (blk_cell BK216.out 2).trans rfl
           have hfz79_0 := blk_frozen BK216.out 0
           have hfz79_1 := blk_frozen BK216.out 1
           have hfz79_2 := blk_frozen BK216.out 2
           go_wp2
           go_meet
           case rel => exact ⟨_, (true), jr_, H', ⟨by have := HJ3.out; have := HJ41.out; first | omega | exact Nat.le_refl _⟩, ⟨by (with_reducible repeat (first | apply Kd.R_alloc | apply Kd.R_drewN | apply Kd.R_drew)); exact Kd.R_mono (Kd.R_far (p := ⟨gb241, 1, none⟩) (Kd.R_far (p := ⟨gb241, 0, none⟩) (Kd.R_types HO232.out BK241.out (by decide)) (fun _ hk => hk.2) (.int .i64 t235)) (fun _ hk => hk.2) (.slice Ao67 t236.length co67)) (fun _ hk => hk.1.2)⟩, ⟨by (with_reducible repeat (first | apply Kd.S_alloc | apply Kd.S_drewN | apply Kd.S_drew)); exact Kd.S_mono (Kd.S_far (p := ⟨gb241, 1, none⟩) (Kd.S_far (p := ⟨gb241, 0, none⟩) (Kd.S_types HO_226000.out BK241.out (by decide)) (fun _ hk => hk.2) (.int .i64 t235)) (fun _ hk => hk.2) (.slice Ao67 t236.length co67)) (fun _ hk => ⟨hk.1.1.2, hk.1.2⟩)⟩, ⟨by (with_reducible repeat (first | apply Kd.R_alloc | apply Kd.R_drewN | apply Kd.R_drew)); exact Kd.R_mono (Kd.R_far (p := ⟨gb241, 1, none⟩) (Kd.R_far (p := ⟨gb241, 0, none⟩) (Kd.R_types HO238.out BK241.out (by decide)) (fun _ hk => hk.2) (.int .i64 t235)) (fun _ hk => hk.2) (.slice Ao67 t236.length co67)) (fun _ hk => hk.1.2)⟩, ⟨by refine pk_ ?_; refine blk_far ?_ NB216_241.out _; refine pk_ ?_; refine blk_far ?_ NB216_241.out _; exact pk_ BK216.out⟩, ⟨by refine pk_ ?_; refine blk_far ?_ NB225_241.out _; refine pk_ ?_; refine blk_far ?_ NB225_241.out _; exact pk_ BK225.out⟩, ⟨by refine pk_ ?_; refine blk_put (cs := #[.int .i64 t235, .slice none 0 0]) ?_ 1 _ rfl; refine pk_ ?_; refine blk_put (cs := #[.int .i64 0, .slice none 0 0]) ?_ 0 _ rfl; exact pk_ BK241.out⟩, ⟨bk_ HB.out⟩⟩
         ·rw [if_neg c69] at H
          have c69b0 : (t240 == 0) = false := beq_eq_false_iff_ne.mpr c69
          have c69b1 : (t240 != 0) = true := bne_iff_ne.mpr c69
          have H' := Aside0.mk H
          clear H
          go_wp2
          go_meet
          case rel => exact ⟨_, (true), jr_, H', ⟨by have := HJ3.out; have := HJ41.out; first | omega | exact Nat.le_refl _⟩, ⟨by (with_reducible repeat (first | apply Kd.R_alloc | apply Kd.R_drewN | apply Kd.R_drew)); exact Kd.R_mono (Kd.R_far (p := ⟨gb241, 1, none⟩) (Kd.R_far (p := ⟨gb241, 0, none⟩) (Kd.R_types HO232.out BK241.out (by decide)) (fun _ hk => hk.2) (.int .i64 t235)) (fun _ hk => hk.2) (.slice Ao67 t236.length co67)) (fun _ hk => hk.1.2)⟩, ⟨by (with_reducible repeat (first | apply Kd.S_alloc | apply Kd.S_drewN | apply Kd.S_drew)); exact Kd.S_mono (Kd.S_far (p := ⟨gb241, 1, none⟩) (Kd.S_far (p := ⟨gb241, 0, none⟩) (Kd.S_types HO_226000.out BK241.out (by decide)) (fun _ hk => hk.2) (.int .i64 t235)) (fun _ hk => hk.2) (.slice Ao67 t236.length co67)) (fun _ hk => ⟨hk.1.1.2, hk.1.2⟩)⟩, ⟨by (with_reducible repeat (first | apply Kd.R_alloc | apply Kd.R_drewN | apply Kd.R_drew)); exact Kd.R_mono (Kd.R_far (p := ⟨gb241, 1, none⟩) (Kd.R_far (p := ⟨gb241, 0, none⟩) (Kd.R_types HO238.out BK241.out (by decide)) (fun _ hk => hk.2) (.int .i64 t235)) (fun _ hk => hk.2) (.slice Ao67 t236.length co67)) (fun _ hk => hk.1.2)⟩, ⟨by refine pk_ ?_; refine blk_far ?_ NB216_241.out _; refine pk_ ?_; refine blk_far ?_ NB216_241.out _; exact pk_ BK216.out⟩, ⟨by refine pk_ ?_; refine blk_far ?_ NB225_241.out _; refine pk_ ?_; refine blk_far ?_ NB225_241.out _; exact pk_ BK225.out⟩, ⟨by refine pk_ ?_; refine blk_put (cs := #[.int .i64 t235, .slice none 0 0]) ?_ 1 _ rfl; refine pk_ ?_; refine blk_put (cs := #[.int .i64 0, .slice none 0 0]) ?_ 0 _ rfl; exact pk_ BK241.out⟩, ⟨bk_ HB.out⟩⟩
        ·rw [if_neg c68] at H
         have c68b0 : (t234 == 0) = false := beq_eq_false_iff_ne.mpr c68
         have c68b1 : (t234 != 0) = true := bne_iff_ne.mpr c68
         (first | rw [c68b0] | (simp only [i64_w, i32_w]; rw [c68b0]) | skip)
         have H' := Aside0.mk H
         clear H
         go_wp2
         go_meet
         case rel => exact ⟨_, (true), jr_, H', ⟨by have := HJ3.out; have := HJ41.out; first | omega | exact Nat.le_refl _⟩, ⟨by (with_reducible repeat (first | apply Kd.R_alloc | apply Kd.R_drewN | apply Kd.R_drew)); exact Kd.R_mono (Kd.R_far (p := ⟨gb241, 1, none⟩) (Kd.R_far (p := ⟨gb241, 0, none⟩) (Kd.R_types HO232.out BK241.out (by decide)) (fun _ hk => hk.2) (.int .i64 t235)) (fun _ hk => hk.2) (.slice Ao67 t236.length co67)) (fun _ hk => hk.1.2)⟩, ⟨by (with_reducible repeat (first | apply Kd.S_alloc | apply Kd.S_drewN | apply Kd.S_drew)); exact Kd.S_mono (Kd.S_far (p := ⟨gb241, 1, none⟩) (Kd.S_far (p := ⟨gb241, 0, none⟩) (Kd.S_types HO_226000.out BK241.out (by decide)) (fun _ hk => hk.2) (.int .i64 t235)) (fun _ hk => hk.2) (.slice Ao67 t236.length co67)) (fun _ hk => ⟨hk.1.1.2, hk.1.2⟩)⟩, ⟨by (with_reducible repeat (first | apply Kd.R_alloc | apply Kd.R_drewN | apply Kd.R_drew)); exact Kd.R_mono (Kd.R_far (p := ⟨gb241, 1, none⟩) (Kd.R_far (p := ⟨gb241, 0, none⟩) (Kd.R_types HO238.out BK241.out (by decide)) (fun _ hk => hk.2) (.int .i64 t235)) (fun _ hk => hk.2) (.slice Ao67 t236.length co67)) (fun _ hk => hk.1.2)⟩, ⟨by refine pk_ ?_; refine blk_far ?_ NB216_241.out _; refine pk_ ?_; refine blk_far ?_ NB216_241.out _; exact pk_ BK216.out⟩, ⟨by refine pk_ ?_; refine blk_far ?_ NB225_241.out _; refine pk_ ?_; refine blk_far ?_ NB225_241.out _; exact pk_ BK225.out⟩, ⟨by refine pk_ ?_; refine blk_put (cs := #[.int .i64 t235, .slice none 0 0]) ?_ 1 _ rfl; refine pk_ ?_; refine blk_put (cs := #[.int .i64 0, .slice none 0 0]) ?_ 0 _ rfl; exact pk_ BK241.out⟩, ⟨bk_ HB.out⟩⟩
       case rest => as_aux_lemma =>
        clear HC55
        (try clear c1); (try clear c37); (try clear c52); (try clear hcz43_0); (try clear hcz43_1); (try clear hcz43_2); (try clear hcz48_0); (try clear hcz49_0); (try clear hcz49_1); (try clear hcz49_2); (try clear hcz57_0); (try clear hcz57_1); (try clear hcz57_2); (try clear hcz59_0); (try clear hcz61_0); (try clear hcz61_1); (try clear hcz61_2); (try clear hcz66_0); (try clear hcz66_1); (try clear hfz43_0); (try clear hfz43_1); (try clear hfz43_2); (try clear hfz48_0); (try clear hfz49_0); (try clear hfz49_1); (try clear hfz49_2); (try clear hfz57_0); (try clear hfz57_1); (try clear hfz57_2); (try clear hfz59_0); (try clear hfz61_0); (try clear hfz61_1); (try clear hfz61_2); (try clear hfz66_0); (try clear hfz66_1)
        obtain ⟨kq, x114_54, rfl, HA, HJ54, HO_11, HO_226000, HO_242001, BK216, BK225, BK241, HB⟩ := hcut
        cases kq with
        | zero => exact absurd HA.out (by simp [standstilllaw07_TagCyclic.j2])
        | succ kj54 =>
         have H := HA.out
         clear HA
         simp only [standstilllaw07_TagCyclic.j2] at H
         by_cases c80 : x114_54 = true
         ·subst c80
          have H1 : (some false) = some r := by rw [if_pos rfl] at H; exact H
          clear H
          have H := H1
          clear H1
          obtain rfl := Option.some.inj H
          go_wp2
          go_ret
          exact ⟨er_, bk_ HB.out⟩
         ·replace c80 := Bool.eq_false_iff.mpr c80
          subst c80
          have H1 : ((tag_Bits.f kj54 a0_0 l0_1 l0_2 t230).bind fun bt243 => (if bt243.2 = 0 then ((standstillref07_SameWheel.f kj54 t235 t236 0 bt243.1).bind fun t247 => (if t247 = true then (if t233 = (wrap64 (a2)) then ((standstilllaw07_awake.f kj54).bind fun t248 => (some t248)) else (if (t230.length : Int) < a0_0 then ((standstilllaw07_awake.f kj54).bind fun t249 => (some t249)) else (if 0 < (t230.length : Int) then (if 0 ≤ (rd t230 0) then (if (rd t230 0) < (l0_2.length : Int) then (if rdOf false l0_2 (rd t230 0) = true then ((standstilllaw07_awake.f kj54).bind fun t252 => (some t252)) else (some false)) else (none)) else (none)) else (none)))) else (some false))) else (some false))) = some r := by rw [if_neg (show ¬ (false = true) by decide)] at H; exact H
          clear H
          have H := H1
          clear H1
          replace H := Option.bind_eq_some_iff.mp H
          obtain ⟨⟨t243, t246⟩, A810, H⟩ := H
          replace H : (if t246 = 0 then ((standstillref07_SameWheel.f kj54 t235 t236 0 t243).bind fun t247 => (if t247 = true then (if t233 = (wrap64 (a2)) then ((standstilllaw07_awake.f kj54).bind fun t248 => (some t248)) else (if (t230.length : Int) < a0_0 then ((standstilllaw07_awake.f kj54).bind fun t249 => (some t249)) else (if 0 < (t230.length : Int) then (if 0 ≤ (rd t230 0) then (if (rd t230 0) < (l0_2.length : Int) then (if rdOf false l0_2 (rd t230 0) = true then ((standstilllaw07_awake.f kj54).bind fun t252 => (some t252)) else (some false)) else (none)) else (none)) else (none)))) else (some false))) else (some false)) = some r := H
          have A81 := Aside0.mk A810
          clear A810
          by_cases c82 : t246 = 0
          ·rw [if_pos c82] at H
           have c82b0 : (t246 == 0) = true := beq_iff_eq.mpr c82
           have c82b1 : (t246 != 0) = false := bne_eq_false_iff_eq.mpr c82
           clear c82
           replace H := Option.bind_eq_some_iff.mp H
           obtain ⟨t247, A830, H⟩ := H
           replace H : (if t247 = true then (if t233 = (wrap64 (a2)) then ((standstilllaw07_awake.f kj54).bind fun t248 => (some t248)) else (if (t230.length : Int) < a0_0 then ((standstilllaw07_awake.f kj54).bind fun t249 => (some t249)) else (if 0 < (t230.length : Int) then (if 0 ≤ (rd t230 0) then (if (rd t230 0) < (l0_2.length : Int) then (if rdOf false l0_2 (rd t230 0) = true then ((standstilllaw07_awake.f kj54).bind fun t252 => (some t252)) else (some false)) else (none)) else (none)) else (none)))) else (some false)) = some r := H
           have A83 := Aside0.mk A830
           clear A830
           by_cases c84 : t247 = true
           ·subst c84
            have H1 : (if t233 = (wrap64 (a2)) then ((standstilllaw07_awake.f kj54).bind fun t248 => (some t248)) else (if (t230.length : Int) < a0_0 then ((standstilllaw07_awake.f kj54).bind fun t249 => (some t249)) else (if 0 < (t230.length : Int) then (if 0 ≤ (rd t230 0) then (if (rd t230 0) < (l0_2.length : Int) then (if rdOf false l0_2 (rd t230 0) = true then ((standstilllaw07_awake.f kj54).bind fun t252 => (some t252)) else (some false)) else (none)) else (none)) else (none)))) = some r := by rw [if_pos rfl] at H; exact H
            clear H
            have H := H1
            clear H1
            by_cases c85 : t233 = (wrap64 (a2))
            ·rw [if_pos c85] at H
             have c85b0 : (t233 == (wrap64 (a2))) = true := beq_iff_eq.mpr c85
             have c85b1 : (t233 != (wrap64 (a2))) = false := bne_eq_false_iff_eq.mpr c85
             clear c85
             replace H := Option.bind_eq_some_iff.mp H
             obtain ⟨t248, A860, H⟩ := H
             replace H : (some t248) = some r := H
             have A86 := Aside0.mk A860
             clear A860
             obtain rfl := Option.some.inj H
             have hnb87 := NB216_225.out
             have hnc87 := NB225_216.out
             have hnb88 := NB216_241.out
             have hnc88 := NB241_216.out
             have hcz89_0 : wc.cell? ⟨gb216, 0, none⟩ = some (.int .i64 a0_0) := (blk_cell BK216.out 0).trans rfl
             have hcz89_1 : wc.cell? ⟨gb216, 1, none⟩ = some (.slice A0_1 l0_1.length c0_1) := (blk_cell BK216.out 1).trans rfl
             have hcz89_2 : wc.cell? ⟨gb216, 2, none⟩ = some (.slice A0_2 l0_2.length c0_2) := (blk_cell BK216.out 2).trans rfl
             have hfz89_0 := blk_frozen BK216.out 0
             have hfz89_1 := blk_frozen BK216.out 1
             have hfz89_2 := blk_frozen BK216.out 2
             obtain ⟨Ao90, co90, eo90⟩ := Kd.R_slice HO_11.out
             subst eo90
             try go_wp2_with (first | ((with_reducible refine gate_callee (f := 33) rfl ?_); refine goesL_ (some 118) rfl rfl Try.func33 (by kernel_rfl) rfl #[.agg #[.int .i64 a0_0, .slice A0_1 l0_1.length c0_1, .slice A0_2 l0_2.length c0_2], .slice Ao90 t230.length co90] rfl gl_ ?_; (with_reducible refine (tag_Bits.calls kj54 a0_0 _ _ l0_1 _ _ l0_2 _ _ t230 t243 t246 _ ?side1 ?side2 ?side3 ?side4 ?side5 ?side6 A81.out).mono ?_); (case side1 => exact ck_ (Kd.C_below HR0_1.out HB.out)); (case side2 => exact HC0_1.out); (case side3 => exact ck_ (Kd.C_below HR0_2.out HB.out)); (case side4 => exact HC0_2.out); (case side5 => repeat (first | exact (Kd.R_reads' HO_11.out).2.2 | (with_reducible refine Kd.C_alloc ?_ _) | (with_reducible refine Kd.C_drewN ?_ _) | (with_reducible refine Kd.C_drew ?_))); (case side6 => exact (Kd.R_reads' HO_11.out).2.1); rintro e w91 ⟨v244, rfl, ho0, hb⟩; refine ⟨_, rfl, ?_⟩; have n0_ := A_ (Kd.R_elder' (rk_ HO_11.out) (Kd.R_base ho0) hb); have n1_ := A_ (Kd.S_elder' (by (with_reducible repeat (first | apply Kd.S_alloc | apply Kd.S_drewN | apply Kd.S_drew)); exact HO_226000.out) (Kd.R_base ho0) hb); have n2_ := A_ (Kd.R_elder' (rk_ HO_242001.out) (Kd.R_base ho0) hb); have n3_ := A_ (Kd.R_lower (Kd.R_new' (Kd.R_new' ho0 (Kd.R_lt (rk_ HO_11.out))) (Kd.R_lt (rk_ HO_242001.out))) (below_size (bk_ HB.out))); have n4_ := A_ (blk_below (pk_ BK216.out) hb); have n5_ := A_ (blk_below (pk_ BK225.out) hb); have n6_ := A_ (blk_below (pk_ BK241.out) hb); have n7_ := A_ (below_step (bk_ HB.out) hb); clear HO_11 HO_226000 HO_242001 BK216 BK225 BK241 HB; have HO_11 := n0_; have HO_226000 := n1_; have HO_242001 := n2_; have HO245 := n3_; have BK216 := n4_; have BK225 := n5_; have BK241 := n6_; have HB := n7_; clear n0_ n1_ n2_ n3_ n4_ n5_ n6_ n7_; (try clear hb); (try clear hb2); (try clear hk); (try clear hi); (try clear ho0); have hnb92 := NB241_225.out; have hnc92 := NB225_241.out; have hcz93_0 : w91.cell? ⟨gb241, 0, none⟩ = some (.int .i64 t235) := (blk_cell BK241.out 0).trans rfl; have hcz93_1 : w91.cell? ⟨gb241, 1, none⟩ = some (.slice Ao67 t236.length co67) := (blk_cell BK241.out 1).trans rfl; have hfz93_0 := blk_frozen BK241.out 0; have hfz93_1 := blk_frozen BK241.out 1; obtain ⟨Ao94, co94, eo94⟩ := Kd.R_slice HO245.out; subst eo94) | (go_at_call 30; (with_reducible refine (standstillref07_SameWheel.calls kj54 t235 _ _ t236 0 _ _ t243 true _ ?side1 ?side2 ?side3 ?side4 A83.out).mono ?_); (case side1 => repeat (first | exact (Kd.R_reads' HO_242001.out).2.2 | (with_reducible refine Kd.C_alloc ?_ _) | (with_reducible refine Kd.C_drewN ?_ _) | (with_reducible refine Kd.C_drew ?_))); (case side2 => exact (Kd.R_reads' HO_242001.out).2.1); (case side3 => repeat (first | exact (Kd.R_reads' HO245.out).2.2 | (with_reducible refine Kd.C_alloc ?_ _) | (with_reducible refine Kd.C_drewN ?_ _) | (with_reducible refine Kd.C_drew ?_))); (case side4 => exact (Kd.R_reads' HO245.out).2.1); rintro e w95 ⟨rfl, hb⟩; have n0_ := A_ (Kd.R_below (rk_ HO_11.out) hb); have n1_ := A_ (Kd.S_below (by (with_reducible repeat (first | apply Kd.S_alloc | apply Kd.S_drewN | apply Kd.S_drew)); exact HO_226000.out) hb); have n2_ := A_ (Kd.R_below (rk_ HO_242001.out) hb); have n3_ := A_ (Kd.R_below (rk_ HO245.out) hb); have n4_ := A_ (blk_below (pk_ BK216.out) hb); have n5_ := A_ (blk_below (pk_ BK225.out) hb); have n6_ := A_ (blk_below (pk_ BK241.out) hb); have n7_ := A_ (below_step (bk_ HB.out) hb); clear HO_11 HO_226000 HO_242001 HO245 BK216 BK225 BK241 HB; have HO_11 := n0_; have HO_226000 := n1_; have HO_242001 := n2_; have HO245 := n3_; have BK216 := n4_; have BK225 := n5_; have BK241 := n6_; have HB := n7_; clear n0_ n1_ n2_ n3_ n4_ n5_ n6_ n7_; (try clear hb); (try clear hb2); (try clear hk); (try clear hi)))
             have n0_ := A_ (Kd.R_drew HO_11.out)
             have n1_ := A_ (Kd.S_drew HO_226000.out)
             have n2_ := A_ (Kd.R_drew HO_242001.out)
             have n3_ := A_ (Kd.R_drew HO245.out)
             have n4_ := A_ (blk_drew BK216.out)
             have n5_ := A_ (blk_drew BK225.out)
             have n6_ := A_ (blk_drew BK241.out)
             have n7_ := A_ (below_drew1 HB.out)
             clear HO_11 HO_226000 HO_242001 HO245 BK216 BK225 BK241 HB
             have HO_11 := n0_
             have HO_226000 := n1_
             have HO_242001 := n2_
             have HO245 := n3_
             have BK216 := n4_
             have BK225 := n5_
             have BK241 := n6_
             have HB := n7_
             clear n0_ n1_ n2_ n3_ n4_ n5_ n6_ n7_
             refine start_ (n := 24) (S := fun w' => True) (ds := []) #[false, false, false, false, false, false, false, false, false, false, false, false, false, false, false, false, false, false, false, false, false, false, false, false] (by kernel_rfl) rfl rfl trivial (fun hHeld => ?_); refine with_tabW standstilllaw07_TagCyclic.tab14 standstilllaw07_TagCyclic.bits14 (fun HT_ HW_ => ?_)
             generalize w95.drew = w96 at HO_11 HO_226000 HO_242001 HO245 BK216 BK225 BK241 HB hHeld ⊢
             refine pure_ (i := 0) (N := some 130) (v := ?_) (a' := ?_) #[true, false, false, false, false, false, false, false, false, false, false, false, false, false, false, false, false, false, false, false, false, false, false, false] rfl rfl (any_of HT_.out (by kernel_rfl)) (fun _ _ _ h => h) (Or.inl ⟨by rfl, ?_⟩) ?_ ?_
             rotate_left
             ·intro w'
              go_simp
              with_reducible rfl
             rotate_left
             ·simp only [Act.put, sa_, sz_, ss_, i64_w, i32_w]
              rfl
             refine pure_ (i := 1) (N := some 131) (v := ?_) (a' := ?_) #[true, true, false, false, false, false, false, false, false, false, false, false, false, false, false, false, false, false, false, false, false, false, false, false] rfl rfl (any_of HT_.out (by kernel_rfl)) (fun _ _ _ h => h) (Or.inl ⟨by rfl, ?_⟩) ?_ ?_
             rotate_left
             ·intro w'
              go_simp
              with_reducible rfl
             rotate_left
             ·simp only [Act.put, sa_, sz_, ss_, i64_w, i32_w]
              rfl
             refine pure_ (i := 2) (N := some 132) (v := ?_) (a' := ?_) #[true, true, true, false, false, false, false, false, false, false, false, false, false, false, false, false, false, false, false, false, false, false, false, false] rfl rfl (any_of HT_.out (by kernel_rfl)) (fun _ _ _ h => h) (Or.inl ⟨by rfl, ?_⟩) ?_ ?_
             rotate_left
             ·intro w'
              go_simp
              with_reducible rfl
             rotate_left
             ·simp only [Act.put, sa_, sz_, ss_, i64_w, i32_w]
              rfl
             refine pure_ (i := 3) (N := some 133) (v := ?_) (a' := ?_) #[true, true, true, true, false, false, false, false, false, false, false, false, false, false, false, false, false, false, false, false, false, false, false, false] rfl rfl (any_of HT_.out (by kernel_rfl)) (fun _ _ _ h => h) (Or.inl ⟨by rfl, ?_⟩) ?_ ?_
             rotate_left
             ·intro w'
              go_simp
              with_reducible rfl
             rotate_left
             ·simp only [Act.put, sa_, sz_, ss_, i64_w, i32_w]
              rfl
             refine pure_ (i := 4) (N := some 134) (v := ?_) (a' := ?_) #[true, true, true, true, true, false, false, false, false, false, false, false, false, false, false, false, false, false, false, false, false, false, false, false] rfl rfl (any_of HT_.out (by kernel_rfl)) (fun _ _ _ h => h) (Or.inl ⟨by rfl, ?_⟩) ?_ ?_
             rotate_left
             ·intro w'
              go_simp
              with_reducible rfl
             rotate_left
             ·simp only [Act.put, sa_, sz_, ss_, i64_w, i32_w]
              rfl
             refine pure_ (i := 5) (N := some 135) (v := undef) (a' := ?_) #[true, true, true, true, true, true, false, false, false, false, false, false, false, false, false, false, false, false, false, false, false, false, false, false] rfl rfl (any_of HT_.out (by kernel_rfl)) (fun _ _ _ h => h) (Or.inr ⟨by rfl, rfl⟩) ?_ ?_
             rotate_left
             ·simp only [Act.put, sa_, sz_, ss_, i64_w, i32_w]
              rfl
             refine pure_ (i := 6) (N := some 136) (v := undef) (a' := ?_) #[true, true, true, true, true, true, true, false, false, false, false, false, false, false, false, false, false, false, false, false, false, false, false, false] rfl rfl (any_of HT_.out (by kernel_rfl)) (fun _ _ _ h => h) (Or.inr ⟨by rfl, rfl⟩) ?_ ?_
             rotate_left
             ·simp only [Act.put, sa_, sz_, ss_, i64_w, i32_w]
              rfl
             refine pure_ (i := 7) (N := some 137) (v := undef) (a' := ?_) #[true, true, true, true, true, true, true, true, false, false, false, false, false, false, false, false, false, false, false, false, false, false, false, false] rfl rfl (any_of HT_.out (by kernel_rfl)) (fun _ _ _ h => h) (Or.inr ⟨by rfl, rfl⟩) ?_ ?_
             rotate_left
             ·simp only [Act.put, sa_, sz_, ss_, i64_w, i32_w]
              rfl
             refine pure_ (i := 8) (N := some 138) (v := undef) (a' := ?_) #[true, true, true, true, true, true, true, true, true, false, false, false, false, false, false, false, false, false, false, false, false, false, false, false] rfl rfl (any_of HT_.out (by kernel_rfl)) (fun _ _ _ h => h) (Or.inr ⟨by rfl, rfl⟩) ?_ ?_
             rotate_left
             ·simp only [Act.put, sa_, sz_, ss_, i64_w, i32_w]
              rfl
             refine pure_ (i := 9) (N := some 139) (v := undef) (a' := ?_) #[true, true, true, true, true, true, true, true, true, true, false, false, false, false, false, false, false, false, false, false, false, false, false, false] rfl rfl (any_of HT_.out (by kernel_rfl)) (fun _ _ _ h => h) (Or.inr ⟨by rfl, rfl⟩) ?_ ?_
             rotate_left
             ·simp only [Act.put, sa_, sz_, ss_, i64_w, i32_w]
              rfl
             refine pure_ (i := 10) (N := some 140) (v := ?_) (a' := ?_) #[true, true, true, true, true, true, true, true, true, true, true, false, false, false, false, false, false, false, false, false, false, false, false, false] rfl rfl (any_of HT_.out (by kernel_rfl)) (fun _ _ _ h => h) (Or.inl ⟨by rfl, ?_⟩) ?_ ?_
             rotate_left
             ·intro w'
              go_simp
              with_reducible rfl
             rotate_left
             ·simp only [Act.put, sa_, sz_, ss_, i64_w, i32_w]
              rfl
             refine pure_ (i := 11) (N := some 141) (v := ?_) (a' := ?_) #[true, true, true, true, true, true, true, true, true, true, true, true, false, false, false, false, false, false, false, false, false, false, false, false] rfl rfl (any_of HT_.out (by kernel_rfl)) (fun _ _ _ h => h) (Or.inl ⟨by rfl, ?_⟩) ?_ ?_
             rotate_left
             ·intro w'
              go_simp
              with_reducible rfl
             rotate_left
             ·simp only [Act.put, sa_, sz_, ss_, i64_w, i32_w]
              rfl
             refine pure_ (i := 12) (N := some 142) (v := undef) (a' := ?_) #[true, true, true, true, true, true, true, true, true, true, true, true, true, false, false, false, false, false, false, false, false, false, false, false] rfl rfl (any_of HT_.out (by kernel_rfl)) (fun _ _ _ h => h) (Or.inr ⟨by rfl, rfl⟩) ?_ ?_
             rotate_left
             ·simp only [Act.put, sa_, sz_, ss_, i64_w, i32_w]
              rfl
             refine pure_ (i := 13) (N := some 143) (v := undef) (a' := ?_) #[true, true, true, true, true, true, true, true, true, true, true, true, true, true, false, false, false, false, false, false, false, false, false, false] rfl rfl (any_of HT_.out (by kernel_rfl)) (fun _ _ _ h => h) (Or.inr ⟨by rfl, rfl⟩) ?_ ?_
             rotate_left
             ·simp only [Act.put, sa_, sz_, ss_, i64_w, i32_w]
              rfl
             refine pure_ (i := 14) (N := some 144) (v := undef) (a' := ?_) #[true, true, true, true, true, true, true, true, true, true, true, true, true, true, true, false, false, false, false, false, false, false, false, false] rfl rfl (any_of HT_.out (by kernel_rfl)) (fun _ _ _ h => h) (Or.inr ⟨by rfl, rfl⟩) ?_ ?_
             rotate_left
             ·simp only [Act.put, sa_, sz_, ss_, i64_w, i32_w]
              rfl
             refine pure_ (i := 15) (N := some 145) (v := undef) (a' := ?_) #[true, true, true, true, true, true, true, true, true, true, true, true, true, true, true, true, false, false, false, false, false, false, false, false] rfl rfl (any_of HT_.out (by kernel_rfl)) (fun _ _ _ h => h) (Or.inr ⟨by rfl, rfl⟩) ?_ ?_
             rotate_left
             ·simp only [Act.put, sa_, sz_, ss_, i64_w, i32_w]
              rfl
             refine pure_ (i := 16) (N := some 146) (v := undef) (a' := ?_) #[true, true, true, true, true, true, true, true, true, true, true, true, true, true, true, true, true, false, false, false, false, false, false, false] rfl rfl (any_of HT_.out (by kernel_rfl)) (fun _ _ _ h => h) (Or.inr ⟨by rfl, rfl⟩) ?_ ?_
             rotate_left
             ·simp only [Act.put, sa_, sz_, ss_, i64_w, i32_w]
              rfl
             refine pure_ (i := 17) (N := some 147) (v := undef) (a' := ?_) #[true, true, true, true, true, true, true, true, true, true, true, true, true, true, true, true, true, true, false, false, false, false, false, false] rfl rfl (any_of HT_.out (by kernel_rfl)) (fun _ _ _ h => h) (Or.inr ⟨by rfl, rfl⟩) ?_ ?_
             rotate_left
             ·simp only [Act.put, sa_, sz_, ss_, i64_w, i32_w]
              rfl
             refine pure_ (i := 18) (N := some 148) (v := undef) (a' := ?_) #[true, true, true, true, true, true, true, true, true, true, true, true, true, true, true, true, true, true, true, false, false, false, false, false] rfl rfl (any_of HT_.out (by kernel_rfl)) (fun _ _ _ h => h) (Or.inr ⟨by rfl, rfl⟩) ?_ ?_
             rotate_left
             ·simp only [Act.put, sa_, sz_, ss_, i64_w, i32_w]
              rfl
             refine pure_ (i := 19) (N := some 149) (v := ?_) (a' := ?_) #[true, true, true, true, true, true, true, true, true, true, true, true, true, true, true, true, true, true, true, true, false, false, false, false] rfl rfl (any_of HT_.out (by kernel_rfl)) (fun _ _ _ h => h) (Or.inl ⟨by rfl, ?_⟩) ?_ ?_
             rotate_left
             ·intro w'
              go_simp
              with_reducible rfl
             rotate_left
             ·simp only [Act.put, sa_, sz_, ss_, i64_w, i32_w]
              rfl
             refine pure_ (i := 20) (N := some 150) (v := ?_) (a' := ?_) #[true, true, true, true, true, true, true, true, true, true, true, true, true, true, true, true, true, true, true, true, true, false, false, false] rfl rfl (any_of HT_.out (by kernel_rfl)) (fun _ _ _ h => h) (Or.inl ⟨by rfl, ?_⟩) ?_ ?_
             rotate_left
             ·intro w'
              go_simp
              with_reducible rfl
             rotate_left
             ·simp only [Act.put, sa_, sz_, ss_, i64_w, i32_w]
              rfl
             refine one_ (i := 21) (N := some 151) #[true, true, true, true, true, true, true, true, true, true, true, true, true, true, true, true, true, true, true, true, true, true, false, false] rfl rfl (one_of HT_.out (by kernel_rfl)) (by decide) (fun K hK => ?_)
             refine goes_ Try.func11 (by kernel_rfl) rfl #[] (by rfl) rfl rfl gl_ ?_
             with_reducible refine (standstilllaw07_awake.calls kj54  t248 _ A86.out).mono ?_
             rintro e w97 ⟨rfl, hb⟩
             refine ⟨_, rfl, ?_⟩
             have n0_ := A_ (Kd.R_below (rk_ HO_11.out) hb)
             have n1_ := A_ (Kd.S_below (by (with_reducible repeat (first | apply Kd.S_alloc | apply Kd.S_drewN | apply Kd.S_drew)); exact HO_226000.out) hb)
             have n2_ := A_ (Kd.R_below (rk_ HO_242001.out) hb)
             have n3_ := A_ (Kd.R_below (rk_ HO245.out) hb)
             have n4_ := A_ (blk_below (pk_ BK216.out) hb)
             have n5_ := A_ (blk_below (pk_ BK225.out) hb)
             have n6_ := A_ (blk_below (pk_ BK241.out) hb)
             have n7_ := A_ (below_step (bk_ HB.out) hb)
             clear HO_11 HO_226000 HO_242001 HO245 BK216 BK225 BK241 HB
             have HO_11 := n0_
             have HO_226000 := n1_
             have HO_242001 := n2_
             have HO245 := n3_
             have BK216 := n4_
             have BK225 := n5_
             have BK241 := n6_
             have HB := n7_
             clear n0_ n1_ n2_ n3_ n4_ n5_ n6_ n7_
             (try clear hb)
             (try clear hb2)
             (try clear hk)
             (try clear hi)
             refine hK.out _ _ trivial (fun hHeld => ?_)
             clear hK K
             refine norm_ (a' := ?_) ?_ ?_
             rotate_left
             ·show Act.put _ (some 151) _ = _
              simp only [Act.put, sa_, sz_, ss_, i64_w, i32_w]
              rfl
             refine pure_ (i := 22) (N := some 152) (v := ?_) (a' := ?_) #[true, true, true, true, true, true, true, true, true, true, true, true, true, true, true, true, true, true, true, true, true, true, true, false] rfl rfl (any_of HT_.out (by kernel_rfl)) (fun _ _ _ h => h) (Or.inl ⟨by rfl, ?_⟩) ?_ ?_
             rotate_left
             ·intro w'
              go_simp
              with_reducible rfl
             rotate_left
             ·simp only [Act.put, sa_, sz_, ss_, i64_w, i32_w]
              rfl
             refine pure_ (i := 23) (N := some 6) (v := ?_) (a' := ?_) #[true, true, true, true, true, true, true, true, true, true, true, true, true, true, true, true, true, true, true, true, true, true, true, true] rfl rfl (any_of HT_.out (by kernel_rfl)) (fun _ _ _ h => h) (Or.inl ⟨by rfl, ?_⟩) ?_ ?_
             rotate_left
             ·intro w'
              go_simp
              with_reducible rfl
             rotate_left
             ·simp only [Act.put, sa_, sz_, ss_, i64_w, i32_w]
              rfl
             refine done_ (done_of HT_.out (by kernel_rfl)) ?_
             try go_wp2
             go_ret
             exact ⟨er_, bk_ HB.out⟩
            ·rw [if_neg c85] at H
             have c85b0 : (t233 == (wrap64 (a2))) = false := beq_eq_false_iff_ne.mpr c85
             have c85b1 : (t233 != (wrap64 (a2))) = true := bne_iff_ne.mpr c85
             by_cases c98 : (t230.length : Int) < a0_0
             ·rw [if_pos c98] at H
              have c98b0 : decide ((t230.length : Int) < a0_0) = true := decide_eq_true c98
              clear c98
              replace H := Option.bind_eq_some_iff.mp H
              obtain ⟨t249, A990, H⟩ := H
              replace H : (some t249) = some r := H
              have A99 := Aside0.mk A990
              clear A990
              obtain rfl := Option.some.inj H
              have hnb100 := NB216_225.out
              have hnc100 := NB225_216.out
              have hnb101 := NB216_241.out
              have hnc101 := NB241_216.out
              have hcz102_0 : wc.cell? ⟨gb216, 0, none⟩ = some (.int .i64 a0_0) := (blk_cell BK216.out 0).trans rfl
              have hcz102_1 : wc.cell? ⟨gb216, 1, none⟩ = some (.slice A0_1 l0_1.length c0_1) := (blk_cell BK216.out 1).trans rfl
              have hcz102_2 : wc.cell? ⟨gb216, 2, none⟩ = some (.slice A0_2 l0_2.length c0_2) := (blk_cell BK216.out 2).trans rfl
              have hfz102_0 := blk_frozen BK216.out 0
              have hfz102_1 := blk_frozen BK216.out 1
              have hfz102_2 := blk_frozen BK216.out 2
              obtain ⟨Ao103, co103, eo103⟩ := Kd.R_slice HO_11.out
              subst eo103
              try go_wp2_with (first | ((with_reducible refine gate_callee (f := 33) rfl ?_); refine goesL_ (some 118) rfl rfl Try.func33 (by kernel_rfl) rfl #[.agg #[.int .i64 a0_0, .slice A0_1 l0_1.length c0_1, .slice A0_2 l0_2.length c0_2], .slice Ao103 t230.length co103] rfl gl_ ?_; (with_reducible refine (tag_Bits.calls kj54 a0_0 _ _ l0_1 _ _ l0_2 _ _ t230 t243 t246 _ ?side1 ?side2 ?side3 ?side4 ?side5 ?side6 A81.out).mono ?_); (case side1 => exact ck_ (Kd.C_below HR0_1.out HB.out)); (case side2 => exact HC0_1.out); (case side3 => exact ck_ (Kd.C_below HR0_2.out HB.out)); (case side4 => exact HC0_2.out); (case side5 => repeat (first | exact (Kd.R_reads' HO_11.out).2.2 | (with_reducible refine Kd.C_alloc ?_ _) | (with_reducible refine Kd.C_drewN ?_ _) | (with_reducible refine Kd.C_drew ?_))); (case side6 => exact (Kd.R_reads' HO_11.out).2.1); rintro e w104 ⟨v244, rfl, ho0, hb⟩; refine ⟨_, rfl, ?_⟩; have n0_ := A_ (Kd.R_elder' (rk_ HO_11.out) (Kd.R_base ho0) hb); have n1_ := A_ (Kd.S_elder' (by (with_reducible repeat (first | apply Kd.S_alloc | apply Kd.S_drewN | apply Kd.S_drew)); exact HO_226000.out) (Kd.R_base ho0) hb); have n2_ := A_ (Kd.R_elder' (rk_ HO_242001.out) (Kd.R_base ho0) hb); have n3_ := A_ (Kd.R_lower (Kd.R_new' (Kd.R_new' ho0 (Kd.R_lt (rk_ HO_11.out))) (Kd.R_lt (rk_ HO_242001.out))) (below_size (bk_ HB.out))); have n4_ := A_ (blk_below (pk_ BK216.out) hb); have n5_ := A_ (blk_below (pk_ BK225.out) hb); have n6_ := A_ (blk_below (pk_ BK241.out) hb); have n7_ := A_ (below_step (bk_ HB.out) hb); clear HO_11 HO_226000 HO_242001 BK216 BK225 BK241 HB; have HO_11 := n0_; have HO_226000 := n1_; have HO_242001 := n2_; have HO245 := n3_; have BK216 := n4_; have BK225 := n5_; have BK241 := n6_; have HB := n7_; clear n0_ n1_ n2_ n3_ n4_ n5_ n6_ n7_; (try clear hb); (try clear hb2); (try clear hk); (try clear hi); (try clear ho0); have hnb105 := NB241_225.out; have hnc105 := NB225_241.out; have hcz106_0 : w104.cell? ⟨gb241, 0, none⟩ = some (.int .i64 t235) := (blk_cell BK241.out 0).trans rfl; have hcz106_1 : w104.cell? ⟨gb241, 1, none⟩ = some (.slice Ao67 t236.length co67) := (blk_cell BK241.out 1).trans rfl; have hfz106_0 := blk_frozen BK241.out 0; have hfz106_1 := blk_frozen BK241.out 1; obtain ⟨Ao107, co107, eo107⟩ := Kd.R_slice HO245.out; subst eo107) | (go_at_call 30; (with_reducible refine (standstillref07_SameWheel.calls kj54 t235 _ _ t236 0 _ _ t243 true _ ?side1 ?side2 ?side3 ?side4 A83.out).mono ?_); (case side1 => repeat (first | exact (Kd.R_reads' HO_242001.out).2.2 | (with_reducible refine Kd.C_alloc ?_ _) | (with_reducible refine Kd.C_drewN ?_ _) | (with_reducible refine Kd.C_drew ?_))); (case side2 => exact (Kd.R_reads' HO_242001.out).2.1); (case side3 => repeat (first | exact (Kd.R_reads' HO245.out).2.2 | (with_reducible refine Kd.C_alloc ?_ _) | (with_reducible refine Kd.C_drewN ?_ _) | (with_reducible refine Kd.C_drew ?_))); (case side4 => exact (Kd.R_reads' HO245.out).2.1); rintro e w108 ⟨rfl, hb⟩; have n0_ := A_ (Kd.R_below (rk_ HO_11.out) hb); have n1_ := A_ (Kd.S_below (by (with_reducible repeat (first | apply Kd.S_alloc | apply Kd.S_drewN | apply Kd.S_drew)); exact HO_226000.out) hb); have n2_ := A_ (Kd.R_below (rk_ HO_242001.out) hb); have n3_ := A_ (Kd.R_below (rk_ HO245.out) hb); have n4_ := A_ (blk_below (pk_ BK216.out) hb); have n5_ := A_ (blk_below (pk_ BK225.out) hb); have n6_ := A_ (blk_below (pk_ BK241.out) hb); have n7_ := A_ (below_step (bk_ HB.out) hb); clear HO_11 HO_226000 HO_242001 HO245 BK216 BK225 BK241 HB; have HO_11 := n0_; have HO_226000 := n1_; have HO_242001 := n2_; have HO245 := n3_; have BK216 := n4_; have BK225 := n5_; have BK241 := n6_; have HB := n7_; clear n0_ n1_ n2_ n3_ n4_ n5_ n6_ n7_; (try clear hb); (try clear hb2); (try clear hk); (try clear hi)))
              have n0_ := A_ (Kd.R_drew HO_11.out)
              have n1_ := A_ (Kd.S_drew HO_226000.out)
              have n2_ := A_ (Kd.R_drew HO_242001.out)
              have n3_ := A_ (Kd.R_drew HO245.out)
              have n4_ := A_ (blk_drew BK216.out)
              have n5_ := A_ (blk_drew BK225.out)
              have n6_ := A_ (blk_drew BK241.out)
              have n7_ := A_ (below_drew1 HB.out)
              clear HO_11 HO_226000 HO_242001 HO245 BK216 BK225 BK241 HB
              have HO_11 := n0_
              have HO_226000 := n1_
              have HO_242001 := n2_
              have HO245 := n3_
              have BK216 := n4_
              have BK225 := n5_
              have BK241 := n6_
              have HB := n7_
              clear n0_ n1_ n2_ n3_ n4_ n5_ n6_ n7_
              refine start_ (n := 24) (S := fun w' => w'.cell? ⟨gb216, 0, none⟩ = some (.int .i64 a0_0) ∧ w'.cell? ⟨gb216, 1, none⟩ = some (.slice A0_1 l0_1.length c0_1) ∧ w'.cell? ⟨gb216, 2, none⟩ = some (.slice A0_2 l0_2.length c0_2)) (ds := []) #[false, false, false, false, false, false, false, false, false, false, false, false, false, false, false, false, false, false, false, false, false, false, false, false] (by kernel_rfl) rfl rfl ⟨(blk_cell BK216.out 0).trans rfl, (blk_cell BK216.out 1).trans rfl, (blk_cell BK216.out 2).trans rfl⟩ (fun hHeld => ?_); refine with_tabW standstilllaw07_TagCyclic.tab14 standstilllaw07_TagCyclic.bits14 (fun HT_ HW_ => ?_)
              generalize w108.drew = w109 at HO_11 HO_226000 HO_242001 HO245 BK216 BK225 BK241 HB hHeld ⊢
              refine pure_ (i := 0) (N := some 130) (v := ?_) (a' := ?_) #[true, false, false, false, false, false, false, false, false, false, false, false, false, false, false, false, false, false, false, false, false, false, false, false] rfl rfl (any_of HT_.out (by kernel_rfl)) (fun _ _ _ h => h) (Or.inl ⟨by rfl, ?_⟩) ?_ ?_
              rotate_left
              ·intro w'
               go_simp
               with_reducible rfl
              rotate_left
              ·simp only [Act.put, sa_, sz_, ss_, i64_w, i32_w]
               rfl
              refine pure_ (i := 1) (N := some 131) (v := ?_) (a' := ?_) #[true, true, false, false, false, false, false, false, false, false, false, false, false, false, false, false, false, false, false, false, false, false, false, false] rfl rfl (any_of HT_.out (by kernel_rfl)) (fun _ _ _ h => h) (Or.inl ⟨by rfl, ?_⟩) ?_ ?_
              rotate_left
              ·intro w'
               go_simp
               with_reducible rfl
              rotate_left
              ·simp only [Act.put, sa_, sz_, ss_, i64_w, i32_w]
               rfl
              refine pure_ (i := 2) (N := some 132) (v := ?_) (a' := ?_) #[true, true, true, false, false, false, false, false, false, false, false, false, false, false, false, false, false, false, false, false, false, false, false, false] rfl rfl (any_of HT_.out (by kernel_rfl)) (fun _ _ _ h => h) (Or.inl ⟨by rfl, ?_⟩) ?_ ?_
              rotate_left
              ·intro w'
               go_simp
               with_reducible rfl
              rotate_left
              ·simp only [Act.put, sa_, sz_, ss_, i64_w, i32_w]
               rfl
              refine pure_ (i := 3) (N := some 133) (v := ?_) (a' := ?_) #[true, true, true, true, false, false, false, false, false, false, false, false, false, false, false, false, false, false, false, false, false, false, false, false] rfl rfl (any_of HT_.out (by kernel_rfl)) (fun _ _ _ h => h) (Or.inl ⟨by rfl, ?_⟩) ?_ ?_
              rotate_left
              ·intro w'
               go_simp
               with_reducible rfl
              rotate_left
              ·simp only [Act.put, sa_, sz_, ss_, i64_w, i32_w]
               rfl
              refine pure_ (i := 4) (N := some 134) (v := ?_) (a' := ?_) #[true, true, true, true, true, false, false, false, false, false, false, false, false, false, false, false, false, false, false, false, false, false, false, false] rfl rfl (any_of HT_.out (by kernel_rfl)) (fun _ _ _ h => h) (Or.inl ⟨by rfl, ?_⟩) ?_ ?_
              rotate_left
              ·intro w'
               go_simp
               with_reducible rfl
              rotate_left
              ·simp only [Act.put, sa_, sz_, ss_, i64_w, i32_w]
               rfl
              refine pure_ (i := 5) (N := some 135) (v := ?_) (a' := ?_) #[true, true, true, true, true, true, false, false, false, false, false, false, false, false, false, false, false, false, false, false, false, false, false, false] rfl rfl (any_of HT_.out (by kernel_rfl)) (fun _ _ _ h => h) (Or.inl ⟨by rfl, ?_⟩) ?_ ?_
              rotate_left
              ·intro w'
               go_simp
               with_reducible rfl
              rotate_left
              ·simp only [Act.put, sa_, sz_, ss_, i64_w, i32_w]
               rfl
              refine pure_ (i := 6) (N := some 136) (v := ?_) (a' := ?_) #[true, true, true, true, true, true, true, false, false, false, false, false, false, false, false, false, false, false, false, false, false, false, false, false] rfl rfl (any_of HT_.out (by kernel_rfl)) (fun _ _ _ h => h) (Or.inl ⟨by rfl, ?_⟩) ?_ ?_
              rotate_left
              ·intro w'
               go_simp
               with_reducible rfl
              rotate_left
              ·simp only [Act.put, sa_, sz_, ss_, i64_w, i32_w]
               rfl
              refine pure_ (i := 7) (N := some 137) (v := ?_) (a' := ?_) #[true, true, true, true, true, true, true, true, false, false, false, false, false, false, false, false, false, false, false, false, false, false, false, false] rfl rfl (any_of HT_.out (by kernel_rfl)) (fun _ _ _ h => h) (Or.inl ⟨by rfl, ?_⟩) ?_ ?_
              rotate_left
              ·intro w'
               go_simp
               with_reducible rfl
              rotate_left
              ·simp only [Act.put, sa_, sz_, ss_, i64_w, i32_w]
               rfl
              refine take_ (i := 8) (N := some 138) (v := ?_) (a' := ?_) #[true, true, true, true, true, true, true, true, true, false, false, false, false, false, false, false, false, false, false, false, false, false, false, false] rfl rfl (take_ofW HT_.out HW_.out (by kernel_rfl)) (fun _ _ _ h => h) (Or.inl ⟨by rfl, ?_⟩) hHeld ?_ ?_
              rotate_left
              ·rintro w' ⟨s0, s1, s2⟩
               go_simp
               with_reducible rfl
              rotate_left
              ·simp only [Act.put, sa_, sz_, ss_, i64_w, i32_w]
               rfl
              refine pure_ (i := 9) (N := some 139) (v := ?_) (a' := ?_) #[true, true, true, true, true, true, true, true, true, true, false, false, false, false, false, false, false, false, false, false, false, false, false, false] rfl rfl (any_of HT_.out (by kernel_rfl)) (fun _ _ _ h => h) (Or.inl ⟨by rfl, ?_⟩) ?_ ?_
              rotate_left
              ·intro w'
               go_simp
               with_reducible rfl
              rotate_left
              ·simp only [Act.put, sa_, sz_, ss_, i64_w, i32_w]
               rfl
              refine pure_ (i := 10) (N := some 140) (v := ?_) (a' := ?_) #[true, true, true, true, true, true, true, true, true, true, true, false, false, false, false, false, false, false, false, false, false, false, false, false] rfl rfl (any_of HT_.out (by kernel_rfl)) (fun _ _ _ h => h) (Or.inl ⟨by rfl, ?_⟩) ?_ ?_
              rotate_left
              ·intro w'
               go_simp
               with_reducible rfl
              rotate_left
              ·simp only [Act.put, sa_, sz_, ss_, i64_w, i32_w]
               rfl
              refine pure_ (i := 11) (N := some 141) (v := ?_) (a' := ?_) #[true, true, true, true, true, true, true, true, true, true, true, true, false, false, false, false, false, false, false, false, false, false, false, false] rfl rfl (any_of HT_.out (by kernel_rfl)) (fun _ _ _ h => h) (Or.inl ⟨by rfl, ?_⟩) ?_ ?_
              rotate_left
              ·intro w'
               go_simp
               with_reducible rfl
              rotate_left
              ·simp only [Act.put, sa_, sz_, ss_, i64_w, i32_w]
               rfl
              refine pure_ (i := 12) (N := some 142) (v := undef) (a' := ?_) #[true, true, true, true, true, true, true, true, true, true, true, true, true, false, false, false, false, false, false, false, false, false, false, false] rfl rfl (any_of HT_.out (by kernel_rfl)) (fun _ _ _ h => h) (Or.inr ⟨by rfl, rfl⟩) ?_ ?_
              rotate_left
              ·simp only [Act.put, sa_, sz_, ss_, i64_w, i32_w]
               rfl
              refine pure_ (i := 13) (N := some 143) (v := undef) (a' := ?_) #[true, true, true, true, true, true, true, true, true, true, true, true, true, true, false, false, false, false, false, false, false, false, false, false] rfl rfl (any_of HT_.out (by kernel_rfl)) (fun _ _ _ h => h) (Or.inr ⟨by rfl, rfl⟩) ?_ ?_
              rotate_left
              ·simp only [Act.put, sa_, sz_, ss_, i64_w, i32_w]
               rfl
              refine pure_ (i := 14) (N := some 144) (v := undef) (a' := ?_) #[true, true, true, true, true, true, true, true, true, true, true, true, true, true, true, false, false, false, false, false, false, false, false, false] rfl rfl (any_of HT_.out (by kernel_rfl)) (fun _ _ _ h => h) (Or.inr ⟨by rfl, rfl⟩) ?_ ?_
              rotate_left
              ·simp only [Act.put, sa_, sz_, ss_, i64_w, i32_w]
               rfl
              refine pure_ (i := 15) (N := some 145) (v := undef) (a' := ?_) #[true, true, true, true, true, true, true, true, true, true, true, true, true, true, true, true, false, false, false, false, false, false, false, false] rfl rfl (any_of HT_.out (by kernel_rfl)) (fun _ _ _ h => h) (Or.inr ⟨by rfl, rfl⟩) ?_ ?_
              rotate_left
              ·simp only [Act.put, sa_, sz_, ss_, i64_w, i32_w]
               rfl
              refine pure_ (i := 16) (N := some 146) (v := undef) (a' := ?_) #[true, true, true, true, true, true, true, true, true, true, true, true, true, true, true, true, true, false, false, false, false, false, false, false] rfl rfl (any_of HT_.out (by kernel_rfl)) (fun _ _ _ h => h) (Or.inr ⟨by rfl, rfl⟩) ?_ ?_
              rotate_left
              ·simp only [Act.put, sa_, sz_, ss_, i64_w, i32_w]
               rfl
              refine pure_ (i := 17) (N := some 147) (v := undef) (a' := ?_) #[true, true, true, true, true, true, true, true, true, true, true, true, true, true, true, true, true, true, false, false, false, false, false, false] rfl rfl (any_of HT_.out (by kernel_rfl)) (fun _ _ _ h => h) (Or.inr ⟨by rfl, rfl⟩) ?_ ?_
              rotate_left
              ·simp only [Act.put, sa_, sz_, ss_, i64_w, i32_w]
               rfl
              refine pure_ (i := 18) (N := some 148) (v := undef) (a' := ?_) #[true, true, true, true, true, true, true, true, true, true, true, true, true, true, true, true, true, true, true, false, false, false, false, false] rfl rfl (any_of HT_.out (by kernel_rfl)) (fun _ _ _ h => h) (Or.inr ⟨by rfl, rfl⟩) ?_ ?_
              rotate_left
              ·simp only [Act.put, sa_, sz_, ss_, i64_w, i32_w]
               rfl
              refine pure_ (i := 19) (N := some 149) (v := ?_) (a' := ?_) #[true, true, true, true, true, true, true, true, true, true, true, true, true, true, true, true, true, true, true, true, false, false, false, false] rfl rfl (any_of HT_.out (by kernel_rfl)) (fun _ _ _ h => h) (Or.inl ⟨by rfl, ?_⟩) ?_ ?_
              rotate_left
              ·intro w'
               go_simp
               with_reducible rfl
              rotate_left
              ·simp only [Act.put, sa_, sz_, ss_, i64_w, i32_w]
               rfl
              refine pure_ (i := 20) (N := some 150) (v := ?_) (a' := ?_) #[true, true, true, true, true, true, true, true, true, true, true, true, true, true, true, true, true, true, true, true, true, false, false, false] rfl rfl (any_of HT_.out (by kernel_rfl)) (fun _ _ _ h => h) (Or.inl ⟨by rfl, ?_⟩) ?_ ?_
              rotate_left
              ·intro w'
               go_simp
               with_reducible rfl
              rotate_left
              ·simp only [Act.put, sa_, sz_, ss_, i64_w, i32_w]
               rfl
              refine one_ (i := 21) (N := some 151) #[true, true, true, true, true, true, true, true, true, true, true, true, true, true, true, true, true, true, true, true, true, true, false, false] rfl rfl (one_of HT_.out (by kernel_rfl)) (by decide) (fun K hK => ?_)
              refine goes_ Try.func11 (by kernel_rfl) rfl #[] (by rfl) rfl rfl gl_ ?_
              with_reducible refine (standstilllaw07_awake.calls kj54  t249 _ A99.out).mono ?_
              rintro e w110 ⟨rfl, hb⟩
              refine ⟨_, rfl, ?_⟩
              have n0_ := A_ (Kd.R_below (rk_ HO_11.out) hb)
              have n1_ := A_ (Kd.S_below (by (with_reducible repeat (first | apply Kd.S_alloc | apply Kd.S_drewN | apply Kd.S_drew)); exact HO_226000.out) hb)
              have n2_ := A_ (Kd.R_below (rk_ HO_242001.out) hb)
              have n3_ := A_ (Kd.R_below (rk_ HO245.out) hb)
              have n4_ := A_ (blk_below (pk_ BK216.out) hb)
              have n5_ := A_ (blk_below (pk_ BK225.out) hb)
              have n6_ := A_ (blk_below (pk_ BK241.out) hb)
              have n7_ := A_ (below_step (bk_ HB.out) hb)
              clear HO_11 HO_226000 HO_242001 HO245 BK216 BK225 BK241 HB
              have HO_11 := n0_
              have HO_226000 := n1_
              have HO_242001 := n2_
              have HO245 := n3_
              have BK216 := n4_
              have BK225 := n5_
              have BK241 := n6_
              have HB := n7_
              clear n0_ n1_ n2_ n3_ n4_ n5_ n6_ n7_
              (try clear hb)
              (try clear hb2)
              (try clear hk)
              (try clear hi)
              refine hK.out _ _ ⟨(blk_cell BK216.out 0).trans rfl, (blk_cell BK216.out 1).trans rfl, (blk_cell BK216.out 2).trans rfl⟩ (fun hHeld => ?_)
              clear hK K
              refine norm_ (a' := ?_) ?_ ?_
              rotate_left
              ·show Act.put _ (some 151) _ = _
               simp only [Act.put, sa_, sz_, ss_, i64_w, i32_w]
               rfl
              refine pure_ (i := 22) (N := some 152) (v := ?_) (a' := ?_) #[true, true, true, true, true, true, true, true, true, true, true, true, true, true, true, true, true, true, true, true, true, true, true, false] rfl rfl (any_of HT_.out (by kernel_rfl)) (fun _ _ _ h => h) (Or.inl ⟨by rfl, ?_⟩) ?_ ?_
              rotate_left
              ·intro w'
               go_simp
               with_reducible rfl
              rotate_left
              ·simp only [Act.put, sa_, sz_, ss_, i64_w, i32_w]
               rfl
              refine pure_ (i := 23) (N := some 6) (v := ?_) (a' := ?_) #[true, true, true, true, true, true, true, true, true, true, true, true, true, true, true, true, true, true, true, true, true, true, true, true] rfl rfl (any_of HT_.out (by kernel_rfl)) (fun _ _ _ h => h) (Or.inl ⟨by rfl, ?_⟩) ?_ ?_
              rotate_left
              ·intro w'
               go_simp
               with_reducible rfl
              rotate_left
              ·simp only [Act.put, sa_, sz_, ss_, i64_w, i32_w]
               rfl
              refine done_ (done_of HT_.out (by kernel_rfl)) ?_
              try go_wp2
              go_ret
              exact ⟨er_, bk_ HB.out⟩
             ·rw [if_neg c98] at H
              have c98b0 : decide ((t230.length : Int) < a0_0) = false := decide_eq_false c98
              clear c98
              by_cases c111 : 0 < (t230.length : Int)
              ·rw [if_pos c111] at H
               have c111b0 : decide (0 < (t230.length : Int)) = true := decide_eq_true c111
               have c111b1 : decide (0 < t230.length) = true := decide_eq_true (by omega)
               clear c111
               by_cases c112 : 0 ≤ (rd t230 0)
               ·rw [if_pos c112] at H
                have c112b0 : decide (0 ≤ (rd t230 0)) = true := decide_eq_true c112
                clear c112
                by_cases c113 : (rd t230 0) < (l0_2.length : Int)
                ·rw [if_pos c113] at H
                 have c113b0 : decide ((rd t230 0) < (l0_2.length : Int)) = true := decide_eq_true c113
                 clear c113
                 obtain ⟨bq114, hbq114⟩ : ∃ b_ : Bool, b_ = (rdOf false l0_2 (rd t230 0)) := ⟨_, rfl⟩
                 replace H : (if bq114 = true then ((standstilllaw07_awake.f kj54).bind fun t252 => (some t252)) else (some false)) = some r := by rw [← hbq114] at H; exact H
                 have Nbq114 := Aside0.mk hbq114
                 clear hbq114
                 by_cases c115 : bq114 = true
                 ·subst c115
                  have H1 : ((standstilllaw07_awake.f kj54).bind fun t252 => (some t252)) = some r := by rw [if_pos rfl] at H; exact H
                  clear H
                  have H := H1
                  clear H1
                  replace H := Option.bind_eq_some_iff.mp H
                  obtain ⟨t252, A1160, H⟩ := H
                  replace H : (some t252) = some r := H
                  have A116 := Aside0.mk A1160
                  clear A1160
                  obtain rfl := Option.some.inj H
                  have hnb117 := NB216_225.out
                  have hnc117 := NB225_216.out
                  have hnb118 := NB216_241.out
                  have hnc118 := NB241_216.out
                  have hcz119_0 : wc.cell? ⟨gb216, 0, none⟩ = some (.int .i64 a0_0) := (blk_cell BK216.out 0).trans rfl
                  have hcz119_1 : wc.cell? ⟨gb216, 1, none⟩ = some (.slice A0_1 l0_1.length c0_1) := (blk_cell BK216.out 1).trans rfl
                  have hcz119_2 : wc.cell? ⟨gb216, 2, none⟩ = some (.slice A0_2 l0_2.length c0_2) := (blk_cell BK216.out 2).trans rfl
                  have hfz119_0 := blk_frozen BK216.out 0
                  have hfz119_1 := blk_frozen BK216.out 1
                  have hfz119_2 := blk_frozen BK216.out 2
                  obtain ⟨Ao120, co120, eo120⟩ := Kd.R_slice HO_11.out
                  subst eo120
                  try go_wp2_with (first | ((with_reducible refine gate_callee (f := 33) rfl ?_); refine goesL_ (some 118) rfl rfl Try.func33 (by kernel_rfl) rfl #[.agg #[.int .i64 a0_0, .slice A0_1 l0_1.length c0_1, .slice A0_2 l0_2.length c0_2], .slice Ao120 t230.length co120] rfl gl_ ?_; (with_reducible refine (tag_Bits.calls kj54 a0_0 _ _ l0_1 _ _ l0_2 _ _ t230 t243 t246 _ ?side1 ?side2 ?side3 ?side4 ?side5 ?side6 A81.out).mono ?_); (case side1 => exact ck_ (Kd.C_below HR0_1.out HB.out)); (case side2 => exact HC0_1.out); (case side3 => exact ck_ (Kd.C_below HR0_2.out HB.out)); (case side4 => exact HC0_2.out); (case side5 => repeat (first | exact (Kd.R_reads' HO_11.out).2.2 | (with_reducible refine Kd.C_alloc ?_ _) | (with_reducible refine Kd.C_drewN ?_ _) | (with_reducible refine Kd.C_drew ?_))); (case side6 => exact (Kd.R_reads' HO_11.out).2.1); rintro e w121 ⟨v244, rfl, ho0, hb⟩; refine ⟨_, rfl, ?_⟩; have n0_ := A_ (Kd.R_elder' (rk_ HO_11.out) (Kd.R_base ho0) hb); have n1_ := A_ (Kd.S_elder' (by (with_reducible repeat (first | apply Kd.S_alloc | apply Kd.S_drewN | apply Kd.S_drew)); exact HO_226000.out) (Kd.R_base ho0) hb); have n2_ := A_ (Kd.R_elder' (rk_ HO_242001.out) (Kd.R_base ho0) hb); have n3_ := A_ (Kd.R_lower (Kd.R_new' (Kd.R_new' ho0 (Kd.R_lt (rk_ HO_11.out))) (Kd.R_lt (rk_ HO_242001.out))) (below_size (bk_ HB.out))); have n4_ := A_ (blk_below (pk_ BK216.out) hb); have n5_ := A_ (blk_below (pk_ BK225.out) hb); have n6_ := A_ (blk_below (pk_ BK241.out) hb); have n7_ := A_ (below_step (bk_ HB.out) hb); clear HO_11 HO_226000 HO_242001 BK216 BK225 BK241 HB; have HO_11 := n0_; have HO_226000 := n1_; have HO_242001 := n2_; have HO245 := n3_; have BK216 := n4_; have BK225 := n5_; have BK241 := n6_; have HB := n7_; clear n0_ n1_ n2_ n3_ n4_ n5_ n6_ n7_; (try clear hb); (try clear hb2); (try clear hk); (try clear hi); (try clear ho0); have hnb122 := NB241_225.out; have hnc122 := NB225_241.out; have hcz123_0 : w121.cell? ⟨gb241, 0, none⟩ = some (.int .i64 t235) := (blk_cell BK241.out 0).trans rfl; have hcz123_1 : w121.cell? ⟨gb241, 1, none⟩ = some (.slice Ao67 t236.length co67) := (blk_cell BK241.out 1).trans rfl; have hfz123_0 := blk_frozen BK241.out 0; have hfz123_1 := blk_frozen BK241.out 1; obtain ⟨Ao124, co124, eo124⟩ := Kd.R_slice HO245.out; subst eo124) | (go_at_call 30; (with_reducible refine (standstillref07_SameWheel.calls kj54 t235 _ _ t236 0 _ _ t243 true _ ?side1 ?side2 ?side3 ?side4 A83.out).mono ?_); (case side1 => repeat (first | exact (Kd.R_reads' HO_242001.out).2.2 | (with_reducible refine Kd.C_alloc ?_ _) | (with_reducible refine Kd.C_drewN ?_ _) | (with_reducible refine Kd.C_drew ?_))); (case side2 => exact (Kd.R_reads' HO_242001.out).2.1); (case side3 => repeat (first | exact (Kd.R_reads' HO245.out).2.2 | (with_reducible refine Kd.C_alloc ?_ _) | (with_reducible refine Kd.C_drewN ?_ _) | (with_reducible refine Kd.C_drew ?_))); (case side4 => exact (Kd.R_reads' HO245.out).2.1); rintro e w125 ⟨rfl, hb⟩; have n0_ := A_ (Kd.R_below (rk_ HO_11.out) hb); have n1_ := A_ (Kd.S_below (by (with_reducible repeat (first | apply Kd.S_alloc | apply Kd.S_drewN | apply Kd.S_drew)); exact HO_226000.out) hb); have n2_ := A_ (Kd.R_below (rk_ HO_242001.out) hb); have n3_ := A_ (Kd.R_below (rk_ HO245.out) hb); have n4_ := A_ (blk_below (pk_ BK216.out) hb); have n5_ := A_ (blk_below (pk_ BK225.out) hb); have n6_ := A_ (blk_below (pk_ BK241.out) hb); have n7_ := A_ (below_step (bk_ HB.out) hb); clear HO_11 HO_226000 HO_242001 HO245 BK216 BK225 BK241 HB; have HO_11 := n0_; have HO_226000 := n1_; have HO_242001 := n2_; have HO245 := n3_; have BK216 := n4_; have BK225 := n5_; have BK241 := n6_; have HB := n7_; clear n0_ n1_ n2_ n3_ n4_ n5_ n6_ n7_; (try clear hb); (try clear hb2); (try clear hk); (try clear hi)))
                  have n0_ := A_ (Kd.R_drew HO_11.out)
                  have n1_ := A_ (Kd.S_drew HO_226000.out)
                  have n2_ := A_ (Kd.R_drew HO_242001.out)
                  have n3_ := A_ (Kd.R_drew HO245.out)
                  have n4_ := A_ (blk_drew BK216.out)
                  have n5_ := A_ (blk_drew BK225.out)
                  have n6_ := A_ (blk_drew BK241.out)
                  have n7_ := A_ (below_drew1 HB.out)
                  clear HO_11 HO_226000 HO_242001 HO245 BK216 BK225 BK241 HB
                  have HO_11 := n0_
                  have HO_226000 := n1_
                  have HO_242001 := n2_
                  have HO245 := n3_
                  have BK216 := n4_
                  have BK225 := n5_
                  have BK241 := n6_
                  have HB := n7_
                  clear n0_ n1_ n2_ n3_ n4_ n5_ n6_ n7_
                  have p250 : 0 ≤ (0 : Int) := (by omega)
                  have q250 : 0 < (t230.length : Int) := od_
                  obtain ⟨ad250, e250, hx250_0⟩ := Kd.at_int (Kd.R_reads' HO_11.out).2.2 0 p250 q250
                  cases e250
                  have qi250 : (0 < t230.length) = True := eq_true (by omega)
                  (try rw [show ((0 : Int)).toNat = 0 from rfl] at hx250_0)
                  (try rw [Addr.add_zero'] at hx250_0)
                  replace p250 := eq_true p250
                  replace q250 := eq_true q250
                  have p251 : 0 ≤ ((rd t230 0) : Int) := od_
                  have q251 : (rd t230 0) < (l0_2.length : Int) := od_
                  obtain ⟨ad251, e251, hx251_0⟩ := Kd.at_bool HR0_2.out (rd t230 0) p251 q251
                  (try rw [← Nbq114.out] at hx251_0)
                  have hw251_0 := hx251_0
                  cases e251
                  replace hx251_0 := lf_ HB.out hx251_0
                  replace p251 := eq_true p251
                  replace q251 := eq_true q251
                  refine start_ (n := 24) (S := fun w' => w'.cell? ⟨gb216, 0, none⟩ = some (.int .i64 a0_0) ∧ w'.cell? ⟨gb216, 1, none⟩ = some (.slice A0_1 l0_1.length c0_1) ∧ w'.cell? ⟨gb216, 2, none⟩ = some (.slice (some ad251) l0_2.length c0_2) ∧ w'.cell? ad250 = some (.int .i64 (rd t230 0)) ∧ w'.cell? (ad251.add ((rd t230 0)).toNat) = some (.bool true)) (ds := []) #[false, false, false, false, false, false, false, false, false, false, false, false, false, false, false, false, false, false, false, false, false, false, false, false] (by kernel_rfl) rfl rfl ⟨(blk_cell BK216.out 0).trans rfl, (blk_cell BK216.out 1).trans rfl, (blk_cell BK216.out 2).trans rfl, hx250_0, ((HB.out.cell (World.block_lt_of_cell? w _ hw251_0)).trans hw251_0)⟩ (fun hHeld => ?_); refine with_tabW standstilllaw07_TagCyclic.tab14 standstilllaw07_TagCyclic.bits14 (fun HT_ HW_ => ?_)
                  generalize w125.drew = w126 at HO_11 HO_226000 HO_242001 HO245 BK216 BK225 BK241 HB hx250_0 hx251_0 hHeld ⊢
                  refine pure_ (i := 0) (N := some 130) (v := ?_) (a' := ?_) #[true, false, false, false, false, false, false, false, false, false, false, false, false, false, false, false, false, false, false, false, false, false, false, false] rfl rfl (any_of HT_.out (by kernel_rfl)) (fun _ _ _ h => h) (Or.inl ⟨by rfl, ?_⟩) ?_ ?_
                  rotate_left
                  ·intro w'
                   go_simp
                   with_reducible rfl
                  rotate_left
                  ·simp only [Act.put, sa_, sz_, ss_, i64_w, i32_w]
                   rfl
                  refine pure_ (i := 1) (N := some 131) (v := ?_) (a' := ?_) #[true, true, false, false, false, false, false, false, false, false, false, false, false, false, false, false, false, false, false, false, false, false, false, false] rfl rfl (any_of HT_.out (by kernel_rfl)) (fun _ _ _ h => h) (Or.inl ⟨by rfl, ?_⟩) ?_ ?_
                  rotate_left
                  ·intro w'
                   go_simp
                   with_reducible rfl
                  rotate_left
                  ·simp only [Act.put, sa_, sz_, ss_, i64_w, i32_w]
                   rfl
                  refine pure_ (i := 2) (N := some 132) (v := ?_) (a' := ?_) #[true, true, true, false, false, false, false, false, false, false, false, false, false, false, false, false, false, false, false, false, false, false, false, false] rfl rfl (any_of HT_.out (by kernel_rfl)) (fun _ _ _ h => h) (Or.inl ⟨by rfl, ?_⟩) ?_ ?_
                  rotate_left
                  ·intro w'
                   go_simp
                   with_reducible rfl
                  rotate_left
                  ·simp only [Act.put, sa_, sz_, ss_, i64_w, i32_w]
                   rfl
                  refine pure_ (i := 3) (N := some 133) (v := ?_) (a' := ?_) #[true, true, true, true, false, false, false, false, false, false, false, false, false, false, false, false, false, false, false, false, false, false, false, false] rfl rfl (any_of HT_.out (by kernel_rfl)) (fun _ _ _ h => h) (Or.inl ⟨by rfl, ?_⟩) ?_ ?_
                  rotate_left
                  ·intro w'
                   go_simp
                   with_reducible rfl
                  rotate_left
                  ·simp only [Act.put, sa_, sz_, ss_, i64_w, i32_w]
                   rfl
                  refine pure_ (i := 4) (N := some 134) (v := ?_) (a' := ?_) #[true, true, true, true, true, false, false, false, false, false, false, false, false, false, false, false, false, false, false, false, false, false, false, false] rfl rfl (any_of HT_.out (by kernel_rfl)) (fun _ _ _ h => h) (Or.inl ⟨by rfl, ?_⟩) ?_ ?_
                  rotate_left
                  ·intro w'
                   go_simp
                   with_reducible rfl
                  rotate_left
                  ·simp only [Act.put, sa_, sz_, ss_, i64_w, i32_w]
                   rfl
                  refine pure_ (i := 5) (N := some 135) (v := ?_) (a' := ?_) #[true, true, true, true, true, true, false, false, false, false, false, false, false, false, false, false, false, false, false, false, false, false, false, false] rfl rfl (any_of HT_.out (by kernel_rfl)) (fun _ _ _ h => h) (Or.inl ⟨by rfl, ?_⟩) ?_ ?_
                  rotate_left
                  ·intro w'
                   go_simp
                   with_reducible rfl
                  rotate_left
                  ·simp only [Act.put, sa_, sz_, ss_, i64_w, i32_w]
                   rfl
                  refine pure_ (i := 6) (N := some 136) (v := ?_) (a' := ?_) #[true, true, true, true, true, true, true, false, false, false, false, false, false, false, false, false, false, false, false, false, false, false, false, false] rfl rfl (any_of HT_.out (by kernel_rfl)) (fun _ _ _ h => h) (Or.inl ⟨by rfl, ?_⟩) ?_ ?_
                  rotate_left
                  ·intro w'
                   go_simp
                   with_reducible rfl
                  rotate_left
                  ·simp only [Act.put, sa_, sz_, ss_, i64_w, i32_w]
                   rfl
                  refine pure_ (i := 7) (N := some 137) (v := ?_) (a' := ?_) #[true, true, true, true, true, true, true, true, false, false, false, false, false, false, false, false, false, false, false, false, false, false, false, false] rfl rfl (any_of HT_.out (by kernel_rfl)) (fun _ _ _ h => h) (Or.inl ⟨by rfl, ?_⟩) ?_ ?_
                  rotate_left
                  ·intro w'
                   go_simp
                   with_reducible rfl
                  rotate_left
                  ·simp only [Act.put, sa_, sz_, ss_, i64_w, i32_w]
                   rfl
                  refine take_ (i := 8) (N := some 138) (v := ?_) (a' := ?_) #[true, true, true, true, true, true, true, true, true, false, false, false, false, false, false, false, false, false, false, false, false, false, false, false] rfl rfl (take_ofW HT_.out HW_.out (by kernel_rfl)) (fun _ _ _ h => h) (Or.inl ⟨by rfl, ?_⟩) hHeld ?_ ?_
                  rotate_left
                  ·rintro w' ⟨s0, s1, s2, s3, s4⟩
                   go_simp
                   with_reducible rfl
                  rotate_left
                  ·simp only [Act.put, sa_, sz_, ss_, i64_w, i32_w]
                   rfl
                  refine pure_ (i := 9) (N := some 139) (v := ?_) (a' := ?_) #[true, true, true, true, true, true, true, true, true, true, false, false, false, false, false, false, false, false, false, false, false, false, false, false] rfl rfl (any_of HT_.out (by kernel_rfl)) (fun _ _ _ h => h) (Or.inl ⟨by rfl, ?_⟩) ?_ ?_
                  rotate_left
                  ·intro w'
                   go_simp
                   with_reducible rfl
                  rotate_left
                  ·simp only [Act.put, sa_, sz_, ss_, i64_w, i32_w]
                   rfl
                  refine pure_ (i := 10) (N := some 140) (v := ?_) (a' := ?_) #[true, true, true, true, true, true, true, true, true, true, true, false, false, false, false, false, false, false, false, false, false, false, false, false] rfl rfl (any_of HT_.out (by kernel_rfl)) (fun _ _ _ h => h) (Or.inl ⟨by rfl, ?_⟩) ?_ ?_
                  rotate_left
                  ·intro w'
                   go_simp
                   with_reducible rfl
                  rotate_left
                  ·simp only [Act.put, sa_, sz_, ss_, i64_w, i32_w]
                   rfl
                  refine pure_ (i := 11) (N := some 141) (v := ?_) (a' := ?_) #[true, true, true, true, true, true, true, true, true, true, true, true, false, false, false, false, false, false, false, false, false, false, false, false] rfl rfl (any_of HT_.out (by kernel_rfl)) (fun _ _ _ h => h) (Or.inl ⟨by rfl, ?_⟩) ?_ ?_
                  rotate_left
                  ·intro w'
                   go_simp
                   with_reducible rfl
                  rotate_left
                  ·simp only [Act.put, sa_, sz_, ss_, i64_w, i32_w]
                   rfl
                  refine pure_ (i := 12) (N := some 142) (v := ?_) (a' := ?_) #[true, true, true, true, true, true, true, true, true, true, true, true, true, false, false, false, false, false, false, false, false, false, false, false] rfl rfl (any_of HT_.out (by kernel_rfl)) (fun _ _ _ h => h) (Or.inl ⟨by rfl, ?_⟩) ?_ ?_
                  rotate_left
                  ·intro w'
                   go_simp
                   with_reducible rfl
                  rotate_left
                  ·simp only [Act.put, sa_, sz_, ss_, i64_w, i32_w]
                   rfl
                  refine pure_ (i := 14) (N := some 144) (v := ?_) (a' := ?_) #[true, true, true, true, true, true, true, true, true, true, true, true, true, false, true, false, false, false, false, false, false, false, false, false] rfl rfl (any_of HT_.out (by kernel_rfl)) (fun _ _ _ h => h) (Or.inl ⟨by rfl, ?_⟩) ?_ ?_
                  rotate_left
                  ·intro w'
                   go_simp
                   with_reducible rfl
                  rotate_left
                  ·simp only [Act.put, sa_, sz_, ss_, i64_w, i32_w]
                   rfl
                  refine pure_ (i := 15) (N := some 145) (v := ?_) (a' := ?_) #[true, true, true, true, true, true, true, true, true, true, true, true, true, false, true, true, false, false, false, false, false, false, false, false] rfl rfl (any_of HT_.out (by kernel_rfl)) (fun _ _ _ h => h) (Or.inl ⟨by rfl, ?_⟩) ?_ ?_
                  rotate_left
                  ·intro w'
                   go_simp
                   with_reducible rfl
                  rotate_left
                  ·simp only [Act.put, sa_, sz_, ss_, i64_w, i32_w]
                   rfl
                  refine take_ (i := 13) (N := some 143) (v := ?_) (a' := ?_) #[true, true, true, true, true, true, true, true, true, true, true, true, true, true, true, true, false, false, false, false, false, false, false, false] rfl rfl (take_ofW HT_.out HW_.out (by kernel_rfl)) (fun _ _ _ h => h) (Or.inl ⟨by rfl, ?_⟩) hHeld ?_ ?_
                  rotate_left
                  ·rintro w' ⟨s0, s1, s2, s3, s4⟩
                   go_simp
                   with_reducible rfl
                  rotate_left
                  ·simp only [Act.put, sa_, sz_, ss_, i64_w, i32_w]
                   rfl
                  refine take_ (i := 16) (N := some 146) (v := ?_) (a' := ?_) #[true, true, true, true, true, true, true, true, true, true, true, true, true, true, true, true, true, false, false, false, false, false, false, false] rfl rfl (take_ofW HT_.out HW_.out (by kernel_rfl)) (fun _ _ _ h => h) (Or.inl ⟨by rfl, ?_⟩) hHeld ?_ ?_
                  rotate_left
                  ·rintro w' ⟨s0, s1, s2, s3, s4⟩
                   go_simp
                   with_reducible rfl
                  rotate_left
                  ·simp only [Act.put, sa_, sz_, ss_, i64_w, i32_w]
                   rfl
                  refine pure_ (i := 17) (N := some 147) (v := ?_) (a' := ?_) #[true, true, true, true, true, true, true, true, true, true, true, true, true, true, true, true, true, true, false, false, false, false, false, false] rfl rfl (any_of HT_.out (by kernel_rfl)) (fun _ _ _ h => h) (Or.inl ⟨by rfl, ?_⟩) ?_ ?_
                  rotate_left
                  ·intro w'
                   go_simp
                   with_reducible rfl
                  rotate_left
                  ·simp only [Act.put, sa_, sz_, ss_, i64_w, i32_w]
                   rfl
                  refine take_ (i := 18) (N := some 148) (v := ?_) (a' := ?_) #[true, true, true, true, true, true, true, true, true, true, true, true, true, true, true, true, true, true, true, false, false, false, false, false] rfl rfl (take_ofW HT_.out HW_.out (by kernel_rfl)) (fun _ _ _ h => h) (Or.inl ⟨by rfl, ?_⟩) hHeld ?_ ?_
                  rotate_left
                  ·rintro w' ⟨s0, s1, s2, s3, s4⟩
                   go_simp
                   with_reducible rfl
                  rotate_left
                  ·simp only [Act.put, sa_, sz_, ss_, i64_w, i32_w]
                   rfl
                  refine pure_ (i := 19) (N := some 149) (v := ?_) (a' := ?_) #[true, true, true, true, true, true, true, true, true, true, true, true, true, true, true, true, true, true, true, true, false, false, false, false] rfl rfl (any_of HT_.out (by kernel_rfl)) (fun _ _ _ h => h) (Or.inl ⟨by rfl, ?_⟩) ?_ ?_
                  rotate_left
                  ·intro w'
                   go_simp
                   with_reducible rfl
                  rotate_left
                  ·simp only [Act.put, sa_, sz_, ss_, i64_w, i32_w]
                   rfl
                  refine pure_ (i := 20) (N := some 150) (v := ?_) (a' := ?_) #[true, true, true, true, true, true, true, true, true, true, true, true, true, true, true, true, true, true, true, true, true, false, false, false] rfl rfl (any_of HT_.out (by kernel_rfl)) (fun _ _ _ h => h) (Or.inl ⟨by rfl, ?_⟩) ?_ ?_
                  rotate_left
                  ·intro w'
                   go_simp
                   with_reducible rfl
                  rotate_left
                  ·simp only [Act.put, sa_, sz_, ss_, i64_w, i32_w]
                   rfl
                  refine one_ (i := 21) (N := some 151) #[true, true, true, true, true, true, true, true, true, true, true, true, true, true, true, true, true, true, true, true, true, true, false, false] rfl rfl (one_of HT_.out (by kernel_rfl)) (by decide) (fun K hK => ?_)
                  refine goes_ Try.func11 (by kernel_rfl) rfl #[] (by rfl) rfl rfl gl_ ?_
                  with_reducible refine (standstilllaw07_awake.calls kj54  t252 _ A116.out).mono ?_
                  rintro e w127 ⟨rfl, hb⟩
                  have HS3_ := (hb.cell (World.block_lt_of_cell? _ _ (hHeld.2.2.2.1))).trans (hHeld.2.2.2.1)
                  refine ⟨_, rfl, ?_⟩
                  have n0_ := A_ (Kd.R_below (rk_ HO_11.out) hb)
                  have n1_ := A_ (Kd.S_below (by (with_reducible repeat (first | apply Kd.S_alloc | apply Kd.S_drewN | apply Kd.S_drew)); exact HO_226000.out) hb)
                  have n2_ := A_ (Kd.R_below (rk_ HO_242001.out) hb)
                  have n3_ := A_ (Kd.R_below (rk_ HO245.out) hb)
                  have n4_ := A_ (blk_below (pk_ BK216.out) hb)
                  have n5_ := A_ (blk_below (pk_ BK225.out) hb)
                  have n6_ := A_ (blk_below (pk_ BK241.out) hb)
                  have n7_ := A_ (below_step (bk_ HB.out) hb)
                  clear HO_11 HO_226000 HO_242001 HO245 BK216 BK225 BK241 HB
                  have HO_11 := n0_
                  have HO_226000 := n1_
                  have HO_242001 := n2_
                  have HO245 := n3_
                  have BK216 := n4_
                  have BK225 := n5_
                  have BK241 := n6_
                  have HB := n7_
                  clear n0_ n1_ n2_ n3_ n4_ n5_ n6_ n7_
                  (try clear hb)
                  (try clear hb2)
                  (try clear hk)
                  (try clear hi)
                  refine hK.out _ _ ⟨(blk_cell BK216.out 0).trans rfl, (blk_cell BK216.out 1).trans rfl, (blk_cell BK216.out 2).trans rfl, HS3_, ((HB.out.cell (World.block_lt_of_cell? w _ hw251_0)).trans hw251_0)⟩ (fun hHeld => ?_)
                  clear hK K
                  refine norm_ (a' := ?_) ?_ ?_
                  rotate_left
                  ·show Act.put _ (some 151) _ = _
                   simp only [Act.put, sa_, sz_, ss_, i64_w, i32_w]
                   rfl
                  refine pure_ (i := 22) (N := some 152) (v := ?_) (a' := ?_) #[true, true, true, true, true, true, true, true, true, true, true, true, true, true, true, true, true, true, true, true, true, true, true, false] rfl rfl (any_of HT_.out (by kernel_rfl)) (fun _ _ _ h => h) (Or.inl ⟨by rfl, ?_⟩) ?_ ?_
                  rotate_left
                  ·intro w'
                   go_simp
                   with_reducible rfl
                  rotate_left
                  ·simp only [Act.put, sa_, sz_, ss_, i64_w, i32_w]
                   rfl
                  refine pure_ (i := 23) (N := some 6) (v := ?_) (a' := ?_) #[true, true, true, true, true, true, true, true, true, true, true, true, true, true, true, true, true, true, true, true, true, true, true, true] rfl rfl (any_of HT_.out (by kernel_rfl)) (fun _ _ _ h => h) (Or.inl ⟨by rfl, ?_⟩) ?_ ?_
                  rotate_left
                  ·intro w'
                   go_simp
                   with_reducible rfl
                  rotate_left
                  ·simp only [Act.put, sa_, sz_, ss_, i64_w, i32_w]
                   rfl
                  refine done_ (done_of HT_.out (by kernel_rfl)) ?_
                  try go_wp2
                  go_ret
                  exact ⟨er_, bk_ HB.out⟩
                 ·replace c115 := Bool.eq_false_iff.mpr c115
                  subst c115
                  have H1 : (some false) = some r := by rw [if_neg (show ¬ (false = true) by decide)] at H; exact H
                  clear H
                  have H := H1
                  clear H1
                  obtain rfl := Option.some.inj H
                  have hnb128 := NB216_225.out
                  have hnc128 := NB225_216.out
                  have hnb129 := NB216_241.out
                  have hnc129 := NB241_216.out
                  have hcz130_0 : wc.cell? ⟨gb216, 0, none⟩ = some (.int .i64 a0_0) := (blk_cell BK216.out 0).trans rfl
                  have hcz130_1 : wc.cell? ⟨gb216, 1, none⟩ = some (.slice A0_1 l0_1.length c0_1) := (blk_cell BK216.out 1).trans rfl
                  have hcz130_2 : wc.cell? ⟨gb216, 2, none⟩ = some (.slice A0_2 l0_2.length c0_2) := (blk_cell BK216.out 2).trans rfl
                  have hfz130_0 := blk_frozen BK216.out 0
                  have hfz130_1 := blk_frozen BK216.out 1
                  have hfz130_2 := blk_frozen BK216.out 2
                  obtain ⟨Ao131, co131, eo131⟩ := Kd.R_slice HO_11.out
                  subst eo131
                  try go_wp2_with (first | ((with_reducible refine gate_callee (f := 33) rfl ?_); refine goesL_ (some 118) rfl rfl Try.func33 (by kernel_rfl) rfl #[.agg #[.int .i64 a0_0, .slice A0_1 l0_1.length c0_1, .slice A0_2 l0_2.length c0_2], .slice Ao131 t230.length co131] rfl gl_ ?_; (with_reducible refine (tag_Bits.calls kj54 a0_0 _ _ l0_1 _ _ l0_2 _ _ t230 t243 t246 _ ?side1 ?side2 ?side3 ?side4 ?side5 ?side6 A81.out).mono ?_); (case side1 => exact ck_ (Kd.C_below HR0_1.out HB.out)); (case side2 => exact HC0_1.out); (case side3 => exact ck_ (Kd.C_below HR0_2.out HB.out)); (case side4 => exact HC0_2.out); (case side5 => repeat (first | exact (Kd.R_reads' HO_11.out).2.2 | (with_reducible refine Kd.C_alloc ?_ _) | (with_reducible refine Kd.C_drewN ?_ _) | (with_reducible refine Kd.C_drew ?_))); (case side6 => exact (Kd.R_reads' HO_11.out).2.1); rintro e w132 ⟨v244, rfl, ho0, hb⟩; refine ⟨_, rfl, ?_⟩; have n0_ := A_ (Kd.R_elder' (rk_ HO_11.out) (Kd.R_base ho0) hb); have n1_ := A_ (Kd.S_elder' (by (with_reducible repeat (first | apply Kd.S_alloc | apply Kd.S_drewN | apply Kd.S_drew)); exact HO_226000.out) (Kd.R_base ho0) hb); have n2_ := A_ (Kd.R_elder' (rk_ HO_242001.out) (Kd.R_base ho0) hb); have n3_ := A_ (Kd.R_lower (Kd.R_new' (Kd.R_new' ho0 (Kd.R_lt (rk_ HO_11.out))) (Kd.R_lt (rk_ HO_242001.out))) (below_size (bk_ HB.out))); have n4_ := A_ (blk_below (pk_ BK216.out) hb); have n5_ := A_ (blk_below (pk_ BK225.out) hb); have n6_ := A_ (blk_below (pk_ BK241.out) hb); have n7_ := A_ (below_step (bk_ HB.out) hb); clear HO_11 HO_226000 HO_242001 BK216 BK225 BK241 HB; have HO_11 := n0_; have HO_226000 := n1_; have HO_242001 := n2_; have HO245 := n3_; have BK216 := n4_; have BK225 := n5_; have BK241 := n6_; have HB := n7_; clear n0_ n1_ n2_ n3_ n4_ n5_ n6_ n7_; (try clear hb); (try clear hb2); (try clear hk); (try clear hi); (try clear ho0); have hnb133 := NB241_225.out; have hnc133 := NB225_241.out; have hcz134_0 : w132.cell? ⟨gb241, 0, none⟩ = some (.int .i64 t235) := (blk_cell BK241.out 0).trans rfl; have hcz134_1 : w132.cell? ⟨gb241, 1, none⟩ = some (.slice Ao67 t236.length co67) := (blk_cell BK241.out 1).trans rfl; have hfz134_0 := blk_frozen BK241.out 0; have hfz134_1 := blk_frozen BK241.out 1; obtain ⟨Ao135, co135, eo135⟩ := Kd.R_slice HO245.out; subst eo135) | (go_at_call 30; (with_reducible refine (standstillref07_SameWheel.calls kj54 t235 _ _ t236 0 _ _ t243 true _ ?side1 ?side2 ?side3 ?side4 A83.out).mono ?_); (case side1 => repeat (first | exact (Kd.R_reads' HO_242001.out).2.2 | (with_reducible refine Kd.C_alloc ?_ _) | (with_reducible refine Kd.C_drewN ?_ _) | (with_reducible refine Kd.C_drew ?_))); (case side2 => exact (Kd.R_reads' HO_242001.out).2.1); (case side3 => repeat (first | exact (Kd.R_reads' HO245.out).2.2 | (with_reducible refine Kd.C_alloc ?_ _) | (with_reducible refine Kd.C_drewN ?_ _) | (with_reducible refine Kd.C_drew ?_))); (case side4 => exact (Kd.R_reads' HO245.out).2.1); rintro e w136 ⟨rfl, hb⟩; have n0_ := A_ (Kd.R_below (rk_ HO_11.out) hb); have n1_ := A_ (Kd.S_below (by (with_reducible repeat (first | apply Kd.S_alloc | apply Kd.S_drewN | apply Kd.S_drew)); exact HO_226000.out) hb); have n2_ := A_ (Kd.R_below (rk_ HO_242001.out) hb); have n3_ := A_ (Kd.R_below (rk_ HO245.out) hb); have n4_ := A_ (blk_below (pk_ BK216.out) hb); have n5_ := A_ (blk_below (pk_ BK225.out) hb); have n6_ := A_ (blk_below (pk_ BK241.out) hb); have n7_ := A_ (below_step (bk_ HB.out) hb); clear HO_11 HO_226000 HO_242001 HO245 BK216 BK225 BK241 HB; have HO_11 := n0_; have HO_226000 := n1_; have HO_242001 := n2_; have HO245 := n3_; have BK216 := n4_; have BK225 := n5_; have BK241 := n6_; have HB := n7_; clear n0_ n1_ n2_ n3_ n4_ n5_ n6_ n7_; (try clear hb); (try clear hb2); (try clear hk); (try clear hi)))
                  have n0_ := A_ (Kd.R_drew HO_11.out)
                  have n1_ := A_ (Kd.S_drew HO_226000.out)
                  have n2_ := A_ (Kd.R_drew HO_242001.out)
                  have n3_ := A_ (Kd.R_drew HO245.out)
                  have n4_ := A_ (blk_drew BK216.out)
                  have n5_ := A_ (blk_drew BK225.out)
                  have n6_ := A_ (blk_drew BK241.out)
                  have n7_ := A_ (below_drew1 HB.out)
                  clear HO_11 HO_226000 HO_242001 HO245 BK216 BK225 BK241 HB
                  have HO_11 := n0_
                  have HO_226000 := n1_
                  have HO_242001 := n2_
                  have HO245 := n3_
                  have BK216 := n4_
                  have BK225 := n5_
                  have BK241 := n6_
                  have HB := n7_
                  clear n0_ n1_ n2_ n3_ n4_ n5_ n6_ n7_
                  have p250 : 0 ≤ (0 : Int) := (by omega)
                  have q250 : 0 < (t230.length : Int) := od_
                  obtain ⟨ad250, e250, hx250_0⟩ := Kd.at_int (Kd.R_reads' HO_11.out).2.2 0 p250 q250
                  cases e250
                  have qi250 : (0 < t230.length) = True := eq_true (by omega)
                  (try rw [show ((0 : Int)).toNat = 0 from rfl] at hx250_0)
                  (try rw [Addr.add_zero'] at hx250_0)
                  replace p250 := eq_true p250
                  replace q250 := eq_true q250
                  have p251 : 0 ≤ ((rd t230 0) : Int) := od_
                  have q251 : (rd t230 0) < (l0_2.length : Int) := od_
                  obtain ⟨ad251, e251, hx251_0⟩ := Kd.at_bool HR0_2.out (rd t230 0) p251 q251
                  (try rw [← Nbq114.out] at hx251_0)
                  have hw251_0 := hx251_0
                  cases e251
                  replace hx251_0 := lf_ HB.out hx251_0
                  replace p251 := eq_true p251
                  replace q251 := eq_true q251
                  refine start_ (n := 24) (S := fun w' => w'.cell? ⟨gb216, 0, none⟩ = some (.int .i64 a0_0) ∧ w'.cell? ⟨gb216, 1, none⟩ = some (.slice A0_1 l0_1.length c0_1) ∧ w'.cell? ⟨gb216, 2, none⟩ = some (.slice (some ad251) l0_2.length c0_2) ∧ w'.cell? ad250 = some (.int .i64 (rd t230 0)) ∧ w'.cell? (ad251.add ((rd t230 0)).toNat) = some (.bool false)) (ds := []) #[false, false, false, false, false, false, false, false, false, false, false, false, false, false, false, false, false, false, false, false, false, false, false, false] (by kernel_rfl) rfl rfl ⟨(blk_cell BK216.out 0).trans rfl, (blk_cell BK216.out 1).trans rfl, (blk_cell BK216.out 2).trans rfl, hx250_0, ((HB.out.cell (World.block_lt_of_cell? w _ hw251_0)).trans hw251_0)⟩ (fun hHeld => ?_); refine with_tabW standstilllaw07_TagCyclic.tab14 standstilllaw07_TagCyclic.bits14 (fun HT_ HW_ => ?_)
                  generalize w136.drew = w137 at HO_11 HO_226000 HO_242001 HO245 BK216 BK225 BK241 HB hx250_0 hx251_0 hHeld ⊢
                  refine pure_ (i := 0) (N := some 130) (v := ?_) (a' := ?_) #[true, false, false, false, false, false, false, false, false, false, false, false, false, false, false, false, false, false, false, false, false, false, false, false] rfl rfl (any_of HT_.out (by kernel_rfl)) (fun _ _ _ h => h) (Or.inl ⟨by rfl, ?_⟩) ?_ ?_
                  rotate_left
                  ·intro w'
                   go_simp
                   with_reducible rfl
                  rotate_left
                  ·simp only [Act.put, sa_, sz_, ss_, i64_w, i32_w]
                   rfl
                  refine pure_ (i := 1) (N := some 131) (v := ?_) (a' := ?_) #[true, true, false, false, false, false, false, false, false, false, false, false, false, false, false, false, false, false, false, false, false, false, false, false] rfl rfl (any_of HT_.out (by kernel_rfl)) (fun _ _ _ h => h) (Or.inl ⟨by rfl, ?_⟩) ?_ ?_
                  rotate_left
                  ·intro w'
                   go_simp
                   with_reducible rfl
                  rotate_left
                  ·simp only [Act.put, sa_, sz_, ss_, i64_w, i32_w]
                   rfl
                  refine pure_ (i := 2) (N := some 132) (v := ?_) (a' := ?_) #[true, true, true, false, false, false, false, false, false, false, false, false, false, false, false, false, false, false, false, false, false, false, false, false] rfl rfl (any_of HT_.out (by kernel_rfl)) (fun _ _ _ h => h) (Or.inl ⟨by rfl, ?_⟩) ?_ ?_
                  rotate_left
                  ·intro w'
                   go_simp
                   with_reducible rfl
                  rotate_left
                  ·simp only [Act.put, sa_, sz_, ss_, i64_w, i32_w]
                   rfl
                  refine pure_ (i := 3) (N := some 133) (v := ?_) (a' := ?_) #[true, true, true, true, false, false, false, false, false, false, false, false, false, false, false, false, false, false, false, false, false, false, false, false] rfl rfl (any_of HT_.out (by kernel_rfl)) (fun _ _ _ h => h) (Or.inl ⟨by rfl, ?_⟩) ?_ ?_
                  rotate_left
                  ·intro w'
                   go_simp
                   with_reducible rfl
                  rotate_left
                  ·simp only [Act.put, sa_, sz_, ss_, i64_w, i32_w]
                   rfl
                  refine pure_ (i := 4) (N := some 134) (v := ?_) (a' := ?_) #[true, true, true, true, true, false, false, false, false, false, false, false, false, false, false, false, false, false, false, false, false, false, false, false] rfl rfl (any_of HT_.out (by kernel_rfl)) (fun _ _ _ h => h) (Or.inl ⟨by rfl, ?_⟩) ?_ ?_
                  rotate_left
                  ·intro w'
                   go_simp
                   with_reducible rfl
                  rotate_left
                  ·simp only [Act.put, sa_, sz_, ss_, i64_w, i32_w]
                   rfl
                  refine pure_ (i := 5) (N := some 135) (v := ?_) (a' := ?_) #[true, true, true, true, true, true, false, false, false, false, false, false, false, false, false, false, false, false, false, false, false, false, false, false] rfl rfl (any_of HT_.out (by kernel_rfl)) (fun _ _ _ h => h) (Or.inl ⟨by rfl, ?_⟩) ?_ ?_
                  rotate_left
                  ·intro w'
                   go_simp
                   with_reducible rfl
                  rotate_left
                  ·simp only [Act.put, sa_, sz_, ss_, i64_w, i32_w]
                   rfl
                  refine pure_ (i := 6) (N := some 136) (v := ?_) (a' := ?_) #[true, true, true, true, true, true, true, false, false, false, false, false, false, false, false, false, false, false, false, false, false, false, false, false] rfl rfl (any_of HT_.out (by kernel_rfl)) (fun _ _ _ h => h) (Or.inl ⟨by rfl, ?_⟩) ?_ ?_
                  rotate_left
                  ·intro w'
                   go_simp
                   with_reducible rfl
                  rotate_left
                  ·simp only [Act.put, sa_, sz_, ss_, i64_w, i32_w]
                   rfl
                  refine pure_ (i := 7) (N := some 137) (v := ?_) (a' := ?_) #[true, true, true, true, true, true, true, true, false, false, false, false, false, false, false, false, false, false, false, false, false, false, false, false] rfl rfl (any_of HT_.out (by kernel_rfl)) (fun _ _ _ h => h) (Or.inl ⟨by rfl, ?_⟩) ?_ ?_
                  rotate_left
                  ·intro w'
                   go_simp
                   with_reducible rfl
                  rotate_left
                  ·simp only [Act.put, sa_, sz_, ss_, i64_w, i32_w]
                   rfl
                  refine take_ (i := 8) (N := some 138) (v := ?_) (a' := ?_) #[true, true, true, true, true, true, true, true, true, false, false, false, false, false, false, false, false, false, false, false, false, false, false, false] rfl rfl (take_ofW HT_.out HW_.out (by kernel_rfl)) (fun _ _ _ h => h) (Or.inl ⟨by rfl, ?_⟩) hHeld ?_ ?_
                  rotate_left
                  ·rintro w' ⟨s0, s1, s2, s3, s4⟩
                   go_simp
                   with_reducible rfl
                  rotate_left
                  ·simp only [Act.put, sa_, sz_, ss_, i64_w, i32_w]
                   rfl
                  refine pure_ (i := 9) (N := some 139) (v := ?_) (a' := ?_) #[true, true, true, true, true, true, true, true, true, true, false, false, false, false, false, false, false, false, false, false, false, false, false, false] rfl rfl (any_of HT_.out (by kernel_rfl)) (fun _ _ _ h => h) (Or.inl ⟨by rfl, ?_⟩) ?_ ?_
                  rotate_left
                  ·intro w'
                   go_simp
                   with_reducible rfl
                  rotate_left
                  ·simp only [Act.put, sa_, sz_, ss_, i64_w, i32_w]
                   rfl
                  refine pure_ (i := 10) (N := some 140) (v := ?_) (a' := ?_) #[true, true, true, true, true, true, true, true, true, true, true, false, false, false, false, false, false, false, false, false, false, false, false, false] rfl rfl (any_of HT_.out (by kernel_rfl)) (fun _ _ _ h => h) (Or.inl ⟨by rfl, ?_⟩) ?_ ?_
                  rotate_left
                  ·intro w'
                   go_simp
                   with_reducible rfl
                  rotate_left
                  ·simp only [Act.put, sa_, sz_, ss_, i64_w, i32_w]
                   rfl
                  refine pure_ (i := 11) (N := some 141) (v := ?_) (a' := ?_) #[true, true, true, true, true, true, true, true, true, true, true, true, false, false, false, false, false, false, false, false, false, false, false, false] rfl rfl (any_of HT_.out (by kernel_rfl)) (fun _ _ _ h => h) (Or.inl ⟨by rfl, ?_⟩) ?_ ?_
                  rotate_left
                  ·intro w'
                   go_simp
                   with_reducible rfl
                  rotate_left
                  ·simp only [Act.put, sa_, sz_, ss_, i64_w, i32_w]
                   rfl
                  refine pure_ (i := 12) (N := some 142) (v := ?_) (a' := ?_) #[true, true, true, true, true, true, true, true, true, true, true, true, true, false, false, false, false, false, false, false, false, false, false, false] rfl rfl (any_of HT_.out (by kernel_rfl)) (fun _ _ _ h => h) (Or.inl ⟨by rfl, ?_⟩) ?_ ?_
                  rotate_left
                  ·intro w'
                   go_simp
                   with_reducible rfl
                  rotate_left
                  ·simp only [Act.put, sa_, sz_, ss_, i64_w, i32_w]
                   rfl
                  refine pure_ (i := 14) (N := some 144) (v := ?_) (a' := ?_) #[true, true, true, true, true, true, true, true, true, true, true, true, true, false, true, false, false, false, false, false, false, false, false, false] rfl rfl (any_of HT_.out (by kernel_rfl)) (fun _ _ _ h => h) (Or.inl ⟨by rfl, ?_⟩) ?_ ?_
                  rotate_left
                  ·intro w'
                   go_simp
                   with_reducible rfl
                  rotate_left
                  ·simp only [Act.put, sa_, sz_, ss_, i64_w, i32_w]
                   rfl
                  refine pure_ (i := 15) (N := some 145) (v := ?_) (a' := ?_) #[true, true, true, true, true, true, true, true, true, true, true, true, true, false, true, true, false, false, false, false, false, false, false, false] rfl rfl (any_of HT_.out (by kernel_rfl)) (fun _ _ _ h => h) (Or.inl ⟨by rfl, ?_⟩) ?_ ?_
                  rotate_left
                  ·intro w'
                   go_simp
                   with_reducible rfl
                  rotate_left
                  ·simp only [Act.put, sa_, sz_, ss_, i64_w, i32_w]
                   rfl
                  refine take_ (i := 13) (N := some 143) (v := ?_) (a' := ?_) #[true, true, true, true, true, true, true, true, true, true, true, true, true, true, true, true, false, false, false, false, false, false, false, false] rfl rfl (take_ofW HT_.out HW_.out (by kernel_rfl)) (fun _ _ _ h => h) (Or.inl ⟨by rfl, ?_⟩) hHeld ?_ ?_
                  rotate_left
                  ·rintro w' ⟨s0, s1, s2, s3, s4⟩
                   go_simp
                   with_reducible rfl
                  rotate_left
                  ·simp only [Act.put, sa_, sz_, ss_, i64_w, i32_w]
                   rfl
                  refine take_ (i := 16) (N := some 146) (v := ?_) (a' := ?_) #[true, true, true, true, true, true, true, true, true, true, true, true, true, true, true, true, true, false, false, false, false, false, false, false] rfl rfl (take_ofW HT_.out HW_.out (by kernel_rfl)) (fun _ _ _ h => h) (Or.inl ⟨by rfl, ?_⟩) hHeld ?_ ?_
                  rotate_left
                  ·rintro w' ⟨s0, s1, s2, s3, s4⟩
                   go_simp
                   with_reducible rfl
                  rotate_left
                  ·simp only [Act.put, sa_, sz_, ss_, i64_w, i32_w]
                   rfl
                  refine pure_ (i := 17) (N := some 147) (v := ?_) (a' := ?_) #[true, true, true, true, true, true, true, true, true, true, true, true, true, true, true, true, true, true, false, false, false, false, false, false] rfl rfl (any_of HT_.out (by kernel_rfl)) (fun _ _ _ h => h) (Or.inl ⟨by rfl, ?_⟩) ?_ ?_
                  rotate_left
                  ·intro w'
                   go_simp
                   with_reducible rfl
                  rotate_left
                  ·simp only [Act.put, sa_, sz_, ss_, i64_w, i32_w]
                   rfl
                  refine take_ (i := 18) (N := some 148) (v := ?_) (a' := ?_) #[true, true, true, true, true, true, true, true, true, true, true, true, true, true, true, true, true, true, true, false, false, false, false, false] rfl rfl (take_ofW HT_.out HW_.out (by kernel_rfl)) (fun _ _ _ h => h) (Or.inl ⟨by rfl, ?_⟩) hHeld ?_ ?_
                  rotate_left
                  ·rintro w' ⟨s0, s1, s2, s3, s4⟩
                   go_simp
                   with_reducible rfl
                  rotate_left
                  ·simp only [Act.put, sa_, sz_, ss_, i64_w, i32_w]
                   rfl
                  refine pure_ (i := 19) (N := some 149) (v := ?_) (a' := ?_) #[true, true, true, true, true, true, true, true, true, true, true, true, true, true, true, true, true, true, true, true, false, false, false, false] rfl rfl (any_of HT_.out (by kernel_rfl)) (fun _ _ _ h => h) (Or.inl ⟨by rfl, ?_⟩) ?_ ?_
                  rotate_left
                  ·intro w'
                   go_simp
                   with_reducible rfl
                  rotate_left
                  ·simp only [Act.put, sa_, sz_, ss_, i64_w, i32_w]
                   rfl
                  refine pure_ (i := 20) (N := some 150) (v := ?_) (a' := ?_) #[true, true, true, true, true, true, true, true, true, true, true, true, true, true, true, true, true, true, true, true, true, false, false, false] rfl rfl (any_of HT_.out (by kernel_rfl)) (fun _ _ _ h => h) (Or.inl ⟨by rfl, ?_⟩) ?_ ?_
                  rotate_left
                  ·intro w'
                   go_simp
                   with_reducible rfl
                  rotate_left
                  ·simp only [Act.put, sa_, sz_, ss_, i64_w, i32_w]
                   rfl
                  refine pure_ (i := 21) (N := some 151) (v := undef) (a' := ?_) #[true, true, true, true, true, true, true, true, true, true, true, true, true, true, true, true, true, true, true, true, true, true, false, false] rfl rfl (any_of HT_.out (by kernel_rfl)) (fun _ _ _ h => h) (Or.inr ⟨by rfl, rfl⟩) ?_ ?_
                  rotate_left
                  ·simp only [Act.put, sa_, sz_, ss_, i64_w, i32_w]
                   rfl
                  refine pure_ (i := 22) (N := some 152) (v := ?_) (a' := ?_) #[true, true, true, true, true, true, true, true, true, true, true, true, true, true, true, true, true, true, true, true, true, true, true, false] rfl rfl (any_of HT_.out (by kernel_rfl)) (fun _ _ _ h => h) (Or.inl ⟨by rfl, ?_⟩) ?_ ?_
                  rotate_left
                  ·intro w'
                   go_simp
                   with_reducible rfl
                  rotate_left
                  ·simp only [Act.put, sa_, sz_, ss_, i64_w, i32_w]
                   rfl
                  refine pure_ (i := 23) (N := some 6) (v := ?_) (a' := ?_) #[true, true, true, true, true, true, true, true, true, true, true, true, true, true, true, true, true, true, true, true, true, true, true, true] rfl rfl (any_of HT_.out (by kernel_rfl)) (fun _ _ _ h => h) (Or.inl ⟨by rfl, ?_⟩) ?_ ?_
                  rotate_left
                  ·intro w'
                   go_simp
                   with_reducible rfl
                  rotate_left
                  ·simp only [Act.put, sa_, sz_, ss_, i64_w, i32_w]
                   rfl
                  refine done_ (done_of HT_.out (by kernel_rfl)) ?_
                  try go_wp2
                  go_ret
                  exact ⟨er_, bk_ HB.out⟩
                ·rw [if_neg c113] at H
                 exact absurd H (by simp)
               ·rw [if_neg c112] at H
                exact absurd H (by simp)
              ·rw [if_neg c111] at H
               exact absurd H (by simp)
           ·replace c84 := Bool.eq_false_iff.mpr c84
            subst c84
            have H1 : (some false) = some r := by rw [if_neg (show ¬ (false = true) by decide)] at H; exact H
            clear H
            have H := H1
            clear H1
            obtain rfl := Option.some.inj H
            have hnb138 := NB216_225.out
            have hnc138 := NB225_216.out
            have hnb139 := NB216_241.out
            have hnc139 := NB241_216.out
            have hcz140_0 : wc.cell? ⟨gb216, 0, none⟩ = some (.int .i64 a0_0) := (blk_cell BK216.out 0).trans rfl
            have hcz140_1 : wc.cell? ⟨gb216, 1, none⟩ = some (.slice A0_1 l0_1.length c0_1) := (blk_cell BK216.out 1).trans rfl
            have hcz140_2 : wc.cell? ⟨gb216, 2, none⟩ = some (.slice A0_2 l0_2.length c0_2) := (blk_cell BK216.out 2).trans rfl
            have hfz140_0 := blk_frozen BK216.out 0
            have hfz140_1 := blk_frozen BK216.out 1
            have hfz140_2 := blk_frozen BK216.out 2
            obtain ⟨Ao141, co141, eo141⟩ := Kd.R_slice HO_11.out
            subst eo141
            go_wp2_with (first | ((with_reducible refine gate_callee (f := 33) rfl ?_); refine goesL_ (some 118) rfl rfl Try.func33 (by kernel_rfl) rfl #[.agg #[.int .i64 a0_0, .slice A0_1 l0_1.length c0_1, .slice A0_2 l0_2.length c0_2], .slice Ao141 t230.length co141] rfl gl_ ?_; (with_reducible refine (tag_Bits.calls kj54 a0_0 _ _ l0_1 _ _ l0_2 _ _ t230 t243 t246 _ ?side1 ?side2 ?side3 ?side4 ?side5 ?side6 A81.out).mono ?_); (case side1 => exact ck_ (Kd.C_below HR0_1.out HB.out)); (case side2 => exact HC0_1.out); (case side3 => exact ck_ (Kd.C_below HR0_2.out HB.out)); (case side4 => exact HC0_2.out); (case side5 => repeat (first | exact (Kd.R_reads' HO_11.out).2.2 | (with_reducible refine Kd.C_alloc ?_ _) | (with_reducible refine Kd.C_drewN ?_ _) | (with_reducible refine Kd.C_drew ?_))); (case side6 => exact (Kd.R_reads' HO_11.out).2.1); rintro e w142 ⟨v244, rfl, ho0, hb⟩; refine ⟨_, rfl, ?_⟩; have n0_ := A_ (Kd.R_elder' (rk_ HO_11.out) (Kd.R_base ho0) hb); have n1_ := A_ (Kd.S_elder' (by (with_reducible repeat (first | apply Kd.S_alloc | apply Kd.S_drewN | apply Kd.S_drew)); exact HO_226000.out) (Kd.R_base ho0) hb); have n2_ := A_ (Kd.R_elder' (rk_ HO_242001.out) (Kd.R_base ho0) hb); have n3_ := A_ (Kd.R_lower (Kd.R_new' (Kd.R_new' ho0 (Kd.R_lt (rk_ HO_11.out))) (Kd.R_lt (rk_ HO_242001.out))) (below_size (bk_ HB.out))); have n4_ := A_ (blk_below (pk_ BK216.out) hb); have n5_ := A_ (blk_below (pk_ BK225.out) hb); have n6_ := A_ (blk_below (pk_ BK241.out) hb); have n7_ := A_ (below_step (bk_ HB.out) hb); clear HO_11 HO_226000 HO_242001 BK216 BK225 BK241 HB; have HO_11 := n0_; have HO_226000 := n1_; have HO_242001 := n2_; have HO245 := n3_; have BK216 := n4_; have BK225 := n5_; have BK241 := n6_; have HB := n7_; clear n0_ n1_ n2_ n3_ n4_ n5_ n6_ n7_; (try clear hb); (try clear hb2); (try clear hk); (try clear hi); (try clear ho0); have hnb143 := NB241_225.out; have hnc143 := NB225_241.out; have hcz144_0 : w142.cell? ⟨gb241, 0, none⟩ = some (.int .i64 t235) := (blk_cell BK241.out 0).trans rfl; have hcz144_1 : w142.cell? ⟨gb241, 1, none⟩ = some (.slice Ao67 t236.length co67) := (blk_cell BK241.out 1).trans rfl; have hfz144_0 := blk_frozen BK241.out 0; have hfz144_1 := blk_frozen BK241.out 1; obtain ⟨Ao145, co145, eo145⟩ := Kd.R_slice HO245.out; subst eo145) | (go_at_call 30; (with_reducible refine (standstillref07_SameWheel.calls kj54 t235 _ _ t236 0 _ _ t243 false _ ?side1 ?side2 ?side3 ?side4 A83.out).mono ?_); (case side1 => repeat (first | exact (Kd.R_reads' HO_242001.out).2.2 | (with_reducible refine Kd.C_alloc ?_ _) | (with_reducible refine Kd.C_drewN ?_ _) | (with_reducible refine Kd.C_drew ?_))); (case side2 => exact (Kd.R_reads' HO_242001.out).2.1); (case side3 => repeat (first | exact (Kd.R_reads' HO245.out).2.2 | (with_reducible refine Kd.C_alloc ?_ _) | (with_reducible refine Kd.C_drewN ?_ _) | (with_reducible refine Kd.C_drew ?_))); (case side4 => exact (Kd.R_reads' HO245.out).2.1); rintro e w146 ⟨rfl, hb⟩; have n0_ := A_ (Kd.R_below (rk_ HO_11.out) hb); have n1_ := A_ (Kd.S_below (by (with_reducible repeat (first | apply Kd.S_alloc | apply Kd.S_drewN | apply Kd.S_drew)); exact HO_226000.out) hb); have n2_ := A_ (Kd.R_below (rk_ HO_242001.out) hb); have n3_ := A_ (Kd.R_below (rk_ HO245.out) hb); have n4_ := A_ (blk_below (pk_ BK216.out) hb); have n5_ := A_ (blk_below (pk_ BK225.out) hb); have n6_ := A_ (blk_below (pk_ BK241.out) hb); have n7_ := A_ (below_step (bk_ HB.out) hb); clear HO_11 HO_226000 HO_242001 HO245 BK216 BK225 BK241 HB; have HO_11 := n0_; have HO_226000 := n1_; have HO_242001 := n2_; have HO245 := n3_; have BK216 := n4_; have BK225 := n5_; have BK241 := n6_; have HB := n7_; clear n0_ n1_ n2_ n3_ n4_ n5_ n6_ n7_; (try clear hb); (try clear hb2); (try clear hk); (try clear hi)))
            go_ret
            exact ⟨er_, bk_ HB.out⟩
          ·rw [if_neg c82] at H
           have c82b0 : (t246 == 0) = false := beq_eq_false_iff_ne.mpr c82
           have c82b1 : (t246 != 0) = true := bne_iff_ne.mpr c82
           obtain rfl := Option.some.inj H
           have hnb147 := NB216_225.out
           have hnc147 := NB225_216.out
           have hnb148 := NB216_241.out
           have hnc148 := NB241_216.out
           have hcz149_0 : wc.cell? ⟨gb216, 0, none⟩ = some (.int .i64 a0_0) := (blk_cell BK216.out 0).trans rfl
           have hcz149_1 : wc.cell? ⟨gb216, 1, none⟩ = some (.slice A0_1 l0_1.length c0_1) := (blk_cell BK216.out 1).trans rfl
           have hcz149_2 : wc.cell? ⟨gb216, 2, none⟩ = some (.slice A0_2 l0_2.length c0_2) := (blk_cell BK216.out 2).trans rfl
           have hfz149_0 := blk_frozen BK216.out 0
           have hfz149_1 := blk_frozen BK216.out 1
           have hfz149_2 := blk_frozen BK216.out 2
           obtain ⟨Ao150, co150, eo150⟩ := Kd.R_slice HO_11.out
           subst eo150
           go_wp2_with (first | ((with_reducible refine gate_callee (f := 33) rfl ?_); refine goesL_ (some 118) rfl rfl Try.func33 (by kernel_rfl) rfl #[.agg #[.int .i64 a0_0, .slice A0_1 l0_1.length c0_1, .slice A0_2 l0_2.length c0_2], .slice Ao150 t230.length co150] rfl gl_ ?_; (with_reducible refine (tag_Bits.calls kj54 a0_0 _ _ l0_1 _ _ l0_2 _ _ t230 t243 t246 _ ?side1 ?side2 ?side3 ?side4 ?side5 ?side6 A81.out).mono ?_); (case side1 => exact ck_ (Kd.C_below HR0_1.out HB.out)); (case side2 => exact HC0_1.out); (case side3 => exact ck_ (Kd.C_below HR0_2.out HB.out)); (case side4 => exact HC0_2.out); (case side5 => repeat (first | exact (Kd.R_reads' HO_11.out).2.2 | (with_reducible refine Kd.C_alloc ?_ _) | (with_reducible refine Kd.C_drewN ?_ _) | (with_reducible refine Kd.C_drew ?_))); (case side6 => exact (Kd.R_reads' HO_11.out).2.1); rintro e w151 ⟨v244, rfl, ho0, hb⟩; refine ⟨_, rfl, ?_⟩; have n0_ := A_ (Kd.R_elder' (rk_ HO_11.out) (Kd.R_base ho0) hb); have n1_ := A_ (Kd.S_elder' (by (with_reducible repeat (first | apply Kd.S_alloc | apply Kd.S_drewN | apply Kd.S_drew)); exact HO_226000.out) (Kd.R_base ho0) hb); have n2_ := A_ (Kd.R_elder' (rk_ HO_242001.out) (Kd.R_base ho0) hb); have n3_ := A_ (Kd.R_lower (Kd.R_new' (Kd.R_new' ho0 (Kd.R_lt (rk_ HO_11.out))) (Kd.R_lt (rk_ HO_242001.out))) (below_size (bk_ HB.out))); have n4_ := A_ (blk_below (pk_ BK216.out) hb); have n5_ := A_ (blk_below (pk_ BK225.out) hb); have n6_ := A_ (blk_below (pk_ BK241.out) hb); have n7_ := A_ (below_step (bk_ HB.out) hb); clear HO_11 HO_226000 HO_242001 BK216 BK225 BK241 HB; have HO_11 := n0_; have HO_226000 := n1_; have HO_242001 := n2_; have HO245 := n3_; have BK216 := n4_; have BK225 := n5_; have BK241 := n6_; have HB := n7_; clear n0_ n1_ n2_ n3_ n4_ n5_ n6_ n7_; (try clear hb); (try clear hb2); (try clear hk); (try clear hi); (try clear ho0)))
           go_ret
           exact ⟨er_, bk_ HB.out⟩

/-- THE ONE PURE STATEMENT of standstilllaw07_TagCyclic. -/
def standstilllaw07_TagCyclic.Pure : Prop := ∀ (a0_0 : Int) (l0_1 : List (List Int)) (l0_2 : List Bool) (l1 : List Int) (a2 : Int), ((Lit.int .i64 a0_0).wf = true) → (l0_1.length * 24 ≤ 140737488351232 ∧ ∀ y_ ∈ l0_1, (y_.length * 8 ≤ 140737488351232 ∧ ∀ y__ ∈ y_, (Lit.int .i64 y__).wf = true)) → (l0_2.length * 1 ≤ 140737488351232 ∧ ∀ y_ ∈ l0_2, True) → (l1.length * 8 ≤ 140737488351232 ∧ ∀ y_ ∈ l1, (Lit.int .i64 y_).wf = true) → ((Lit.int .u8 a2).wf = true) → ∃ k, standstilllaw07_TagCyclic.f k a0_0 l0_1 l0_2 l1 a2 = some true

end Go.Proofs.Ytkinnaegedbanaa.PTagCyclic
