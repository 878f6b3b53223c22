-- out of a turned copy of the print, by a program of this session; Lean checks it
import Derived.Test.YtkinnaegedbanaaPTagCodesx0
import Derived.Test.YtkinnaegedbanaaPTagCodesx1
import Derived.Test.YtkinnaegedbanaaPTagCodesx3
import Derived.Test.YtkinnaegedbanaaPTagCodesx4
import Derived.Test.YtkinnaegedbanaaPTagCodesx5
import Derived.Test.YtkinnaegedbanaaPTagCodesx6
import Derived.Test.YtkinnaegedbanaaPTagCodesx7
import Derived.Test.YtkinnaegedbanaaPTagCodesx8
namespace Go.Proofs.Ytkinnaegedbanaa.PTagCodes
open Go.RowKit Go.Proofs.YtkinnaegedbanaaW.PrintWords Go.Proofs.YtkinnaegedbanaaW.PrintLast Go.Proofs.YtkinnaegedbanaaW.PrintMore
attribute [local go_sem] max2_int min2_int max_two min_two max_three min_three max_four min_four   -- for this text's walks alone
set_option linter.unusedVariables false
set_option linter.unusedSimpArgs false

attribute [local go_sem] isSome_put_
/-! ### standstilllaw07_TagCodes: function 7 -/
mutual
def standstilllaw07_TagCodes.j0 : Nat → List Int → List Int → Bool → Int → List (List Int) → List Bool → Option (Bool)
 | 0, _, _, _, _, _, _ => none
 | k + 1, x1, x2, x35, x257000, x257001, x257002 => if x35 = true then ((standstilllaw07_awake.f k).bind fun t258 => (some t258)) else ((tag_Bits.f k x257000 x257001 x257002 x1).bind fun bt259 => ((tag_Letters.f k x257000 x257001 x257002 x2).bind fun bt263 => ((standstillref07_Valid.f k x257000 x257001 x257002).bind fun t267 => (if t267 = true then ((standstillref07_Letters.f k x2 (x257001.length : Int)).bind fun bt274 => (if (bt274.2 != (bt263.2 == 0)) = true then (standstilllaw07_TagCodes.j1 k x1 bt259.1 bt259.2 true x257000 x257001 x257002) else (if bt274.2 = true then ((standstillref07_Same.f k bt263.1 bt274.1).bind fun t278 => (standstilllaw07_TagCodes.j1 k x1 bt259.1 bt259.2 (!t278) x257000 x257001 x257002)) else (if bt263.2 = 2 then ((standstillref07_Same.f k bt263.1 bt274.1).bind fun t279 => (standstilllaw07_TagCodes.j1 k x1 bt259.1 bt259.2 (!t279) x257000 x257001 x257002)) else (standstilllaw07_TagCodes.j1 k x1 bt259.1 bt259.2 true x257000 x257001 x257002))))) else ((tag_ToCyclic.f k x257000 x257001 x257002).bind fun bt268 => (if bt259.2 = 1 then (if bt263.2 = 1 then (if bt268.2 = 1 then (if (wrap64 ((wrap64 ((bt259.1.length : Int) + (bt263.1.length : Int))) + (bt268.1.length : Int))) = 0 then ((standstilllaw07_awake.f k).bind fun t273 => (some t273)) else (some false)) else (some false)) else (some false)) else (some false)))))))
def standstilllaw07_TagCodes.j1 : Nat → List Int → List Int → Int → Bool → Int → List (List Int) → List Bool → Option (Bool)
 | 0, _, _, _, _, _, _, _ => none
 | k + 1, x1, x7, x8, x107, x257000, x257001, x257002 => if x107 = true then (some false) else ((standstilllaw07_rules.f k x257000 x257001 x257002).bind fun t280 => (if t280 ≤ 300000 then ((tag_ToCyclic.f k x257000 x257001 x257002).bind fun bt281 => (if bt281.2 = 0 then ((standstillref07_ToCyclic.f k x257000 x257001 x257002).bind fun t286 => ((standstillref07_SameCyclic.f k bt281.1 t286).bind fun t289 => (if t289 = true then (standstilllaw07_TagCodes.j2 k x1 x7 x8 x257000 x257001 x257002) else (some false)))) else (some false))) else (standstilllaw07_TagCodes.j2 k x1 x7 x8 x257000 x257001 x257002)))
def standstilllaw07_TagCodes.j2 : Nat → List Int → List Int → Int → Int → List (List Int) → List Bool → Option (Bool)
 | 0, _, _, _, _, _, _ => none
 | k + 1, x1, x7, x8, x257000, x257001, x257002 => (standstillref07_Fits.f k x257000 x257001 x257002 x1).bind fun t290 => (if t290 = true then (if (wrap64 ((x1.length : Int) * (x257001.length : Int))) > 1000000 then (if x8 = 4 then (if (x7.length : Int) = 0 then ((standstilllaw07_awake.f k).bind fun t292 => (some t292)) else (some false)) else (some false)) else ((tag_Letters.f k x257000 x257001 x257002 x7).bind fun bt293 => (if x8 = 0 then ((standstillref07_Bits.f k x1 (x257001.length : Int)).bind fun t297 => ((standstillref07_Same.f k x7 t297).bind fun t300 => (if t300 = true then (if bt293.2 = 0 then ((standstillref07_Same.f k bt293.1 x1).bind fun t301 => (if t301 = true then ((standstilllaw07_awake.f k).bind fun t302 => (some t302)) else (some false))) else (some false)) else (some false)))) else (some false)))) else (if x8 = 1 then (if (x7.length : Int) = 0 then ((standstilllaw07_awake.f k).bind fun t291 => (some t291)) else (some false)) else (some false)))
end
def standstilllaw07_TagCodes.f (k : Nat) (a0_0 : Int) (l0_1 : List (List Int)) (l0_2 : List Bool) (l1 : List Int) (l2 : List Int) : Option (Bool) := (standstilllaw07_wide.f k a0_0 l0_1 l0_2 l1).bind fun t257 => (if t257 = true then (standstilllaw07_TagCodes.j0 k l1 l2 true a0_0 l0_1 l0_2) else (if (l2.length : Int) > 300000 then (standstilllaw07_TagCodes.j0 k l1 l2 true a0_0 l0_1 l0_2) else (standstilllaw07_TagCodes.j0 k l1 l2 (decide ((wrap64 ((l0_1.length : Int) * (l1.length : Int))) > 1200000)) a0_0 l0_1 l0_2)))
theorem standstilllaw07_TagCodes.mono_l : ∀ k, (∀ y0 y1 y2 y3 y4 y5, LeO (standstilllaw07_TagCodes.j0 k y0 y1 y2 y3 y4 y5) (standstilllaw07_TagCodes.j0 (k + 1) y0 y1 y2 y3 y4 y5)) ∧ (∀ y0 y1 y2 y3 y4 y5 y6, LeO (standstilllaw07_TagCodes.j1 k y0 y1 y2 y3 y4 y5 y6) (standstilllaw07_TagCodes.j1 (k + 1) y0 y1 y2 y3 y4 y5 y6)) ∧ (∀ y0 y1 y2 y3 y4 y5, LeO (standstilllaw07_TagCodes.j2 k y0 y1 y2 y3 y4 y5) (standstilllaw07_TagCodes.j2 (k + 1) y0 y1 y2 y3 y4 y5))
 | 0 => ⟨fun _ _ _ _ _ _ r h => by simp [standstilllaw07_TagCodes.j0] at h, fun _ _ _ _ _ _ _ r h => by simp [standstilllaw07_TagCodes.j1] at h, fun _ _ _ _ _ _ r h => by simp [standstilllaw07_TagCodes.j2] at h⟩
 | k + 1 => by
  obtain ⟨ih0, ih1, ih2⟩ := standstilllaw07_TagCodes.mono_l k
  refine ⟨?_, ?_, ?_⟩
  ·intro y0 y1 y2 y3 y4 y5
   unfold standstilllaw07_TagCodes.j0
   repeat' first
   | (with_reducible exact ih0 _ _ _ _ _ _)
   | (with_reducible exact ih1 _ _ _ _ _ _ _)
   | (with_reducible exact ih2 _ _ _ _ _ _)
   | (with_reducible exact standstilllaw07_awake.mono _)
   | (with_reducible exact standstilllaw07_rules.mono _ _ _ _)
   | (with_reducible exact standstilllaw07_wide.mono _ _ _ _ _)
   | (with_reducible exact standstillref07_Bits.mono _ _ _)
   | (with_reducible exact standstillref07_Fits.mono _ _ _ _ _)
   | (with_reducible exact standstillref07_Letters.mono _ _ _)
   | (with_reducible exact standstillref07_Same.mono _ _ _)
   | (with_reducible exact standstillref07_SameCyclic.mono _ _ _)
   | (with_reducible exact standstillref07_ToCyclic.mono _ _ _ _)
   | (with_reducible exact standstillref07_Valid.mono _ _ _ _)
   | (with_reducible exact tag_Bits.mono _ _ _ _ _)
   | (with_reducible exact tag_Letters.mono _ _ _ _ _)
   | (with_reducible exact tag_ToCyclic.mono _ _ _ _)
   | (with_reducible exact LeO.refl _)
   | (with_reducible exact LeO.none _)
   | (with_reducible refine LeO.ite ?_ ?_)
   | (with_reducible refine LeO.bind ?_ (fun _ => ?_))
   | exact ih0 _ _ _ _ _ _
   | exact ih1 _ _ _ _ _ _ _
   | exact ih2 _ _ _ _ _ _
   | exact standstilllaw07_awake.mono _
   | exact standstilllaw07_rules.mono _ _ _ _
   | exact standstilllaw07_wide.mono _ _ _ _ _
   | exact standstillref07_Bits.mono _ _ _
   | exact standstillref07_Fits.mono _ _ _ _ _
   | exact standstillref07_Letters.mono _ _ _
   | exact standstillref07_Same.mono _ _ _
   | exact standstillref07_SameCyclic.mono _ _ _
   | exact standstillref07_ToCyclic.mono _ _ _ _
   | exact standstillref07_Valid.mono _ _ _ _
   | exact tag_Bits.mono _ _ _ _ _
   | exact tag_Letters.mono _ _ _ _ _
   | exact tag_ToCyclic.mono _ _ _ _
   | exact LeO.none _
   | refine LeO.ite ?_ ?_
   | refine LeO.bind ?_ (fun _ => ?_)
  ·intro y0 y1 y2 y3 y4 y5 y6
   unfold standstilllaw07_TagCodes.j1
   repeat' first
   | (with_reducible exact ih0 _ _ _ _ _ _)
   | (with_reducible exact ih1 _ _ _ _ _ _ _)
   | (with_reducible exact ih2 _ _ _ _ _ _)
   | (with_reducible exact standstilllaw07_awake.mono _)
   | (with_reducible exact standstilllaw07_rules.mono _ _ _ _)
   | (with_reducible exact standstilllaw07_wide.mono _ _ _ _ _)
   | (with_reducible exact standstillref07_Bits.mono _ _ _)
   | (with_reducible exact standstillref07_Fits.mono _ _ _ _ _)
   | (with_reducible exact standstillref07_Letters.mono _ _ _)
   | (with_reducible exact standstillref07_Same.mono _ _ _)
   | (with_reducible exact standstillref07_SameCyclic.mono _ _ _)
   | (with_reducible exact standstillref07_ToCyclic.mono _ _ _ _)
   | (with_reducible exact standstillref07_Valid.mono _ _ _ _)
   | (with_reducible exact tag_Bits.mono _ _ _ _ _)
   | (with_reducible exact tag_Letters.mono _ _ _ _ _)
   | (with_reducible exact tag_ToCyclic.mono _ _ _ _)
   | (with_reducible exact LeO.refl _)
   | (with_reducible exact LeO.none _)
   | (with_reducible refine LeO.ite ?_ ?_)
   | (with_reducible refine LeO.bind ?_ (fun _ => ?_))
   | exact ih0 _ _ _ _ _ _
   | exact ih1 _ _ _ _ _ _ _
   | exact ih2 _ _ _ _ _ _
   | exact standstilllaw07_awake.mono _
   | exact standstilllaw07_rules.mono _ _ _ _
   | exact standstilllaw07_wide.mono _ _ _ _ _
   | exact standstillref07_Bits.mono _ _ _
   | exact standstillref07_Fits.mono _ _ _ _ _
   | exact standstillref07_Letters.mono _ _ _
   | exact standstillref07_Same.mono _ _ _
   | exact standstillref07_SameCyclic.mono _ _ _
   | exact standstillref07_ToCyclic.mono _ _ _ _
   | exact standstillref07_Valid.mono _ _ _ _
   | exact tag_Bits.mono _ _ _ _ _
   | exact tag_Letters.mono _ _ _ _ _
   | exact tag_ToCyclic.mono _ _ _ _
   | exact LeO.none _
   | refine LeO.ite ?_ ?_
   | refine LeO.bind ?_ (fun _ => ?_)
  ·intro y0 y1 y2 y3 y4 y5
   unfold standstilllaw07_TagCodes.j2
   repeat' first
   | (with_reducible exact ih0 _ _ _ _ _ _)
   | (with_reducible exact ih1 _ _ _ _ _ _ _)
   | (with_reducible exact ih2 _ _ _ _ _ _)
   | (with_reducible exact standstilllaw07_awake.mono _)
   | (with_reducible exact standstilllaw07_rules.mono _ _ _ _)
   | (with_reducible exact standstilllaw07_wide.mono _ _ _ _ _)
   | (with_reducible exact standstillref07_Bits.mono _ _ _)
   | (with_reducible exact standstillref07_Fits.mono _ _ _ _ _)
   | (with_reducible exact standstillref07_Letters.mono _ _ _)
   | (with_reducible exact standstillref07_Same.mono _ _ _)
   | (with_reducible exact standstillref07_SameCyclic.mono _ _ _)
   | (with_reducible exact standstillref07_ToCyclic.mono _ _ _ _)
   | (with_reducible exact standstillref07_Valid.mono _ _ _ _)
   | (with_reducible exact tag_Bits.mono _ _ _ _ _)
   | (with_reducible exact tag_Letters.mono _ _ _ _ _)
   | (with_reducible exact tag_ToCyclic.mono _ _ _ _)
   | (with_reducible exact LeO.refl _)
   | (with_reducible exact LeO.none _)
   | (with_reducible refine LeO.ite ?_ ?_)
   | (with_reducible refine LeO.bind ?_ (fun _ => ?_))
   | exact ih0 _ _ _ _ _ _
   | exact ih1 _ _ _ _ _ _ _
   | exact ih2 _ _ _ _ _ _
   | exact standstilllaw07_awake.mono _
   | exact standstilllaw07_rules.mono _ _ _ _
   | exact standstilllaw07_wide.mono _ _ _ _ _
   | exact standstillref07_Bits.mono _ _ _
   | exact standstillref07_Fits.mono _ _ _ _ _
   | exact standstillref07_Letters.mono _ _ _
   | exact standstillref07_Same.mono _ _ _
   | exact standstillref07_SameCyclic.mono _ _ _
   | exact standstillref07_ToCyclic.mono _ _ _ _
   | exact standstillref07_Valid.mono _ _ _ _
   | exact tag_Bits.mono _ _ _ _ _
   | exact tag_Letters.mono _ _ _ _ _
   | exact tag_ToCyclic.mono _ _ _ _
   | exact LeO.none _
   | refine LeO.ite ?_ ?_
   | refine LeO.bind ?_ (fun _ => ?_)
theorem standstilllaw07_TagCodes.mono : ∀ a0 a1 a2 a3 a4 k, LeO (standstilllaw07_TagCodes.f k a0 a1 a2 a3 a4) (standstilllaw07_TagCodes.f (k + 1) a0 a1 a2 a3 a4) := by
 intro a0 a1 a2 a3 a4 k
 obtain ⟨ih0, ih1, ih2⟩ := standstilllaw07_TagCodes.mono_l k
 unfold standstilllaw07_TagCodes.f
 repeat' first
   | (with_reducible exact ih0 _ _ _ _ _ _)
   | (with_reducible exact ih1 _ _ _ _ _ _ _)
   | (with_reducible exact ih2 _ _ _ _ _ _)
   | (with_reducible exact standstilllaw07_awake.mono _)
   | (with_reducible exact standstilllaw07_rules.mono _ _ _ _)
   | (with_reducible exact standstilllaw07_wide.mono _ _ _ _ _)
   | (with_reducible exact standstillref07_Bits.mono _ _ _)
   | (with_reducible exact standstillref07_Fits.mono _ _ _ _ _)
   | (with_reducible exact standstillref07_Letters.mono _ _ _)
   | (with_reducible exact standstillref07_Same.mono _ _ _)
   | (with_reducible exact standstillref07_SameCyclic.mono _ _ _)
   | (with_reducible exact standstillref07_ToCyclic.mono _ _ _ _)
   | (with_reducible exact standstillref07_Valid.mono _ _ _ _)
   | (with_reducible exact tag_Bits.mono _ _ _ _ _)
   | (with_reducible exact tag_Letters.mono _ _ _ _ _)
   | (with_reducible exact tag_ToCyclic.mono _ _ _ _)
   | (with_reducible exact LeO.refl _)
   | (with_reducible exact LeO.none _)
   | (with_reducible refine LeO.ite ?_ ?_)
   | (with_reducible refine LeO.bind ?_ (fun _ => ?_))
   | exact ih0 _ _ _ _ _ _
   | exact ih1 _ _ _ _ _ _ _
   | exact ih2 _ _ _ _ _ _
   | exact standstilllaw07_awake.mono _
   | exact standstilllaw07_rules.mono _ _ _ _
   | exact standstilllaw07_wide.mono _ _ _ _ _
   | exact standstillref07_Bits.mono _ _ _
   | exact standstillref07_Fits.mono _ _ _ _ _
   | exact standstillref07_Letters.mono _ _ _
   | exact standstillref07_Same.mono _ _ _
   | exact standstillref07_SameCyclic.mono _ _ _
   | exact standstillref07_ToCyclic.mono _ _ _ _
   | exact standstillref07_Valid.mono _ _ _ _
   | exact tag_Bits.mono _ _ _ _ _
   | exact tag_Letters.mono _ _ _ _ _
   | exact tag_ToCyclic.mono _ _ _ _
   | exact LeO.none _
   | refine LeO.ite ?_ ?_
   | refine LeO.bind ?_ (fun _ => ?_)
def standstilllaw07_TagCodes.T13 : Bool × List (List Nat × List Nat) := (true, [([], []), ([0], [0]), ([1], [1]), ([2], [2]), ([2], [2]), ([4, 2, 2], [2, 4]), ([3, 5, 5, 2], [2, 3, 5]), ([6, 2], [2, 6]), ([2, 7], [2, 7])])
def standstilllaw07_TagCodes.B13 : List Nat := [0, 1, 3, 7, 7, 23, 63, 127, 255]
theorem standstilllaw07_TagCodes.tab13 : rtab .any (opsOf Try.f7 13) = standstilllaw07_TagCodes.T13 := by kernel_rfl
theorem standstilllaw07_TagCodes.bits13 : waitsOk standstilllaw07_TagCodes.T13.2 standstilllaw07_TagCodes.B13 = true := by kernel_rfl
set_option maxHeartbeats 8000000 in
set_option maxRecDepth 100000 in
theorem standstilllaw07_TagCodes.calls (k : Nat) (a0_0 : Int) (A0_1 : Option Addr) (c0_1 : Nat) (l0_1 : List (List Int)) (A0_2 : Option Addr) (c0_2 : Nat) (l0_2 : List Bool) (A1 : Option Addr) (c1 : Nat) (l1 : List Int) (A2 : Option Addr) (c2 : Nat) (l2 : List Int) (r : Bool) (w : World) (hr0_1 : Kd.C (Kd.slice 3 (Kd.int .i64)) w A0_1 l0_1.length l0_1) (hc0_1 : l0_1.length ≤ c0_1) (hr0_2 : Kd.C Kd.bool w A0_2 l0_2.length l0_2) (hc0_2 : l0_2.length ≤ c0_2) (hr1 : Kd.C (Kd.int .i64) w A1 l1.length l1) (hc1 : l1.length ≤ c1) (hr2 : Kd.C (Kd.int .i64) w A2 l2.length l2) (hc2 : l2.length ≤ c2) (h : standstilllaw07_TagCodes.f k a0_0 l0_1 l0_2 l1 l2 = some r) :
  Calls Try.prog 7 #[.agg #[.int .i64 a0_0, .slice A0_1 l0_1.length c0_1, .slice A0_2 l0_2.length c0_2], .slice A1 l1.length c1, .slice A2 l2.length c2] w fun e w' => e = .returned (.bool r) ∧ Below w.heap.size w w' := by
 have hu25 := Try.underlying25
 have hu45 := Try.underlying45
 have HR0_1 := Aside0.mk hr0_1
 have HC0_1 := Aside0.mk hc0_1
 clear hr0_1 hc0_1
 have HR0_2 := Aside0.mk hr0_2
 have HC0_2 := Aside0.mk hc0_2
 clear hr0_2 hc0_2
 have HR1 := Aside0.mk hr1
 have HC1 := Aside0.mk hc1
 clear hr1 hc1
 have HR2 := Aside0.mk hr2
 have HC2 := Aside0.mk hc2
 clear hr2 hc2
 have HB := A_ (Below.refl w.heap.size w)
 have H : ((standstilllaw07_wide.f k a0_0 l0_1 l0_2 l1).bind fun t257 => (if t257 = true then (standstilllaw07_TagCodes.j0 k l1 l2 true a0_0 l0_1 l0_2) else (if (l2.length : Int) > 300000 then (standstilllaw07_TagCodes.j0 k l1 l2 true a0_0 l0_1 l0_2) else (standstilllaw07_TagCodes.j0 k l1 l2 (decide ((wrap64 ((l0_1.length : Int) * (l1.length : Int))) > 1200000)) a0_0 l0_1 l0_2)))) = some r := h
 clear h
 have HC4 := Aside0.mk H
 clear H
 go_enter Try.func7, Try.ntmps7
 go_upto_region 1 with (first | ((with_reducible refine gate_dst (N := 3) rfl ?_); (try (refine gate_guard (by rfl) ?_; dsimp only)); refine box_event ?hg (N := 3) ?hd (cs := #[.int .i64 a0_0, .slice A0_1 l0_1.length c0_1, .slice A0_2 l0_2.length c0_2]) (t := 25) ?hr ?_; (case hd => rfl); (case hg => rfl); (case hr => first | (go_simp; done) | (go_simp; rfl)); intro gb256 hg w5 hbox hb; have n0_ := A_ (below_step (bk_ HB.out) hb); have n1_ := A_ (hbox); have n2_ := A_ ((by rw [hg]; exact (below_size (bk_ HB.out)) : w.heap.size ≤ gb256)); have n3_ := A_ ((by rw [hg]; exact (below_size (bk_ HB.out)) : w.heap.size ≤ gb256)); clear HB; have HB := n0_; have BK256 := n1_; have GW256 := n2_; have GE256 := n3_; clear n0_ n1_ n2_ n3_ hb hbox hg))
 (try simp only [Act.put, List.setIfInBounds_toArray, List.set_cons_zero, List.set_cons_succ])
 go_cut [35] (fun v35 wc => ∃ (kq : Nat) (x35_3 : Bool), v35 = .bool x35_3 ∧ Aside0 (standstilllaw07_TagCodes.j0 kq l1 l2 x35_3 a0_0 l0_1 l0_2 = some r) ∧ Aside0 (kq ≤ k) ∧ Aside0 (wc.heap[gb256]? = some (.cells #[.int .i64 a0_0, (.slice A0_1 l0_1.length c0_1), (.slice A0_2 l0_2.length c0_2)] 25 (0, 0))) ∧ Aside0 (Below w.heap.size w wc))
 case first =>
  have H := HC4.out
  clear HC4
  replace H := Option.bind_eq_some_iff.mp H
  obtain ⟨t257, A60, H⟩ := H
  replace H : (if t257 = true then (standstilllaw07_TagCodes.j0 k l1 l2 true a0_0 l0_1 l0_2) else (if (l2.length : Int) > 300000 then (standstilllaw07_TagCodes.j0 k l1 l2 true a0_0 l0_1 l0_2) else (standstilllaw07_TagCodes.j0 k l1 l2 (decide ((wrap64 ((l0_1.length : Int) * (l1.length : Int))) > 1200000)) a0_0 l0_1 l0_2))) = some r := H
  have A6 := Aside0.mk A60
  clear A60
  by_cases c7 : t257 = true
  ·subst c7
   have H1 : (standstilllaw07_TagCodes.j0 k l1 l2 true a0_0 l0_1 l0_2) = some r := by rw [if_pos rfl] at H; exact H
   clear H
   have H := H1
   clear H1
   have H' := Aside0.mk H
   clear H
   have hcz8_0 : w5.cell? ⟨gb256, 0, none⟩ = some (.int .i64 a0_0) := (blk_cell BK256.out 0).trans rfl
   have hcz8_1 : w5.cell? ⟨gb256, 1, none⟩ = some (.slice A0_1 l0_1.length c0_1) := (blk_cell BK256.out 1).trans rfl
   have hcz8_2 : w5.cell? ⟨gb256, 2, none⟩ = some (.slice A0_2 l0_2.length c0_2) := (blk_cell BK256.out 2).trans rfl
   have hfz8_0 := blk_frozen BK256.out 0
   have hfz8_1 := blk_frozen BK256.out 1
   have hfz8_2 := blk_frozen BK256.out 2
   go_wp2_with (first | ((with_reducible refine gate_callee (f := 9) rfl ?_); refine goesL_ (some 21) rfl rfl Try.func9 (by kernel_rfl) rfl #[.agg #[.int .i64 a0_0, .slice A0_1 l0_1.length c0_1, .slice A0_2 l0_2.length c0_2], .slice A1 l1.length c1] rfl gl_ ?_; (with_reducible refine (standstilllaw07_wide.calls k a0_0 _ _ l0_1 _ _ l0_2 _ _ l1 true _ ?side1 ?side2 ?side3 ?side4 ?side5 ?side6 A6.out).mono ?_); (case side1 => exact ck_ (Kd.C_below HR0_1.out HB.out)); (case side2 => exact HC0_1.out); (case side3 => exact ck_ (Kd.C_below HR0_2.out HB.out)); (case side4 => exact HC0_2.out); (case side5 => exact ck_ (Kd.C_below HR1.out HB.out)); (case side6 => exact HC1.out); rintro e w9 ⟨rfl, hb⟩; refine ⟨_, rfl, ?_⟩; have n0_ := A_ (blk_below (pk_ BK256.out) hb); have n1_ := A_ (below_step (bk_ HB.out) hb); clear BK256 HB; have BK256 := n0_; have HB := n1_; clear n0_ n1_; (try clear hb); (try clear hb2); (try clear hk); (try clear hi)))
   go_meet
   case rel => exact ⟨_, (true), jr_, H', ⟨by first | omega | exact Nat.le_refl _⟩, ⟨pk_ BK256.out⟩, ⟨bk_ HB.out⟩⟩
  ·replace c7 := Bool.eq_false_iff.mpr c7
   subst c7
   have H1 : (if (l2.length : Int) > 300000 then (standstilllaw07_TagCodes.j0 k l1 l2 true a0_0 l0_1 l0_2) else (standstilllaw07_TagCodes.j0 k l1 l2 (decide ((wrap64 ((l0_1.length : Int) * (l1.length : Int))) > 1200000)) a0_0 l0_1 l0_2)) = some r := by rw [if_neg (show ¬ (false = true) by decide)] at H; exact H
   clear H
   have H := H1
   clear H1
   by_cases c10 : (l2.length : Int) > 300000
   ·rw [if_pos c10] at H
    have c10b0 : decide (300000 < (l2.length : Int)) = true := decide_eq_true c10
    have c10b1 : decide (300000 < l2.length) = true := decide_eq_true (by omega)
    clear c10
    (first | rw [c10b0] | (simp only [i64_w, i32_w]; rw [c10b0]) | skip)
    have H' := Aside0.mk H
    clear H
    have hcz11_0 : w5.cell? ⟨gb256, 0, none⟩ = some (.int .i64 a0_0) := (blk_cell BK256.out 0).trans rfl
    have hcz11_1 : w5.cell? ⟨gb256, 1, none⟩ = some (.slice A0_1 l0_1.length c0_1) := (blk_cell BK256.out 1).trans rfl
    have hcz11_2 : w5.cell? ⟨gb256, 2, none⟩ = some (.slice A0_2 l0_2.length c0_2) := (blk_cell BK256.out 2).trans rfl
    have hfz11_0 := blk_frozen BK256.out 0
    have hfz11_1 := blk_frozen BK256.out 1
    have hfz11_2 := blk_frozen BK256.out 2
    go_wp2_with (first | ((with_reducible refine gate_callee (f := 9) rfl ?_); refine goesL_ (some 21) rfl rfl Try.func9 (by kernel_rfl) rfl #[.agg #[.int .i64 a0_0, .slice A0_1 l0_1.length c0_1, .slice A0_2 l0_2.length c0_2], .slice A1 l1.length c1] rfl gl_ ?_; (with_reducible refine (standstilllaw07_wide.calls k a0_0 _ _ l0_1 _ _ l0_2 _ _ l1 false _ ?side1 ?side2 ?side3 ?side4 ?side5 ?side6 A6.out).mono ?_); (case side1 => exact ck_ (Kd.C_below HR0_1.out HB.out)); (case side2 => exact HC0_1.out); (case side3 => exact ck_ (Kd.C_below HR0_2.out HB.out)); (case side4 => exact HC0_2.out); (case side5 => exact ck_ (Kd.C_below HR1.out HB.out)); (case side6 => exact HC1.out); rintro e w12 ⟨rfl, hb⟩; refine ⟨_, rfl, ?_⟩; have n0_ := A_ (blk_below (pk_ BK256.out) hb); have n1_ := A_ (below_step (bk_ HB.out) hb); clear BK256 HB; have BK256 := n0_; have HB := n1_; clear n0_ n1_; (try clear hb); (try clear hb2); (try clear hk); (try clear hi)))
    go_meet
    case rel => exact ⟨_, (true), jr_, H', ⟨by first | omega | exact Nat.le_refl _⟩, ⟨pk_ BK256.out⟩, ⟨bk_ HB.out⟩⟩
   ·rw [if_neg c10] at H
    have c10b0 : decide (300000 < (l2.length : Int)) = false := decide_eq_false c10
    have c10b1 : decide (300000 < l2.length) = false := decide_eq_false (by omega)
    clear c10
    (first | rw [c10b0] | (simp only [i64_w, i32_w]; rw [c10b0]) | skip)
    have H' := Aside0.mk H
    clear H
    have hcz13_0 : w5.cell? ⟨gb256, 0, none⟩ = some (.int .i64 a0_0) := (blk_cell BK256.out 0).trans rfl
    have hcz13_1 : w5.cell? ⟨gb256, 1, none⟩ = some (.slice A0_1 l0_1.length c0_1) := (blk_cell BK256.out 1).trans rfl
    have hcz13_2 : w5.cell? ⟨gb256, 2, none⟩ = some (.slice A0_2 l0_2.length c0_2) := (blk_cell BK256.out 2).trans rfl
    have hfz13_0 := blk_frozen BK256.out 0
    have hfz13_1 := blk_frozen BK256.out 1
    have hfz13_2 := blk_frozen BK256.out 2
    go_wp2_with (first | ((with_reducible refine gate_callee (f := 9) rfl ?_); refine goesL_ (some 21) rfl rfl Try.func9 (by kernel_rfl) rfl #[.agg #[.int .i64 a0_0, .slice A0_1 l0_1.length c0_1, .slice A0_2 l0_2.length c0_2], .slice A1 l1.length c1] rfl gl_ ?_; (with_reducible refine (standstilllaw07_wide.calls k a0_0 _ _ l0_1 _ _ l0_2 _ _ l1 false _ ?side1 ?side2 ?side3 ?side4 ?side5 ?side6 A6.out).mono ?_); (case side1 => exact ck_ (Kd.C_below HR0_1.out HB.out)); (case side2 => exact HC0_1.out); (case side3 => exact ck_ (Kd.C_below HR0_2.out HB.out)); (case side4 => exact HC0_2.out); (case side5 => exact ck_ (Kd.C_below HR1.out HB.out)); (case side6 => exact HC1.out); rintro e w14 ⟨rfl, hb⟩; refine ⟨_, rfl, ?_⟩; have n0_ := A_ (blk_below (pk_ BK256.out) hb); have n1_ := A_ (below_step (bk_ HB.out) hb); clear BK256 HB; have BK256 := n0_; have HB := n1_; clear n0_ n1_; (try clear hb); (try clear hb2); (try clear hk); (try clear hi); have hcz15_0 : w14.cell? ⟨gb256, 0, none⟩ = some (.int .i64 a0_0) := (blk_cell BK256.out 0).trans rfl; have hcz15_1 : w14.cell? ⟨gb256, 1, none⟩ = some (.slice A0_1 l0_1.length c0_1) := (blk_cell BK256.out 1).trans rfl; have hcz15_2 : w14.cell? ⟨gb256, 2, none⟩ = some (.slice A0_2 l0_2.length c0_2) := (blk_cell BK256.out 2).trans rfl; have hfz15_0 := blk_frozen BK256.out 0; have hfz15_1 := blk_frozen BK256.out 1; have hfz15_2 := blk_frozen BK256.out 2))
    go_meet
    case rel => exact ⟨_, (decide ((wrap64 ((l0_1.length : Int) * (l1.length : Int))) > 1200000)), jr_, H', ⟨by first | omega | exact Nat.le_refl _⟩, ⟨pk_ BK256.out⟩, ⟨bk_ HB.out⟩⟩
 case rest =>
  clear HC4
  (try clear c1); (try clear c2)
  obtain ⟨kq, x35_3, rfl, HA, HJ3, BK256, HB⟩ := hcut
  cases kq with
  | zero => exact absurd HA.out (by simp [standstilllaw07_TagCodes.j0])
  | succ kj3 =>
   have H := HA.out
   clear HA
   simp only [standstilllaw07_TagCodes.j0] at H
   by_cases c16 : x35_3 = true
   ·subst c16
    have H1 : ((standstilllaw07_awake.f kj3).bind fun t258 => (some t258)) = some r := by rw [if_pos rfl] at H; exact H
    clear H
    have H := H1
    clear H1
    replace H := Option.bind_eq_some_iff.mp H
    obtain ⟨t258, A170, H⟩ := H
    replace H : (some t258) = some r := H
    have A17 := Aside0.mk A170
    clear A170
    obtain rfl := Option.some.inj H
    go_wp2_with (first | ((with_reducible refine gate_callee (f := 11) rfl ?_); refine goesL_ (some 36) rfl rfl Try.func11 (by kernel_rfl) rfl #[] rfl gl_ ?_; (with_reducible refine (standstilllaw07_awake.calls kj3  t258 _ A17.out).mono ?_); rintro e w18 ⟨rfl, hb⟩; refine ⟨_, rfl, ?_⟩; have n0_ := A_ (blk_below (pk_ BK256.out) hb); have n1_ := A_ (below_step (bk_ HB.out) hb); clear BK256 HB; have BK256 := n0_; have HB := n1_; clear n0_ n1_; (try clear hb); (try clear hb2); (try clear hk); (try clear hi)))
    go_ret
    exact ⟨by first | rfl | (simp [errW_none, errW_some] <;> rfl) | (simp [*, errW_none, errW_some] <;> rfl), bk_ HB.out⟩
   ·replace c16 := Bool.eq_false_iff.mpr c16
    subst c16
    have H1 : ((tag_Bits.f kj3 a0_0 l0_1 l0_2 l1).bind fun bt259 => ((tag_Letters.f kj3 a0_0 l0_1 l0_2 l2).bind fun bt263 => ((standstillref07_Valid.f kj3 a0_0 l0_1 l0_2).bind fun t267 => (if t267 = true then ((standstillref07_Letters.f kj3 l2 (l0_1.length : Int)).bind fun bt274 => (if (bt274.2 != (bt263.2 == 0)) = true then (standstilllaw07_TagCodes.j1 kj3 l1 bt259.1 bt259.2 true a0_0 l0_1 l0_2) else (if bt274.2 = true then ((standstillref07_Same.f kj3 bt263.1 bt274.1).bind fun t278 => (standstilllaw07_TagCodes.j1 kj3 l1 bt259.1 bt259.2 (!t278) a0_0 l0_1 l0_2)) else (if bt263.2 = 2 then ((standstillref07_Same.f kj3 bt263.1 bt274.1).bind fun t279 => (standstilllaw07_TagCodes.j1 kj3 l1 bt259.1 bt259.2 (!t279) a0_0 l0_1 l0_2)) else (standstilllaw07_TagCodes.j1 kj3 l1 bt259.1 bt259.2 true a0_0 l0_1 l0_2))))) else ((tag_ToCyclic.f kj3 a0_0 l0_1 l0_2).bind fun bt268 => (if bt259.2 = 1 then (if bt263.2 = 1 then (if bt268.2 = 1 then (if (wrap64 ((wrap64 ((bt259.1.length : Int) + (bt263.1.length : Int))) + (bt268.1.length : Int))) = 0 then ((standstilllaw07_awake.f kj3).bind fun t273 => (some t273)) else (some false)) else (some false)) else (some false)) else (some false))))))) = some r := by rw [if_neg (show ¬ (false = true) by decide)] at H; exact H
    clear H
    have H := H1
    clear H1
    replace H := Option.bind_eq_some_iff.mp H
    obtain ⟨⟨t259, t262⟩, A190, H⟩ := H
    replace H : ((tag_Letters.f kj3 a0_0 l0_1 l0_2 l2).bind fun bt263 => ((standstillref07_Valid.f kj3 a0_0 l0_1 l0_2).bind fun t267 => (if t267 = true then ((standstillref07_Letters.f kj3 l2 (l0_1.length : Int)).bind fun bt274 => (if (bt274.2 != (bt263.2 == 0)) = true then (standstilllaw07_TagCodes.j1 kj3 l1 t259 t262 true a0_0 l0_1 l0_2) else (if bt274.2 = true then ((standstillref07_Same.f kj3 bt263.1 bt274.1).bind fun t278 => (standstilllaw07_TagCodes.j1 kj3 l1 t259 t262 (!t278) a0_0 l0_1 l0_2)) else (if bt263.2 = 2 then ((standstillref07_Same.f kj3 bt263.1 bt274.1).bind fun t279 => (standstilllaw07_TagCodes.j1 kj3 l1 t259 t262 (!t279) a0_0 l0_1 l0_2)) else (standstilllaw07_TagCodes.j1 kj3 l1 t259 t262 true a0_0 l0_1 l0_2))))) else ((tag_ToCyclic.f kj3 a0_0 l0_1 l0_2).bind fun bt268 => (if t262 = 1 then (if bt263.2 = 1 then (if bt268.2 = 1 then (if (wrap64 ((wrap64 ((t259.length : Int) + (bt263.1.length : Int))) + (bt268.1.length : Int))) = 0 then ((standstilllaw07_awake.f kj3).bind fun t273 => (some t273)) else (some false)) else (some false)) else (some false)) else (some false)))))) = some r := H
    have A19 := Aside0.mk A190
    clear A190
    replace H := Option.bind_eq_some_iff.mp H
    obtain ⟨⟨t263, t266⟩, A200, H⟩ := H
    replace H : ((standstillref07_Valid.f kj3 a0_0 l0_1 l0_2).bind fun t267 => (if t267 = true then ((standstillref07_Letters.f kj3 l2 (l0_1.length : Int)).bind fun bt274 => (if (bt274.2 != (t266 == 0)) = true then (standstilllaw07_TagCodes.j1 kj3 l1 t259 t262 true a0_0 l0_1 l0_2) else (if bt274.2 = true then ((standstillref07_Same.f kj3 t263 bt274.1).bind fun t278 => (standstilllaw07_TagCodes.j1 kj3 l1 t259 t262 (!t278) a0_0 l0_1 l0_2)) else (if t266 = 2 then ((standstillref07_Same.f kj3 t263 bt274.1).bind fun t279 => (standstilllaw07_TagCodes.j1 kj3 l1 t259 t262 (!t279) a0_0 l0_1 l0_2)) else (standstilllaw07_TagCodes.j1 kj3 l1 t259 t262 true a0_0 l0_1 l0_2))))) else ((tag_ToCyclic.f kj3 a0_0 l0_1 l0_2).bind fun bt268 => (if t262 = 1 then (if t266 = 1 then (if bt268.2 = 1 then (if (wrap64 ((wrap64 ((t259.length : Int) + (t263.length : Int))) + (bt268.1.length : Int))) = 0 then ((standstilllaw07_awake.f kj3).bind fun t273 => (some t273)) else (some false)) else (some false)) else (some false)) else (some false))))) = some r := H
    have A20 := Aside0.mk A200
    clear A200
    replace H := Option.bind_eq_some_iff.mp H
    obtain ⟨t267, A210, H⟩ := H
    replace H : (if t267 = true then ((standstillref07_Letters.f kj3 l2 (l0_1.length : Int)).bind fun bt274 => (if (bt274.2 != (t266 == 0)) = true then (standstilllaw07_TagCodes.j1 kj3 l1 t259 t262 true a0_0 l0_1 l0_2) else (if bt274.2 = true then ((standstillref07_Same.f kj3 t263 bt274.1).bind fun t278 => (standstilllaw07_TagCodes.j1 kj3 l1 t259 t262 (!t278) a0_0 l0_1 l0_2)) else (if t266 = 2 then ((standstillref07_Same.f kj3 t263 bt274.1).bind fun t279 => (standstilllaw07_TagCodes.j1 kj3 l1 t259 t262 (!t279) a0_0 l0_1 l0_2)) else (standstilllaw07_TagCodes.j1 kj3 l1 t259 t262 true a0_0 l0_1 l0_2))))) else ((tag_ToCyclic.f kj3 a0_0 l0_1 l0_2).bind fun bt268 => (if t262 = 1 then (if t266 = 1 then (if bt268.2 = 1 then (if (wrap64 ((wrap64 ((t259.length : Int) + (t263.length : Int))) + (bt268.1.length : Int))) = 0 then ((standstilllaw07_awake.f kj3).bind fun t273 => (some t273)) else (some false)) else (some false)) else (some false)) else (some false)))) = some r := H
    have A21 := Aside0.mk A210
    clear A210
    by_cases c22 : t267 = true
    ·subst c22
     have H1 : ((standstillref07_Letters.f kj3 l2 (l0_1.length : Int)).bind fun bt274 => (if (bt274.2 != (t266 == 0)) = true then (standstilllaw07_TagCodes.j1 kj3 l1 t259 t262 true a0_0 l0_1 l0_2) else (if bt274.2 = true then ((standstillref07_Same.f kj3 t263 bt274.1).bind fun t278 => (standstilllaw07_TagCodes.j1 kj3 l1 t259 t262 (!t278) a0_0 l0_1 l0_2)) else (if t266 = 2 then ((standstillref07_Same.f kj3 t263 bt274.1).bind fun t279 => (standstilllaw07_TagCodes.j1 kj3 l1 t259 t262 (!t279) a0_0 l0_1 l0_2)) else (standstilllaw07_TagCodes.j1 kj3 l1 t259 t262 true a0_0 l0_1 l0_2))))) = some r := by rw [if_pos rfl] at H; exact H
     clear H
     have H := H1
     clear H1
     replace H := Option.bind_eq_some_iff.mp H
     obtain ⟨⟨t274, t275⟩, A230, H⟩ := H
     replace H : (if (t275 != (t266 == 0)) = true then (standstilllaw07_TagCodes.j1 kj3 l1 t259 t262 true a0_0 l0_1 l0_2) else (if t275 = true then ((standstillref07_Same.f kj3 t263 t274).bind fun t278 => (standstilllaw07_TagCodes.j1 kj3 l1 t259 t262 (!t278) a0_0 l0_1 l0_2)) else (if t266 = 2 then ((standstillref07_Same.f kj3 t263 t274).bind fun t279 => (standstilllaw07_TagCodes.j1 kj3 l1 t259 t262 (!t279) a0_0 l0_1 l0_2)) else (standstilllaw07_TagCodes.j1 kj3 l1 t259 t262 true a0_0 l0_1 l0_2)))) = some r := H
     have A23 := Aside0.mk A230
     clear A230
     have HC24 := Aside0.mk H
     clear H
     have hcz25_0 : wc.cell? ⟨gb256, 0, none⟩ = some (.int .i64 a0_0) := (blk_cell BK256.out 0).trans rfl
     have hcz25_1 : wc.cell? ⟨gb256, 1, none⟩ = some (.slice A0_1 l0_1.length c0_1) := (blk_cell BK256.out 1).trans rfl
     have hcz25_2 : wc.cell? ⟨gb256, 2, none⟩ = some (.slice A0_2 l0_2.length c0_2) := (blk_cell BK256.out 2).trans rfl
     have hfz25_0 := blk_frozen BK256.out 0
     have hfz25_1 := blk_frozen BK256.out 1
     have hfz25_2 := blk_frozen BK256.out 2
     go_upto_region 9 with (first | ((with_reducible refine gate_callee (f := 33) rfl ?_); refine goesL_ (some 40) rfl rfl Try.func33 (by kernel_rfl) rfl #[.agg #[.int .i64 a0_0, .slice A0_1 l0_1.length c0_1, .slice A0_2 l0_2.length c0_2], .slice A1 l1.length c1] rfl gl_ ?_; (with_reducible refine (tag_Bits.calls kj3 a0_0 _ _ l0_1 _ _ l0_2 _ _ l1 t259 t262 _ ?side1 ?side2 ?side3 ?side4 ?side5 ?side6 A19.out).mono ?_); (case side1 => exact ck_ (Kd.C_below HR0_1.out HB.out)); (case side2 => exact HC0_1.out); (case side3 => exact ck_ (Kd.C_below HR0_2.out HB.out)); (case side4 => exact HC0_2.out); (case side5 => exact ck_ (Kd.C_below HR1.out HB.out)); (case side6 => exact HC1.out); rintro e w26 ⟨v260, rfl, ho0, hb⟩; refine ⟨_, rfl, ?_⟩; have n0_ := A_ (Kd.R_lower ho0 (below_size (bk_ HB.out))); have n1_ := A_ (blk_below (pk_ BK256.out) hb); have n2_ := A_ (below_step (bk_ HB.out) hb); clear BK256 HB; have HO261 := n0_; have BK256 := n1_; have HB := n2_; clear n0_ n1_ n2_; (try clear hb); (try clear hb2); (try clear hk); (try clear hi); (try clear ho0); have hcz27_0 : w26.cell? ⟨gb256, 0, none⟩ = some (.int .i64 a0_0) := (blk_cell BK256.out 0).trans rfl; have hcz27_1 : w26.cell? ⟨gb256, 1, none⟩ = some (.slice A0_1 l0_1.length c0_1) := (blk_cell BK256.out 1).trans rfl; have hcz27_2 : w26.cell? ⟨gb256, 2, none⟩ = some (.slice A0_2 l0_2.length c0_2) := (blk_cell BK256.out 2).trans rfl; have hfz27_0 := blk_frozen BK256.out 0; have hfz27_1 := blk_frozen BK256.out 1; have hfz27_2 := blk_frozen BK256.out 2) | ((with_reducible refine gate_callee (f := 34) rfl ?_); refine goesL_ (some 46) rfl rfl Try.func34 (by kernel_rfl) rfl #[.agg #[.int .i64 a0_0, .slice A0_1 l0_1.length c0_1, .slice A0_2 l0_2.length c0_2], .slice A2 l2.length c2] rfl gl_ ?_; (with_reducible refine (tag_Letters.calls kj3 a0_0 _ _ l0_1 _ _ l0_2 _ _ l2 t263 t266 _ ?side1 ?side2 ?side3 ?side4 ?side5 ?side6 A20.out).mono ?_); (case side1 => exact ck_ (Kd.C_below HR0_1.out HB.out)); (case side2 => exact HC0_1.out); (case side3 => exact ck_ (Kd.C_below HR0_2.out HB.out)); (case side4 => exact HC0_2.out); (case side5 => exact ck_ (Kd.C_below HR2.out HB.out)); (case side6 => exact HC2.out); rintro e w28 ⟨v264, rfl, ho0, hb⟩; refine ⟨_, rfl, ?_⟩; have n0_ := A_ (Kd.R_elder' (rk_ HO261.out) (Kd.R_base ho0) hb); have n1_ := A_ (Kd.R_lower (Kd.R_new' ho0 (Kd.R_lt (rk_ HO261.out))) (below_size (bk_ HB.out))); have n2_ := A_ (blk_below (pk_ BK256.out) hb); have n3_ := A_ (below_step (bk_ HB.out) hb); clear HO261 BK256 HB; have HO261 := n0_; have HO265 := n1_; have BK256 := n2_; have HB := n3_; clear n0_ n1_ n2_ n3_; (try clear hb); (try clear hb2); (try clear hk); (try clear hi); (try clear ho0); have hcz29_0 : w28.cell? ⟨gb256, 0, none⟩ = some (.int .i64 a0_0) := (blk_cell BK256.out 0).trans rfl; have hcz29_1 : w28.cell? ⟨gb256, 1, none⟩ = some (.slice A0_1 l0_1.length c0_1) := (blk_cell BK256.out 1).trans rfl; have hcz29_2 : w28.cell? ⟨gb256, 2, none⟩ = some (.slice A0_2 l0_2.length c0_2) := (blk_cell BK256.out 2).trans rfl; have hfz29_0 := blk_frozen BK256.out 0; have hfz29_1 := blk_frozen BK256.out 1; have hfz29_2 := blk_frozen BK256.out 2) | ((with_reducible refine gate_callee (f := 16) rfl ?_); refine goesL_ (some 50) rfl rfl Try.func16 (by kernel_rfl) rfl #[.agg #[.int .i64 a0_0, .slice A0_1 l0_1.length c0_1, .slice A0_2 l0_2.length c0_2]] rfl gl_ ?_; (with_reducible refine (standstillref07_Valid.calls kj3 a0_0 _ _ l0_1 _ _ l0_2 true _ ?side1 ?side2 ?side3 ?side4 A21.out).mono ?_); (case side1 => exact ck_ (Kd.C_below HR0_1.out HB.out)); (case side2 => exact HC0_1.out); (case side3 => exact ck_ (Kd.C_below HR0_2.out HB.out)); (case side4 => exact HC0_2.out); rintro e w30 ⟨rfl, hb⟩; refine ⟨_, rfl, ?_⟩; have n0_ := A_ (Kd.R_below (rk_ HO261.out) hb); have n1_ := A_ (Kd.R_below (rk_ HO265.out) hb); have n2_ := A_ (blk_below (pk_ BK256.out) hb); have n3_ := A_ (below_step (bk_ HB.out) hb); clear HO261 HO265 BK256 HB; have HO261 := n0_; have HO265 := n1_; have BK256 := n2_; have HB := n3_; clear n0_ n1_ n2_ n3_; (try clear hb); (try clear hb2); (try clear hk); (try clear hi); have hcz31_0 : w30.cell? ⟨gb256, 0, none⟩ = some (.int .i64 a0_0) := (blk_cell BK256.out 0).trans rfl; have hcz31_1 : w30.cell? ⟨gb256, 1, none⟩ = some (.slice A0_1 l0_1.length c0_1) := (blk_cell BK256.out 1).trans rfl; have hcz31_2 : w30.cell? ⟨gb256, 2, none⟩ = some (.slice A0_2 l0_2.length c0_2) := (blk_cell BK256.out 2).trans rfl; have hfz31_0 := blk_frozen BK256.out 0; have hfz31_1 := blk_frozen BK256.out 1; have hfz31_2 := blk_frozen BK256.out 2) | ((with_reducible refine gate_callee (f := 36) rfl ?_); refine goesL_ (some 87) rfl rfl Try.func36 (by kernel_rfl) rfl #[.slice A2 l2.length c2, .int .i64 (l0_1.length : Int)] rfl gl_ ?_; (with_reducible refine (standstillref07_Letters.calls kj3 _ _ l2 (l0_1.length : Int) t274 t275 _ ?side1 ?side2 A23.out).mono ?_); (case side1 => exact ck_ (Kd.C_below HR2.out HB.out)); (case side2 => exact HC2.out); rintro e w32 ⟨v276, rfl, ho0, hb⟩; refine ⟨_, rfl, ?_⟩; have n0_ := A_ (Kd.R_elder' (rk_ HO261.out) (Kd.R_base ho0) hb); have n1_ := A_ (Kd.R_elder' (rk_ HO265.out) (Kd.R_base ho0) hb); have n2_ := A_ (Kd.R_lower (Kd.R_new' (Kd.R_new' ho0 (Kd.R_lt (rk_ HO261.out))) (Kd.R_lt (rk_ HO265.out))) (below_size (bk_ HB.out))); have n3_ := A_ (blk_below (pk_ BK256.out) hb); have n4_ := A_ (below_step (bk_ HB.out) hb); clear HO261 HO265 BK256 HB; have HO261 := n0_; have HO265 := n1_; have HO277 := n2_; have BK256 := n3_; have HB := n4_; clear n0_ n1_ n2_ n3_ n4_; (try clear hb); (try clear hb2); (try clear hk); (try clear hi); (try clear ho0)))
     (try simp only [Act.put, List.setIfInBounds_toArray, List.set_cons_zero, List.set_cons_succ])
     go_cut [107] (fun v107 wc => ∃ (kq : Nat) (x107_23 : Bool), v107 = .bool x107_23 ∧ Aside0 (standstilllaw07_TagCodes.j1 kq l1 t259 t262 x107_23 a0_0 l0_1 l0_2 = some r) ∧ Aside0 (kq ≤ kj3) ∧ Aside0 (Kd.R (Kd.int .i64) 3 wc w.heap.size (fun _ => True) v260 t259) ∧ Aside0 (wc.heap[gb256]? = some (.cells #[.int .i64 a0_0, (.slice A0_1 l0_1.length c0_1), (.slice A0_2 l0_2.length c0_2)] 25 (0, 0))) ∧ Aside0 (Below w.heap.size w wc))
     case first =>
      have H := HC24.out
      clear HC24
      by_cases c33 : (t275 != (t266 == 0)) = true
      ·rw [if_pos c33] at H
       have c33b0 : (t275 != (t266 == 0)) = true := c33
       (try (have c33b1 : decide (t275 = (t266 == 0)) = false := by simpa using c33))
       (try (have c33b2 : (t275 == (t266 == 0)) = false := by simpa using c33))
       (try (have c33b3 : ¬ (t275 = (t266 == 0)) := by simpa using c33))
       clear c33
       (first | rw [c33b0] | (simp only [i64_w, i32_w]; rw [c33b0]) | skip)
       have H' := Aside0.mk H
       clear H
       go_wp2
       go_meet
       case rel => exact ⟨_, (true), jr_, H', ⟨by have := HJ3.out; first | omega | exact Nat.le_refl _⟩, ⟨by (with_reducible repeat (first | apply Kd.R_alloc | apply Kd.R_drewN | apply Kd.R_drew)); exact Kd.R_mono HO261.out (fun _ hk => trivial)⟩, ⟨pk_ BK256.out⟩, ⟨bk_ HB.out⟩⟩
      ·rw [if_neg c33] at H
       have c33b0 : (t275 != (t266 == 0)) = false := by simpa using c33
       (try (have c33b1 : decide (t275 = (t266 == 0)) = true := by simpa using c33))
       (try (have c33b2 : (t275 == (t266 == 0)) = true := by simpa using c33))
       clear c33
       (first | rw [c33b0] | (simp only [i64_w, i32_w]; rw [c33b0]) | skip)
       by_cases c34 : t275 = true
       ·subst c34
        have H1 : ((standstillref07_Same.f kj3 t263 t274).bind fun t278 => (standstilllaw07_TagCodes.j1 kj3 l1 t259 t262 (!t278) a0_0 l0_1 l0_2)) = some r := by rw [if_pos rfl] at H; exact H
        clear H
        have H := H1
        clear H1
        replace H := Option.bind_eq_some_iff.mp H
        obtain ⟨t278, A350, H⟩ := H
        replace H : (standstilllaw07_TagCodes.j1 kj3 l1 t259 t262 (!t278) a0_0 l0_1 l0_2) = some r := H
        have A35 := Aside0.mk A350
        clear A350
        have H' := Aside0.mk H
        clear H
        obtain ⟨Ao36, co36, eo36⟩ := Kd.R_slice HO265.out
        subst eo36
        obtain ⟨Ao37, co37, eo37⟩ := Kd.R_slice HO277.out
        subst eo37
        go_wp2_with (first | (go_at_call 14; (with_reducible refine (standstillref07_Same.calls kj3 _ _ t263 _ _ t274 t278 _ ?side1 ?side2 ?side3 ?side4 A35.out).mono ?_); (case side1 => repeat (first | exact (Kd.R_reads' HO265.out).2.2 | (with_reducible refine Kd.C_alloc ?_ _) | (with_reducible refine Kd.C_drewN ?_ _) | (with_reducible refine Kd.C_drew ?_))); (case side2 => exact (Kd.R_reads' HO265.out).2.1); (case side3 => repeat (first | exact (Kd.R_reads' HO277.out).2.2 | (with_reducible refine Kd.C_alloc ?_ _) | (with_reducible refine Kd.C_drewN ?_ _) | (with_reducible refine Kd.C_drew ?_))); (case side4 => exact (Kd.R_reads' HO277.out).2.1); rintro e w' ⟨rfl, ⟨nd, rfl⟩⟩))
        go_meet
        case rel => exact ⟨_, (!t278), jr_, H', ⟨by have := HJ3.out; first | omega | exact Nat.le_refl _⟩, ⟨by (with_reducible repeat (first | apply Kd.R_alloc | apply Kd.R_drewN | apply Kd.R_drew)); exact Kd.R_mono HO261.out (fun _ hk => trivial)⟩, ⟨pk_ BK256.out⟩, ⟨bk_ HB.out⟩⟩
       ·replace c34 := Bool.eq_false_iff.mpr c34
        subst c34
        have H1 : (if t266 = 2 then ((standstillref07_Same.f kj3 t263 t274).bind fun t279 => (standstilllaw07_TagCodes.j1 kj3 l1 t259 t262 (!t279) a0_0 l0_1 l0_2)) else (standstilllaw07_TagCodes.j1 kj3 l1 t259 t262 true a0_0 l0_1 l0_2)) = some r := by rw [if_neg (show ¬ (false = true) by decide)] at H; exact H
        clear H
        have H := H1
        clear H1
        by_cases c38 : t266 = 2
        ·rw [if_pos c38] at H
         have c38b0 : (t266 == 2) = true := beq_iff_eq.mpr c38
         have c38b1 : (t266 != 2) = false := bne_eq_false_iff_eq.mpr c38
         clear c38
         replace H := Option.bind_eq_some_iff.mp H
         obtain ⟨t279, A390, H⟩ := H
         replace H : (standstilllaw07_TagCodes.j1 kj3 l1 t259 t262 (!t279) a0_0 l0_1 l0_2) = some r := H
         have A39 := Aside0.mk A390
         clear A390
         have H' := Aside0.mk H
         clear H
         obtain ⟨Ao40, co40, eo40⟩ := Kd.R_slice HO265.out
         subst eo40
         obtain ⟨Ao41, co41, eo41⟩ := Kd.R_slice HO277.out
         subst eo41
         go_wp2_with (first | (go_at_call 14; (with_reducible refine (standstillref07_Same.calls kj3 _ _ t263 _ _ t274 t279 _ ?side1 ?side2 ?side3 ?side4 A39.out).mono ?_); (case side1 => repeat (first | exact (Kd.R_reads' HO265.out).2.2 | (with_reducible refine Kd.C_alloc ?_ _) | (with_reducible refine Kd.C_drewN ?_ _) | (with_reducible refine Kd.C_drew ?_))); (case side2 => exact (Kd.R_reads' HO265.out).2.1); (case side3 => repeat (first | exact (Kd.R_reads' HO277.out).2.2 | (with_reducible refine Kd.C_alloc ?_ _) | (with_reducible refine Kd.C_drewN ?_ _) | (with_reducible refine Kd.C_drew ?_))); (case side4 => exact (Kd.R_reads' HO277.out).2.1); rintro e w' ⟨rfl, ⟨nd, rfl⟩⟩))
         go_meet
         case rel => exact ⟨_, (!t279), jr_, H', ⟨by have := HJ3.out; first | omega | exact Nat.le_refl _⟩, ⟨by (with_reducible repeat (first | apply Kd.R_alloc | apply Kd.R_drewN | apply Kd.R_drew)); exact Kd.R_mono HO261.out (fun _ hk => trivial)⟩, ⟨pk_ BK256.out⟩, ⟨bk_ HB.out⟩⟩
        ·rw [if_neg c38] at H
         have c38b0 : (t266 == 2) = false := beq_eq_false_iff_ne.mpr c38
         have c38b1 : (t266 != 2) = true := bne_iff_ne.mpr c38
         have H' := Aside0.mk H
         clear H
         go_wp2
         go_meet
         case rel => exact ⟨_, (true), jr_, H', ⟨by have := HJ3.out; first | omega | exact Nat.le_refl _⟩, ⟨by (with_reducible repeat (first | apply Kd.R_alloc | apply Kd.R_drewN | apply Kd.R_drew)); exact Kd.R_mono HO261.out (fun _ hk => trivial)⟩, ⟨pk_ BK256.out⟩, ⟨bk_ HB.out⟩⟩
     case rest =>
      clear HC24
      (try clear c1); (try clear c2); (try clear c16); (try clear c22); (try clear hcz25_0); (try clear hcz25_1); (try clear hcz25_2); (try clear hcz27_0); (try clear hcz27_1); (try clear hcz27_2); (try clear hcz29_0); (try clear hcz29_1); (try clear hcz29_2); (try clear hcz31_0); (try clear hcz31_1); (try clear hcz31_2); (try clear hfz25_0); (try clear hfz25_1); (try clear hfz25_2); (try clear hfz27_0); (try clear hfz27_1); (try clear hfz27_2); (try clear hfz29_0); (try clear hfz29_1); (try clear hfz29_2); (try clear hfz31_0); (try clear hfz31_1); (try clear hfz31_2)
      obtain ⟨kq, x107_23, rfl, HA, HJ23, HO_7, BK256, HB⟩ := hcut
      cases kq with
      | zero => exact absurd HA.out (by simp [standstilllaw07_TagCodes.j1])
      | succ kj23 =>
       have H := HA.out
       clear HA
       simp only [standstilllaw07_TagCodes.j1] at H
       by_cases c42 : x107_23 = true
       ·subst c42
        have H1 : (some false) = some r := by rw [if_pos rfl] at H; exact H
        clear H
        have H := H1
        clear H1
        obtain rfl := Option.some.inj H
        go_wp2
        go_ret
        exact ⟨by first | rfl | (simp [errW_none, errW_some] <;> rfl) | (simp [*, errW_none, errW_some] <;> rfl), bk_ HB.out⟩
       ·replace c42 := Bool.eq_false_iff.mpr c42
        subst c42
        have H1 : ((standstilllaw07_rules.f kj23 a0_0 l0_1 l0_2).bind fun t280 => (if t280 ≤ 300000 then ((tag_ToCyclic.f kj23 a0_0 l0_1 l0_2).bind fun bt281 => (if bt281.2 = 0 then ((standstillref07_ToCyclic.f kj23 a0_0 l0_1 l0_2).bind fun t286 => ((standstillref07_SameCyclic.f kj23 bt281.1 t286).bind fun t289 => (if t289 = true then (standstilllaw07_TagCodes.j2 kj23 l1 t259 t262 a0_0 l0_1 l0_2) else (some false)))) else (some false))) else (standstilllaw07_TagCodes.j2 kj23 l1 t259 t262 a0_0 l0_1 l0_2))) = some r := by rw [if_neg (show ¬ (false = true) by decide)] at H; exact H
        clear H
        have H := H1
        clear H1
        replace H := Option.bind_eq_some_iff.mp H
        obtain ⟨t280, A430, H⟩ := H
        replace H : (if t280 ≤ 300000 then ((tag_ToCyclic.f kj23 a0_0 l0_1 l0_2).bind fun bt281 => (if bt281.2 = 0 then ((standstillref07_ToCyclic.f kj23 a0_0 l0_1 l0_2).bind fun t286 => ((standstillref07_SameCyclic.f kj23 bt281.1 t286).bind fun t289 => (if t289 = true then (standstilllaw07_TagCodes.j2 kj23 l1 t259 t262 a0_0 l0_1 l0_2) else (some false)))) else (some false))) else (standstilllaw07_TagCodes.j2 kj23 l1 t259 t262 a0_0 l0_1 l0_2)) = some r := H
        have A43 := Aside0.mk A430
        clear A430
        have HC44 := Aside0.mk H
        clear H
        have hcz45_0 : wc.cell? ⟨gb256, 0, none⟩ = some (.int .i64 a0_0) := (blk_cell BK256.out 0).trans rfl
        have hcz45_1 : wc.cell? ⟨gb256, 1, none⟩ = some (.slice A0_1 l0_1.length c0_1) := (blk_cell BK256.out 1).trans rfl
        have hcz45_2 : wc.cell? ⟨gb256, 2, none⟩ = some (.slice A0_2 l0_2.length c0_2) := (blk_cell BK256.out 2).trans rfl
        have hfz45_0 := blk_frozen BK256.out 0
        have hfz45_1 := blk_frozen BK256.out 1
        have hfz45_2 := blk_frozen BK256.out 2
        go_upto_if 110 with (first | ((with_reducible refine gate_callee (f := 37) rfl ?_); refine goesL_ (some 109) rfl rfl Try.func37 (by kernel_rfl) rfl #[.agg #[.int .i64 a0_0, .slice A0_1 l0_1.length c0_1, .slice A0_2 l0_2.length c0_2]] rfl gl_ ?_; (with_reducible refine (standstilllaw07_rules.calls kj23 a0_0 _ _ l0_1 _ _ l0_2 t280 _ ?side1 ?side2 ?side3 ?side4 A43.out).mono ?_); (case side1 => exact ck_ (Kd.C_below HR0_1.out HB.out)); (case side2 => exact HC0_1.out); (case side3 => exact ck_ (Kd.C_below HR0_2.out HB.out)); (case side4 => exact HC0_2.out); rintro e w46 ⟨rfl, hb⟩; refine ⟨_, rfl, ?_⟩; have n0_ := A_ (Kd.R_below (rk_ HO_7.out) hb); have n1_ := A_ (blk_below (pk_ BK256.out) hb); have n2_ := A_ (below_step (bk_ HB.out) hb); clear HO_7 BK256 HB; have HO_7 := n0_; have BK256 := n1_; have HB := n2_; clear n0_ n1_ n2_; (try clear hb); (try clear hb2); (try clear hk); (try clear hi)))
        (try simp only [Act.put, List.setIfInBounds_toArray, List.set_cons_zero, List.set_cons_succ])
        go_cut [] (fun wc => ∃ (kq : Nat), Aside0 (standstilllaw07_TagCodes.j2 kq l1 t259 t262 a0_0 l0_1 l0_2 = some r) ∧ Aside0 (kq ≤ kj23) ∧ Aside0 (Kd.R (Kd.int .i64) 3 wc w.heap.size (fun _ => True) v260 t259) ∧ Aside0 (wc.heap[gb256]? = some (.cells #[.int .i64 a0_0, (.slice A0_1 l0_1.length c0_1), (.slice A0_2 l0_2.length c0_2)] 25 (0, 0))) ∧ Aside0 (Below w.heap.size w wc))
        case first =>
         have H := HC44.out
         clear HC44
         by_cases c47 : t280 ≤ 300000
         ·rw [if_pos c47] at H
          have c47b0 : decide (t280 ≤ 300000) = true := decide_eq_true c47
          clear c47
          (first | rw [c47b0] | (simp only [i64_w, i32_w]; rw [c47b0]) | skip)
          replace H := Option.bind_eq_some_iff.mp H
          obtain ⟨⟨t281, t284⟩, A480, H⟩ := H
          replace H : (if t284 = 0 then ((standstillref07_ToCyclic.f kj23 a0_0 l0_1 l0_2).bind fun t286 => ((standstillref07_SameCyclic.f kj23 t281 t286).bind fun t289 => (if t289 = true then (standstilllaw07_TagCodes.j2 kj23 l1 t259 t262 a0_0 l0_1 l0_2) else (some false)))) else (some false)) = some r := H
          have A48 := Aside0.mk A480
          clear A480
          by_cases c49 : t284 = 0
          ·rw [if_pos c49] at H
           have c49b0 : (t284 == 0) = true := beq_iff_eq.mpr c49
           have c49b1 : (t284 != 0) = false := bne_eq_false_iff_eq.mpr c49
           clear c49
           replace H := Option.bind_eq_some_iff.mp H
           obtain ⟨t286, A500, H⟩ := H
           replace H : ((standstillref07_SameCyclic.f kj23 t281 t286).bind fun t289 => (if t289 = true then (standstilllaw07_TagCodes.j2 kj23 l1 t259 t262 a0_0 l0_1 l0_2) else (some false))) = some r := H
           have A50 := Aside0.mk A500
           clear A500
           replace H := Option.bind_eq_some_iff.mp H
           obtain ⟨t289, A510, H⟩ := H
           replace H : (if t289 = true then (standstilllaw07_TagCodes.j2 kj23 l1 t259 t262 a0_0 l0_1 l0_2) else (some false)) = some r := H
           have A51 := Aside0.mk A510
           clear A510
           by_cases c52 : t289 = true
           ·subst c52
            have H1 : (standstilllaw07_TagCodes.j2 kj23 l1 t259 t262 a0_0 l0_1 l0_2) = some r := by rw [if_pos rfl] at H; exact H
            clear H
            have H := H1
            clear H1
            have H' := Aside0.mk H
            clear H
            have hcz53_0 : w46.cell? ⟨gb256, 0, none⟩ = some (.int .i64 a0_0) := (blk_cell BK256.out 0).trans rfl
            have hcz53_1 : w46.cell? ⟨gb256, 1, none⟩ = some (.slice A0_1 l0_1.length c0_1) := (blk_cell BK256.out 1).trans rfl
            have hcz53_2 : w46.cell? ⟨gb256, 2, none⟩ = some (.slice A0_2 l0_2.length c0_2) := (blk_cell BK256.out 2).trans rfl
            have hfz53_0 := blk_frozen BK256.out 0
            have hfz53_1 := blk_frozen BK256.out 1
            have hfz53_2 := blk_frozen BK256.out 2
            try go_wp2_with (first | ((with_reducible refine gate_callee (f := 35) rfl ?_); refine goesL_ (some 113) rfl rfl Try.func35 (by kernel_rfl) rfl #[.agg #[.int .i64 a0_0, .slice A0_1 l0_1.length c0_1, .slice A0_2 l0_2.length c0_2]] rfl gl_ ?_; (with_reducible refine (tag_ToCyclic.calls kj23 a0_0 _ _ l0_1 _ _ l0_2 t281 t284 _ ?side1 ?side2 ?side3 ?side4 A48.out).mono ?_); (case side1 => exact ck_ (Kd.C_below HR0_1.out HB.out)); (case side2 => exact HC0_1.out); (case side3 => exact ck_ (Kd.C_below HR0_2.out HB.out)); (case side4 => exact HC0_2.out); rintro e w54 ⟨v282, rfl, ho0, hb⟩; refine ⟨_, rfl, ?_⟩; have n0_ := A_ (Kd.R_below (rk_ HO_7.out) hb); have n1_ := A_ (Kd.S_lower (Kd.S_new' ho0 (Kd.R_lt (rk_ HO_7.out))) (below_size (bk_ HB.out))); have n2_ := A_ (blk_below (pk_ BK256.out) hb); have n3_ := A_ (below_step (bk_ HB.out) hb); clear HO_7 BK256 HB; have HO_7 := n0_; have HO283 := n1_; have BK256 := n2_; have HB := n3_; clear n0_ n1_ n2_ n3_; (try clear hb); (try clear hb2); (try clear hk); (try clear hi); (try clear ho0)) | ((with_reducible refine gate_dst (N := 15) rfl ?_); (try (refine gate_guard (by rfl) ?_; dsimp only)); refine box_event ?hg (N := 15) ?hd (cs := #[.slice none 0 0]) (t := 45) ?hr ?_; (case hd => rfl); (case hg => rfl); (case hr => first | (go_simp; done) | (go_simp; rfl)); intro gb285 hg w55 hbox hb; have n0_ := A_ (Kd.R_below (rk_ HO_7.out) hb); have n1_ := A_ (Kd.S_below (by (with_reducible repeat (first | apply Kd.S_alloc | apply Kd.S_drewN | apply Kd.S_drew)); exact HO283.out) hb); have n2_ := A_ (blk_below (pk_ BK256.out) hb); have n3_ := A_ (below_step (bk_ HB.out) hb); have n4_ := A_ (hbox); have n5_ := A_ ((by rw [hg]; exact (below_size (bk_ HB.out)) : w.heap.size ≤ gb285)); have n6_ := A_ ((by rw [hg]; exact (below_size (bk_ HB.out)) : w.heap.size ≤ gb285)); have n7_ := A_ ((by rw [hg]; exact Nat.ne_of_lt (blk_lt (pk_ BK256.out)) : gb256 ≠ gb285)); have n8_ := A_ ((by rw [hg]; exact Nat.ne_of_gt (blk_lt (pk_ BK256.out)) : gb285 ≠ gb256)); clear HO_7 HO283 BK256 HB; have HO_7 := n0_; have HO283 := n1_; have BK256 := n2_; have HB := n3_; have BK285 := n4_; have GW285 := n5_; have GE285 := n6_; have NB256_285 := n7_; have NB285_256 := n8_; clear n0_ n1_ n2_ n3_ n4_ n5_ n6_ n7_ n8_ hb hbox hg; obtain ⟨Ao56, co56, eo56⟩ := Kd.S_slice HO283.out; subst eo56; have hnb57 := NB285_256.out; have hnc57 := NB256_285.out; have hcz58_0 : w55.cell? ⟨gb285, 0, none⟩ = some (.slice none 0 0) := (blk_cell BK285.out 0).trans rfl; have hfz58_0 := blk_frozen BK285.out 0))
            have n0_ : Aside0 (Kd.R (Kd.int .i64) 3 (w55.setCell ⟨gb285, 0, none⟩ (.slice Ao56 t281.length co56)) w.heap.size (fun _ => True) v260 t259) := ⟨by (with_reducible repeat (first | apply Kd.R_alloc | apply Kd.R_drewN | apply Kd.R_drew)); exact Kd.R_mono (Kd.R_far (p := ⟨gb285, 0, none⟩) (Kd.R_types HO_7.out BK285.out (by decide)) (fun _ hk => hk.2) (.slice Ao56 t281.length co56)) (fun _ hk => trivial)⟩
            have n1_ : Aside0 (Kd.S (Kd.slice 3 (Kd.int .i64)) 26 (w55.setCell ⟨gb285, 0, none⟩ (.slice Ao56 t281.length co56)) w.heap.size (fun k_ => some k_ ≠ (v260 : Value).ownBlock) (.slice Ao56 t281.length co56) t281) := ⟨by (with_reducible repeat (first | apply Kd.S_alloc | apply Kd.S_drewN | apply Kd.S_drew)); exact Kd.S_mono (Kd.S_far (p := ⟨gb285, 0, none⟩) (Kd.S_types HO283.out BK285.out (by decide)) (fun _ hk => hk.2) (.slice Ao56 t281.length co56)) (fun _ hk => hk.1.2)⟩
            have n2_ : Aside0 ((w55.setCell ⟨gb285, 0, none⟩ (.slice Ao56 t281.length co56)).heap[gb256]? = some (.cells #[.int .i64 a0_0, .slice A0_1 l0_1.length c0_1, .slice A0_2 l0_2.length c0_2] 25 (0, 0))) := ⟨by (with_reducible repeat (first | refine blk_drewN ?_ _ | refine blk_drew ?_ | refine blk_alloc ?_ _)); refine blk_far ?_ NB256_285.out _; exact pk_ BK256.out⟩
            have n3_ : Aside0 ((w55.setCell ⟨gb285, 0, none⟩ (.slice Ao56 t281.length co56)).heap[gb285]? = some (.cells #[.slice Ao56 t281.length co56] 45 (0, 0))) := ⟨by (with_reducible repeat (first | refine blk_drewN ?_ _ | refine blk_drew ?_ | refine blk_alloc ?_ _)); refine blk_put (cs := #[.slice none 0 0]) ?_ 0 _ rfl; exact pk_ BK285.out⟩
            have n4_ : Aside0 (Below w.heap.size w (w55.setCell ⟨gb285, 0, none⟩ (.slice Ao56 t281.length co56))) := ⟨bk_ HB.out⟩
            (try clear HO_7)
            (try clear HO283)
            (try clear BK256)
            (try clear BK285)
            (try clear HB)
            generalize (w55.setCell ⟨gb285, 0, none⟩ (.slice Ao56 t281.length co56)) = w59 at n0_ n1_ n2_ n3_ n4_ ⊢
            have HO_7 := n0_
            have HO283 := n1_
            have BK256 := n2_
            have BK285 := n3_
            have HB := n4_
            clear n0_ n1_ n2_ n3_ n4_
            have n0_ := A_ (Kd.R_drew HO_7.out)
            have n1_ := A_ (Kd.S_drew HO283.out)
            have n2_ := A_ (blk_drew BK256.out)
            have n3_ := A_ (blk_drew BK285.out)
            have n4_ := A_ (below_drew1 HB.out)
            clear HO_7 HO283 BK256 BK285 HB
            have HO_7 := n0_
            have HO283 := n1_
            have BK256 := n2_
            have BK285 := n3_
            have HB := n4_
            clear n0_ n1_ n2_ n3_ n4_
            refine start_ (n := 9) (S := fun w' => w'.cell? ⟨gb285, 0, none⟩ = some (.slice Ao56 t281.length co56) ∧ w'.cell? ⟨gb256, 0, none⟩ = some (.int .i64 a0_0) ∧ w'.cell? ⟨gb256, 1, none⟩ = some (.slice A0_1 l0_1.length c0_1) ∧ w'.cell? ⟨gb256, 2, none⟩ = some (.slice A0_2 l0_2.length c0_2)) (ds := []) #[false, false, false, false, false, false, false, false, false] (by kernel_rfl) rfl rfl ⟨(blk_cell BK285.out 0).trans rfl, (blk_cell BK256.out 0).trans rfl, (blk_cell BK256.out 1).trans rfl, (blk_cell BK256.out 2).trans rfl⟩ (fun hHeld => ?_); refine with_tabW standstilllaw07_TagCodes.tab13 standstilllaw07_TagCodes.bits13 (fun HT_ HW_ => ?_)
            generalize w59.drew = w60 at HO_7 HO283 BK256 BK285 HB hHeld ⊢
            refine pure_ (i := 0) (N := some 116) (v := ?_) (a' := ?_) #[true, false, false, false, false, false, false, false, false] rfl rfl (any_of HT_.out (by kernel_rfl)) (fun _ _ _ h => h) (Or.inl ⟨by rfl, ?_⟩) ?_ ?_
            rotate_left
            ·intro w'
             go_simp
             with_reducible rfl
            rotate_left
            ·simp only [Act.put, sa_, sz_, ss_, i64_w, i32_w]
             rfl
            refine pure_ (i := 1) (N := some 117) (v := ?_) (a' := ?_) #[true, true, false, false, false, false, false, false, false] rfl rfl (any_of HT_.out (by kernel_rfl)) (fun _ _ _ h => h) (Or.inl ⟨by rfl, ?_⟩) ?_ ?_
            rotate_left
            ·intro w'
             go_simp
             with_reducible rfl
            rotate_left
            ·simp only [Act.put, sa_, sz_, ss_, i64_w, i32_w]
             rfl
            refine pure_ (i := 2) (N := some 118) (v := ?_) (a' := ?_) #[true, true, true, false, false, false, false, false, false] rfl rfl (any_of HT_.out (by kernel_rfl)) (fun _ _ _ h => h) (Or.inl ⟨by rfl, ?_⟩) ?_ ?_
            rotate_left
            ·intro w'
             go_simp
             with_reducible rfl
            rotate_left
            ·simp only [Act.put, sa_, sz_, ss_, i64_w, i32_w]
             rfl
            refine take_ (i := 3) (N := some 119) (v := ?_) (a' := ?_) #[true, true, true, true, false, false, false, false, false] rfl rfl (take_ofW HT_.out HW_.out (by kernel_rfl)) (fun _ _ _ h => h) (Or.inl ⟨by rfl, ?_⟩) hHeld ?_ ?_
            rotate_left
            ·rintro w' ⟨s0, s1, s2, s3⟩
             go_simp
             with_reducible rfl
            rotate_left
            ·simp only [Act.put, sa_, sz_, ss_, i64_w, i32_w]
             rfl
            refine take_ (i := 4) (N := some 120) (v := ?_) (a' := ?_) #[true, true, true, true, true, false, false, false, false] rfl rfl (take_ofW HT_.out HW_.out (by kernel_rfl)) (fun _ _ _ h => h) (Or.inl ⟨by rfl, ?_⟩) hHeld ?_ ?_
            rotate_left
            ·rintro w' ⟨s0, s1, s2, s3⟩
             go_simp
             with_reducible rfl
            rotate_left
            ·simp only [Act.put, sa_, sz_, ss_, i64_w, i32_w]
             rfl
            refine one_ (i := 5) (N := some 121) #[true, true, true, true, true, true, false, false, false] rfl rfl (one_of HT_.out (by kernel_rfl)) (by decide) (fun K hK => ?_)
            refine goes_ Try.func39 (by kernel_rfl) rfl #[.agg #[.int .i64 a0_0, .slice A0_1 l0_1.length c0_1, .slice A0_2 l0_2.length c0_2]] (by rfl) rfl rfl gl_ ?_
            with_reducible refine (standstillref07_ToCyclic.calls kj23 a0_0 _ _ l0_1 _ _ l0_2 t286 _ ?side1 ?side2 ?side3 ?side4 A50.out).mono ?_
            (case side1 => exact ck_ (Kd.C_below HR0_1.out HB.out))
            (case side2 => exact HC0_1.out)
            (case side3 => exact ck_ (Kd.C_below HR0_2.out HB.out))
            (case side4 => exact HC0_2.out)
            rintro e w61 ⟨v287, rfl, ho0, hb⟩
            refine ⟨_, rfl, ?_⟩
            have n0_ := A_ (Kd.R_below (rk_ HO_7.out) hb)
            have n1_ := A_ (Kd.S_elder' (by (with_reducible repeat (first | apply Kd.S_alloc | apply Kd.S_drewN | apply Kd.S_drew)); exact HO283.out) (Kd.S_base ho0) hb)
            have n2_ := A_ (Kd.S_lower (Kd.S_new' (Kd.S_new' ho0 (Kd.R_lt (rk_ HO_7.out))) (Kd.S_lt (by (with_reducible repeat (first | apply Kd.S_alloc | apply Kd.S_drewN | apply Kd.S_drew)); exact HO283.out))) (below_size (bk_ HB.out)))
            have n3_ := A_ (blk_below (pk_ BK256.out) hb)
            have n4_ := A_ (blk_below (pk_ BK285.out) hb)
            have n5_ := A_ (below_step (bk_ HB.out) hb)
            clear HO_7 HO283 BK256 BK285 HB
            have HO_7 := n0_
            have HO283 := n1_
            have HO288 := n2_
            have BK256 := n3_
            have BK285 := n4_
            have HB := n5_
            clear n0_ n1_ n2_ n3_ n4_ n5_
            (try clear hb)
            (try clear hb2)
            (try clear hk)
            (try clear hi)
            (try clear ho0)
            obtain ⟨Ao62, co62, eo62⟩ := Kd.S_slice HO288.out
            (first | subst eo62 | (injection eo62 with f1_ f2_ f3_; have f4_ := f1_.symm; have f5_ := f3_.symm; clear f1_ f2_ f3_; subst f4_; subst f5_))
            refine hK.out _ _ ⟨(blk_cell BK285.out 0).trans rfl, (blk_cell BK256.out 0).trans rfl, (blk_cell BK256.out 1).trans rfl, (blk_cell BK256.out 2).trans rfl⟩ (fun hHeld => ?_)
            clear hK K
            refine norm_ (a' := ?_) ?_ ?_
            rotate_left
            ·show Act.put _ (some 121) _ = _
             simp only [Act.put, sa_, sz_, ss_, i64_w, i32_w]
             rfl
            refine one_ (i := 6) (N := some 122) #[true, true, true, true, true, true, true, false, false] rfl rfl (one_of HT_.out (by kernel_rfl)) (by decide) (fun K hK => ?_)
            refine goes_ Try.func38 (by kernel_rfl) rfl #[.agg #[.slice Ao56 t281.length co56], .agg #[.slice Ao62 t286.length co62]] (by rfl) rfl rfl gl_ ?_
            with_reducible refine (standstillref07_SameCyclic.calls kj23 _ _ t281 _ _ t286 true _ ?side1 ?side2 ?side3 ?side4 A51.out).mono ?_
            (case side1 => repeat (first | exact (Kd.S_reads' HO283.out).2.2 | (with_reducible refine Kd.C_alloc ?_ _) | (with_reducible refine Kd.C_drewN ?_ _) | (with_reducible refine Kd.C_drew ?_)))
            (case side2 => exact (Kd.S_reads' HO283.out).2.1)
            (case side3 => repeat (first | exact (Kd.S_reads' HO288.out).2.2 | (with_reducible refine Kd.C_alloc ?_ _) | (with_reducible refine Kd.C_drewN ?_ _) | (with_reducible refine Kd.C_drew ?_)))
            (case side4 => exact (Kd.S_reads' HO288.out).2.1)
            rintro e w63 ⟨rfl, hb⟩
            refine ⟨_, rfl, ?_⟩
            have n0_ := A_ (Kd.R_below (rk_ HO_7.out) hb)
            have n1_ := A_ (Kd.S_below (by (with_reducible repeat (first | apply Kd.S_alloc | apply Kd.S_drewN | apply Kd.S_drew)); exact HO283.out) hb)
            have n2_ := A_ (Kd.S_below (by (with_reducible repeat (first | apply Kd.S_alloc | apply Kd.S_drewN | apply Kd.S_drew)); exact HO288.out) hb)
            have n3_ := A_ (blk_below (pk_ BK256.out) hb)
            have n4_ := A_ (blk_below (pk_ BK285.out) hb)
            have n5_ := A_ (below_step (bk_ HB.out) hb)
            clear HO_7 HO283 HO288 BK256 BK285 HB
            have HO_7 := n0_
            have HO283 := n1_
            have HO288 := n2_
            have BK256 := n3_
            have BK285 := n4_
            have HB := n5_
            clear n0_ n1_ n2_ n3_ n4_ n5_
            (try clear hb)
            (try clear hb2)
            (try clear hk)
            (try clear hi)
            refine hK.out _ _ ⟨(blk_cell BK285.out 0).trans rfl, (blk_cell BK256.out 0).trans rfl, (blk_cell BK256.out 1).trans rfl, (blk_cell BK256.out 2).trans rfl⟩ (fun hHeld => ?_)
            clear hK K
            refine norm_ (a' := ?_) ?_ ?_
            rotate_left
            ·show Act.put _ (some 122) _ = _
             simp only [Act.put, sa_, sz_, ss_, i64_w, i32_w]
             rfl
            refine pure_ (i := 7) (N := some 123) (v := ?_) (a' := ?_) #[true, true, true, true, true, true, true, true, false] rfl rfl (any_of HT_.out (by kernel_rfl)) (fun _ _ _ h => h) (Or.inl ⟨by rfl, ?_⟩) ?_ ?_
            rotate_left
            ·intro w'
             go_simp
             with_reducible rfl
            rotate_left
            ·simp only [Act.put, sa_, sz_, ss_, i64_w, i32_w]
             rfl
            refine pure_ (i := 8) (N := some 124) (v := ?_) (a' := ?_) #[true, true, true, true, true, true, true, true, true] rfl rfl (any_of HT_.out (by kernel_rfl)) (fun _ _ _ h => h) (Or.inl ⟨by rfl, ?_⟩) ?_ ?_
            rotate_left
            ·intro w'
             go_simp
             with_reducible rfl
            rotate_left
            ·simp only [Act.put, sa_, sz_, ss_, i64_w, i32_w]
             rfl
            refine done_ (done_of HT_.out (by kernel_rfl)) ?_
            try go_wp2
            go_meet
            case rel => exact ⟨_, H', ⟨by have := HJ3.out; have := HJ23.out; first | omega | exact Nat.le_refl _⟩, ⟨rk_ HO_7.out⟩, ⟨pk_ BK256.out⟩, ⟨bk_ HB.out⟩⟩
           ·replace c52 := Bool.eq_false_iff.mpr c52
            subst c52
            have H1 : (some false) = some r := by rw [if_neg (show ¬ (false = true) by decide)] at H; exact H
            clear H
            have H := H1
            clear H1
            obtain rfl := Option.some.inj H
            have hcz64_0 : w46.cell? ⟨gb256, 0, none⟩ = some (.int .i64 a0_0) := (blk_cell BK256.out 0).trans rfl
            have hcz64_1 : w46.cell? ⟨gb256, 1, none⟩ = some (.slice A0_1 l0_1.length c0_1) := (blk_cell BK256.out 1).trans rfl
            have hcz64_2 : w46.cell? ⟨gb256, 2, none⟩ = some (.slice A0_2 l0_2.length c0_2) := (blk_cell BK256.out 2).trans rfl
            have hfz64_0 := blk_frozen BK256.out 0
            have hfz64_1 := blk_frozen BK256.out 1
            have hfz64_2 := blk_frozen BK256.out 2
            try go_wp2_with (first | ((with_reducible refine gate_callee (f := 35) rfl ?_); refine goesL_ (some 113) rfl rfl Try.func35 (by kernel_rfl) rfl #[.agg #[.int .i64 a0_0, .slice A0_1 l0_1.length c0_1, .slice A0_2 l0_2.length c0_2]] rfl gl_ ?_; (with_reducible refine (tag_ToCyclic.calls kj23 a0_0 _ _ l0_1 _ _ l0_2 t281 t284 _ ?side1 ?side2 ?side3 ?side4 A48.out).mono ?_); (case side1 => exact ck_ (Kd.C_below HR0_1.out HB.out)); (case side2 => exact HC0_1.out); (case side3 => exact ck_ (Kd.C_below HR0_2.out HB.out)); (case side4 => exact HC0_2.out); rintro e w65 ⟨v282, rfl, ho0, hb⟩; refine ⟨_, rfl, ?_⟩; have n0_ := A_ (Kd.R_below (rk_ HO_7.out) hb); have n1_ := A_ (Kd.S_lower (Kd.S_new' ho0 (Kd.R_lt (rk_ HO_7.out))) (below_size (bk_ HB.out))); have n2_ := A_ (blk_below (pk_ BK256.out) hb); have n3_ := A_ (below_step (bk_ HB.out) hb); clear HO_7 BK256 HB; have HO_7 := n0_; have HO283 := n1_; have BK256 := n2_; have HB := n3_; clear n0_ n1_ n2_ n3_; (try clear hb); (try clear hb2); (try clear hk); (try clear hi); (try clear ho0)) | ((with_reducible refine gate_dst (N := 15) rfl ?_); (try (refine gate_guard (by rfl) ?_; dsimp only)); refine box_event ?hg (N := 15) ?hd (cs := #[.slice none 0 0]) (t := 45) ?hr ?_; (case hd => rfl); (case hg => rfl); (case hr => first | (go_simp; done) | (go_simp; rfl)); intro gb285 hg w66 hbox hb; have n0_ := A_ (Kd.R_below (rk_ HO_7.out) hb); have n1_ := A_ (Kd.S_below (by (with_reducible repeat (first | apply Kd.S_alloc | apply Kd.S_drewN | apply Kd.S_drew)); exact HO283.out) hb); have n2_ := A_ (blk_below (pk_ BK256.out) hb); have n3_ := A_ (below_step (bk_ HB.out) hb); have n4_ := A_ (hbox); have n5_ := A_ ((by rw [hg]; exact (below_size (bk_ HB.out)) : w.heap.size ≤ gb285)); have n6_ := A_ ((by rw [hg]; exact (below_size (bk_ HB.out)) : w.heap.size ≤ gb285)); have n7_ := A_ ((by rw [hg]; exact Nat.ne_of_lt (blk_lt (pk_ BK256.out)) : gb256 ≠ gb285)); have n8_ := A_ ((by rw [hg]; exact Nat.ne_of_gt (blk_lt (pk_ BK256.out)) : gb285 ≠ gb256)); clear HO_7 HO283 BK256 HB; have HO_7 := n0_; have HO283 := n1_; have BK256 := n2_; have HB := n3_; have BK285 := n4_; have GW285 := n5_; have GE285 := n6_; have NB256_285 := n7_; have NB285_256 := n8_; clear n0_ n1_ n2_ n3_ n4_ n5_ n6_ n7_ n8_ hb hbox hg; obtain ⟨Ao67, co67, eo67⟩ := Kd.S_slice HO283.out; subst eo67; have hnb68 := NB285_256.out; have hnc68 := NB256_285.out; have hcz69_0 : w66.cell? ⟨gb285, 0, none⟩ = some (.slice none 0 0) := (blk_cell BK285.out 0).trans rfl; have hfz69_0 := blk_frozen BK285.out 0))
            have n0_ : Aside0 (Kd.R (Kd.int .i64) 3 (w66.setCell ⟨gb285, 0, none⟩ (.slice Ao67 t281.length co67)) w.heap.size (fun _ => True) v260 t259) := ⟨by (with_reducible repeat (first | apply Kd.R_alloc | apply Kd.R_drewN | apply Kd.R_drew)); exact Kd.R_mono (Kd.R_far (p := ⟨gb285, 0, none⟩) (Kd.R_types HO_7.out BK285.out (by decide)) (fun _ hk => hk.2) (.slice Ao67 t281.length co67)) (fun _ hk => trivial)⟩
            have n1_ : Aside0 (Kd.S (Kd.slice 3 (Kd.int .i64)) 26 (w66.setCell ⟨gb285, 0, none⟩ (.slice Ao67 t281.length co67)) w.heap.size (fun k_ => some k_ ≠ (v260 : Value).ownBlock) (.slice Ao67 t281.length co67) t281) := ⟨by (with_reducible repeat (first | apply Kd.S_alloc | apply Kd.S_drewN | apply Kd.S_drew)); exact Kd.S_mono (Kd.S_far (p := ⟨gb285, 0, none⟩) (Kd.S_types HO283.out BK285.out (by decide)) (fun _ hk => hk.2) (.slice Ao67 t281.length co67)) (fun _ hk => hk.1.2)⟩
            have n2_ : Aside0 ((w66.setCell ⟨gb285, 0, none⟩ (.slice Ao67 t281.length co67)).heap[gb256]? = some (.cells #[.int .i64 a0_0, .slice A0_1 l0_1.length c0_1, .slice A0_2 l0_2.length c0_2] 25 (0, 0))) := ⟨by (with_reducible repeat (first | refine blk_drewN ?_ _ | refine blk_drew ?_ | refine blk_alloc ?_ _)); refine blk_far ?_ NB256_285.out _; exact pk_ BK256.out⟩
            have n3_ : Aside0 ((w66.setCell ⟨gb285, 0, none⟩ (.slice Ao67 t281.length co67)).heap[gb285]? = some (.cells #[.slice Ao67 t281.length co67] 45 (0, 0))) := ⟨by (with_reducible repeat (first | refine blk_drewN ?_ _ | refine blk_drew ?_ | refine blk_alloc ?_ _)); refine blk_put (cs := #[.slice none 0 0]) ?_ 0 _ rfl; exact pk_ BK285.out⟩
            have n4_ : Aside0 (Below w.heap.size w (w66.setCell ⟨gb285, 0, none⟩ (.slice Ao67 t281.length co67))) := ⟨bk_ HB.out⟩
            (try clear HO_7)
            (try clear HO283)
            (try clear BK256)
            (try clear BK285)
            (try clear HB)
            generalize (w66.setCell ⟨gb285, 0, none⟩ (.slice Ao67 t281.length co67)) = w70 at n0_ n1_ n2_ n3_ n4_ ⊢
            have HO_7 := n0_
            have HO283 := n1_
            have BK256 := n2_
            have BK285 := n3_
            have HB := n4_
            clear n0_ n1_ n2_ n3_ n4_
            have n0_ := A_ (Kd.R_drew HO_7.out)
            have n1_ := A_ (Kd.S_drew HO283.out)
            have n2_ := A_ (blk_drew BK256.out)
            have n3_ := A_ (blk_drew BK285.out)
            have n4_ := A_ (below_drew1 HB.out)
            clear HO_7 HO283 BK256 BK285 HB
            have HO_7 := n0_
            have HO283 := n1_
            have BK256 := n2_
            have BK285 := n3_
            have HB := n4_
            clear n0_ n1_ n2_ n3_ n4_
            refine start_ (n := 9) (S := fun w' => w'.cell? ⟨gb285, 0, none⟩ = some (.slice Ao67 t281.length co67) ∧ w'.cell? ⟨gb256, 0, none⟩ = some (.int .i64 a0_0) ∧ w'.cell? ⟨gb256, 1, none⟩ = some (.slice A0_1 l0_1.length c0_1) ∧ w'.cell? ⟨gb256, 2, none⟩ = some (.slice A0_2 l0_2.length c0_2)) (ds := []) #[false, false, false, false, false, false, false, false, false] (by kernel_rfl) rfl rfl ⟨(blk_cell BK285.out 0).trans rfl, (blk_cell BK256.out 0).trans rfl, (blk_cell BK256.out 1).trans rfl, (blk_cell BK256.out 2).trans rfl⟩ (fun hHeld => ?_); refine with_tabW standstilllaw07_TagCodes.tab13 standstilllaw07_TagCodes.bits13 (fun HT_ HW_ => ?_)
            generalize w70.drew = w71 at HO_7 HO283 BK256 BK285 HB hHeld ⊢
            refine pure_ (i := 0) (N := some 116) (v := ?_) (a' := ?_) #[true, false, false, false, false, false, false, false, false] rfl rfl (any_of HT_.out (by kernel_rfl)) (fun _ _ _ h => h) (Or.inl ⟨by rfl, ?_⟩) ?_ ?_
            rotate_left
            ·intro w'
             go_simp
             with_reducible rfl
            rotate_left
            ·simp only [Act.put, sa_, sz_, ss_, i64_w, i32_w]
             rfl
            refine pure_ (i := 1) (N := some 117) (v := ?_) (a' := ?_) #[true, true, false, false, false, false, false, false, false] rfl rfl (any_of HT_.out (by kernel_rfl)) (fun _ _ _ h => h) (Or.inl ⟨by rfl, ?_⟩) ?_ ?_
            rotate_left
            ·intro w'
             go_simp
             with_reducible rfl
            rotate_left
            ·simp only [Act.put, sa_, sz_, ss_, i64_w, i32_w]
             rfl
            refine pure_ (i := 2) (N := some 118) (v := ?_) (a' := ?_) #[true, true, true, false, false, false, false, false, false] rfl rfl (any_of HT_.out (by kernel_rfl)) (fun _ _ _ h => h) (Or.inl ⟨by rfl, ?_⟩) ?_ ?_
            rotate_left
            ·intro w'
             go_simp
             with_reducible rfl
            rotate_left
            ·simp only [Act.put, sa_, sz_, ss_, i64_w, i32_w]
             rfl
            refine take_ (i := 3) (N := some 119) (v := ?_) (a' := ?_) #[true, true, true, true, false, false, false, false, false] rfl rfl (take_ofW HT_.out HW_.out (by kernel_rfl)) (fun _ _ _ h => h) (Or.inl ⟨by rfl, ?_⟩) hHeld ?_ ?_
            rotate_left
            ·rintro w' ⟨s0, s1, s2, s3⟩
             go_simp
             with_reducible rfl
            rotate_left
            ·simp only [Act.put, sa_, sz_, ss_, i64_w, i32_w]
             rfl
            refine take_ (i := 4) (N := some 120) (v := ?_) (a' := ?_) #[true, true, true, true, true, false, false, false, false] rfl rfl (take_ofW HT_.out HW_.out (by kernel_rfl)) (fun _ _ _ h => h) (Or.inl ⟨by rfl, ?_⟩) hHeld ?_ ?_
            rotate_left
            ·rintro w' ⟨s0, s1, s2, s3⟩
             go_simp
             with_reducible rfl
            rotate_left
            ·simp only [Act.put, sa_, sz_, ss_, i64_w, i32_w]
             rfl
            refine one_ (i := 5) (N := some 121) #[true, true, true, true, true, true, false, false, false] rfl rfl (one_of HT_.out (by kernel_rfl)) (by decide) (fun K hK => ?_)
            refine goes_ Try.func39 (by kernel_rfl) rfl #[.agg #[.int .i64 a0_0, .slice A0_1 l0_1.length c0_1, .slice A0_2 l0_2.length c0_2]] (by rfl) rfl rfl gl_ ?_
            with_reducible refine (standstillref07_ToCyclic.calls kj23 a0_0 _ _ l0_1 _ _ l0_2 t286 _ ?side1 ?side2 ?side3 ?side4 A50.out).mono ?_
            (case side1 => exact ck_ (Kd.C_below HR0_1.out HB.out))
            (case side2 => exact HC0_1.out)
            (case side3 => exact ck_ (Kd.C_below HR0_2.out HB.out))
            (case side4 => exact HC0_2.out)
            rintro e w72 ⟨v287, rfl, ho0, hb⟩
            refine ⟨_, rfl, ?_⟩
            have n0_ := A_ (Kd.R_below (rk_ HO_7.out) hb)
            have n1_ := A_ (Kd.S_elder' (by (with_reducible repeat (first | apply Kd.S_alloc | apply Kd.S_drewN | apply Kd.S_drew)); exact HO283.out) (Kd.S_base ho0) hb)
            have n2_ := A_ (Kd.S_lower (Kd.S_new' (Kd.S_new' ho0 (Kd.R_lt (rk_ HO_7.out))) (Kd.S_lt (by (with_reducible repeat (first | apply Kd.S_alloc | apply Kd.S_drewN | apply Kd.S_drew)); exact HO283.out))) (below_size (bk_ HB.out)))
            have n3_ := A_ (blk_below (pk_ BK256.out) hb)
            have n4_ := A_ (blk_below (pk_ BK285.out) hb)
            have n5_ := A_ (below_step (bk_ HB.out) hb)
            clear HO_7 HO283 BK256 BK285 HB
            have HO_7 := n0_
            have HO283 := n1_
            have HO288 := n2_
            have BK256 := n3_
            have BK285 := n4_
            have HB := n5_
            clear n0_ n1_ n2_ n3_ n4_ n5_
            (try clear hb)
            (try clear hb2)
            (try clear hk)
            (try clear hi)
            (try clear ho0)
            obtain ⟨Ao73, co73, eo73⟩ := Kd.S_slice HO288.out
            (first | subst eo73 | (injection eo73 with f1_ f2_ f3_; have f4_ := f1_.symm; have f5_ := f3_.symm; clear f1_ f2_ f3_; subst f4_; subst f5_))
            refine hK.out _ _ ⟨(blk_cell BK285.out 0).trans rfl, (blk_cell BK256.out 0).trans rfl, (blk_cell BK256.out 1).trans rfl, (blk_cell BK256.out 2).trans rfl⟩ (fun hHeld => ?_)
            clear hK K
            refine norm_ (a' := ?_) ?_ ?_
            rotate_left
            ·show Act.put _ (some 121) _ = _
             simp only [Act.put, sa_, sz_, ss_, i64_w, i32_w]
             rfl
            refine one_ (i := 6) (N := some 122) #[true, true, true, true, true, true, true, false, false] rfl rfl (one_of HT_.out (by kernel_rfl)) (by decide) (fun K hK => ?_)
            refine goes_ Try.func38 (by kernel_rfl) rfl #[.agg #[.slice Ao67 t281.length co67], .agg #[.slice Ao73 t286.length co73]] (by rfl) rfl rfl gl_ ?_
            with_reducible refine (standstillref07_SameCyclic.calls kj23 _ _ t281 _ _ t286 false _ ?side1 ?side2 ?side3 ?side4 A51.out).mono ?_
            (case side1 => repeat (first | exact (Kd.S_reads' HO283.out).2.2 | (with_reducible refine Kd.C_alloc ?_ _) | (with_reducible refine Kd.C_drewN ?_ _) | (with_reducible refine Kd.C_drew ?_)))
            (case side2 => exact (Kd.S_reads' HO283.out).2.1)
            (case side3 => repeat (first | exact (Kd.S_reads' HO288.out).2.2 | (with_reducible refine Kd.C_alloc ?_ _) | (with_reducible refine Kd.C_drewN ?_ _) | (with_reducible refine Kd.C_drew ?_)))
            (case side4 => exact (Kd.S_reads' HO288.out).2.1)
            rintro e w74 ⟨rfl, hb⟩
            refine ⟨_, rfl, ?_⟩
            have n0_ := A_ (Kd.R_below (rk_ HO_7.out) hb)
            have n1_ := A_ (Kd.S_below (by (with_reducible repeat (first | apply Kd.S_alloc | apply Kd.S_drewN | apply Kd.S_drew)); exact HO283.out) hb)
            have n2_ := A_ (Kd.S_below (by (with_reducible repeat (first | apply Kd.S_alloc | apply Kd.S_drewN | apply Kd.S_drew)); exact HO288.out) hb)
            have n3_ := A_ (blk_below (pk_ BK256.out) hb)
            have n4_ := A_ (blk_below (pk_ BK285.out) hb)
            have n5_ := A_ (below_step (bk_ HB.out) hb)
            clear HO_7 HO283 HO288 BK256 BK285 HB
            have HO_7 := n0_
            have HO283 := n1_
            have HO288 := n2_
            have BK256 := n3_
            have BK285 := n4_
            have HB := n5_
            clear n0_ n1_ n2_ n3_ n4_ n5_
            (try clear hb)
            (try clear hb2)
            (try clear hk)
            (try clear hi)
            refine hK.out _ _ ⟨(blk_cell BK285.out 0).trans rfl, (blk_cell BK256.out 0).trans rfl, (blk_cell BK256.out 1).trans rfl, (blk_cell BK256.out 2).trans rfl⟩ (fun hHeld => ?_)
            clear hK K
            refine norm_ (a' := ?_) ?_ ?_
            rotate_left
            ·show Act.put _ (some 122) _ = _
             simp only [Act.put, sa_, sz_, ss_, i64_w, i32_w]
             rfl
            refine pure_ (i := 7) (N := some 123) (v := ?_) (a' := ?_) #[true, true, true, true, true, true, true, true, false] rfl rfl (any_of HT_.out (by kernel_rfl)) (fun _ _ _ h => h) (Or.inl ⟨by rfl, ?_⟩) ?_ ?_
            rotate_left
            ·intro w'
             go_simp
             with_reducible rfl
            rotate_left
            ·simp only [Act.put, sa_, sz_, ss_, i64_w, i32_w]
             rfl
            refine pure_ (i := 8) (N := some 124) (v := ?_) (a' := ?_) #[true, true, true, true, true, true, true, true, true] rfl rfl (any_of HT_.out (by kernel_rfl)) (fun _ _ _ h => h) (Or.inl ⟨by rfl, ?_⟩) ?_ ?_
            rotate_left
            ·intro w'
             go_simp
             with_reducible rfl
            rotate_left
            ·simp only [Act.put, sa_, sz_, ss_, i64_w, i32_w]
             rfl
            refine done_ (done_of HT_.out (by kernel_rfl)) ?_
            try go_wp2
            go_ret
            exact ⟨by first | rfl | (simp [errW_none, errW_some] <;> rfl) | (simp [*, errW_none, errW_some] <;> rfl), bk_ HB.out⟩
          ·rw [if_neg c49] at H
           have c49b0 : (t284 == 0) = false := beq_eq_false_iff_ne.mpr c49
           have c49b1 : (t284 != 0) = true := bne_iff_ne.mpr c49
           obtain rfl := Option.some.inj H
           have hcz75_0 : w46.cell? ⟨gb256, 0, none⟩ = some (.int .i64 a0_0) := (blk_cell BK256.out 0).trans rfl
           have hcz75_1 : w46.cell? ⟨gb256, 1, none⟩ = some (.slice A0_1 l0_1.length c0_1) := (blk_cell BK256.out 1).trans rfl
           have hcz75_2 : w46.cell? ⟨gb256, 2, none⟩ = some (.slice A0_2 l0_2.length c0_2) := (blk_cell BK256.out 2).trans rfl
           have hfz75_0 := blk_frozen BK256.out 0
           have hfz75_1 := blk_frozen BK256.out 1
           have hfz75_2 := blk_frozen BK256.out 2
           try go_wp2_with (first | ((with_reducible refine gate_callee (f := 35) rfl ?_); refine goesL_ (some 113) rfl rfl Try.func35 (by kernel_rfl) rfl #[.agg #[.int .i64 a0_0, .slice A0_1 l0_1.length c0_1, .slice A0_2 l0_2.length c0_2]] rfl gl_ ?_; (with_reducible refine (tag_ToCyclic.calls kj23 a0_0 _ _ l0_1 _ _ l0_2 t281 t284 _ ?side1 ?side2 ?side3 ?side4 A48.out).mono ?_); (case side1 => exact ck_ (Kd.C_below HR0_1.out HB.out)); (case side2 => exact HC0_1.out); (case side3 => exact ck_ (Kd.C_below HR0_2.out HB.out)); (case side4 => exact HC0_2.out); rintro e w76 ⟨v282, rfl, ho0, hb⟩; refine ⟨_, rfl, ?_⟩; have n0_ := A_ (Kd.R_below (rk_ HO_7.out) hb); have n1_ := A_ (Kd.S_lower (Kd.S_new' ho0 (Kd.R_lt (rk_ HO_7.out))) (below_size (bk_ HB.out))); have n2_ := A_ (blk_below (pk_ BK256.out) hb); have n3_ := A_ (below_step (bk_ HB.out) hb); clear HO_7 BK256 HB; have HO_7 := n0_; have HO283 := n1_; have BK256 := n2_; have HB := n3_; clear n0_ n1_ n2_ n3_; (try clear hb); (try clear hb2); (try clear hk); (try clear hi); (try clear ho0)) | ((with_reducible refine gate_dst (N := 15) rfl ?_); (try (refine gate_guard (by rfl) ?_; dsimp only)); refine box_event ?hg (N := 15) ?hd (cs := #[.slice none 0 0]) (t := 45) ?hr ?_; (case hd => rfl); (case hg => rfl); (case hr => first | (go_simp; done) | (go_simp; rfl)); intro gb285 hg w77 hbox hb; have n0_ := A_ (Kd.R_below (rk_ HO_7.out) hb); have n1_ := A_ (Kd.S_below (by (with_reducible repeat (first | apply Kd.S_alloc | apply Kd.S_drewN | apply Kd.S_drew)); exact HO283.out) hb); have n2_ := A_ (blk_below (pk_ BK256.out) hb); have n3_ := A_ (below_step (bk_ HB.out) hb); have n4_ := A_ (hbox); have n5_ := A_ ((by rw [hg]; exact (below_size (bk_ HB.out)) : w.heap.size ≤ gb285)); have n6_ := A_ ((by rw [hg]; exact (below_size (bk_ HB.out)) : w.heap.size ≤ gb285)); have n7_ := A_ ((by rw [hg]; exact Nat.ne_of_lt (blk_lt (pk_ BK256.out)) : gb256 ≠ gb285)); have n8_ := A_ ((by rw [hg]; exact Nat.ne_of_gt (blk_lt (pk_ BK256.out)) : gb285 ≠ gb256)); clear HO_7 HO283 BK256 HB; have HO_7 := n0_; have HO283 := n1_; have BK256 := n2_; have HB := n3_; have BK285 := n4_; have GW285 := n5_; have GE285 := n6_; have NB256_285 := n7_; have NB285_256 := n8_; clear n0_ n1_ n2_ n3_ n4_ n5_ n6_ n7_ n8_ hb hbox hg; obtain ⟨Ao78, co78, eo78⟩ := Kd.S_slice HO283.out; subst eo78; have hnb79 := NB285_256.out; have hnc79 := NB256_285.out; have hcz80_0 : w77.cell? ⟨gb285, 0, none⟩ = some (.slice none 0 0) := (blk_cell BK285.out 0).trans rfl; have hfz80_0 := blk_frozen BK285.out 0))
           have n0_ : Aside0 (Kd.R (Kd.int .i64) 3 (w77.setCell ⟨gb285, 0, none⟩ (.slice Ao78 t281.length co78)) w.heap.size (fun _ => True) v260 t259) := ⟨by (with_reducible repeat (first | apply Kd.R_alloc | apply Kd.R_drewN | apply Kd.R_drew)); exact Kd.R_mono (Kd.R_far (p := ⟨gb285, 0, none⟩) (Kd.R_types HO_7.out BK285.out (by decide)) (fun _ hk => hk.2) (.slice Ao78 t281.length co78)) (fun _ hk => trivial)⟩
           have n1_ : Aside0 (Kd.S (Kd.slice 3 (Kd.int .i64)) 26 (w77.setCell ⟨gb285, 0, none⟩ (.slice Ao78 t281.length co78)) w.heap.size (fun k_ => some k_ ≠ (v260 : Value).ownBlock) (.slice Ao78 t281.length co78) t281) := ⟨by (with_reducible repeat (first | apply Kd.S_alloc | apply Kd.S_drewN | apply Kd.S_drew)); exact Kd.S_mono (Kd.S_far (p := ⟨gb285, 0, none⟩) (Kd.S_types HO283.out BK285.out (by decide)) (fun _ hk => hk.2) (.slice Ao78 t281.length co78)) (fun _ hk => hk.1.2)⟩
           have n2_ : Aside0 ((w77.setCell ⟨gb285, 0, none⟩ (.slice Ao78 t281.length co78)).heap[gb256]? = some (.cells #[.int .i64 a0_0, .slice A0_1 l0_1.length c0_1, .slice A0_2 l0_2.length c0_2] 25 (0, 0))) := ⟨by (with_reducible repeat (first | refine blk_drewN ?_ _ | refine blk_drew ?_ | refine blk_alloc ?_ _)); refine blk_far ?_ NB256_285.out _; exact pk_ BK256.out⟩
           have n3_ : Aside0 ((w77.setCell ⟨gb285, 0, none⟩ (.slice Ao78 t281.length co78)).heap[gb285]? = some (.cells #[.slice Ao78 t281.length co78] 45 (0, 0))) := ⟨by (with_reducible repeat (first | refine blk_drewN ?_ _ | refine blk_drew ?_ | refine blk_alloc ?_ _)); refine blk_put (cs := #[.slice none 0 0]) ?_ 0 _ rfl; exact pk_ BK285.out⟩
           have n4_ : Aside0 (Below w.heap.size w (w77.setCell ⟨gb285, 0, none⟩ (.slice Ao78 t281.length co78))) := ⟨bk_ HB.out⟩
           (try clear HO_7)
           (try clear HO283)
           (try clear BK256)
           (try clear BK285)
           (try clear HB)
           generalize (w77.setCell ⟨gb285, 0, none⟩ (.slice Ao78 t281.length co78)) = w81 at n0_ n1_ n2_ n3_ n4_ ⊢
           have HO_7 := n0_
           have HO283 := n1_
           have BK256 := n2_
           have BK285 := n3_
           have HB := n4_
           clear n0_ n1_ n2_ n3_ n4_
           have n0_ := A_ (Kd.R_drew HO_7.out)
           have n1_ := A_ (Kd.S_drew HO283.out)
           have n2_ := A_ (blk_drew BK256.out)
           have n3_ := A_ (blk_drew BK285.out)
           have n4_ := A_ (below_drew1 HB.out)
           clear HO_7 HO283 BK256 BK285 HB
           have HO_7 := n0_
           have HO283 := n1_
           have BK256 := n2_
           have BK285 := n3_
           have HB := n4_
           clear n0_ n1_ n2_ n3_ n4_
           refine start_ (n := 9) (S := fun w' => True) (ds := []) #[false, false, false, false, false, false, false, false, false] (by kernel_rfl) rfl rfl trivial (fun hHeld => ?_); refine with_tabW standstilllaw07_TagCodes.tab13 standstilllaw07_TagCodes.bits13 (fun HT_ HW_ => ?_)
           generalize w81.drew = w82 at HO_7 HO283 BK256 BK285 HB hHeld ⊢
           refine pure_ (i := 0) (N := some 116) (v := ?_) (a' := ?_) #[true, false, false, false, false, false, false, false, false] rfl rfl (any_of HT_.out (by kernel_rfl)) (fun _ _ _ h => h) (Or.inl ⟨by rfl, ?_⟩) ?_ ?_
           rotate_left
           ·intro w'
            go_simp
            with_reducible rfl
           rotate_left
           ·simp only [Act.put, sa_, sz_, ss_, i64_w, i32_w]
            rfl
           refine pure_ (i := 1) (N := some 117) (v := ?_) (a' := ?_) #[true, true, false, false, false, false, false, false, false] rfl rfl (any_of HT_.out (by kernel_rfl)) (fun _ _ _ h => h) (Or.inl ⟨by rfl, ?_⟩) ?_ ?_
           rotate_left
           ·intro w'
            go_simp
            with_reducible rfl
           rotate_left
           ·simp only [Act.put, sa_, sz_, ss_, i64_w, i32_w]
            rfl
           refine pure_ (i := 2) (N := some 118) (v := ?_) (a' := ?_) #[true, true, true, false, false, false, false, false, false] rfl rfl (any_of HT_.out (by kernel_rfl)) (fun _ _ _ h => h) (Or.inl ⟨by rfl, ?_⟩) ?_ ?_
           rotate_left
           ·intro w'
            go_simp
            with_reducible rfl
           rotate_left
           ·simp only [Act.put, sa_, sz_, ss_, i64_w, i32_w]
            rfl
           refine pure_ (i := 3) (N := some 119) (v := undef) (a' := ?_) #[true, true, true, true, false, false, false, false, false] rfl rfl (any_of HT_.out (by kernel_rfl)) (fun _ _ _ h => h) (Or.inr ⟨by rfl, rfl⟩) ?_ ?_
           rotate_left
           ·simp only [Act.put, sa_, sz_, ss_, i64_w, i32_w]
            rfl
           refine pure_ (i := 4) (N := some 120) (v := undef) (a' := ?_) #[true, true, true, true, true, false, false, false, false] rfl rfl (any_of HT_.out (by kernel_rfl)) (fun _ _ _ h => h) (Or.inr ⟨by rfl, rfl⟩) ?_ ?_
           rotate_left
           ·simp only [Act.put, sa_, sz_, ss_, i64_w, i32_w]
            rfl
           refine pure_ (i := 5) (N := some 121) (v := undef) (a' := ?_) #[true, true, true, true, true, true, false, false, false] rfl rfl (any_of HT_.out (by kernel_rfl)) (fun _ _ _ h => h) (Or.inr ⟨by rfl, rfl⟩) ?_ ?_
           rotate_left
           ·simp only [Act.put, sa_, sz_, ss_, i64_w, i32_w]
            rfl
           refine pure_ (i := 6) (N := some 122) (v := undef) (a' := ?_) #[true, true, true, true, true, true, true, false, false] rfl rfl (any_of HT_.out (by kernel_rfl)) (fun _ _ _ h => h) (Or.inr ⟨by rfl, rfl⟩) ?_ ?_
           rotate_left
           ·simp only [Act.put, sa_, sz_, ss_, i64_w, i32_w]
            rfl
           refine pure_ (i := 7) (N := some 123) (v := undef) (a' := ?_) #[true, true, true, true, true, true, true, true, false] rfl rfl (any_of HT_.out (by kernel_rfl)) (fun _ _ _ h => h) (Or.inr ⟨by rfl, rfl⟩) ?_ ?_
           rotate_left
           ·simp only [Act.put, sa_, sz_, ss_, i64_w, i32_w]
            rfl
           refine pure_ (i := 8) (N := some 124) (v := ?_) (a' := ?_) #[true, true, true, true, true, true, true, true, true] rfl rfl (any_of HT_.out (by kernel_rfl)) (fun _ _ _ h => h) (Or.inl ⟨by rfl, ?_⟩) ?_ ?_
           rotate_left
           ·intro w'
            go_simp
            with_reducible rfl
           rotate_left
           ·simp only [Act.put, sa_, sz_, ss_, i64_w, i32_w]
            rfl
           refine done_ (done_of HT_.out (by kernel_rfl)) ?_
           try go_wp2
           go_ret
           exact ⟨by first | rfl | (simp [errW_none, errW_some] <;> rfl) | (simp [*, errW_none, errW_some] <;> rfl), bk_ HB.out⟩
         ·rw [if_neg c47] at H
          have c47b0 : decide (t280 ≤ 300000) = false := decide_eq_false c47
          clear c47
          (first | rw [c47b0] | (simp only [i64_w, i32_w]; rw [c47b0]) | skip)
          have H' := Aside0.mk H
          clear H
          go_wp2
          go_meet
          case rel => exact ⟨_, H', ⟨by have := HJ3.out; have := HJ23.out; first | omega | exact Nat.le_refl _⟩, ⟨rk_ HO_7.out⟩, ⟨pk_ BK256.out⟩, ⟨bk_ HB.out⟩⟩
        case rest =>
         clear HC44
         (try clear c42); (try clear hcz25_0); (try clear hcz25_1); (try clear hcz25_2); (try clear hcz27_0); (try clear hcz27_1); (try clear hcz27_2); (try clear hcz29_0); (try clear hcz29_1); (try clear hcz29_2); (try clear hcz31_0); (try clear hcz31_1); (try clear hcz31_2); (try clear hcz45_0); (try clear hcz45_1); (try clear hcz45_2); (try clear hfz25_0); (try clear hfz25_1); (try clear hfz25_2); (try clear hfz27_0); (try clear hfz27_1); (try clear hfz27_2); (try clear hfz29_0); (try clear hfz29_1); (try clear hfz29_2); (try clear hfz31_0); (try clear hfz31_1); (try clear hfz31_2); (try clear hfz45_0); (try clear hfz45_1); (try clear hfz45_2)
         obtain ⟨kq, HA, HJ43, HO_7, BK256, HB⟩ := hcut
         cases kq with
         | zero => exact absurd HA.out (by simp [standstilllaw07_TagCodes.j2])
         | succ kj43 =>
          have H := HA.out
          clear HA
          simp only [standstilllaw07_TagCodes.j2] at H
          replace H := Option.bind_eq_some_iff.mp H
          obtain ⟨t290, A830, H⟩ := H
          replace H : (if t290 = true then (if (wrap64 ((l1.length : Int) * (l0_1.length : Int))) > 1000000 then (if t262 = 4 then (if (t259.length : Int) = 0 then ((standstilllaw07_awake.f kj43).bind fun t292 => (some t292)) else (some false)) else (some false)) else ((tag_Letters.f kj43 a0_0 l0_1 l0_2 t259).bind fun bt293 => (if t262 = 0 then ((standstillref07_Bits.f kj43 l1 (l0_1.length : Int)).bind fun t297 => ((standstillref07_Same.f kj43 t259 t297).bind fun t300 => (if t300 = true then (if bt293.2 = 0 then ((standstillref07_Same.f kj43 bt293.1 l1).bind fun t301 => (if t301 = true then ((standstilllaw07_awake.f kj43).bind fun t302 => (some t302)) else (some false))) else (some false)) else (some false)))) else (some false)))) else (if t262 = 1 then (if (t259.length : Int) = 0 then ((standstilllaw07_awake.f kj43).bind fun t291 => (some t291)) else (some false)) else (some false))) = some r := H
          have A83 := Aside0.mk A830
          clear A830
          by_cases c84 : t290 = true
          ·subst c84
           have H1 : (if (wrap64 ((l1.length : Int) * (l0_1.length : Int))) > 1000000 then (if t262 = 4 then (if (t259.length : Int) = 0 then ((standstilllaw07_awake.f kj43).bind fun t292 => (some t292)) else (some false)) else (some false)) else ((tag_Letters.f kj43 a0_0 l0_1 l0_2 t259).bind fun bt293 => (if t262 = 0 then ((standstillref07_Bits.f kj43 l1 (l0_1.length : Int)).bind fun t297 => ((standstillref07_Same.f kj43 t259 t297).bind fun t300 => (if t300 = true then (if bt293.2 = 0 then ((standstillref07_Same.f kj43 bt293.1 l1).bind fun t301 => (if t301 = true then ((standstilllaw07_awake.f kj43).bind fun t302 => (some t302)) else (some false))) else (some false)) else (some false)))) else (some false)))) = some r := by rw [if_pos rfl] at H; exact H
           clear H
           have H := H1
           clear H1
           by_cases c85 : (wrap64 ((l1.length : Int) * (l0_1.length : Int))) > 1000000
           ·rw [if_pos c85] at H
            have c85b0 : decide (1000000 < (wrap64 ((l1.length : Int) * (l0_1.length : Int)))) = true := decide_eq_true c85
            clear c85
            by_cases c86 : t262 = 4
            ·rw [if_pos c86] at H
             have c86b0 : (t262 == 4) = true := beq_iff_eq.mpr c86
             have c86b1 : (t262 != 4) = false := bne_eq_false_iff_eq.mpr c86
             clear c86
             by_cases c87 : (t259.length : Int) = 0
             ·rw [if_pos c87] at H
              have c87b0 : ((t259.length : Int) == 0) = true := beq_iff_eq.mpr c87
              have c87b1 : ((t259.length : Int) != 0) = false := bne_eq_false_iff_eq.mpr c87
              clear c87
              replace H := Option.bind_eq_some_iff.mp H
              obtain ⟨t292, A880, H⟩ := H
              replace H : (some t292) = some r := H
              have A88 := Aside0.mk A880
              clear A880
              obtain rfl := Option.some.inj H
              have hcz89_0 : wc.cell? ⟨gb256, 0, none⟩ = some (.int .i64 a0_0) := (blk_cell BK256.out 0).trans rfl
              have hcz89_1 : wc.cell? ⟨gb256, 1, none⟩ = some (.slice A0_1 l0_1.length c0_1) := (blk_cell BK256.out 1).trans rfl
              have hcz89_2 : wc.cell? ⟨gb256, 2, none⟩ = some (.slice A0_2 l0_2.length c0_2) := (blk_cell BK256.out 2).trans rfl
              have hfz89_0 := blk_frozen BK256.out 0
              have hfz89_1 := blk_frozen BK256.out 1
              have hfz89_2 := blk_frozen BK256.out 2
              go_wp2_with (first | ((with_reducible refine gate_callee (f := 10) rfl ?_); refine goesL_ (some 127) rfl rfl Try.func10 (by kernel_rfl) rfl #[.agg #[.int .i64 a0_0, .slice A0_1 l0_1.length c0_1, .slice A0_2 l0_2.length c0_2], .slice A1 l1.length c1] rfl gl_ ?_; (with_reducible refine (standstillref07_Fits.calls kj43 a0_0 _ _ l0_1 _ _ l0_2 _ _ l1 true _ ?side1 ?side2 ?side3 ?side4 ?side5 ?side6 A83.out).mono ?_); (case side1 => exact ck_ (Kd.C_below HR0_1.out HB.out)); (case side2 => exact HC0_1.out); (case side3 => exact ck_ (Kd.C_below HR0_2.out HB.out)); (case side4 => exact HC0_2.out); (case side5 => exact ck_ (Kd.C_below HR1.out HB.out)); (case side6 => exact HC1.out); rintro e w90 ⟨rfl, hb⟩; refine ⟨_, rfl, ?_⟩; have n0_ := A_ (Kd.R_below (rk_ HO_7.out) hb); have n1_ := A_ (blk_below (pk_ BK256.out) hb); have n2_ := A_ (below_step (bk_ HB.out) hb); clear HO_7 BK256 HB; have HO_7 := n0_; have BK256 := n1_; have HB := n2_; clear n0_ n1_ n2_; (try clear hb); (try clear hb2); (try clear hk); (try clear hi); have hcz91_0 : w90.cell? ⟨gb256, 0, none⟩ = some (.int .i64 a0_0) := (blk_cell BK256.out 0).trans rfl; have hcz91_1 : w90.cell? ⟨gb256, 1, none⟩ = some (.slice A0_1 l0_1.length c0_1) := (blk_cell BK256.out 1).trans rfl; have hcz91_2 : w90.cell? ⟨gb256, 2, none⟩ = some (.slice A0_2 l0_2.length c0_2) := (blk_cell BK256.out 2).trans rfl; have hfz91_0 := blk_frozen BK256.out 0; have hfz91_1 := blk_frozen BK256.out 1; have hfz91_2 := blk_frozen BK256.out 2; obtain ⟨Ao92, co92, eo92⟩ := Kd.R_slice HO_7.out; subst eo92) | (go_at_call 11; (with_reducible refine (standstilllaw07_awake.calls kj43  t292 _ A88.out).mono ?_); rintro e w93 ⟨rfl, hb⟩; have n0_ := A_ (Kd.R_below (rk_ HO_7.out) hb); have n1_ := A_ (blk_below (pk_ BK256.out) hb); have n2_ := A_ (below_step (bk_ HB.out) hb); clear HO_7 BK256 HB; have HO_7 := n0_; have BK256 := n1_; have HB := n2_; clear n0_ n1_ n2_; (try clear hb); (try clear hb2); (try clear hk); (try clear hi)))
              go_ret
              exact ⟨by first | rfl | (simp [errW_none, errW_some] <;> rfl) | (simp [*, errW_none, errW_some] <;> rfl), bk_ HB.out⟩
             ·rw [if_neg c87] at H
              have c87b0 : ((t259.length : Int) == 0) = false := beq_eq_false_iff_ne.mpr c87
              have c87b1 : ((t259.length : Int) != 0) = true := bne_iff_ne.mpr c87
              have c87b2 : ¬ (t259 = []) := fun h_ => c87 (by rw [h_]; rfl)
              obtain rfl := Option.some.inj H
              have hcz94_0 : wc.cell? ⟨gb256, 0, none⟩ = some (.int .i64 a0_0) := (blk_cell BK256.out 0).trans rfl
              have hcz94_1 : wc.cell? ⟨gb256, 1, none⟩ = some (.slice A0_1 l0_1.length c0_1) := (blk_cell BK256.out 1).trans rfl
              have hcz94_2 : wc.cell? ⟨gb256, 2, none⟩ = some (.slice A0_2 l0_2.length c0_2) := (blk_cell BK256.out 2).trans rfl
              have hfz94_0 := blk_frozen BK256.out 0
              have hfz94_1 := blk_frozen BK256.out 1
              have hfz94_2 := blk_frozen BK256.out 2
              go_wp2_with (first | ((with_reducible refine gate_callee (f := 10) rfl ?_); refine goesL_ (some 127) rfl rfl Try.func10 (by kernel_rfl) rfl #[.agg #[.int .i64 a0_0, .slice A0_1 l0_1.length c0_1, .slice A0_2 l0_2.length c0_2], .slice A1 l1.length c1] rfl gl_ ?_; (with_reducible refine (standstillref07_Fits.calls kj43 a0_0 _ _ l0_1 _ _ l0_2 _ _ l1 true _ ?side1 ?side2 ?side3 ?side4 ?side5 ?side6 A83.out).mono ?_); (case side1 => exact ck_ (Kd.C_below HR0_1.out HB.out)); (case side2 => exact HC0_1.out); (case side3 => exact ck_ (Kd.C_below HR0_2.out HB.out)); (case side4 => exact HC0_2.out); (case side5 => exact ck_ (Kd.C_below HR1.out HB.out)); (case side6 => exact HC1.out); rintro e w95 ⟨rfl, hb⟩; refine ⟨_, rfl, ?_⟩; have n0_ := A_ (Kd.R_below (rk_ HO_7.out) hb); have n1_ := A_ (blk_below (pk_ BK256.out) hb); have n2_ := A_ (below_step (bk_ HB.out) hb); clear HO_7 BK256 HB; have HO_7 := n0_; have BK256 := n1_; have HB := n2_; clear n0_ n1_ n2_; (try clear hb); (try clear hb2); (try clear hk); (try clear hi); have hcz96_0 : w95.cell? ⟨gb256, 0, none⟩ = some (.int .i64 a0_0) := (blk_cell BK256.out 0).trans rfl; have hcz96_1 : w95.cell? ⟨gb256, 1, none⟩ = some (.slice A0_1 l0_1.length c0_1) := (blk_cell BK256.out 1).trans rfl; have hcz96_2 : w95.cell? ⟨gb256, 2, none⟩ = some (.slice A0_2 l0_2.length c0_2) := (blk_cell BK256.out 2).trans rfl; have hfz96_0 := blk_frozen BK256.out 0; have hfz96_1 := blk_frozen BK256.out 1; have hfz96_2 := blk_frozen BK256.out 2; obtain ⟨Ao97, co97, eo97⟩ := Kd.R_slice HO_7.out; subst eo97))
              go_ret
              exact ⟨by first | rfl | (simp [errW_none, errW_some] <;> rfl) | (simp [*, errW_none, errW_some] <;> rfl), bk_ HB.out⟩
            ·rw [if_neg c86] at H
             have c86b0 : (t262 == 4) = false := beq_eq_false_iff_ne.mpr c86
             have c86b1 : (t262 != 4) = true := bne_iff_ne.mpr c86
             obtain rfl := Option.some.inj H
             have hcz98_0 : wc.cell? ⟨gb256, 0, none⟩ = some (.int .i64 a0_0) := (blk_cell BK256.out 0).trans rfl
             have hcz98_1 : wc.cell? ⟨gb256, 1, none⟩ = some (.slice A0_1 l0_1.length c0_1) := (blk_cell BK256.out 1).trans rfl
             have hcz98_2 : wc.cell? ⟨gb256, 2, none⟩ = some (.slice A0_2 l0_2.length c0_2) := (blk_cell BK256.out 2).trans rfl
             have hfz98_0 := blk_frozen BK256.out 0
             have hfz98_1 := blk_frozen BK256.out 1
             have hfz98_2 := blk_frozen BK256.out 2
             go_wp2_with (first | ((with_reducible refine gate_callee (f := 10) rfl ?_); refine goesL_ (some 127) rfl rfl Try.func10 (by kernel_rfl) rfl #[.agg #[.int .i64 a0_0, .slice A0_1 l0_1.length c0_1, .slice A0_2 l0_2.length c0_2], .slice A1 l1.length c1] rfl gl_ ?_; (with_reducible refine (standstillref07_Fits.calls kj43 a0_0 _ _ l0_1 _ _ l0_2 _ _ l1 true _ ?side1 ?side2 ?side3 ?side4 ?side5 ?side6 A83.out).mono ?_); (case side1 => exact ck_ (Kd.C_below HR0_1.out HB.out)); (case side2 => exact HC0_1.out); (case side3 => exact ck_ (Kd.C_below HR0_2.out HB.out)); (case side4 => exact HC0_2.out); (case side5 => exact ck_ (Kd.C_below HR1.out HB.out)); (case side6 => exact HC1.out); rintro e w99 ⟨rfl, hb⟩; refine ⟨_, rfl, ?_⟩; have n0_ := A_ (Kd.R_below (rk_ HO_7.out) hb); have n1_ := A_ (blk_below (pk_ BK256.out) hb); have n2_ := A_ (below_step (bk_ HB.out) hb); clear HO_7 BK256 HB; have HO_7 := n0_; have BK256 := n1_; have HB := n2_; clear n0_ n1_ n2_; (try clear hb); (try clear hb2); (try clear hk); (try clear hi); have hcz100_0 : w99.cell? ⟨gb256, 0, none⟩ = some (.int .i64 a0_0) := (blk_cell BK256.out 0).trans rfl; have hcz100_1 : w99.cell? ⟨gb256, 1, none⟩ = some (.slice A0_1 l0_1.length c0_1) := (blk_cell BK256.out 1).trans rfl; have hcz100_2 : w99.cell? ⟨gb256, 2, none⟩ = some (.slice A0_2 l0_2.length c0_2) := (blk_cell BK256.out 2).trans rfl; have hfz100_0 := blk_frozen BK256.out 0; have hfz100_1 := blk_frozen BK256.out 1; have hfz100_2 := blk_frozen BK256.out 2))
             go_ret
             exact ⟨by first | rfl | (simp [errW_none, errW_some] <;> rfl) | (simp [*, errW_none, errW_some] <;> rfl), bk_ HB.out⟩
           ·rw [if_neg c85] at H
            have c85b0 : decide (1000000 < (wrap64 ((l1.length : Int) * (l0_1.length : Int)))) = false := decide_eq_false c85
            clear c85
            replace H := Option.bind_eq_some_iff.mp H
            obtain ⟨⟨t293, t296⟩, A1010, H⟩ := H
            replace H : (if t262 = 0 then ((standstillref07_Bits.f kj43 l1 (l0_1.length : Int)).bind fun t297 => ((standstillref07_Same.f kj43 t259 t297).bind fun t300 => (if t300 = true then (if t296 = 0 then ((standstillref07_Same.f kj43 t293 l1).bind fun t301 => (if t301 = true then ((standstilllaw07_awake.f kj43).bind fun t302 => (some t302)) else (some false))) else (some false)) else (some false)))) else (some false)) = some r := H
            have A101 := Aside0.mk A1010
            clear A1010
            by_cases c102 : t262 = 0
            ·rw [if_pos c102] at H
             have c102b0 : (t262 == 0) = true := beq_iff_eq.mpr c102
             have c102b1 : (t262 != 0) = false := bne_eq_false_iff_eq.mpr c102
             clear c102
             replace H := Option.bind_eq_some_iff.mp H
             obtain ⟨t297, A1030, H⟩ := H
             replace H : ((standstillref07_Same.f kj43 t259 t297).bind fun t300 => (if t300 = true then (if t296 = 0 then ((standstillref07_Same.f kj43 t293 l1).bind fun t301 => (if t301 = true then ((standstilllaw07_awake.f kj43).bind fun t302 => (some t302)) else (some false))) else (some false)) else (some false))) = some r := H
             have A103 := Aside0.mk A1030
             clear A1030
             replace H := Option.bind_eq_some_iff.mp H
             obtain ⟨t300, A1040, H⟩ := H
             replace H : (if t300 = true then (if t296 = 0 then ((standstillref07_Same.f kj43 t293 l1).bind fun t301 => (if t301 = true then ((standstilllaw07_awake.f kj43).bind fun t302 => (some t302)) else (some false))) else (some false)) else (some false)) = some r := H
             have A104 := Aside0.mk A1040
             clear A1040
             by_cases c105 : t300 = true
             ·subst c105
              have H1 : (if t296 = 0 then ((standstillref07_Same.f kj43 t293 l1).bind fun t301 => (if t301 = true then ((standstilllaw07_awake.f kj43).bind fun t302 => (some t302)) else (some false))) else (some false)) = some r := by rw [if_pos rfl] at H; exact H
              clear H
              have H := H1
              clear H1
              by_cases c106 : t296 = 0
              ·rw [if_pos c106] at H
               have c106b0 : (t296 == 0) = true := beq_iff_eq.mpr c106
               have c106b1 : (t296 != 0) = false := bne_eq_false_iff_eq.mpr c106
               clear c106
               replace H := Option.bind_eq_some_iff.mp H
               obtain ⟨t301, A1070, H⟩ := H
               replace H : (if t301 = true then ((standstilllaw07_awake.f kj43).bind fun t302 => (some t302)) else (some false)) = some r := H
               have A107 := Aside0.mk A1070
               clear A1070
               by_cases c108 : t301 = true
               ·subst c108
                have H1 : ((standstilllaw07_awake.f kj43).bind fun t302 => (some t302)) = some r := by rw [if_pos rfl] at H; exact H
                clear H
                have H := H1
                clear H1
                replace H := Option.bind_eq_some_iff.mp H
                obtain ⟨t302, A1090, H⟩ := H
                replace H : (some t302) = some r := H
                have A109 := Aside0.mk A1090
                clear A1090
                obtain rfl := Option.some.inj H
                have hcz110_0 : wc.cell? ⟨gb256, 0, none⟩ = some (.int .i64 a0_0) := (blk_cell BK256.out 0).trans rfl
                have hcz110_1 : wc.cell? ⟨gb256, 1, none⟩ = some (.slice A0_1 l0_1.length c0_1) := (blk_cell BK256.out 1).trans rfl
                have hcz110_2 : wc.cell? ⟨gb256, 2, none⟩ = some (.slice A0_2 l0_2.length c0_2) := (blk_cell BK256.out 2).trans rfl
                have hfz110_0 := blk_frozen BK256.out 0
                have hfz110_1 := blk_frozen BK256.out 1
                have hfz110_2 := blk_frozen BK256.out 2
                go_wp2_with (first | ((with_reducible refine gate_callee (f := 10) rfl ?_); refine goesL_ (some 127) rfl rfl Try.func10 (by kernel_rfl) rfl #[.agg #[.int .i64 a0_0, .slice A0_1 l0_1.length c0_1, .slice A0_2 l0_2.length c0_2], .slice A1 l1.length c1] rfl gl_ ?_; (with_reducible refine (standstillref07_Fits.calls kj43 a0_0 _ _ l0_1 _ _ l0_2 _ _ l1 true _ ?side1 ?side2 ?side3 ?side4 ?side5 ?side6 A83.out).mono ?_); (case side1 => exact ck_ (Kd.C_below HR0_1.out HB.out)); (case side2 => exact HC0_1.out); (case side3 => exact ck_ (Kd.C_below HR0_2.out HB.out)); (case side4 => exact HC0_2.out); (case side5 => exact ck_ (Kd.C_below HR1.out HB.out)); (case side6 => exact HC1.out); rintro e w111 ⟨rfl, hb⟩; refine ⟨_, rfl, ?_⟩; have n0_ := A_ (Kd.R_below (rk_ HO_7.out) hb); have n1_ := A_ (blk_below (pk_ BK256.out) hb); have n2_ := A_ (below_step (bk_ HB.out) hb); clear HO_7 BK256 HB; have HO_7 := n0_; have BK256 := n1_; have HB := n2_; clear n0_ n1_ n2_; (try clear hb); (try clear hb2); (try clear hk); (try clear hi); have hcz112_0 : w111.cell? ⟨gb256, 0, none⟩ = some (.int .i64 a0_0) := (blk_cell BK256.out 0).trans rfl; have hcz112_1 : w111.cell? ⟨gb256, 1, none⟩ = some (.slice A0_1 l0_1.length c0_1) := (blk_cell BK256.out 1).trans rfl; have hcz112_2 : w111.cell? ⟨gb256, 2, none⟩ = some (.slice A0_2 l0_2.length c0_2) := (blk_cell BK256.out 2).trans rfl; have hfz112_0 := blk_frozen BK256.out 0; have hfz112_1 := blk_frozen BK256.out 1; have hfz112_2 := blk_frozen BK256.out 2; obtain ⟨Ao113, co113, eo113⟩ := Kd.R_slice HO_7.out; subst eo113) | ((with_reducible refine gate_callee (f := 34) rfl ?_); refine goesL_ (some 159) rfl rfl Try.func34 (by kernel_rfl) rfl #[.agg #[.int .i64 a0_0, .slice A0_1 l0_1.length c0_1, .slice A0_2 l0_2.length c0_2], .slice Ao113 t259.length co113] rfl gl_ ?_; (with_reducible refine (tag_Letters.calls kj43 a0_0 _ _ l0_1 _ _ l0_2 _ _ t259 t293 t296 _ ?side1 ?side2 ?side3 ?side4 ?side5 ?side6 A101.out).mono ?_); (case side1 => exact ck_ (Kd.C_below HR0_1.out HB.out)); (case side2 => exact HC0_1.out); (case side3 => exact ck_ (Kd.C_below HR0_2.out HB.out)); (case side4 => exact HC0_2.out); (case side5 => repeat (first | exact (Kd.R_reads' HO_7.out).2.2 | (with_reducible refine Kd.C_alloc ?_ _) | (with_reducible refine Kd.C_drewN ?_ _) | (with_reducible refine Kd.C_drew ?_))); (case side6 => exact (Kd.R_reads' HO_7.out).2.1); rintro e w114 ⟨v294, rfl, ho0, hb⟩; refine ⟨_, rfl, ?_⟩; have n0_ := A_ (Kd.R_elder' (rk_ HO_7.out) (Kd.R_base ho0) hb); have n1_ := A_ (Kd.R_lower (Kd.R_new' ho0 (Kd.R_lt (rk_ HO_7.out))) (below_size (bk_ HB.out))); have n2_ := A_ (blk_below (pk_ BK256.out) hb); have n3_ := A_ (below_step (bk_ HB.out) hb); clear HO_7 BK256 HB; have HO_7 := n0_; have HO295 := n1_; have BK256 := n2_; have HB := n3_; clear n0_ n1_ n2_ n3_; (try clear hb); (try clear hb2); (try clear hk); (try clear hi); (try clear ho0); have hcz115_0 : w114.cell? ⟨gb256, 0, none⟩ = some (.int .i64 a0_0) := (blk_cell BK256.out 0).trans rfl; have hcz115_1 : w114.cell? ⟨gb256, 1, none⟩ = some (.slice A0_1 l0_1.length c0_1) := (blk_cell BK256.out 1).trans rfl; have hcz115_2 : w114.cell? ⟨gb256, 2, none⟩ = some (.slice A0_2 l0_2.length c0_2) := (blk_cell BK256.out 2).trans rfl; have hfz115_0 := blk_frozen BK256.out 0; have hfz115_1 := blk_frozen BK256.out 1; have hfz115_2 := blk_frozen BK256.out 2) | (go_at_call 40; (with_reducible refine (standstillref07_Bits.calls kj43 _ _ l1 (l0_1.length : Int) t297 _ ?side1 ?side2 A103.out).mono ?_); (case side1 => exact ck_ (Kd.C_below HR1.out HB.out)); (case side2 => exact HC1.out); rintro e w116 ⟨v298, rfl, ho0, hb⟩; have n0_ := A_ (Kd.R_elder' (rk_ HO_7.out) (Kd.R_base ho0) hb); have n1_ := A_ (Kd.R_elder' (rk_ HO295.out) (Kd.R_base ho0) hb); have n2_ := A_ (Kd.R_lower (Kd.R_new' (Kd.R_new' ho0 (Kd.R_lt (rk_ HO_7.out))) (Kd.R_lt (rk_ HO295.out))) (below_size (bk_ HB.out))); have n3_ := A_ (blk_below (pk_ BK256.out) hb); have n4_ := A_ (below_step (bk_ HB.out) hb); clear HO_7 HO295 BK256 HB; have HO_7 := n0_; have HO295 := n1_; have HO299 := n2_; have BK256 := n3_; have HB := n4_; clear n0_ n1_ n2_ n3_ n4_; (try clear hb); (try clear hb2); (try clear hk); (try clear hi); (try clear ho0); obtain ⟨Ao117, co117, eo117⟩ := Kd.R_slice HO299.out; subst eo117) | (go_at_call 14; (with_reducible refine (standstillref07_Same.calls kj43 _ _ t259 _ _ t297 true _ ?side1 ?side2 ?side3 ?side4 A104.out).mono ?_); (case side1 => repeat (first | exact (Kd.R_reads' HO_7.out).2.2 | (with_reducible refine Kd.C_alloc ?_ _) | (with_reducible refine Kd.C_drewN ?_ _) | (with_reducible refine Kd.C_drew ?_))); (case side2 => exact (Kd.R_reads' HO_7.out).2.1); (case side3 => repeat (first | exact (Kd.R_reads' HO299.out).2.2 | (with_reducible refine Kd.C_alloc ?_ _) | (with_reducible refine Kd.C_drewN ?_ _) | (with_reducible refine Kd.C_drew ?_))); (case side4 => exact (Kd.R_reads' HO299.out).2.1); rintro e w' ⟨rfl, ⟨nd, rfl⟩⟩; obtain ⟨Ao118, co118, eo118⟩ := Kd.R_slice HO295.out; subst eo118) | (go_at_call 14; (with_reducible refine (standstillref07_Same.calls kj43 _ _ t293 _ _ l1 true _ ?side1 ?side2 ?side3 ?side4 A107.out).mono ?_); (case side1 => repeat (first | exact (Kd.R_reads' HO295.out).2.2 | (with_reducible refine Kd.C_alloc ?_ _) | (with_reducible refine Kd.C_drewN ?_ _) | (with_reducible refine Kd.C_drew ?_))); (case side2 => exact (Kd.R_reads' HO295.out).2.1); (case side3 => exact ck_ (Kd.C_below HR1.out (bk_ HB.out))); (case side4 => exact HC1.out); rintro e w' ⟨rfl, ⟨nd, rfl⟩⟩) | (go_at_call 11; (with_reducible refine (standstilllaw07_awake.calls kj43  t302 _ A109.out).mono ?_); rintro e w119 ⟨rfl, hb⟩; have n0_ := A_ (Kd.R_below (rk_ HO_7.out) hb); have n1_ := A_ (Kd.R_below (rk_ HO295.out) hb); have n2_ := A_ (Kd.R_below (rk_ HO299.out) hb); have n3_ := A_ (blk_below (pk_ BK256.out) hb); have n4_ := A_ (below_step (bk_ HB.out) hb); clear HO_7 HO295 HO299 BK256 HB; have HO_7 := n0_; have HO295 := n1_; have HO299 := n2_; have BK256 := n3_; have HB := n4_; clear n0_ n1_ n2_ n3_ n4_; (try clear hb); (try clear hb2); (try clear hk); (try clear hi)))
                go_ret
                exact ⟨by first | rfl | (simp [errW_none, errW_some] <;> rfl) | (simp [*, errW_none, errW_some] <;> rfl), bk_ HB.out⟩
               ·replace c108 := Bool.eq_false_iff.mpr c108
                subst c108
                have H1 : (some false) = some r := by rw [if_neg (show ¬ (false = true) by decide)] at H; exact H
                clear H
                have H := H1
                clear H1
                obtain rfl := Option.some.inj H
                have hcz120_0 : wc.cell? ⟨gb256, 0, none⟩ = some (.int .i64 a0_0) := (blk_cell BK256.out 0).trans rfl
                have hcz120_1 : wc.cell? ⟨gb256, 1, none⟩ = some (.slice A0_1 l0_1.length c0_1) := (blk_cell BK256.out 1).trans rfl
                have hcz120_2 : wc.cell? ⟨gb256, 2, none⟩ = some (.slice A0_2 l0_2.length c0_2) := (blk_cell BK256.out 2).trans rfl
                have hfz120_0 := blk_frozen BK256.out 0
                have hfz120_1 := blk_frozen BK256.out 1
                have hfz120_2 := blk_frozen BK256.out 2
                go_wp2_with (first | ((with_reducible refine gate_callee (f := 10) rfl ?_); refine goesL_ (some 127) rfl rfl Try.func10 (by kernel_rfl) rfl #[.agg #[.int .i64 a0_0, .slice A0_1 l0_1.length c0_1, .slice A0_2 l0_2.length c0_2], .slice A1 l1.length c1] rfl gl_ ?_; (with_reducible refine (standstillref07_Fits.calls kj43 a0_0 _ _ l0_1 _ _ l0_2 _ _ l1 true _ ?side1 ?side2 ?side3 ?side4 ?side5 ?side6 A83.out).mono ?_); (case side1 => exact ck_ (Kd.C_below HR0_1.out HB.out)); (case side2 => exact HC0_1.out); (case side3 => exact ck_ (Kd.C_below HR0_2.out HB.out)); (case side4 => exact HC0_2.out); (case side5 => exact ck_ (Kd.C_below HR1.out HB.out)); (case side6 => exact HC1.out); rintro e w121 ⟨rfl, hb⟩; refine ⟨_, rfl, ?_⟩; have n0_ := A_ (Kd.R_below (rk_ HO_7.out) hb); have n1_ := A_ (blk_below (pk_ BK256.out) hb); have n2_ := A_ (below_step (bk_ HB.out) hb); clear HO_7 BK256 HB; have HO_7 := n0_; have BK256 := n1_; have HB := n2_; clear n0_ n1_ n2_; (try clear hb); (try clear hb2); (try clear hk); (try clear hi); have hcz122_0 : w121.cell? ⟨gb256, 0, none⟩ = some (.int .i64 a0_0) := (blk_cell BK256.out 0).trans rfl; have hcz122_1 : w121.cell? ⟨gb256, 1, none⟩ = some (.slice A0_1 l0_1.length c0_1) := (blk_cell BK256.out 1).trans rfl; have hcz122_2 : w121.cell? ⟨gb256, 2, none⟩ = some (.slice A0_2 l0_2.length c0_2) := (blk_cell BK256.out 2).trans rfl; have hfz122_0 := blk_frozen BK256.out 0; have hfz122_1 := blk_frozen BK256.out 1; have hfz122_2 := blk_frozen BK256.out 2; obtain ⟨Ao123, co123, eo123⟩ := Kd.R_slice HO_7.out; subst eo123) | ((with_reducible refine gate_callee (f := 34) rfl ?_); refine goesL_ (some 159) rfl rfl Try.func34 (by kernel_rfl) rfl #[.agg #[.int .i64 a0_0, .slice A0_1 l0_1.length c0_1, .slice A0_2 l0_2.length c0_2], .slice Ao123 t259.length co123] rfl gl_ ?_; (with_reducible refine (tag_Letters.calls kj43 a0_0 _ _ l0_1 _ _ l0_2 _ _ t259 t293 t296 _ ?side1 ?side2 ?side3 ?side4 ?side5 ?side6 A101.out).mono ?_); (case side1 => exact ck_ (Kd.C_below HR0_1.out HB.out)); (case side2 => exact HC0_1.out); (case side3 => exact ck_ (Kd.C_below HR0_2.out HB.out)); (case side4 => exact HC0_2.out); (case side5 => repeat (first | exact (Kd.R_reads' HO_7.out).2.2 | (with_reducible refine Kd.C_alloc ?_ _) | (with_reducible refine Kd.C_drewN ?_ _) | (with_reducible refine Kd.C_drew ?_))); (case side6 => exact (Kd.R_reads' HO_7.out).2.1); rintro e w124 ⟨v294, rfl, ho0, hb⟩; refine ⟨_, rfl, ?_⟩; have n0_ := A_ (Kd.R_elder' (rk_ HO_7.out) (Kd.R_base ho0) hb); have n1_ := A_ (Kd.R_lower (Kd.R_new' ho0 (Kd.R_lt (rk_ HO_7.out))) (below_size (bk_ HB.out))); have n2_ := A_ (blk_below (pk_ BK256.out) hb); have n3_ := A_ (below_step (bk_ HB.out) hb); clear HO_7 BK256 HB; have HO_7 := n0_; have HO295 := n1_; have BK256 := n2_; have HB := n3_; clear n0_ n1_ n2_ n3_; (try clear hb); (try clear hb2); (try clear hk); (try clear hi); (try clear ho0); have hcz125_0 : w124.cell? ⟨gb256, 0, none⟩ = some (.int .i64 a0_0) := (blk_cell BK256.out 0).trans rfl; have hcz125_1 : w124.cell? ⟨gb256, 1, none⟩ = some (.slice A0_1 l0_1.length c0_1) := (blk_cell BK256.out 1).trans rfl; have hcz125_2 : w124.cell? ⟨gb256, 2, none⟩ = some (.slice A0_2 l0_2.length c0_2) := (blk_cell BK256.out 2).trans rfl; have hfz125_0 := blk_frozen BK256.out 0; have hfz125_1 := blk_frozen BK256.out 1; have hfz125_2 := blk_frozen BK256.out 2) | (go_at_call 40; (with_reducible refine (standstillref07_Bits.calls kj43 _ _ l1 (l0_1.length : Int) t297 _ ?side1 ?side2 A103.out).mono ?_); (case side1 => exact ck_ (Kd.C_below HR1.out HB.out)); (case side2 => exact HC1.out); rintro e w126 ⟨v298, rfl, ho0, hb⟩; have n0_ := A_ (Kd.R_elder' (rk_ HO_7.out) (Kd.R_base ho0) hb); have n1_ := A_ (Kd.R_elder' (rk_ HO295.out) (Kd.R_base ho0) hb); have n2_ := A_ (Kd.R_lower (Kd.R_new' (Kd.R_new' ho0 (Kd.R_lt (rk_ HO_7.out))) (Kd.R_lt (rk_ HO295.out))) (below_size (bk_ HB.out))); have n3_ := A_ (blk_below (pk_ BK256.out) hb); have n4_ := A_ (below_step (bk_ HB.out) hb); clear HO_7 HO295 BK256 HB; have HO_7 := n0_; have HO295 := n1_; have HO299 := n2_; have BK256 := n3_; have HB := n4_; clear n0_ n1_ n2_ n3_ n4_; (try clear hb); (try clear hb2); (try clear hk); (try clear hi); (try clear ho0); obtain ⟨Ao127, co127, eo127⟩ := Kd.R_slice HO299.out; subst eo127) | (go_at_call 14; (with_reducible refine (standstillref07_Same.calls kj43 _ _ t259 _ _ t297 true _ ?side1 ?side2 ?side3 ?side4 A104.out).mono ?_); (case side1 => repeat (first | exact (Kd.R_reads' HO_7.out).2.2 | (with_reducible refine Kd.C_alloc ?_ _) | (with_reducible refine Kd.C_drewN ?_ _) | (with_reducible refine Kd.C_drew ?_))); (case side2 => exact (Kd.R_reads' HO_7.out).2.1); (case side3 => repeat (first | exact (Kd.R_reads' HO299.out).2.2 | (with_reducible refine Kd.C_alloc ?_ _) | (with_reducible refine Kd.C_drewN ?_ _) | (with_reducible refine Kd.C_drew ?_))); (case side4 => exact (Kd.R_reads' HO299.out).2.1); rintro e w' ⟨rfl, ⟨nd, rfl⟩⟩; obtain ⟨Ao128, co128, eo128⟩ := Kd.R_slice HO295.out; subst eo128) | (go_at_call 14; (with_reducible refine (standstillref07_Same.calls kj43 _ _ t293 _ _ l1 false _ ?side1 ?side2 ?side3 ?side4 A107.out).mono ?_); (case side1 => repeat (first | exact (Kd.R_reads' HO295.out).2.2 | (with_reducible refine Kd.C_alloc ?_ _) | (with_reducible refine Kd.C_drewN ?_ _) | (with_reducible refine Kd.C_drew ?_))); (case side2 => exact (Kd.R_reads' HO295.out).2.1); (case side3 => exact ck_ (Kd.C_below HR1.out (bk_ HB.out))); (case side4 => exact HC1.out); rintro e w' ⟨rfl, ⟨nd, rfl⟩⟩))
                go_ret
                exact ⟨by first | rfl | (simp [errW_none, errW_some] <;> rfl) | (simp [*, errW_none, errW_some] <;> rfl), bk_ HB.out⟩
              ·rw [if_neg c106] at H
               have c106b0 : (t296 == 0) = false := beq_eq_false_iff_ne.mpr c106
               have c106b1 : (t296 != 0) = true := bne_iff_ne.mpr c106
               obtain rfl := Option.some.inj H
               have hcz129_0 : wc.cell? ⟨gb256, 0, none⟩ = some (.int .i64 a0_0) := (blk_cell BK256.out 0).trans rfl
               have hcz129_1 : wc.cell? ⟨gb256, 1, none⟩ = some (.slice A0_1 l0_1.length c0_1) := (blk_cell BK256.out 1).trans rfl
               have hcz129_2 : wc.cell? ⟨gb256, 2, none⟩ = some (.slice A0_2 l0_2.length c0_2) := (blk_cell BK256.out 2).trans rfl
               have hfz129_0 := blk_frozen BK256.out 0
               have hfz129_1 := blk_frozen BK256.out 1
               have hfz129_2 := blk_frozen BK256.out 2
               go_wp2_with (first | ((with_reducible refine gate_callee (f := 10) rfl ?_); refine goesL_ (some 127) rfl rfl Try.func10 (by kernel_rfl) rfl #[.agg #[.int .i64 a0_0, .slice A0_1 l0_1.length c0_1, .slice A0_2 l0_2.length c0_2], .slice A1 l1.length c1] rfl gl_ ?_; (with_reducible refine (standstillref07_Fits.calls kj43 a0_0 _ _ l0_1 _ _ l0_2 _ _ l1 true _ ?side1 ?side2 ?side3 ?side4 ?side5 ?side6 A83.out).mono ?_); (case side1 => exact ck_ (Kd.C_below HR0_1.out HB.out)); (case side2 => exact HC0_1.out); (case side3 => exact ck_ (Kd.C_below HR0_2.out HB.out)); (case side4 => exact HC0_2.out); (case side5 => exact ck_ (Kd.C_below HR1.out HB.out)); (case side6 => exact HC1.out); rintro e w130 ⟨rfl, hb⟩; refine ⟨_, rfl, ?_⟩; have n0_ := A_ (Kd.R_below (rk_ HO_7.out) hb); have n1_ := A_ (blk_below (pk_ BK256.out) hb); have n2_ := A_ (below_step (bk_ HB.out) hb); clear HO_7 BK256 HB; have HO_7 := n0_; have BK256 := n1_; have HB := n2_; clear n0_ n1_ n2_; (try clear hb); (try clear hb2); (try clear hk); (try clear hi); have hcz131_0 : w130.cell? ⟨gb256, 0, none⟩ = some (.int .i64 a0_0) := (blk_cell BK256.out 0).trans rfl; have hcz131_1 : w130.cell? ⟨gb256, 1, none⟩ = some (.slice A0_1 l0_1.length c0_1) := (blk_cell BK256.out 1).trans rfl; have hcz131_2 : w130.cell? ⟨gb256, 2, none⟩ = some (.slice A0_2 l0_2.length c0_2) := (blk_cell BK256.out 2).trans rfl; have hfz131_0 := blk_frozen BK256.out 0; have hfz131_1 := blk_frozen BK256.out 1; have hfz131_2 := blk_frozen BK256.out 2; obtain ⟨Ao132, co132, eo132⟩ := Kd.R_slice HO_7.out; subst eo132) | ((with_reducible refine gate_callee (f := 34) rfl ?_); refine goesL_ (some 159) rfl rfl Try.func34 (by kernel_rfl) rfl #[.agg #[.int .i64 a0_0, .slice A0_1 l0_1.length c0_1, .slice A0_2 l0_2.length c0_2], .slice Ao132 t259.length co132] rfl gl_ ?_; (with_reducible refine (tag_Letters.calls kj43 a0_0 _ _ l0_1 _ _ l0_2 _ _ t259 t293 t296 _ ?side1 ?side2 ?side3 ?side4 ?side5 ?side6 A101.out).mono ?_); (case side1 => exact ck_ (Kd.C_below HR0_1.out HB.out)); (case side2 => exact HC0_1.out); (case side3 => exact ck_ (Kd.C_below HR0_2.out HB.out)); (case side4 => exact HC0_2.out); (case side5 => repeat (first | exact (Kd.R_reads' HO_7.out).2.2 | (with_reducible refine Kd.C_alloc ?_ _) | (with_reducible refine Kd.C_drewN ?_ _) | (with_reducible refine Kd.C_drew ?_))); (case side6 => exact (Kd.R_reads' HO_7.out).2.1); rintro e w133 ⟨v294, rfl, ho0, hb⟩; refine ⟨_, rfl, ?_⟩; have n0_ := A_ (Kd.R_elder' (rk_ HO_7.out) (Kd.R_base ho0) hb); have n1_ := A_ (Kd.R_lower (Kd.R_new' ho0 (Kd.R_lt (rk_ HO_7.out))) (below_size (bk_ HB.out))); have n2_ := A_ (blk_below (pk_ BK256.out) hb); have n3_ := A_ (below_step (bk_ HB.out) hb); clear HO_7 BK256 HB; have HO_7 := n0_; have HO295 := n1_; have BK256 := n2_; have HB := n3_; clear n0_ n1_ n2_ n3_; (try clear hb); (try clear hb2); (try clear hk); (try clear hi); (try clear ho0); have hcz134_0 : w133.cell? ⟨gb256, 0, none⟩ = some (.int .i64 a0_0) := (blk_cell BK256.out 0).trans rfl; have hcz134_1 : w133.cell? ⟨gb256, 1, none⟩ = some (.slice A0_1 l0_1.length c0_1) := (blk_cell BK256.out 1).trans rfl; have hcz134_2 : w133.cell? ⟨gb256, 2, none⟩ = some (.slice A0_2 l0_2.length c0_2) := (blk_cell BK256.out 2).trans rfl; have hfz134_0 := blk_frozen BK256.out 0; have hfz134_1 := blk_frozen BK256.out 1; have hfz134_2 := blk_frozen BK256.out 2) | (go_at_call 40; (with_reducible refine (standstillref07_Bits.calls kj43 _ _ l1 (l0_1.length : Int) t297 _ ?side1 ?side2 A103.out).mono ?_); (case side1 => exact ck_ (Kd.C_below HR1.out HB.out)); (case side2 => exact HC1.out); rintro e w135 ⟨v298, rfl, ho0, hb⟩; have n0_ := A_ (Kd.R_elder' (rk_ HO_7.out) (Kd.R_base ho0) hb); have n1_ := A_ (Kd.R_elder' (rk_ HO295.out) (Kd.R_base ho0) hb); have n2_ := A_ (Kd.R_lower (Kd.R_new' (Kd.R_new' ho0 (Kd.R_lt (rk_ HO_7.out))) (Kd.R_lt (rk_ HO295.out))) (below_size (bk_ HB.out))); have n3_ := A_ (blk_below (pk_ BK256.out) hb); have n4_ := A_ (below_step (bk_ HB.out) hb); clear HO_7 HO295 BK256 HB; have HO_7 := n0_; have HO295 := n1_; have HO299 := n2_; have BK256 := n3_; have HB := n4_; clear n0_ n1_ n2_ n3_ n4_; (try clear hb); (try clear hb2); (try clear hk); (try clear hi); (try clear ho0); obtain ⟨Ao136, co136, eo136⟩ := Kd.R_slice HO299.out; subst eo136) | (go_at_call 14; (with_reducible refine (standstillref07_Same.calls kj43 _ _ t259 _ _ t297 true _ ?side1 ?side2 ?side3 ?side4 A104.out).mono ?_); (case side1 => repeat (first | exact (Kd.R_reads' HO_7.out).2.2 | (with_reducible refine Kd.C_alloc ?_ _) | (with_reducible refine Kd.C_drewN ?_ _) | (with_reducible refine Kd.C_drew ?_))); (case side2 => exact (Kd.R_reads' HO_7.out).2.1); (case side3 => repeat (first | exact (Kd.R_reads' HO299.out).2.2 | (with_reducible refine Kd.C_alloc ?_ _) | (with_reducible refine Kd.C_drewN ?_ _) | (with_reducible refine Kd.C_drew ?_))); (case side4 => exact (Kd.R_reads' HO299.out).2.1); rintro e w' ⟨rfl, ⟨nd, rfl⟩⟩))
               go_ret
               exact ⟨by first | rfl | (simp [errW_none, errW_some] <;> rfl) | (simp [*, errW_none, errW_some] <;> rfl), bk_ HB.out⟩
             ·replace c105 := Bool.eq_false_iff.mpr c105
              subst c105
              have H1 : (some false) = some r := by rw [if_neg (show ¬ (false = true) by decide)] at H; exact H
              clear H
              have H := H1
              clear H1
              obtain rfl := Option.some.inj H
              have hcz137_0 : wc.cell? ⟨gb256, 0, none⟩ = some (.int .i64 a0_0) := (blk_cell BK256.out 0).trans rfl
              have hcz137_1 : wc.cell? ⟨gb256, 1, none⟩ = some (.slice A0_1 l0_1.length c0_1) := (blk_cell BK256.out 1).trans rfl
              have hcz137_2 : wc.cell? ⟨gb256, 2, none⟩ = some (.slice A0_2 l0_2.length c0_2) := (blk_cell BK256.out 2).trans rfl
              have hfz137_0 := blk_frozen BK256.out 0
              have hfz137_1 := blk_frozen BK256.out 1
              have hfz137_2 := blk_frozen BK256.out 2
              go_wp2_with (first | ((with_reducible refine gate_callee (f := 10) rfl ?_); refine goesL_ (some 127) rfl rfl Try.func10 (by kernel_rfl) rfl #[.agg #[.int .i64 a0_0, .slice A0_1 l0_1.length c0_1, .slice A0_2 l0_2.length c0_2], .slice A1 l1.length c1] rfl gl_ ?_; (with_reducible refine (standstillref07_Fits.calls kj43 a0_0 _ _ l0_1 _ _ l0_2 _ _ l1 true _ ?side1 ?side2 ?side3 ?side4 ?side5 ?side6 A83.out).mono ?_); (case side1 => exact ck_ (Kd.C_below HR0_1.out HB.out)); (case side2 => exact HC0_1.out); (case side3 => exact ck_ (Kd.C_below HR0_2.out HB.out)); (case side4 => exact HC0_2.out); (case side5 => exact ck_ (Kd.C_below HR1.out HB.out)); (case side6 => exact HC1.out); rintro e w138 ⟨rfl, hb⟩; refine ⟨_, rfl, ?_⟩; have n0_ := A_ (Kd.R_below (rk_ HO_7.out) hb); have n1_ := A_ (blk_below (pk_ BK256.out) hb); have n2_ := A_ (below_step (bk_ HB.out) hb); clear HO_7 BK256 HB; have HO_7 := n0_; have BK256 := n1_; have HB := n2_; clear n0_ n1_ n2_; (try clear hb); (try clear hb2); (try clear hk); (try clear hi); have hcz139_0 : w138.cell? ⟨gb256, 0, none⟩ = some (.int .i64 a0_0) := (blk_cell BK256.out 0).trans rfl; have hcz139_1 : w138.cell? ⟨gb256, 1, none⟩ = some (.slice A0_1 l0_1.length c0_1) := (blk_cell BK256.out 1).trans rfl; have hcz139_2 : w138.cell? ⟨gb256, 2, none⟩ = some (.slice A0_2 l0_2.length c0_2) := (blk_cell BK256.out 2).trans rfl; have hfz139_0 := blk_frozen BK256.out 0; have hfz139_1 := blk_frozen BK256.out 1; have hfz139_2 := blk_frozen BK256.out 2; obtain ⟨Ao140, co140, eo140⟩ := Kd.R_slice HO_7.out; subst eo140) | ((with_reducible refine gate_callee (f := 34) rfl ?_); refine goesL_ (some 159) rfl rfl Try.func34 (by kernel_rfl) rfl #[.agg #[.int .i64 a0_0, .slice A0_1 l0_1.length c0_1, .slice A0_2 l0_2.length c0_2], .slice Ao140 t259.length co140] rfl gl_ ?_; (with_reducible refine (tag_Letters.calls kj43 a0_0 _ _ l0_1 _ _ l0_2 _ _ t259 t293 t296 _ ?side1 ?side2 ?side3 ?side4 ?side5 ?side6 A101.out).mono ?_); (case side1 => exact ck_ (Kd.C_below HR0_1.out HB.out)); (case side2 => exact HC0_1.out); (case side3 => exact ck_ (Kd.C_below HR0_2.out HB.out)); (case side4 => exact HC0_2.out); (case side5 => repeat (first | exact (Kd.R_reads' HO_7.out).2.2 | (with_reducible refine Kd.C_alloc ?_ _) | (with_reducible refine Kd.C_drewN ?_ _) | (with_reducible refine Kd.C_drew ?_))); (case side6 => exact (Kd.R_reads' HO_7.out).2.1); rintro e w141 ⟨v294, rfl, ho0, hb⟩; refine ⟨_, rfl, ?_⟩; have n0_ := A_ (Kd.R_elder' (rk_ HO_7.out) (Kd.R_base ho0) hb); have n1_ := A_ (Kd.R_lower (Kd.R_new' ho0 (Kd.R_lt (rk_ HO_7.out))) (below_size (bk_ HB.out))); have n2_ := A_ (blk_below (pk_ BK256.out) hb); have n3_ := A_ (below_step (bk_ HB.out) hb); clear HO_7 BK256 HB; have HO_7 := n0_; have HO295 := n1_; have BK256 := n2_; have HB := n3_; clear n0_ n1_ n2_ n3_; (try clear hb); (try clear hb2); (try clear hk); (try clear hi); (try clear ho0); have hcz142_0 : w141.cell? ⟨gb256, 0, none⟩ = some (.int .i64 a0_0) := (blk_cell BK256.out 0).trans rfl; have hcz142_1 : w141.cell? ⟨gb256, 1, none⟩ = some (.slice A0_1 l0_1.length c0_1) := (blk_cell BK256.out 1).trans rfl; have hcz142_2 : w141.cell? ⟨gb256, 2, none⟩ = some (.slice A0_2 l0_2.length c0_2) := (blk_cell BK256.out 2).trans rfl; have hfz142_0 := blk_frozen BK256.out 0; have hfz142_1 := blk_frozen BK256.out 1; have hfz142_2 := blk_frozen BK256.out 2) | (go_at_call 40; (with_reducible refine (standstillref07_Bits.calls kj43 _ _ l1 (l0_1.length : Int) t297 _ ?side1 ?side2 A103.out).mono ?_); (case side1 => exact ck_ (Kd.C_below HR1.out HB.out)); (case side2 => exact HC1.out); rintro e w143 ⟨v298, rfl, ho0, hb⟩; have n0_ := A_ (Kd.R_elder' (rk_ HO_7.out) (Kd.R_base ho0) hb); have n1_ := A_ (Kd.R_elder' (rk_ HO295.out) (Kd.R_base ho0) hb); have n2_ := A_ (Kd.R_lower (Kd.R_new' (Kd.R_new' ho0 (Kd.R_lt (rk_ HO_7.out))) (Kd.R_lt (rk_ HO295.out))) (below_size (bk_ HB.out))); have n3_ := A_ (blk_below (pk_ BK256.out) hb); have n4_ := A_ (below_step (bk_ HB.out) hb); clear HO_7 HO295 BK256 HB; have HO_7 := n0_; have HO295 := n1_; have HO299 := n2_; have BK256 := n3_; have HB := n4_; clear n0_ n1_ n2_ n3_ n4_; (try clear hb); (try clear hb2); (try clear hk); (try clear hi); (try clear ho0); obtain ⟨Ao144, co144, eo144⟩ := Kd.R_slice HO299.out; subst eo144) | (go_at_call 14; (with_reducible refine (standstillref07_Same.calls kj43 _ _ t259 _ _ t297 false _ ?side1 ?side2 ?side3 ?side4 A104.out).mono ?_); (case side1 => repeat (first | exact (Kd.R_reads' HO_7.out).2.2 | (with_reducible refine Kd.C_alloc ?_ _) | (with_reducible refine Kd.C_drewN ?_ _) | (with_reducible refine Kd.C_drew ?_))); (case side2 => exact (Kd.R_reads' HO_7.out).2.1); (case side3 => repeat (first | exact (Kd.R_reads' HO299.out).2.2 | (with_reducible refine Kd.C_alloc ?_ _) | (with_reducible refine Kd.C_drewN ?_ _) | (with_reducible refine Kd.C_drew ?_))); (case side4 => exact (Kd.R_reads' HO299.out).2.1); rintro e w' ⟨rfl, ⟨nd, rfl⟩⟩))
              go_ret
              exact ⟨by first | rfl | (simp [errW_none, errW_some] <;> rfl) | (simp [*, errW_none, errW_some] <;> rfl), bk_ HB.out⟩
            ·rw [if_neg c102] at H
             have c102b0 : (t262 == 0) = false := beq_eq_false_iff_ne.mpr c102
             have c102b1 : (t262 != 0) = true := bne_iff_ne.mpr c102
             obtain rfl := Option.some.inj H
             have hcz145_0 : wc.cell? ⟨gb256, 0, none⟩ = some (.int .i64 a0_0) := (blk_cell BK256.out 0).trans rfl
             have hcz145_1 : wc.cell? ⟨gb256, 1, none⟩ = some (.slice A0_1 l0_1.length c0_1) := (blk_cell BK256.out 1).trans rfl
             have hcz145_2 : wc.cell? ⟨gb256, 2, none⟩ = some (.slice A0_2 l0_2.length c0_2) := (blk_cell BK256.out 2).trans rfl
             have hfz145_0 := blk_frozen BK256.out 0
             have hfz145_1 := blk_frozen BK256.out 1
             have hfz145_2 := blk_frozen BK256.out 2
             go_wp2_with (first | ((with_reducible refine gate_callee (f := 10) rfl ?_); refine goesL_ (some 127) rfl rfl Try.func10 (by kernel_rfl) rfl #[.agg #[.int .i64 a0_0, .slice A0_1 l0_1.length c0_1, .slice A0_2 l0_2.length c0_2], .slice A1 l1.length c1] rfl gl_ ?_; (with_reducible refine (standstillref07_Fits.calls kj43 a0_0 _ _ l0_1 _ _ l0_2 _ _ l1 true _ ?side1 ?side2 ?side3 ?side4 ?side5 ?side6 A83.out).mono ?_); (case side1 => exact ck_ (Kd.C_below HR0_1.out HB.out)); (case side2 => exact HC0_1.out); (case side3 => exact ck_ (Kd.C_below HR0_2.out HB.out)); (case side4 => exact HC0_2.out); (case side5 => exact ck_ (Kd.C_below HR1.out HB.out)); (case side6 => exact HC1.out); rintro e w146 ⟨rfl, hb⟩; refine ⟨_, rfl, ?_⟩; have n0_ := A_ (Kd.R_below (rk_ HO_7.out) hb); have n1_ := A_ (blk_below (pk_ BK256.out) hb); have n2_ := A_ (below_step (bk_ HB.out) hb); clear HO_7 BK256 HB; have HO_7 := n0_; have BK256 := n1_; have HB := n2_; clear n0_ n1_ n2_; (try clear hb); (try clear hb2); (try clear hk); (try clear hi); have hcz147_0 : w146.cell? ⟨gb256, 0, none⟩ = some (.int .i64 a0_0) := (blk_cell BK256.out 0).trans rfl; have hcz147_1 : w146.cell? ⟨gb256, 1, none⟩ = some (.slice A0_1 l0_1.length c0_1) := (blk_cell BK256.out 1).trans rfl; have hcz147_2 : w146.cell? ⟨gb256, 2, none⟩ = some (.slice A0_2 l0_2.length c0_2) := (blk_cell BK256.out 2).trans rfl; have hfz147_0 := blk_frozen BK256.out 0; have hfz147_1 := blk_frozen BK256.out 1; have hfz147_2 := blk_frozen BK256.out 2; obtain ⟨Ao148, co148, eo148⟩ := Kd.R_slice HO_7.out; subst eo148) | ((with_reducible refine gate_callee (f := 34) rfl ?_); refine goesL_ (some 159) rfl rfl Try.func34 (by kernel_rfl) rfl #[.agg #[.int .i64 a0_0, .slice A0_1 l0_1.length c0_1, .slice A0_2 l0_2.length c0_2], .slice Ao148 t259.length co148] rfl gl_ ?_; (with_reducible refine (tag_Letters.calls kj43 a0_0 _ _ l0_1 _ _ l0_2 _ _ t259 t293 t296 _ ?side1 ?side2 ?side3 ?side4 ?side5 ?side6 A101.out).mono ?_); (case side1 => exact ck_ (Kd.C_below HR0_1.out HB.out)); (case side2 => exact HC0_1.out); (case side3 => exact ck_ (Kd.C_below HR0_2.out HB.out)); (case side4 => exact HC0_2.out); (case side5 => repeat (first | exact (Kd.R_reads' HO_7.out).2.2 | (with_reducible refine Kd.C_alloc ?_ _) | (with_reducible refine Kd.C_drewN ?_ _) | (with_reducible refine Kd.C_drew ?_))); (case side6 => exact (Kd.R_reads' HO_7.out).2.1); rintro e w149 ⟨v294, rfl, ho0, hb⟩; refine ⟨_, rfl, ?_⟩; have n0_ := A_ (Kd.R_elder' (rk_ HO_7.out) (Kd.R_base ho0) hb); have n1_ := A_ (Kd.R_lower (Kd.R_new' ho0 (Kd.R_lt (rk_ HO_7.out))) (below_size (bk_ HB.out))); have n2_ := A_ (blk_below (pk_ BK256.out) hb); have n3_ := A_ (below_step (bk_ HB.out) hb); clear HO_7 BK256 HB; have HO_7 := n0_; have HO295 := n1_; have BK256 := n2_; have HB := n3_; clear n0_ n1_ n2_ n3_; (try clear hb); (try clear hb2); (try clear hk); (try clear hi); (try clear ho0)))
             go_ret
             exact ⟨by first | rfl | (simp [errW_none, errW_some] <;> rfl) | (simp [*, errW_none, errW_some] <;> rfl), bk_ HB.out⟩
          ·replace c84 := Bool.eq_false_iff.mpr c84
           subst c84
           have H1 : (if t262 = 1 then (if (t259.length : Int) = 0 then ((standstilllaw07_awake.f kj43).bind fun t291 => (some t291)) else (some false)) else (some false)) = some r := by rw [if_neg (show ¬ (false = true) by decide)] at H; exact H
           clear H
           have H := H1
           clear H1
           by_cases c150 : t262 = 1
           ·rw [if_pos c150] at H
            have c150b0 : (t262 == 1) = true := beq_iff_eq.mpr c150
            have c150b1 : (t262 != 1) = false := bne_eq_false_iff_eq.mpr c150
            clear c150
            by_cases c151 : (t259.length : Int) = 0
            ·rw [if_pos c151] at H
             have c151b0 : ((t259.length : Int) == 0) = true := beq_iff_eq.mpr c151
             have c151b1 : ((t259.length : Int) != 0) = false := bne_eq_false_iff_eq.mpr c151
             clear c151
             replace H := Option.bind_eq_some_iff.mp H
             obtain ⟨t291, A1520, H⟩ := H
             replace H : (some t291) = some r := H
             have A152 := Aside0.mk A1520
             clear A1520
             obtain rfl := Option.some.inj H
             have hcz153_0 : wc.cell? ⟨gb256, 0, none⟩ = some (.int .i64 a0_0) := (blk_cell BK256.out 0).trans rfl
             have hcz153_1 : wc.cell? ⟨gb256, 1, none⟩ = some (.slice A0_1 l0_1.length c0_1) := (blk_cell BK256.out 1).trans rfl
             have hcz153_2 : wc.cell? ⟨gb256, 2, none⟩ = some (.slice A0_2 l0_2.length c0_2) := (blk_cell BK256.out 2).trans rfl
             have hfz153_0 := blk_frozen BK256.out 0
             have hfz153_1 := blk_frozen BK256.out 1
             have hfz153_2 := blk_frozen BK256.out 2
             go_wp2_with (first | ((with_reducible refine gate_callee (f := 10) rfl ?_); refine goesL_ (some 127) rfl rfl Try.func10 (by kernel_rfl) rfl #[.agg #[.int .i64 a0_0, .slice A0_1 l0_1.length c0_1, .slice A0_2 l0_2.length c0_2], .slice A1 l1.length c1] rfl gl_ ?_; (with_reducible refine (standstillref07_Fits.calls kj43 a0_0 _ _ l0_1 _ _ l0_2 _ _ l1 false _ ?side1 ?side2 ?side3 ?side4 ?side5 ?side6 A83.out).mono ?_); (case side1 => exact ck_ (Kd.C_below HR0_1.out HB.out)); (case side2 => exact HC0_1.out); (case side3 => exact ck_ (Kd.C_below HR0_2.out HB.out)); (case side4 => exact HC0_2.out); (case side5 => exact ck_ (Kd.C_below HR1.out HB.out)); (case side6 => exact HC1.out); rintro e w154 ⟨rfl, hb⟩; refine ⟨_, rfl, ?_⟩; have n0_ := A_ (Kd.R_below (rk_ HO_7.out) hb); have n1_ := A_ (blk_below (pk_ BK256.out) hb); have n2_ := A_ (below_step (bk_ HB.out) hb); clear HO_7 BK256 HB; have HO_7 := n0_; have BK256 := n1_; have HB := n2_; clear n0_ n1_ n2_; (try clear hb); (try clear hb2); (try clear hk); (try clear hi); obtain ⟨Ao155, co155, eo155⟩ := Kd.R_slice HO_7.out; subst eo155) | (go_at_call 11; (with_reducible refine (standstilllaw07_awake.calls kj43  t291 _ A152.out).mono ?_); rintro e w156 ⟨rfl, hb⟩; have n0_ := A_ (Kd.R_below (rk_ HO_7.out) hb); have n1_ := A_ (blk_below (pk_ BK256.out) hb); have n2_ := A_ (below_step (bk_ HB.out) hb); clear HO_7 BK256 HB; have HO_7 := n0_; have BK256 := n1_; have HB := n2_; clear n0_ n1_ n2_; (try clear hb); (try clear hb2); (try clear hk); (try clear hi)))
             go_ret
             exact ⟨by first | rfl | (simp [errW_none, errW_some] <;> rfl) | (simp [*, errW_none, errW_some] <;> rfl), bk_ HB.out⟩
            ·rw [if_neg c151] at H
             have c151b0 : ((t259.length : Int) == 0) = false := beq_eq_false_iff_ne.mpr c151
             have c151b1 : ((t259.length : Int) != 0) = true := bne_iff_ne.mpr c151
             have c151b2 : ¬ (t259 = []) := fun h_ => c151 (by rw [h_]; rfl)
             obtain rfl := Option.some.inj H
             have hcz157_0 : wc.cell? ⟨gb256, 0, none⟩ = some (.int .i64 a0_0) := (blk_cell BK256.out 0).trans rfl
             have hcz157_1 : wc.cell? ⟨gb256, 1, none⟩ = some (.slice A0_1 l0_1.length c0_1) := (blk_cell BK256.out 1).trans rfl
             have hcz157_2 : wc.cell? ⟨gb256, 2, none⟩ = some (.slice A0_2 l0_2.length c0_2) := (blk_cell BK256.out 2).trans rfl
             have hfz157_0 := blk_frozen BK256.out 0
             have hfz157_1 := blk_frozen BK256.out 1
             have hfz157_2 := blk_frozen BK256.out 2
             go_wp2_with (first | ((with_reducible refine gate_callee (f := 10) rfl ?_); refine goesL_ (some 127) rfl rfl Try.func10 (by kernel_rfl) rfl #[.agg #[.int .i64 a0_0, .slice A0_1 l0_1.length c0_1, .slice A0_2 l0_2.length c0_2], .slice A1 l1.length c1] rfl gl_ ?_; (with_reducible refine (standstillref07_Fits.calls kj43 a0_0 _ _ l0_1 _ _ l0_2 _ _ l1 false _ ?side1 ?side2 ?side3 ?side4 ?side5 ?side6 A83.out).mono ?_); (case side1 => exact ck_ (Kd.C_below HR0_1.out HB.out)); (case side2 => exact HC0_1.out); (case side3 => exact ck_ (Kd.C_below HR0_2.out HB.out)); (case side4 => exact HC0_2.out); (case side5 => exact ck_ (Kd.C_below HR1.out HB.out)); (case side6 => exact HC1.out); rintro e w158 ⟨rfl, hb⟩; refine ⟨_, rfl, ?_⟩; have n0_ := A_ (Kd.R_below (rk_ HO_7.out) hb); have n1_ := A_ (blk_below (pk_ BK256.out) hb); have n2_ := A_ (below_step (bk_ HB.out) hb); clear HO_7 BK256 HB; have HO_7 := n0_; have BK256 := n1_; have HB := n2_; clear n0_ n1_ n2_; (try clear hb); (try clear hb2); (try clear hk); (try clear hi); obtain ⟨Ao159, co159, eo159⟩ := Kd.R_slice HO_7.out; subst eo159))
             go_ret
             exact ⟨by first | rfl | (simp [errW_none, errW_some] <;> rfl) | (simp [*, errW_none, errW_some] <;> rfl), bk_ HB.out⟩
           ·rw [if_neg c150] at H
            have c150b0 : (t262 == 1) = false := beq_eq_false_iff_ne.mpr c150
            have c150b1 : (t262 != 1) = true := bne_iff_ne.mpr c150
            obtain rfl := Option.some.inj H
            have hcz160_0 : wc.cell? ⟨gb256, 0, none⟩ = some (.int .i64 a0_0) := (blk_cell BK256.out 0).trans rfl
            have hcz160_1 : wc.cell? ⟨gb256, 1, none⟩ = some (.slice A0_1 l0_1.length c0_1) := (blk_cell BK256.out 1).trans rfl
            have hcz160_2 : wc.cell? ⟨gb256, 2, none⟩ = some (.slice A0_2 l0_2.length c0_2) := (blk_cell BK256.out 2).trans rfl
            have hfz160_0 := blk_frozen BK256.out 0
            have hfz160_1 := blk_frozen BK256.out 1
            have hfz160_2 := blk_frozen BK256.out 2
            go_wp2_with (first | ((with_reducible refine gate_callee (f := 10) rfl ?_); refine goesL_ (some 127) rfl rfl Try.func10 (by kernel_rfl) rfl #[.agg #[.int .i64 a0_0, .slice A0_1 l0_1.length c0_1, .slice A0_2 l0_2.length c0_2], .slice A1 l1.length c1] rfl gl_ ?_; (with_reducible refine (standstillref07_Fits.calls kj43 a0_0 _ _ l0_1 _ _ l0_2 _ _ l1 false _ ?side1 ?side2 ?side3 ?side4 ?side5 ?side6 A83.out).mono ?_); (case side1 => exact ck_ (Kd.C_below HR0_1.out HB.out)); (case side2 => exact HC0_1.out); (case side3 => exact ck_ (Kd.C_below HR0_2.out HB.out)); (case side4 => exact HC0_2.out); (case side5 => exact ck_ (Kd.C_below HR1.out HB.out)); (case side6 => exact HC1.out); rintro e w161 ⟨rfl, hb⟩; refine ⟨_, rfl, ?_⟩; have n0_ := A_ (Kd.R_below (rk_ HO_7.out) hb); have n1_ := A_ (blk_below (pk_ BK256.out) hb); have n2_ := A_ (below_step (bk_ HB.out) hb); clear HO_7 BK256 HB; have HO_7 := n0_; have BK256 := n1_; have HB := n2_; clear n0_ n1_ n2_; (try clear hb); (try clear hb2); (try clear hk); (try clear hi)))
            go_ret
            exact ⟨by first | rfl | (simp [errW_none, errW_some] <;> rfl) | (simp [*, errW_none, errW_some] <;> rfl), bk_ HB.out⟩
    ·replace c22 := Bool.eq_false_iff.mpr c22
     subst c22
     have H1 : ((tag_ToCyclic.f kj3 a0_0 l0_1 l0_2).bind fun bt268 => (if t262 = 1 then (if t266 = 1 then (if bt268.2 = 1 then (if (wrap64 ((wrap64 ((t259.length : Int) + (t263.length : Int))) + (bt268.1.length : Int))) = 0 then ((standstilllaw07_awake.f kj3).bind fun t273 => (some t273)) else (some false)) else (some false)) else (some false)) else (some false))) = some r := by rw [if_neg (show ¬ (false = true) by decide)] at H; exact H
     clear H
     have H := H1
     clear H1
     replace H := Option.bind_eq_some_iff.mp H
     obtain ⟨⟨t268, t271⟩, A1620, H⟩ := H
     replace H : (if t262 = 1 then (if t266 = 1 then (if t271 = 1 then (if (wrap64 ((wrap64 ((t259.length : Int) + (t263.length : Int))) + (t268.length : Int))) = 0 then ((standstilllaw07_awake.f kj3).bind fun t273 => (some t273)) else (some false)) else (some false)) else (some false)) else (some false)) = some r := H
     have A162 := Aside0.mk A1620
     clear A1620
     by_cases c163 : t262 = 1
     ·rw [if_pos c163] at H
      have c163b0 : (t262 == 1) = true := beq_iff_eq.mpr c163
      have c163b1 : (t262 != 1) = false := bne_eq_false_iff_eq.mpr c163
      clear c163
      by_cases c164 : t266 = 1
      ·rw [if_pos c164] at H
       have c164b0 : (t266 == 1) = true := beq_iff_eq.mpr c164
       have c164b1 : (t266 != 1) = false := bne_eq_false_iff_eq.mpr c164
       clear c164
       by_cases c165 : t271 = 1
       ·rw [if_pos c165] at H
        have c165b0 : (t271 == 1) = true := beq_iff_eq.mpr c165
        have c165b1 : (t271 != 1) = false := bne_eq_false_iff_eq.mpr c165
        clear c165
        by_cases c166 : (wrap64 ((wrap64 ((t259.length : Int) + (t263.length : Int))) + (t268.length : Int))) = 0
        ·rw [if_pos c166] at H
         have c166b0 : ((wrap64 ((wrap64 ((t259.length : Int) + (t263.length : Int))) + (t268.length : Int))) == 0) = true := beq_iff_eq.mpr c166
         have c166b1 : ((wrap64 ((wrap64 ((t259.length : Int) + (t263.length : Int))) + (t268.length : Int))) != 0) = false := bne_eq_false_iff_eq.mpr c166
         clear c166
         replace H := Option.bind_eq_some_iff.mp H
         obtain ⟨t273, A1670, H⟩ := H
         replace H : (some t273) = some r := H
         have A167 := Aside0.mk A1670
         clear A1670
         obtain rfl := Option.some.inj H
         have hcz168_0 : wc.cell? ⟨gb256, 0, none⟩ = some (.int .i64 a0_0) := (blk_cell BK256.out 0).trans rfl
         have hcz168_1 : wc.cell? ⟨gb256, 1, none⟩ = some (.slice A0_1 l0_1.length c0_1) := (blk_cell BK256.out 1).trans rfl
         have hcz168_2 : wc.cell? ⟨gb256, 2, none⟩ = some (.slice A0_2 l0_2.length c0_2) := (blk_cell BK256.out 2).trans rfl
         have hfz168_0 := blk_frozen BK256.out 0
         have hfz168_1 := blk_frozen BK256.out 1
         have hfz168_2 := blk_frozen BK256.out 2
         go_wp2_with (first | ((with_reducible refine gate_callee (f := 33) rfl ?_); refine goesL_ (some 40) rfl rfl Try.func33 (by kernel_rfl) rfl #[.agg #[.int .i64 a0_0, .slice A0_1 l0_1.length c0_1, .slice A0_2 l0_2.length c0_2], .slice A1 l1.length c1] rfl gl_ ?_; (with_reducible refine (tag_Bits.calls kj3 a0_0 _ _ l0_1 _ _ l0_2 _ _ l1 t259 t262 _ ?side1 ?side2 ?side3 ?side4 ?side5 ?side6 A19.out).mono ?_); (case side1 => exact ck_ (Kd.C_below HR0_1.out HB.out)); (case side2 => exact HC0_1.out); (case side3 => exact ck_ (Kd.C_below HR0_2.out HB.out)); (case side4 => exact HC0_2.out); (case side5 => exact ck_ (Kd.C_below HR1.out HB.out)); (case side6 => exact HC1.out); rintro e w169 ⟨v260, rfl, ho0, hb⟩; refine ⟨_, rfl, ?_⟩; have n0_ := A_ (Kd.R_lower ho0 (below_size (bk_ HB.out))); have n1_ := A_ (blk_below (pk_ BK256.out) hb); have n2_ := A_ (below_step (bk_ HB.out) hb); clear BK256 HB; have HO261 := n0_; have BK256 := n1_; have HB := n2_; clear n0_ n1_ n2_; (try clear hb); (try clear hb2); (try clear hk); (try clear hi); (try clear ho0); have hcz170_0 : w169.cell? ⟨gb256, 0, none⟩ = some (.int .i64 a0_0) := (blk_cell BK256.out 0).trans rfl; have hcz170_1 : w169.cell? ⟨gb256, 1, none⟩ = some (.slice A0_1 l0_1.length c0_1) := (blk_cell BK256.out 1).trans rfl; have hcz170_2 : w169.cell? ⟨gb256, 2, none⟩ = some (.slice A0_2 l0_2.length c0_2) := (blk_cell BK256.out 2).trans rfl; have hfz170_0 := blk_frozen BK256.out 0; have hfz170_1 := blk_frozen BK256.out 1; have hfz170_2 := blk_frozen BK256.out 2) | ((with_reducible refine gate_callee (f := 34) rfl ?_); refine goesL_ (some 46) rfl rfl Try.func34 (by kernel_rfl) rfl #[.agg #[.int .i64 a0_0, .slice A0_1 l0_1.length c0_1, .slice A0_2 l0_2.length c0_2], .slice A2 l2.length c2] rfl gl_ ?_; (with_reducible refine (tag_Letters.calls kj3 a0_0 _ _ l0_1 _ _ l0_2 _ _ l2 t263 t266 _ ?side1 ?side2 ?side3 ?side4 ?side5 ?side6 A20.out).mono ?_); (case side1 => exact ck_ (Kd.C_below HR0_1.out HB.out)); (case side2 => exact HC0_1.out); (case side3 => exact ck_ (Kd.C_below HR0_2.out HB.out)); (case side4 => exact HC0_2.out); (case side5 => exact ck_ (Kd.C_below HR2.out HB.out)); (case side6 => exact HC2.out); rintro e w171 ⟨v264, rfl, ho0, hb⟩; refine ⟨_, rfl, ?_⟩; have n0_ := A_ (Kd.R_elder' (rk_ HO261.out) (Kd.R_base ho0) hb); have n1_ := A_ (Kd.R_lower (Kd.R_new' ho0 (Kd.R_lt (rk_ HO261.out))) (below_size (bk_ HB.out))); have n2_ := A_ (blk_below (pk_ BK256.out) hb); have n3_ := A_ (below_step (bk_ HB.out) hb); clear HO261 BK256 HB; have HO261 := n0_; have HO265 := n1_; have BK256 := n2_; have HB := n3_; clear n0_ n1_ n2_ n3_; (try clear hb); (try clear hb2); (try clear hk); (try clear hi); (try clear ho0); have hcz172_0 : w171.cell? ⟨gb256, 0, none⟩ = some (.int .i64 a0_0) := (blk_cell BK256.out 0).trans rfl; have hcz172_1 : w171.cell? ⟨gb256, 1, none⟩ = some (.slice A0_1 l0_1.length c0_1) := (blk_cell BK256.out 1).trans rfl; have hcz172_2 : w171.cell? ⟨gb256, 2, none⟩ = some (.slice A0_2 l0_2.length c0_2) := (blk_cell BK256.out 2).trans rfl; have hfz172_0 := blk_frozen BK256.out 0; have hfz172_1 := blk_frozen BK256.out 1; have hfz172_2 := blk_frozen BK256.out 2) | ((with_reducible refine gate_callee (f := 16) rfl ?_); refine goesL_ (some 50) rfl rfl Try.func16 (by kernel_rfl) rfl #[.agg #[.int .i64 a0_0, .slice A0_1 l0_1.length c0_1, .slice A0_2 l0_2.length c0_2]] rfl gl_ ?_; (with_reducible refine (standstillref07_Valid.calls kj3 a0_0 _ _ l0_1 _ _ l0_2 false _ ?side1 ?side2 ?side3 ?side4 A21.out).mono ?_); (case side1 => exact ck_ (Kd.C_below HR0_1.out HB.out)); (case side2 => exact HC0_1.out); (case side3 => exact ck_ (Kd.C_below HR0_2.out HB.out)); (case side4 => exact HC0_2.out); rintro e w173 ⟨rfl, hb⟩; refine ⟨_, rfl, ?_⟩; have n0_ := A_ (Kd.R_below (rk_ HO261.out) hb); have n1_ := A_ (Kd.R_below (rk_ HO265.out) hb); have n2_ := A_ (blk_below (pk_ BK256.out) hb); have n3_ := A_ (below_step (bk_ HB.out) hb); clear HO261 HO265 BK256 HB; have HO261 := n0_; have HO265 := n1_; have BK256 := n2_; have HB := n3_; clear n0_ n1_ n2_ n3_; (try clear hb); (try clear hb2); (try clear hk); (try clear hi); have hcz174_0 : w173.cell? ⟨gb256, 0, none⟩ = some (.int .i64 a0_0) := (blk_cell BK256.out 0).trans rfl; have hcz174_1 : w173.cell? ⟨gb256, 1, none⟩ = some (.slice A0_1 l0_1.length c0_1) := (blk_cell BK256.out 1).trans rfl; have hcz174_2 : w173.cell? ⟨gb256, 2, none⟩ = some (.slice A0_2 l0_2.length c0_2) := (blk_cell BK256.out 2).trans rfl; have hfz174_0 := blk_frozen BK256.out 0; have hfz174_1 := blk_frozen BK256.out 1; have hfz174_2 := blk_frozen BK256.out 2) | ((with_reducible refine gate_callee (f := 35) rfl ?_); refine goesL_ (some 54) rfl rfl Try.func35 (by kernel_rfl) rfl #[.agg #[.int .i64 a0_0, .slice A0_1 l0_1.length c0_1, .slice A0_2 l0_2.length c0_2]] rfl gl_ ?_; (with_reducible refine (tag_ToCyclic.calls kj3 a0_0 _ _ l0_1 _ _ l0_2 t268 t271 _ ?side1 ?side2 ?side3 ?side4 A162.out).mono ?_); (case side1 => exact ck_ (Kd.C_below HR0_1.out HB.out)); (case side2 => exact HC0_1.out); (case side3 => exact ck_ (Kd.C_below HR0_2.out HB.out)); (case side4 => exact HC0_2.out); rintro e w175 ⟨v269, rfl, ho0, hb⟩; refine ⟨_, rfl, ?_⟩; have n0_ := A_ (Kd.R_below (rk_ HO261.out) hb); have n1_ := A_ (Kd.R_below (rk_ HO265.out) hb); have n2_ := A_ (Kd.S_lower (Kd.S_new' (Kd.S_new' ho0 (Kd.R_lt (rk_ HO261.out))) (Kd.R_lt (rk_ HO265.out))) (below_size (bk_ HB.out))); have n3_ := A_ (blk_below (pk_ BK256.out) hb); have n4_ := A_ (below_step (bk_ HB.out) hb); clear HO261 HO265 BK256 HB; have HO261 := n0_; have HO265 := n1_; have HO270 := n2_; have BK256 := n3_; have HB := n4_; clear n0_ n1_ n2_ n3_ n4_; (try clear hb); (try clear hb2); (try clear hk); (try clear hi); (try clear ho0)) | ((with_reducible refine gate_dst (N := 11) rfl ?_); (try (refine gate_guard (by rfl) ?_; dsimp only)); refine box_event ?hg (N := 11) ?hd (cs := #[.slice none 0 0]) (t := 45) ?hr ?_; (case hd => rfl); (case hg => rfl); (case hr => first | (go_simp; done) | (go_simp; rfl)); intro gb272 hg w176 hbox hb; have n0_ := A_ (Kd.R_below (rk_ HO261.out) hb); have n1_ := A_ (Kd.R_below (rk_ HO265.out) hb); have n2_ := A_ (Kd.S_below (by (with_reducible repeat (first | apply Kd.S_alloc | apply Kd.S_drewN | apply Kd.S_drew)); exact HO270.out) hb); have n3_ := A_ (blk_below (pk_ BK256.out) hb); have n4_ := A_ (below_step (bk_ HB.out) hb); have n5_ := A_ (hbox); have n6_ := A_ ((by rw [hg]; exact (below_size (bk_ HB.out)) : w.heap.size ≤ gb272)); have n7_ := A_ ((by rw [hg]; exact (below_size (bk_ HB.out)) : w.heap.size ≤ gb272)); have n8_ := A_ ((by rw [hg]; exact Nat.ne_of_lt (blk_lt (pk_ BK256.out)) : gb256 ≠ gb272)); have n9_ := A_ ((by rw [hg]; exact Nat.ne_of_gt (blk_lt (pk_ BK256.out)) : gb272 ≠ gb256)); clear HO261 HO265 HO270 BK256 HB; have HO261 := n0_; have HO265 := n1_; have HO270 := n2_; have BK256 := n3_; have HB := n4_; have BK272 := n5_; have GW272 := n6_; have GE272 := n7_; have NB256_272 := n8_; have NB272_256 := n9_; clear n0_ n1_ n2_ n3_ n4_ n5_ n6_ n7_ n8_ n9_ hb hbox hg; obtain ⟨Ao177, co177, eo177⟩ := Kd.S_slice HO270.out; subst eo177; have hnb178 := NB272_256.out; have hnc178 := NB256_272.out; have hcz179_0 : w176.cell? ⟨gb272, 0, none⟩ = some (.slice none 0 0) := (blk_cell BK272.out 0).trans rfl; have hfz179_0 := blk_frozen BK272.out 0; obtain ⟨Ao180, co180, eo180⟩ := Kd.R_slice HO261.out; subst eo180; obtain ⟨Ao181, co181, eo181⟩ := Kd.R_slice HO265.out; subst eo181) | (go_at_call 11; (with_reducible refine (standstilllaw07_awake.calls kj3  t273 _ A167.out).mono ?_); rintro e w182 ⟨rfl, hb⟩; have n0_ := A_ (Kd.R_below (by (with_reducible repeat (first | apply Kd.R_alloc | apply Kd.R_drewN | apply Kd.R_drew)); exact (Kd.R_mono (Kd.R_far (p := ⟨gb272, 0, none⟩) (Kd.R_types HO261.out BK272.out (by decide)) (fun _ hk => hk.2) (.slice Ao177 t268.length co177)) (fun _ h_ => h_.1))) hb); have n1_ := A_ (Kd.R_below (by (with_reducible repeat (first | apply Kd.R_alloc | apply Kd.R_drewN | apply Kd.R_drew)); exact (Kd.R_mono (Kd.R_far (p := ⟨gb272, 0, none⟩) (Kd.R_types HO265.out BK272.out (by decide)) (fun _ hk => hk.2) (.slice Ao177 t268.length co177)) (fun _ h_ => h_.1))) hb); have n2_ := A_ (Kd.S_below (by (with_reducible repeat (first | apply Kd.S_alloc | apply Kd.S_drewN | apply Kd.S_drew)); exact (Kd.S_mono (Kd.S_far (p := ⟨gb272, 0, none⟩) (Kd.S_types HO270.out BK272.out (by decide)) (fun _ hk => hk.2) (.slice Ao177 t268.length co177)) (fun _ h_ => h_.1))) hb); have n3_ := A_ (blk_below (g := gb256) (o := .cells #[.int .i64 a0_0, .slice A0_1 l0_1.length c0_1, .slice A0_2 l0_2.length c0_2] 25 (0, 0)) (by (with_reducible repeat (first | refine blk_drewN ?_ _ | refine blk_drew ?_ | refine blk_alloc ?_ _)); refine blk_far ?_ NB256_272.out _; exact pk_ BK256.out) hb); have n4_ := A_ (blk_below (g := gb272) (o := .cells #[.slice Ao177 t268.length co177] 45 (0, 0)) (by (with_reducible repeat (first | refine blk_drewN ?_ _ | refine blk_drew ?_ | refine blk_alloc ?_ _)); refine blk_put (cs := #[.slice none 0 0]) ?_ 0 _ rfl; exact pk_ BK272.out) hb); have n5_ := A_ (below_step (bk_ HB.out) hb); clear HO261 HO265 HO270 BK256 BK272 HB; have HO261 := n0_; have HO265 := n1_; have HO270 := n2_; have BK256 := n3_; have BK272 := n4_; have HB := n5_; clear n0_ n1_ n2_ n3_ n4_ n5_; (try clear hb); (try clear hb2); (try clear hk); (try clear hi)))
         go_ret
         exact ⟨by first | rfl | (simp [errW_none, errW_some] <;> rfl) | (simp [*, errW_none, errW_some] <;> rfl), bk_ HB.out⟩
        ·rw [if_neg c166] at H
         have c166b0 : ((wrap64 ((wrap64 ((t259.length : Int) + (t263.length : Int))) + (t268.length : Int))) == 0) = false := beq_eq_false_iff_ne.mpr c166
         have c166b1 : ((wrap64 ((wrap64 ((t259.length : Int) + (t263.length : Int))) + (t268.length : Int))) != 0) = true := bne_iff_ne.mpr c166
         obtain rfl := Option.some.inj H
         have hcz183_0 : wc.cell? ⟨gb256, 0, none⟩ = some (.int .i64 a0_0) := (blk_cell BK256.out 0).trans rfl
         have hcz183_1 : wc.cell? ⟨gb256, 1, none⟩ = some (.slice A0_1 l0_1.length c0_1) := (blk_cell BK256.out 1).trans rfl
         have hcz183_2 : wc.cell? ⟨gb256, 2, none⟩ = some (.slice A0_2 l0_2.length c0_2) := (blk_cell BK256.out 2).trans rfl
         have hfz183_0 := blk_frozen BK256.out 0
         have hfz183_1 := blk_frozen BK256.out 1
         have hfz183_2 := blk_frozen BK256.out 2
         go_wp2_with (first | ((with_reducible refine gate_callee (f := 33) rfl ?_); refine goesL_ (some 40) rfl rfl Try.func33 (by kernel_rfl) rfl #[.agg #[.int .i64 a0_0, .slice A0_1 l0_1.length c0_1, .slice A0_2 l0_2.length c0_2], .slice A1 l1.length c1] rfl gl_ ?_; (with_reducible refine (tag_Bits.calls kj3 a0_0 _ _ l0_1 _ _ l0_2 _ _ l1 t259 t262 _ ?side1 ?side2 ?side3 ?side4 ?side5 ?side6 A19.out).mono ?_); (case side1 => exact ck_ (Kd.C_below HR0_1.out HB.out)); (case side2 => exact HC0_1.out); (case side3 => exact ck_ (Kd.C_below HR0_2.out HB.out)); (case side4 => exact HC0_2.out); (case side5 => exact ck_ (Kd.C_below HR1.out HB.out)); (case side6 => exact HC1.out); rintro e w184 ⟨v260, rfl, ho0, hb⟩; refine ⟨_, rfl, ?_⟩; have n0_ := A_ (Kd.R_lower ho0 (below_size (bk_ HB.out))); have n1_ := A_ (blk_below (pk_ BK256.out) hb); have n2_ := A_ (below_step (bk_ HB.out) hb); clear BK256 HB; have HO261 := n0_; have BK256 := n1_; have HB := n2_; clear n0_ n1_ n2_; (try clear hb); (try clear hb2); (try clear hk); (try clear hi); (try clear ho0); have hcz185_0 : w184.cell? ⟨gb256, 0, none⟩ = some (.int .i64 a0_0) := (blk_cell BK256.out 0).trans rfl; have hcz185_1 : w184.cell? ⟨gb256, 1, none⟩ = some (.slice A0_1 l0_1.length c0_1) := (blk_cell BK256.out 1).trans rfl; have hcz185_2 : w184.cell? ⟨gb256, 2, none⟩ = some (.slice A0_2 l0_2.length c0_2) := (blk_cell BK256.out 2).trans rfl; have hfz185_0 := blk_frozen BK256.out 0; have hfz185_1 := blk_frozen BK256.out 1; have hfz185_2 := blk_frozen BK256.out 2) | ((with_reducible refine gate_callee (f := 34) rfl ?_); refine goesL_ (some 46) rfl rfl Try.func34 (by kernel_rfl) rfl #[.agg #[.int .i64 a0_0, .slice A0_1 l0_1.length c0_1, .slice A0_2 l0_2.length c0_2], .slice A2 l2.length c2] rfl gl_ ?_; (with_reducible refine (tag_Letters.calls kj3 a0_0 _ _ l0_1 _ _ l0_2 _ _ l2 t263 t266 _ ?side1 ?side2 ?side3 ?side4 ?side5 ?side6 A20.out).mono ?_); (case side1 => exact ck_ (Kd.C_below HR0_1.out HB.out)); (case side2 => exact HC0_1.out); (case side3 => exact ck_ (Kd.C_below HR0_2.out HB.out)); (case side4 => exact HC0_2.out); (case side5 => exact ck_ (Kd.C_below HR2.out HB.out)); (case side6 => exact HC2.out); rintro e w186 ⟨v264, rfl, ho0, hb⟩; refine ⟨_, rfl, ?_⟩; have n0_ := A_ (Kd.R_elder' (rk_ HO261.out) (Kd.R_base ho0) hb); have n1_ := A_ (Kd.R_lower (Kd.R_new' ho0 (Kd.R_lt (rk_ HO261.out))) (below_size (bk_ HB.out))); have n2_ := A_ (blk_below (pk_ BK256.out) hb); have n3_ := A_ (below_step (bk_ HB.out) hb); clear HO261 BK256 HB; have HO261 := n0_; have HO265 := n1_; have BK256 := n2_; have HB := n3_; clear n0_ n1_ n2_ n3_; (try clear hb); (try clear hb2); (try clear hk); (try clear hi); (try clear ho0); have hcz187_0 : w186.cell? ⟨gb256, 0, none⟩ = some (.int .i64 a0_0) := (blk_cell BK256.out 0).trans rfl; have hcz187_1 : w186.cell? ⟨gb256, 1, none⟩ = some (.slice A0_1 l0_1.length c0_1) := (blk_cell BK256.out 1).trans rfl; have hcz187_2 : w186.cell? ⟨gb256, 2, none⟩ = some (.slice A0_2 l0_2.length c0_2) := (blk_cell BK256.out 2).trans rfl; have hfz187_0 := blk_frozen BK256.out 0; have hfz187_1 := blk_frozen BK256.out 1; have hfz187_2 := blk_frozen BK256.out 2) | ((with_reducible refine gate_callee (f := 16) rfl ?_); refine goesL_ (some 50) rfl rfl Try.func16 (by kernel_rfl) rfl #[.agg #[.int .i64 a0_0, .slice A0_1 l0_1.length c0_1, .slice A0_2 l0_2.length c0_2]] rfl gl_ ?_; (with_reducible refine (standstillref07_Valid.calls kj3 a0_0 _ _ l0_1 _ _ l0_2 false _ ?side1 ?side2 ?side3 ?side4 A21.out).mono ?_); (case side1 => exact ck_ (Kd.C_below HR0_1.out HB.out)); (case side2 => exact HC0_1.out); (case side3 => exact ck_ (Kd.C_below HR0_2.out HB.out)); (case side4 => exact HC0_2.out); rintro e w188 ⟨rfl, hb⟩; refine ⟨_, rfl, ?_⟩; have n0_ := A_ (Kd.R_below (rk_ HO261.out) hb); have n1_ := A_ (Kd.R_below (rk_ HO265.out) hb); have n2_ := A_ (blk_below (pk_ BK256.out) hb); have n3_ := A_ (below_step (bk_ HB.out) hb); clear HO261 HO265 BK256 HB; have HO261 := n0_; have HO265 := n1_; have BK256 := n2_; have HB := n3_; clear n0_ n1_ n2_ n3_; (try clear hb); (try clear hb2); (try clear hk); (try clear hi); have hcz189_0 : w188.cell? ⟨gb256, 0, none⟩ = some (.int .i64 a0_0) := (blk_cell BK256.out 0).trans rfl; have hcz189_1 : w188.cell? ⟨gb256, 1, none⟩ = some (.slice A0_1 l0_1.length c0_1) := (blk_cell BK256.out 1).trans rfl; have hcz189_2 : w188.cell? ⟨gb256, 2, none⟩ = some (.slice A0_2 l0_2.length c0_2) := (blk_cell BK256.out 2).trans rfl; have hfz189_0 := blk_frozen BK256.out 0; have hfz189_1 := blk_frozen BK256.out 1; have hfz189_2 := blk_frozen BK256.out 2) | ((with_reducible refine gate_callee (f := 35) rfl ?_); refine goesL_ (some 54) rfl rfl Try.func35 (by kernel_rfl) rfl #[.agg #[.int .i64 a0_0, .slice A0_1 l0_1.length c0_1, .slice A0_2 l0_2.length c0_2]] rfl gl_ ?_; (with_reducible refine (tag_ToCyclic.calls kj3 a0_0 _ _ l0_1 _ _ l0_2 t268 t271 _ ?side1 ?side2 ?side3 ?side4 A162.out).mono ?_); (case side1 => exact ck_ (Kd.C_below HR0_1.out HB.out)); (case side2 => exact HC0_1.out); (case side3 => exact ck_ (Kd.C_below HR0_2.out HB.out)); (case side4 => exact HC0_2.out); rintro e w190 ⟨v269, rfl, ho0, hb⟩; refine ⟨_, rfl, ?_⟩; have n0_ := A_ (Kd.R_below (rk_ HO261.out) hb); have n1_ := A_ (Kd.R_below (rk_ HO265.out) hb); have n2_ := A_ (Kd.S_lower (Kd.S_new' (Kd.S_new' ho0 (Kd.R_lt (rk_ HO261.out))) (Kd.R_lt (rk_ HO265.out))) (below_size (bk_ HB.out))); have n3_ := A_ (blk_below (pk_ BK256.out) hb); have n4_ := A_ (below_step (bk_ HB.out) hb); clear HO261 HO265 BK256 HB; have HO261 := n0_; have HO265 := n1_; have HO270 := n2_; have BK256 := n3_; have HB := n4_; clear n0_ n1_ n2_ n3_ n4_; (try clear hb); (try clear hb2); (try clear hk); (try clear hi); (try clear ho0)) | ((with_reducible refine gate_dst (N := 11) rfl ?_); (try (refine gate_guard (by rfl) ?_; dsimp only)); refine box_event ?hg (N := 11) ?hd (cs := #[.slice none 0 0]) (t := 45) ?hr ?_; (case hd => rfl); (case hg => rfl); (case hr => first | (go_simp; done) | (go_simp; rfl)); intro gb272 hg w191 hbox hb; have n0_ := A_ (Kd.R_below (rk_ HO261.out) hb); have n1_ := A_ (Kd.R_below (rk_ HO265.out) hb); have n2_ := A_ (Kd.S_below (by (with_reducible repeat (first | apply Kd.S_alloc | apply Kd.S_drewN | apply Kd.S_drew)); exact HO270.out) hb); have n3_ := A_ (blk_below (pk_ BK256.out) hb); have n4_ := A_ (below_step (bk_ HB.out) hb); have n5_ := A_ (hbox); have n6_ := A_ ((by rw [hg]; exact (below_size (bk_ HB.out)) : w.heap.size ≤ gb272)); have n7_ := A_ ((by rw [hg]; exact (below_size (bk_ HB.out)) : w.heap.size ≤ gb272)); have n8_ := A_ ((by rw [hg]; exact Nat.ne_of_lt (blk_lt (pk_ BK256.out)) : gb256 ≠ gb272)); have n9_ := A_ ((by rw [hg]; exact Nat.ne_of_gt (blk_lt (pk_ BK256.out)) : gb272 ≠ gb256)); clear HO261 HO265 HO270 BK256 HB; have HO261 := n0_; have HO265 := n1_; have HO270 := n2_; have BK256 := n3_; have HB := n4_; have BK272 := n5_; have GW272 := n6_; have GE272 := n7_; have NB256_272 := n8_; have NB272_256 := n9_; clear n0_ n1_ n2_ n3_ n4_ n5_ n6_ n7_ n8_ n9_ hb hbox hg; obtain ⟨Ao192, co192, eo192⟩ := Kd.S_slice HO270.out; subst eo192; have hnb193 := NB272_256.out; have hnc193 := NB256_272.out; have hcz194_0 : w191.cell? ⟨gb272, 0, none⟩ = some (.slice none 0 0) := (blk_cell BK272.out 0).trans rfl; have hfz194_0 := blk_frozen BK272.out 0; obtain ⟨Ao195, co195, eo195⟩ := Kd.R_slice HO261.out; subst eo195; obtain ⟨Ao196, co196, eo196⟩ := Kd.R_slice HO265.out; subst eo196))
         go_ret
         exact ⟨by first | rfl | (simp [errW_none, errW_some] <;> rfl) | (simp [*, errW_none, errW_some] <;> rfl), bk_ HB.out⟩
       ·rw [if_neg c165] at H
        have c165b0 : (t271 == 1) = false := beq_eq_false_iff_ne.mpr c165
        have c165b1 : (t271 != 1) = true := bne_iff_ne.mpr c165
        obtain rfl := Option.some.inj H
        have hcz197_0 : wc.cell? ⟨gb256, 0, none⟩ = some (.int .i64 a0_0) := (blk_cell BK256.out 0).trans rfl
        have hcz197_1 : wc.cell? ⟨gb256, 1, none⟩ = some (.slice A0_1 l0_1.length c0_1) := (blk_cell BK256.out 1).trans rfl
        have hcz197_2 : wc.cell? ⟨gb256, 2, none⟩ = some (.slice A0_2 l0_2.length c0_2) := (blk_cell BK256.out 2).trans rfl
        have hfz197_0 := blk_frozen BK256.out 0
        have hfz197_1 := blk_frozen BK256.out 1
        have hfz197_2 := blk_frozen BK256.out 2
        go_wp2_with (first | ((with_reducible refine gate_callee (f := 33) rfl ?_); refine goesL_ (some 40) rfl rfl Try.func33 (by kernel_rfl) rfl #[.agg #[.int .i64 a0_0, .slice A0_1 l0_1.length c0_1, .slice A0_2 l0_2.length c0_2], .slice A1 l1.length c1] rfl gl_ ?_; (with_reducible refine (tag_Bits.calls kj3 a0_0 _ _ l0_1 _ _ l0_2 _ _ l1 t259 t262 _ ?side1 ?side2 ?side3 ?side4 ?side5 ?side6 A19.out).mono ?_); (case side1 => exact ck_ (Kd.C_below HR0_1.out HB.out)); (case side2 => exact HC0_1.out); (case side3 => exact ck_ (Kd.C_below HR0_2.out HB.out)); (case side4 => exact HC0_2.out); (case side5 => exact ck_ (Kd.C_below HR1.out HB.out)); (case side6 => exact HC1.out); rintro e w198 ⟨v260, rfl, ho0, hb⟩; refine ⟨_, rfl, ?_⟩; have n0_ := A_ (Kd.R_lower ho0 (below_size (bk_ HB.out))); have n1_ := A_ (blk_below (pk_ BK256.out) hb); have n2_ := A_ (below_step (bk_ HB.out) hb); clear BK256 HB; have HO261 := n0_; have BK256 := n1_; have HB := n2_; clear n0_ n1_ n2_; (try clear hb); (try clear hb2); (try clear hk); (try clear hi); (try clear ho0); have hcz199_0 : w198.cell? ⟨gb256, 0, none⟩ = some (.int .i64 a0_0) := (blk_cell BK256.out 0).trans rfl; have hcz199_1 : w198.cell? ⟨gb256, 1, none⟩ = some (.slice A0_1 l0_1.length c0_1) := (blk_cell BK256.out 1).trans rfl; have hcz199_2 : w198.cell? ⟨gb256, 2, none⟩ = some (.slice A0_2 l0_2.length c0_2) := (blk_cell BK256.out 2).trans rfl; have hfz199_0 := blk_frozen BK256.out 0; have hfz199_1 := blk_frozen BK256.out 1; have hfz199_2 := blk_frozen BK256.out 2) | ((with_reducible refine gate_callee (f := 34) rfl ?_); refine goesL_ (some 46) rfl rfl Try.func34 (by kernel_rfl) rfl #[.agg #[.int .i64 a0_0, .slice A0_1 l0_1.length c0_1, .slice A0_2 l0_2.length c0_2], .slice A2 l2.length c2] rfl gl_ ?_; (with_reducible refine (tag_Letters.calls kj3 a0_0 _ _ l0_1 _ _ l0_2 _ _ l2 t263 t266 _ ?side1 ?side2 ?side3 ?side4 ?side5 ?side6 A20.out).mono ?_); (case side1 => exact ck_ (Kd.C_below HR0_1.out HB.out)); (case side2 => exact HC0_1.out); (case side3 => exact ck_ (Kd.C_below HR0_2.out HB.out)); (case side4 => exact HC0_2.out); (case side5 => exact ck_ (Kd.C_below HR2.out HB.out)); (case side6 => exact HC2.out); rintro e w200 ⟨v264, rfl, ho0, hb⟩; refine ⟨_, rfl, ?_⟩; have n0_ := A_ (Kd.R_elder' (rk_ HO261.out) (Kd.R_base ho0) hb); have n1_ := A_ (Kd.R_lower (Kd.R_new' ho0 (Kd.R_lt (rk_ HO261.out))) (below_size (bk_ HB.out))); have n2_ := A_ (blk_below (pk_ BK256.out) hb); have n3_ := A_ (below_step (bk_ HB.out) hb); clear HO261 BK256 HB; have HO261 := n0_; have HO265 := n1_; have BK256 := n2_; have HB := n3_; clear n0_ n1_ n2_ n3_; (try clear hb); (try clear hb2); (try clear hk); (try clear hi); (try clear ho0); have hcz201_0 : w200.cell? ⟨gb256, 0, none⟩ = some (.int .i64 a0_0) := (blk_cell BK256.out 0).trans rfl; have hcz201_1 : w200.cell? ⟨gb256, 1, none⟩ = some (.slice A0_1 l0_1.length c0_1) := (blk_cell BK256.out 1).trans rfl; have hcz201_2 : w200.cell? ⟨gb256, 2, none⟩ = some (.slice A0_2 l0_2.length c0_2) := (blk_cell BK256.out 2).trans rfl; have hfz201_0 := blk_frozen BK256.out 0; have hfz201_1 := blk_frozen BK256.out 1; have hfz201_2 := blk_frozen BK256.out 2) | ((with_reducible refine gate_callee (f := 16) rfl ?_); refine goesL_ (some 50) rfl rfl Try.func16 (by kernel_rfl) rfl #[.agg #[.int .i64 a0_0, .slice A0_1 l0_1.length c0_1, .slice A0_2 l0_2.length c0_2]] rfl gl_ ?_; (with_reducible refine (standstillref07_Valid.calls kj3 a0_0 _ _ l0_1 _ _ l0_2 false _ ?side1 ?side2 ?side3 ?side4 A21.out).mono ?_); (case side1 => exact ck_ (Kd.C_below HR0_1.out HB.out)); (case side2 => exact HC0_1.out); (case side3 => exact ck_ (Kd.C_below HR0_2.out HB.out)); (case side4 => exact HC0_2.out); rintro e w202 ⟨rfl, hb⟩; refine ⟨_, rfl, ?_⟩; have n0_ := A_ (Kd.R_below (rk_ HO261.out) hb); have n1_ := A_ (Kd.R_below (rk_ HO265.out) hb); have n2_ := A_ (blk_below (pk_ BK256.out) hb); have n3_ := A_ (below_step (bk_ HB.out) hb); clear HO261 HO265 BK256 HB; have HO261 := n0_; have HO265 := n1_; have BK256 := n2_; have HB := n3_; clear n0_ n1_ n2_ n3_; (try clear hb); (try clear hb2); (try clear hk); (try clear hi); have hcz203_0 : w202.cell? ⟨gb256, 0, none⟩ = some (.int .i64 a0_0) := (blk_cell BK256.out 0).trans rfl; have hcz203_1 : w202.cell? ⟨gb256, 1, none⟩ = some (.slice A0_1 l0_1.length c0_1) := (blk_cell BK256.out 1).trans rfl; have hcz203_2 : w202.cell? ⟨gb256, 2, none⟩ = some (.slice A0_2 l0_2.length c0_2) := (blk_cell BK256.out 2).trans rfl; have hfz203_0 := blk_frozen BK256.out 0; have hfz203_1 := blk_frozen BK256.out 1; have hfz203_2 := blk_frozen BK256.out 2) | ((with_reducible refine gate_callee (f := 35) rfl ?_); refine goesL_ (some 54) rfl rfl Try.func35 (by kernel_rfl) rfl #[.agg #[.int .i64 a0_0, .slice A0_1 l0_1.length c0_1, .slice A0_2 l0_2.length c0_2]] rfl gl_ ?_; (with_reducible refine (tag_ToCyclic.calls kj3 a0_0 _ _ l0_1 _ _ l0_2 t268 t271 _ ?side1 ?side2 ?side3 ?side4 A162.out).mono ?_); (case side1 => exact ck_ (Kd.C_below HR0_1.out HB.out)); (case side2 => exact HC0_1.out); (case side3 => exact ck_ (Kd.C_below HR0_2.out HB.out)); (case side4 => exact HC0_2.out); rintro e w204 ⟨v269, rfl, ho0, hb⟩; refine ⟨_, rfl, ?_⟩; have n0_ := A_ (Kd.R_below (rk_ HO261.out) hb); have n1_ := A_ (Kd.R_below (rk_ HO265.out) hb); have n2_ := A_ (Kd.S_lower (Kd.S_new' (Kd.S_new' ho0 (Kd.R_lt (rk_ HO261.out))) (Kd.R_lt (rk_ HO265.out))) (below_size (bk_ HB.out))); have n3_ := A_ (blk_below (pk_ BK256.out) hb); have n4_ := A_ (below_step (bk_ HB.out) hb); clear HO261 HO265 BK256 HB; have HO261 := n0_; have HO265 := n1_; have HO270 := n2_; have BK256 := n3_; have HB := n4_; clear n0_ n1_ n2_ n3_ n4_; (try clear hb); (try clear hb2); (try clear hk); (try clear hi); (try clear ho0)) | ((with_reducible refine gate_dst (N := 11) rfl ?_); (try (refine gate_guard (by rfl) ?_; dsimp only)); refine box_event ?hg (N := 11) ?hd (cs := #[.slice none 0 0]) (t := 45) ?hr ?_; (case hd => rfl); (case hg => rfl); (case hr => first | (go_simp; done) | (go_simp; rfl)); intro gb272 hg w205 hbox hb; have n0_ := A_ (Kd.R_below (rk_ HO261.out) hb); have n1_ := A_ (Kd.R_below (rk_ HO265.out) hb); have n2_ := A_ (Kd.S_below (by (with_reducible repeat (first | apply Kd.S_alloc | apply Kd.S_drewN | apply Kd.S_drew)); exact HO270.out) hb); have n3_ := A_ (blk_below (pk_ BK256.out) hb); have n4_ := A_ (below_step (bk_ HB.out) hb); have n5_ := A_ (hbox); have n6_ := A_ ((by rw [hg]; exact (below_size (bk_ HB.out)) : w.heap.size ≤ gb272)); have n7_ := A_ ((by rw [hg]; exact (below_size (bk_ HB.out)) : w.heap.size ≤ gb272)); have n8_ := A_ ((by rw [hg]; exact Nat.ne_of_lt (blk_lt (pk_ BK256.out)) : gb256 ≠ gb272)); have n9_ := A_ ((by rw [hg]; exact Nat.ne_of_gt (blk_lt (pk_ BK256.out)) : gb272 ≠ gb256)); clear HO261 HO265 HO270 BK256 HB; have HO261 := n0_; have HO265 := n1_; have HO270 := n2_; have BK256 := n3_; have HB := n4_; have BK272 := n5_; have GW272 := n6_; have GE272 := n7_; have NB256_272 := n8_; have NB272_256 := n9_; clear n0_ n1_ n2_ n3_ n4_ n5_ n6_ n7_ n8_ n9_ hb hbox hg; obtain ⟨Ao206, co206, eo206⟩ := Kd.S_slice HO270.out; subst eo206; have hnb207 := NB272_256.out; have hnc207 := NB256_272.out; have hcz208_0 : w205.cell? ⟨gb272, 0, none⟩ = some (.slice none 0 0) := (blk_cell BK272.out 0).trans rfl; have hfz208_0 := blk_frozen BK272.out 0))
        go_ret
        exact ⟨by first | rfl | (simp [errW_none, errW_some] <;> rfl) | (simp [*, errW_none, errW_some] <;> rfl), bk_ HB.out⟩
      ·rw [if_neg c164] at H
       have c164b0 : (t266 == 1) = false := beq_eq_false_iff_ne.mpr c164
       have c164b1 : (t266 != 1) = true := bne_iff_ne.mpr c164
       obtain rfl := Option.some.inj H
       have hcz209_0 : wc.cell? ⟨gb256, 0, none⟩ = some (.int .i64 a0_0) := (blk_cell BK256.out 0).trans rfl
       have hcz209_1 : wc.cell? ⟨gb256, 1, none⟩ = some (.slice A0_1 l0_1.length c0_1) := (blk_cell BK256.out 1).trans rfl
       have hcz209_2 : wc.cell? ⟨gb256, 2, none⟩ = some (.slice A0_2 l0_2.length c0_2) := (blk_cell BK256.out 2).trans rfl
       have hfz209_0 := blk_frozen BK256.out 0
       have hfz209_1 := blk_frozen BK256.out 1
       have hfz209_2 := blk_frozen BK256.out 2
       go_wp2_with (first | ((with_reducible refine gate_callee (f := 33) rfl ?_); refine goesL_ (some 40) rfl rfl Try.func33 (by kernel_rfl) rfl #[.agg #[.int .i64 a0_0, .slice A0_1 l0_1.length c0_1, .slice A0_2 l0_2.length c0_2], .slice A1 l1.length c1] rfl gl_ ?_; (with_reducible refine (tag_Bits.calls kj3 a0_0 _ _ l0_1 _ _ l0_2 _ _ l1 t259 t262 _ ?side1 ?side2 ?side3 ?side4 ?side5 ?side6 A19.out).mono ?_); (case side1 => exact ck_ (Kd.C_below HR0_1.out HB.out)); (case side2 => exact HC0_1.out); (case side3 => exact ck_ (Kd.C_below HR0_2.out HB.out)); (case side4 => exact HC0_2.out); (case side5 => exact ck_ (Kd.C_below HR1.out HB.out)); (case side6 => exact HC1.out); rintro e w210 ⟨v260, rfl, ho0, hb⟩; refine ⟨_, rfl, ?_⟩; have n0_ := A_ (Kd.R_lower ho0 (below_size (bk_ HB.out))); have n1_ := A_ (blk_below (pk_ BK256.out) hb); have n2_ := A_ (below_step (bk_ HB.out) hb); clear BK256 HB; have HO261 := n0_; have BK256 := n1_; have HB := n2_; clear n0_ n1_ n2_; (try clear hb); (try clear hb2); (try clear hk); (try clear hi); (try clear ho0); have hcz211_0 : w210.cell? ⟨gb256, 0, none⟩ = some (.int .i64 a0_0) := (blk_cell BK256.out 0).trans rfl; have hcz211_1 : w210.cell? ⟨gb256, 1, none⟩ = some (.slice A0_1 l0_1.length c0_1) := (blk_cell BK256.out 1).trans rfl; have hcz211_2 : w210.cell? ⟨gb256, 2, none⟩ = some (.slice A0_2 l0_2.length c0_2) := (blk_cell BK256.out 2).trans rfl; have hfz211_0 := blk_frozen BK256.out 0; have hfz211_1 := blk_frozen BK256.out 1; have hfz211_2 := blk_frozen BK256.out 2) | ((with_reducible refine gate_callee (f := 34) rfl ?_); refine goesL_ (some 46) rfl rfl Try.func34 (by kernel_rfl) rfl #[.agg #[.int .i64 a0_0, .slice A0_1 l0_1.length c0_1, .slice A0_2 l0_2.length c0_2], .slice A2 l2.length c2] rfl gl_ ?_; (with_reducible refine (tag_Letters.calls kj3 a0_0 _ _ l0_1 _ _ l0_2 _ _ l2 t263 t266 _ ?side1 ?side2 ?side3 ?side4 ?side5 ?side6 A20.out).mono ?_); (case side1 => exact ck_ (Kd.C_below HR0_1.out HB.out)); (case side2 => exact HC0_1.out); (case side3 => exact ck_ (Kd.C_below HR0_2.out HB.out)); (case side4 => exact HC0_2.out); (case side5 => exact ck_ (Kd.C_below HR2.out HB.out)); (case side6 => exact HC2.out); rintro e w212 ⟨v264, rfl, ho0, hb⟩; refine ⟨_, rfl, ?_⟩; have n0_ := A_ (Kd.R_elder' (rk_ HO261.out) (Kd.R_base ho0) hb); have n1_ := A_ (Kd.R_lower (Kd.R_new' ho0 (Kd.R_lt (rk_ HO261.out))) (below_size (bk_ HB.out))); have n2_ := A_ (blk_below (pk_ BK256.out) hb); have n3_ := A_ (below_step (bk_ HB.out) hb); clear HO261 BK256 HB; have HO261 := n0_; have HO265 := n1_; have BK256 := n2_; have HB := n3_; clear n0_ n1_ n2_ n3_; (try clear hb); (try clear hb2); (try clear hk); (try clear hi); (try clear ho0); have hcz213_0 : w212.cell? ⟨gb256, 0, none⟩ = some (.int .i64 a0_0) := (blk_cell BK256.out 0).trans rfl; have hcz213_1 : w212.cell? ⟨gb256, 1, none⟩ = some (.slice A0_1 l0_1.length c0_1) := (blk_cell BK256.out 1).trans rfl; have hcz213_2 : w212.cell? ⟨gb256, 2, none⟩ = some (.slice A0_2 l0_2.length c0_2) := (blk_cell BK256.out 2).trans rfl; have hfz213_0 := blk_frozen BK256.out 0; have hfz213_1 := blk_frozen BK256.out 1; have hfz213_2 := blk_frozen BK256.out 2) | ((with_reducible refine gate_callee (f := 16) rfl ?_); refine goesL_ (some 50) rfl rfl Try.func16 (by kernel_rfl) rfl #[.agg #[.int .i64 a0_0, .slice A0_1 l0_1.length c0_1, .slice A0_2 l0_2.length c0_2]] rfl gl_ ?_; (with_reducible refine (standstillref07_Valid.calls kj3 a0_0 _ _ l0_1 _ _ l0_2 false _ ?side1 ?side2 ?side3 ?side4 A21.out).mono ?_); (case side1 => exact ck_ (Kd.C_below HR0_1.out HB.out)); (case side2 => exact HC0_1.out); (case side3 => exact ck_ (Kd.C_below HR0_2.out HB.out)); (case side4 => exact HC0_2.out); rintro e w214 ⟨rfl, hb⟩; refine ⟨_, rfl, ?_⟩; have n0_ := A_ (Kd.R_below (rk_ HO261.out) hb); have n1_ := A_ (Kd.R_below (rk_ HO265.out) hb); have n2_ := A_ (blk_below (pk_ BK256.out) hb); have n3_ := A_ (below_step (bk_ HB.out) hb); clear HO261 HO265 BK256 HB; have HO261 := n0_; have HO265 := n1_; have BK256 := n2_; have HB := n3_; clear n0_ n1_ n2_ n3_; (try clear hb); (try clear hb2); (try clear hk); (try clear hi); have hcz215_0 : w214.cell? ⟨gb256, 0, none⟩ = some (.int .i64 a0_0) := (blk_cell BK256.out 0).trans rfl; have hcz215_1 : w214.cell? ⟨gb256, 1, none⟩ = some (.slice A0_1 l0_1.length c0_1) := (blk_cell BK256.out 1).trans rfl; have hcz215_2 : w214.cell? ⟨gb256, 2, none⟩ = some (.slice A0_2 l0_2.length c0_2) := (blk_cell BK256.out 2).trans rfl; have hfz215_0 := blk_frozen BK256.out 0; have hfz215_1 := blk_frozen BK256.out 1; have hfz215_2 := blk_frozen BK256.out 2) | ((with_reducible refine gate_callee (f := 35) rfl ?_); refine goesL_ (some 54) rfl rfl Try.func35 (by kernel_rfl) rfl #[.agg #[.int .i64 a0_0, .slice A0_1 l0_1.length c0_1, .slice A0_2 l0_2.length c0_2]] rfl gl_ ?_; (with_reducible refine (tag_ToCyclic.calls kj3 a0_0 _ _ l0_1 _ _ l0_2 t268 t271 _ ?side1 ?side2 ?side3 ?side4 A162.out).mono ?_); (case side1 => exact ck_ (Kd.C_below HR0_1.out HB.out)); (case side2 => exact HC0_1.out); (case side3 => exact ck_ (Kd.C_below HR0_2.out HB.out)); (case side4 => exact HC0_2.out); rintro e w216 ⟨v269, rfl, ho0, hb⟩; refine ⟨_, rfl, ?_⟩; have n0_ := A_ (Kd.R_below (rk_ HO261.out) hb); have n1_ := A_ (Kd.R_below (rk_ HO265.out) hb); have n2_ := A_ (Kd.S_lower (Kd.S_new' (Kd.S_new' ho0 (Kd.R_lt (rk_ HO261.out))) (Kd.R_lt (rk_ HO265.out))) (below_size (bk_ HB.out))); have n3_ := A_ (blk_below (pk_ BK256.out) hb); have n4_ := A_ (below_step (bk_ HB.out) hb); clear HO261 HO265 BK256 HB; have HO261 := n0_; have HO265 := n1_; have HO270 := n2_; have BK256 := n3_; have HB := n4_; clear n0_ n1_ n2_ n3_ n4_; (try clear hb); (try clear hb2); (try clear hk); (try clear hi); (try clear ho0)) | ((with_reducible refine gate_dst (N := 11) rfl ?_); (try (refine gate_guard (by rfl) ?_; dsimp only)); refine box_event ?hg (N := 11) ?hd (cs := #[.slice none 0 0]) (t := 45) ?hr ?_; (case hd => rfl); (case hg => rfl); (case hr => first | (go_simp; done) | (go_simp; rfl)); intro gb272 hg w217 hbox hb; have n0_ := A_ (Kd.R_below (rk_ HO261.out) hb); have n1_ := A_ (Kd.R_below (rk_ HO265.out) hb); have n2_ := A_ (Kd.S_below (by (with_reducible repeat (first | apply Kd.S_alloc | apply Kd.S_drewN | apply Kd.S_drew)); exact HO270.out) hb); have n3_ := A_ (blk_below (pk_ BK256.out) hb); have n4_ := A_ (below_step (bk_ HB.out) hb); have n5_ := A_ (hbox); have n6_ := A_ ((by rw [hg]; exact (below_size (bk_ HB.out)) : w.heap.size ≤ gb272)); have n7_ := A_ ((by rw [hg]; exact (below_size (bk_ HB.out)) : w.heap.size ≤ gb272)); have n8_ := A_ ((by rw [hg]; exact Nat.ne_of_lt (blk_lt (pk_ BK256.out)) : gb256 ≠ gb272)); have n9_ := A_ ((by rw [hg]; exact Nat.ne_of_gt (blk_lt (pk_ BK256.out)) : gb272 ≠ gb256)); clear HO261 HO265 HO270 BK256 HB; have HO261 := n0_; have HO265 := n1_; have HO270 := n2_; have BK256 := n3_; have HB := n4_; have BK272 := n5_; have GW272 := n6_; have GE272 := n7_; have NB256_272 := n8_; have NB272_256 := n9_; clear n0_ n1_ n2_ n3_ n4_ n5_ n6_ n7_ n8_ n9_ hb hbox hg; obtain ⟨Ao218, co218, eo218⟩ := Kd.S_slice HO270.out; subst eo218; have hnb219 := NB272_256.out; have hnc219 := NB256_272.out; have hcz220_0 : w217.cell? ⟨gb272, 0, none⟩ = some (.slice none 0 0) := (blk_cell BK272.out 0).trans rfl; have hfz220_0 := blk_frozen BK272.out 0))
       go_ret
       exact ⟨by first | rfl | (simp [errW_none, errW_some] <;> rfl) | (simp [*, errW_none, errW_some] <;> rfl), bk_ HB.out⟩
     ·rw [if_neg c163] at H
      have c163b0 : (t262 == 1) = false := beq_eq_false_iff_ne.mpr c163
      have c163b1 : (t262 != 1) = true := bne_iff_ne.mpr c163
      obtain rfl := Option.some.inj H
      have hcz221_0 : wc.cell? ⟨gb256, 0, none⟩ = some (.int .i64 a0_0) := (blk_cell BK256.out 0).trans rfl
      have hcz221_1 : wc.cell? ⟨gb256, 1, none⟩ = some (.slice A0_1 l0_1.length c0_1) := (blk_cell BK256.out 1).trans rfl
      have hcz221_2 : wc.cell? ⟨gb256, 2, none⟩ = some (.slice A0_2 l0_2.length c0_2) := (blk_cell BK256.out 2).trans rfl
      have hfz221_0 := blk_frozen BK256.out 0
      have hfz221_1 := blk_frozen BK256.out 1
      have hfz221_2 := blk_frozen BK256.out 2
      go_wp2_with (first | ((with_reducible refine gate_callee (f := 33) rfl ?_); refine goesL_ (some 40) rfl rfl Try.func33 (by kernel_rfl) rfl #[.agg #[.int .i64 a0_0, .slice A0_1 l0_1.length c0_1, .slice A0_2 l0_2.length c0_2], .slice A1 l1.length c1] rfl gl_ ?_; (with_reducible refine (tag_Bits.calls kj3 a0_0 _ _ l0_1 _ _ l0_2 _ _ l1 t259 t262 _ ?side1 ?side2 ?side3 ?side4 ?side5 ?side6 A19.out).mono ?_); (case side1 => exact ck_ (Kd.C_below HR0_1.out HB.out)); (case side2 => exact HC0_1.out); (case side3 => exact ck_ (Kd.C_below HR0_2.out HB.out)); (case side4 => exact HC0_2.out); (case side5 => exact ck_ (Kd.C_below HR1.out HB.out)); (case side6 => exact HC1.out); rintro e w222 ⟨v260, rfl, ho0, hb⟩; refine ⟨_, rfl, ?_⟩; have n0_ := A_ (Kd.R_lower ho0 (below_size (bk_ HB.out))); have n1_ := A_ (blk_below (pk_ BK256.out) hb); have n2_ := A_ (below_step (bk_ HB.out) hb); clear BK256 HB; have HO261 := n0_; have BK256 := n1_; have HB := n2_; clear n0_ n1_ n2_; (try clear hb); (try clear hb2); (try clear hk); (try clear hi); (try clear ho0); have hcz223_0 : w222.cell? ⟨gb256, 0, none⟩ = some (.int .i64 a0_0) := (blk_cell BK256.out 0).trans rfl; have hcz223_1 : w222.cell? ⟨gb256, 1, none⟩ = some (.slice A0_1 l0_1.length c0_1) := (blk_cell BK256.out 1).trans rfl; have hcz223_2 : w222.cell? ⟨gb256, 2, none⟩ = some (.slice A0_2 l0_2.length c0_2) := (blk_cell BK256.out 2).trans rfl; have hfz223_0 := blk_frozen BK256.out 0; have hfz223_1 := blk_frozen BK256.out 1; have hfz223_2 := blk_frozen BK256.out 2) | ((with_reducible refine gate_callee (f := 34) rfl ?_); refine goesL_ (some 46) rfl rfl Try.func34 (by kernel_rfl) rfl #[.agg #[.int .i64 a0_0, .slice A0_1 l0_1.length c0_1, .slice A0_2 l0_2.length c0_2], .slice A2 l2.length c2] rfl gl_ ?_; (with_reducible refine (tag_Letters.calls kj3 a0_0 _ _ l0_1 _ _ l0_2 _ _ l2 t263 t266 _ ?side1 ?side2 ?side3 ?side4 ?side5 ?side6 A20.out).mono ?_); (case side1 => exact ck_ (Kd.C_below HR0_1.out HB.out)); (case side2 => exact HC0_1.out); (case side3 => exact ck_ (Kd.C_below HR0_2.out HB.out)); (case side4 => exact HC0_2.out); (case side5 => exact ck_ (Kd.C_below HR2.out HB.out)); (case side6 => exact HC2.out); rintro e w224 ⟨v264, rfl, ho0, hb⟩; refine ⟨_, rfl, ?_⟩; have n0_ := A_ (Kd.R_elder' (rk_ HO261.out) (Kd.R_base ho0) hb); have n1_ := A_ (Kd.R_lower (Kd.R_new' ho0 (Kd.R_lt (rk_ HO261.out))) (below_size (bk_ HB.out))); have n2_ := A_ (blk_below (pk_ BK256.out) hb); have n3_ := A_ (below_step (bk_ HB.out) hb); clear HO261 BK256 HB; have HO261 := n0_; have HO265 := n1_; have BK256 := n2_; have HB := n3_; clear n0_ n1_ n2_ n3_; (try clear hb); (try clear hb2); (try clear hk); (try clear hi); (try clear ho0); have hcz225_0 : w224.cell? ⟨gb256, 0, none⟩ = some (.int .i64 a0_0) := (blk_cell BK256.out 0).trans rfl; have hcz225_1 : w224.cell? ⟨gb256, 1, none⟩ = some (.slice A0_1 l0_1.length c0_1) := (blk_cell BK256.out 1).trans rfl; have hcz225_2 : w224.cell? ⟨gb256, 2, none⟩ = some (.slice A0_2 l0_2.length c0_2) := (blk_cell BK256.out 2).trans rfl; have hfz225_0 := blk_frozen BK256.out 0; have hfz225_1 := blk_frozen BK256.out 1; have hfz225_2 := blk_frozen BK256.out 2) | ((with_reducible refine gate_callee (f := 16) rfl ?_); refine goesL_ (some 50) rfl rfl Try.func16 (by kernel_rfl) rfl #[.agg #[.int .i64 a0_0, .slice A0_1 l0_1.length c0_1, .slice A0_2 l0_2.length c0_2]] rfl gl_ ?_; (with_reducible refine (standstillref07_Valid.calls kj3 a0_0 _ _ l0_1 _ _ l0_2 false _ ?side1 ?side2 ?side3 ?side4 A21.out).mono ?_); (case side1 => exact ck_ (Kd.C_below HR0_1.out HB.out)); (case side2 => exact HC0_1.out); (case side3 => exact ck_ (Kd.C_below HR0_2.out HB.out)); (case side4 => exact HC0_2.out); rintro e w226 ⟨rfl, hb⟩; refine ⟨_, rfl, ?_⟩; have n0_ := A_ (Kd.R_below (rk_ HO261.out) hb); have n1_ := A_ (Kd.R_below (rk_ HO265.out) hb); have n2_ := A_ (blk_below (pk_ BK256.out) hb); have n3_ := A_ (below_step (bk_ HB.out) hb); clear HO261 HO265 BK256 HB; have HO261 := n0_; have HO265 := n1_; have BK256 := n2_; have HB := n3_; clear n0_ n1_ n2_ n3_; (try clear hb); (try clear hb2); (try clear hk); (try clear hi); have hcz227_0 : w226.cell? ⟨gb256, 0, none⟩ = some (.int .i64 a0_0) := (blk_cell BK256.out 0).trans rfl; have hcz227_1 : w226.cell? ⟨gb256, 1, none⟩ = some (.slice A0_1 l0_1.length c0_1) := (blk_cell BK256.out 1).trans rfl; have hcz227_2 : w226.cell? ⟨gb256, 2, none⟩ = some (.slice A0_2 l0_2.length c0_2) := (blk_cell BK256.out 2).trans rfl; have hfz227_0 := blk_frozen BK256.out 0; have hfz227_1 := blk_frozen BK256.out 1; have hfz227_2 := blk_frozen BK256.out 2) | ((with_reducible refine gate_callee (f := 35) rfl ?_); refine goesL_ (some 54) rfl rfl Try.func35 (by kernel_rfl) rfl #[.agg #[.int .i64 a0_0, .slice A0_1 l0_1.length c0_1, .slice A0_2 l0_2.length c0_2]] rfl gl_ ?_; (with_reducible refine (tag_ToCyclic.calls kj3 a0_0 _ _ l0_1 _ _ l0_2 t268 t271 _ ?side1 ?side2 ?side3 ?side4 A162.out).mono ?_); (case side1 => exact ck_ (Kd.C_below HR0_1.out HB.out)); (case side2 => exact HC0_1.out); (case side3 => exact ck_ (Kd.C_below HR0_2.out HB.out)); (case side4 => exact HC0_2.out); rintro e w228 ⟨v269, rfl, ho0, hb⟩; refine ⟨_, rfl, ?_⟩; have n0_ := A_ (Kd.R_below (rk_ HO261.out) hb); have n1_ := A_ (Kd.R_below (rk_ HO265.out) hb); have n2_ := A_ (Kd.S_lower (Kd.S_new' (Kd.S_new' ho0 (Kd.R_lt (rk_ HO261.out))) (Kd.R_lt (rk_ HO265.out))) (below_size (bk_ HB.out))); have n3_ := A_ (blk_below (pk_ BK256.out) hb); have n4_ := A_ (below_step (bk_ HB.out) hb); clear HO261 HO265 BK256 HB; have HO261 := n0_; have HO265 := n1_; have HO270 := n2_; have BK256 := n3_; have HB := n4_; clear n0_ n1_ n2_ n3_ n4_; (try clear hb); (try clear hb2); (try clear hk); (try clear hi); (try clear ho0)) | ((with_reducible refine gate_dst (N := 11) rfl ?_); (try (refine gate_guard (by rfl) ?_; dsimp only)); refine box_event ?hg (N := 11) ?hd (cs := #[.slice none 0 0]) (t := 45) ?hr ?_; (case hd => rfl); (case hg => rfl); (case hr => first | (go_simp; done) | (go_simp; rfl)); intro gb272 hg w229 hbox hb; have n0_ := A_ (Kd.R_below (rk_ HO261.out) hb); have n1_ := A_ (Kd.R_below (rk_ HO265.out) hb); have n2_ := A_ (Kd.S_below (by (with_reducible repeat (first | apply Kd.S_alloc | apply Kd.S_drewN | apply Kd.S_drew)); exact HO270.out) hb); have n3_ := A_ (blk_below (pk_ BK256.out) hb); have n4_ := A_ (below_step (bk_ HB.out) hb); have n5_ := A_ (hbox); have n6_ := A_ ((by rw [hg]; exact (below_size (bk_ HB.out)) : w.heap.size ≤ gb272)); have n7_ := A_ ((by rw [hg]; exact (below_size (bk_ HB.out)) : w.heap.size ≤ gb272)); have n8_ := A_ ((by rw [hg]; exact Nat.ne_of_lt (blk_lt (pk_ BK256.out)) : gb256 ≠ gb272)); have n9_ := A_ ((by rw [hg]; exact Nat.ne_of_gt (blk_lt (pk_ BK256.out)) : gb272 ≠ gb256)); clear HO261 HO265 HO270 BK256 HB; have HO261 := n0_; have HO265 := n1_; have HO270 := n2_; have BK256 := n3_; have HB := n4_; have BK272 := n5_; have GW272 := n6_; have GE272 := n7_; have NB256_272 := n8_; have NB272_256 := n9_; clear n0_ n1_ n2_ n3_ n4_ n5_ n6_ n7_ n8_ n9_ hb hbox hg; obtain ⟨Ao230, co230, eo230⟩ := Kd.S_slice HO270.out; subst eo230; have hnb231 := NB272_256.out; have hnc231 := NB256_272.out; have hcz232_0 : w229.cell? ⟨gb272, 0, none⟩ = some (.slice none 0 0) := (blk_cell BK272.out 0).trans rfl; have hfz232_0 := blk_frozen BK272.out 0))
      go_ret
      exact ⟨by first | rfl | (simp [errW_none, errW_some] <;> rfl) | (simp [*, errW_none, errW_some] <;> rfl), bk_ HB.out⟩

/-- THE ONE PURE STATEMENT of standstilllaw07_TagCodes. -/
def standstilllaw07_TagCodes.Pure : Prop := ∀ (a0_0 : Int) (l0_1 : List (List Int)) (l0_2 : List Bool) (l1 : List Int) (l2 : List Int), ((Lit.int .i64 a0_0).wf = true) → (l0_1.length * 24 ≤ 140737488351232 ∧ ∀ y_ ∈ l0_1, (y_.length * 8 ≤ 140737488351232 ∧ ∀ y__ ∈ y_, (Lit.int .i64 y__).wf = true)) → (l0_2.length * 1 ≤ 140737488351232 ∧ ∀ y_ ∈ l0_2, True) → (l1.length * 8 ≤ 140737488351232 ∧ ∀ y_ ∈ l1, (Lit.int .i64 y_).wf = true) → (l2.length * 8 ≤ 140737488351232 ∧ ∀ y_ ∈ l2, (Lit.int .i64 y_).wf = true) → ∃ k, standstilllaw07_TagCodes.f k a0_0 l0_1 l0_2 l1 l2 = some true

end Go.Proofs.Ytkinnaegedbanaa.PTagCodes
