-- out of a turned copy of the print, by a program of this session; Lean checks it
import Derived.Test.YtkinnaegedbanaaPTagPartsx0
import Derived.Test.YtkinnaegedbanaaPTagPartsx1
import Derived.Test.YtkinnaegedbanaaPTagPartsx3
import Derived.Test.YtkinnaegedbanaaPTagPartsx4
import Derived.Test.YtkinnaegedbanaaPTagPartsx5
namespace Go.Proofs.Ytkinnaegedbanaa.PTagParts
open Go.RowKit Go.Proofs.YtkinnaegedbanaaW.PrintWords Go.Proofs.YtkinnaegedbanaaW.PrintLast Go.Proofs.YtkinnaegedbanaaW.PrintMore
attribute [local go_sem] max2_int min2_int max_two min_two max_three min_three max_four min_four   -- for this text's walks alone
set_option linter.unusedVariables false
set_option linter.unusedSimpArgs false

attribute [local go_sem] isSome_put_
/-! ### standstilllaw07_TagParts: function 6 -/
mutual
def standstilllaw07_TagParts.j0 : Nat → List Int → Int → Int → Bool → Int → List (List Int) → List Bool → List (List Int) → Int → List Int → Option (Bool)
 | 0, _, _, _, _, _, _, _, _, _, _ => none
 | k + 1, x1, x4, x5, x38, x219000, x219001, x219002, x220000, x221000, x221001 => if x38 = true then ((standstilllaw07_awake.f k).bind fun t223 => (some t223)) else ((tag_Run.f k x219000 x219001 x219002 x1 (wrap64 ((wrap64 (x4)) + (wrap64 (x5))))).bind fun bt224 => ((tag_Run.f k x219000 x219001 x219002 x1 (wrap64 (x4))).bind fun bt229 => (if bt229.2.2 = 0 then ((tag_Run.f k x219000 x219001 x219002 bt229.1 (wrap64 (x5))).bind fun bt234 => (if bt224.2.2 = bt234.2.2 then ((standstillref07_Same.f k bt224.1 bt234.1).bind fun t239 => (if t239 = true then (if bt224.2.2 = 0 then (if bt224.2.1 = (wrap64 (bt229.2.1 + bt234.2.1)) then (standstilllaw07_TagParts.j1 k x1 x4 x5 x219000 x219001 x219002 x220000 x221000 x221001) else (some false)) else (standstilllaw07_TagParts.j1 k x1 x4 x5 x219000 x219001 x219002 x220000 x221000 x221001)) else (some false))) else (some false))) else (if bt224.2.2 = bt229.2.2 then (standstilllaw07_TagParts.j1 k x1 x4 x5 x219000 x219001 x219002 x220000 x221000 x221001) else (some false)))))
def standstilllaw07_TagParts.j1 : Nat → List Int → Int → Int → Int → List (List Int) → List Bool → List (List Int) → Int → List Int → Option (Bool)
 | 0, _, _, _, _, _, _, _, _, _ => none
 | k + 1, x1, x4, x5, x219000, x219001, x219002, x220000, x221000, x221001 => (tag_Step.f k x219000 x219001 x219002 x1).bind fun bt240 => (if bt240.2 = 0 then ((standstillref07_Fits.f k x219000 x219001 x219002 x1).bind fun t244 => (if t244 = true then (if (x1.length : Int) = 0 then (standstilllaw07_TagParts.j2 k x4 x5 true x220000 x221000 x221001) else (if 0 < (x1.length : Int) then (if 0 ≤ (rd x1 0) then (if (rd x1 0) < (x219001.length : Int) then (standstilllaw07_TagParts.j2 k x4 x5 ((bt240.1.length : Int) != (wrap64 ((wrap64 ((x1.length : Int) + ((rd_L1 x219001 (rd x1 0)).length : Int))) - x219000))) x220000 x221000 x221001) else (none)) else (none)) else (none))) else (standstilllaw07_TagParts.j2 k x4 x5 true x220000 x221000 x221001))) else (standstilllaw07_TagParts.j2 k x4 x5 false x220000 x221000 x221001))
def standstilllaw07_TagParts.j2 : Nat → Int → Int → Bool → List (List Int) → Int → List Int → Option (Bool)
 | 0, _, _, _, _, _, _ => none
 | k + 1, x4, x5, x132, x220000, x221000, x221001 => if x132 = true then (some false) else ((tag_Roll.f k x220000 x221000 x221001 (wrap64 ((wrap64 (x4)) + (wrap64 (x5))))).bind fun bt247 => ((tag_Roll.f k x220000 x221000 x221001 (wrap64 (x4))).bind fun bt254 => (if bt254.2.2.2 = 0 then ((tag_Roll.f k x220000 bt254.1 bt254.2.1 (wrap64 (x5))).bind fun bt261 => (if bt247.2.2.2 = bt261.2.2.2 then ((standstillref07_SameWheel.f k bt247.1 bt247.2.1 bt261.1 bt261.2.1).bind fun t268 => (if t268 = true then (if bt247.2.2.2 = 0 then (if bt247.2.2.1 = (wrap64 (bt254.2.2.1 + bt261.2.2.1)) then ((standstilllaw07_awake.f k).bind fun t269 => (some t269)) else (some false)) else ((standstilllaw07_awake.f k).bind fun t270 => (some t270))) else (some false))) else (some false))) else (if bt247.2.2.2 = bt254.2.2.2 then ((standstilllaw07_awake.f k).bind fun t271 => (some t271)) else (some false)))))
end
def standstilllaw07_TagParts.f (k : Nat) (a0_0 : Int) (l0_1 : List (List Int)) (l0_2 : List Bool) (l1 : List Int) (l2_0 : List (List Int)) (a3_0 : Int) (l3_1 : List Int) (a4 : Int) (a5 : Int) : Option (Bool) := (standstilllaw07_wide.f k a0_0 l0_1 l0_2 l1).bind fun t221 => (if t221 = true then (standstilllaw07_TagParts.j0 k l1 a4 a5 true a0_0 l0_1 l0_2 l2_0 a3_0 l3_1) else ((standstilllaw07_wideCyclic.f k l2_0 a3_0 l3_1).bind fun t222 => (standstilllaw07_TagParts.j0 k l1 a4 a5 t222 a0_0 l0_1 l0_2 l2_0 a3_0 l3_1)))
theorem standstilllaw07_TagParts.mono_l : ∀ k, (∀ y0 y1 y2 y3 y4 y5 y6 y7 y8 y9, LeO (standstilllaw07_TagParts.j0 k y0 y1 y2 y3 y4 y5 y6 y7 y8 y9) (standstilllaw07_TagParts.j0 (k + 1) y0 y1 y2 y3 y4 y5 y6 y7 y8 y9)) ∧ (∀ y0 y1 y2 y3 y4 y5 y6 y7 y8, LeO (standstilllaw07_TagParts.j1 k y0 y1 y2 y3 y4 y5 y6 y7 y8) (standstilllaw07_TagParts.j1 (k + 1) y0 y1 y2 y3 y4 y5 y6 y7 y8)) ∧ (∀ y0 y1 y2 y3 y4 y5, LeO (standstilllaw07_TagParts.j2 k y0 y1 y2 y3 y4 y5) (standstilllaw07_TagParts.j2 (k + 1) y0 y1 y2 y3 y4 y5))
 | 0 => ⟨fun _ _ _ _ _ _ _ _ _ _ r h => by simp [standstilllaw07_TagParts.j0] at h, fun _ _ _ _ _ _ _ _ _ r h => by simp [standstilllaw07_TagParts.j1] at h, fun _ _ _ _ _ _ r h => by simp [standstilllaw07_TagParts.j2] at h⟩
 | k + 1 => by
  obtain ⟨ih0, ih1, ih2⟩ := standstilllaw07_TagParts.mono_l k
  refine ⟨?_, ?_, ?_⟩
  ·intro y0 y1 y2 y3 y4 y5 y6 y7 y8 y9
   unfold standstilllaw07_TagParts.j0
   repeat' first
   | (with_reducible exact ih0 _ _ _ _ _ _ _ _ _ _)
   | (with_reducible exact ih1 _ _ _ _ _ _ _ _ _)
   | (with_reducible exact ih2 _ _ _ _ _ _)
   | (with_reducible exact standstilllaw07_awake.mono _)
   | (with_reducible exact standstilllaw07_wide.mono _ _ _ _ _)
   | (with_reducible exact standstilllaw07_wideCyclic.mono _ _ _ _)
   | (with_reducible exact standstillref07_Fits.mono _ _ _ _ _)
   | (with_reducible exact standstillref07_Same.mono _ _ _)
   | (with_reducible exact standstillref07_SameWheel.mono _ _ _ _ _)
   | (with_reducible exact tag_Roll.mono _ _ _ _ _)
   | (with_reducible exact tag_Run.mono _ _ _ _ _ _)
   | (with_reducible exact tag_Step.mono _ _ _ _ _)
   | (with_reducible exact LeO.refl _)
   | (with_reducible exact LeO.none _)
   | (with_reducible refine LeO.ite ?_ ?_)
   | (with_reducible refine LeO.bind ?_ (fun _ => ?_))
   | exact ih0 _ _ _ _ _ _ _ _ _ _
   | exact ih1 _ _ _ _ _ _ _ _ _
   | exact ih2 _ _ _ _ _ _
   | exact standstilllaw07_awake.mono _
   | exact standstilllaw07_wide.mono _ _ _ _ _
   | exact standstilllaw07_wideCyclic.mono _ _ _ _
   | exact standstillref07_Fits.mono _ _ _ _ _
   | exact standstillref07_Same.mono _ _ _
   | exact standstillref07_SameWheel.mono _ _ _ _ _
   | exact tag_Roll.mono _ _ _ _ _
   | exact tag_Run.mono _ _ _ _ _ _
   | exact tag_Step.mono _ _ _ _ _
   | exact LeO.none _
   | refine LeO.ite ?_ ?_
   | refine LeO.bind ?_ (fun _ => ?_)
  ·intro y0 y1 y2 y3 y4 y5 y6 y7 y8
   unfold standstilllaw07_TagParts.j1
   repeat' first
   | (with_reducible exact ih0 _ _ _ _ _ _ _ _ _ _)
   | (with_reducible exact ih1 _ _ _ _ _ _ _ _ _)
   | (with_reducible exact ih2 _ _ _ _ _ _)
   | (with_reducible exact standstilllaw07_awake.mono _)
   | (with_reducible exact standstilllaw07_wide.mono _ _ _ _ _)
   | (with_reducible exact standstilllaw07_wideCyclic.mono _ _ _ _)
   | (with_reducible exact standstillref07_Fits.mono _ _ _ _ _)
   | (with_reducible exact standstillref07_Same.mono _ _ _)
   | (with_reducible exact standstillref07_SameWheel.mono _ _ _ _ _)
   | (with_reducible exact tag_Roll.mono _ _ _ _ _)
   | (with_reducible exact tag_Run.mono _ _ _ _ _ _)
   | (with_reducible exact tag_Step.mono _ _ _ _ _)
   | (with_reducible exact LeO.refl _)
   | (with_reducible exact LeO.none _)
   | (with_reducible refine LeO.ite ?_ ?_)
   | (with_reducible refine LeO.bind ?_ (fun _ => ?_))
   | exact ih0 _ _ _ _ _ _ _ _ _ _
   | exact ih1 _ _ _ _ _ _ _ _ _
   | exact ih2 _ _ _ _ _ _
   | exact standstilllaw07_awake.mono _
   | exact standstilllaw07_wide.mono _ _ _ _ _
   | exact standstilllaw07_wideCyclic.mono _ _ _ _
   | exact standstillref07_Fits.mono _ _ _ _ _
   | exact standstillref07_Same.mono _ _ _
   | exact standstillref07_SameWheel.mono _ _ _ _ _
   | exact tag_Roll.mono _ _ _ _ _
   | exact tag_Run.mono _ _ _ _ _ _
   | exact tag_Step.mono _ _ _ _ _
   | exact LeO.none _
   | refine LeO.ite ?_ ?_
   | refine LeO.bind ?_ (fun _ => ?_)
  ·intro y0 y1 y2 y3 y4 y5
   unfold standstilllaw07_TagParts.j2
   repeat' first
   | (with_reducible exact ih0 _ _ _ _ _ _ _ _ _ _)
   | (with_reducible exact ih1 _ _ _ _ _ _ _ _ _)
   | (with_reducible exact ih2 _ _ _ _ _ _)
   | (with_reducible exact standstilllaw07_awake.mono _)
   | (with_reducible exact standstilllaw07_wide.mono _ _ _ _ _)
   | (with_reducible exact standstilllaw07_wideCyclic.mono _ _ _ _)
   | (with_reducible exact standstillref07_Fits.mono _ _ _ _ _)
   | (with_reducible exact standstillref07_Same.mono _ _ _)
   | (with_reducible exact standstillref07_SameWheel.mono _ _ _ _ _)
   | (with_reducible exact tag_Roll.mono _ _ _ _ _)
   | (with_reducible exact tag_Run.mono _ _ _ _ _ _)
   | (with_reducible exact tag_Step.mono _ _ _ _ _)
   | (with_reducible exact LeO.refl _)
   | (with_reducible exact LeO.none _)
   | (with_reducible refine LeO.ite ?_ ?_)
   | (with_reducible refine LeO.bind ?_ (fun _ => ?_))
   | exact ih0 _ _ _ _ _ _ _ _ _ _
   | exact ih1 _ _ _ _ _ _ _ _ _
   | exact ih2 _ _ _ _ _ _
   | exact standstilllaw07_awake.mono _
   | exact standstilllaw07_wide.mono _ _ _ _ _
   | exact standstilllaw07_wideCyclic.mono _ _ _ _
   | exact standstillref07_Fits.mono _ _ _ _ _
   | exact standstillref07_Same.mono _ _ _
   | exact standstillref07_SameWheel.mono _ _ _ _ _
   | exact tag_Roll.mono _ _ _ _ _
   | exact tag_Run.mono _ _ _ _ _ _
   | exact tag_Step.mono _ _ _ _ _
   | exact LeO.none _
   | refine LeO.ite ?_ ?_
   | refine LeO.bind ?_ (fun _ => ?_)
theorem standstilllaw07_TagParts.mono : ∀ a0 a1 a2 a3 a4 a5 a6 a7 a8 k, LeO (standstilllaw07_TagParts.f k a0 a1 a2 a3 a4 a5 a6 a7 a8) (standstilllaw07_TagParts.f (k + 1) a0 a1 a2 a3 a4 a5 a6 a7 a8) := by
 intro a0 a1 a2 a3 a4 a5 a6 a7 a8 k
 obtain ⟨ih0, ih1, ih2⟩ := standstilllaw07_TagParts.mono_l k
 unfold standstilllaw07_TagParts.f
 repeat' first
   | (with_reducible exact ih0 _ _ _ _ _ _ _ _ _ _)
   | (with_reducible exact ih1 _ _ _ _ _ _ _ _ _)
   | (with_reducible exact ih2 _ _ _ _ _ _)
   | (with_reducible exact standstilllaw07_awake.mono _)
   | (with_reducible exact standstilllaw07_wide.mono _ _ _ _ _)
   | (with_reducible exact standstilllaw07_wideCyclic.mono _ _ _ _)
   | (with_reducible exact standstillref07_Fits.mono _ _ _ _ _)
   | (with_reducible exact standstillref07_Same.mono _ _ _)
   | (with_reducible exact standstillref07_SameWheel.mono _ _ _ _ _)
   | (with_reducible exact tag_Roll.mono _ _ _ _ _)
   | (with_reducible exact tag_Run.mono _ _ _ _ _ _)
   | (with_reducible exact tag_Step.mono _ _ _ _ _)
   | (with_reducible exact LeO.refl _)
   | (with_reducible exact LeO.none _)
   | (with_reducible refine LeO.ite ?_ ?_)
   | (with_reducible refine LeO.bind ?_ (fun _ => ?_))
   | exact ih0 _ _ _ _ _ _ _ _ _ _
   | exact ih1 _ _ _ _ _ _ _ _ _
   | exact ih2 _ _ _ _ _ _
   | exact standstilllaw07_awake.mono _
   | exact standstilllaw07_wide.mono _ _ _ _ _
   | exact standstilllaw07_wideCyclic.mono _ _ _ _
   | exact standstillref07_Fits.mono _ _ _ _ _
   | exact standstillref07_Same.mono _ _ _
   | exact standstillref07_SameWheel.mono _ _ _ _ _
   | exact tag_Roll.mono _ _ _ _ _
   | exact tag_Run.mono _ _ _ _ _ _
   | exact tag_Step.mono _ _ _ _ _
   | exact LeO.none _
   | refine LeO.ite ?_ ?_
   | refine LeO.bind ?_ (fun _ => ?_)
def standstilllaw07_TagParts.T12 : Bool × List (List Nat × List Nat) := (true, [([], []), ([0], [0]), ([1], [1]), ([2], [2]), ([2], [2]), ([3, 4, 2, 2], [2, 3, 4]), ([5, 2], [2, 5]), ([6, 5, 2], [2, 6]), ([7], [7]), ([8, 7], [7, 8]), ([9, 7], [7, 9]), ([7, 10, 2], [2, 7, 10]), ([11, 7, 2], [2, 11]), ([12], [12]), ([13, 12], [12, 13]), ([12], [12]), ([15, 12], [12, 15]), ([12], [12]), ([17, 12], [12, 17]), ([12], [12]), ([19, 12], [12, 19]), ([20, 12], [12, 20]), ([18, 21, 12], [12, 18, 21]), ([22, 12], [12, 22]), ([23, 12], [12, 23]), ([16, 24, 12], [12, 16, 24]), ([12], [12]), ([26, 12], [12, 26]), ([25, 27, 12], [12, 25, 27]), ([14, 28, 12], [12, 14, 28]), ([12, 29, 2], [2, 12, 29]), ([2, 30], [2, 30])])
def standstilllaw07_TagParts.B12 : List Nat := [0, 1, 3, 7, 7, 31, 63, 127, 255, 511, 1023, 2047, 4095, 8191, 16383, 8191, 40959, 8191, 139263, 8191, 532479, 1581055, 4071423, 8265727, 16654335, 33529855, 8191, 67117055, 268410879, 536870911, 1073741823, 2147483647]
theorem standstilllaw07_TagParts.tab12 : rtab .any (opsOf Try.f6 12) = standstilllaw07_TagParts.T12 := by kernel_rfl
theorem standstilllaw07_TagParts.bits12 : waitsOk standstilllaw07_TagParts.T12.2 standstilllaw07_TagParts.B12 = true := by kernel_rfl
set_option maxHeartbeats 8000000 in
set_option maxRecDepth 100000 in
theorem standstilllaw07_TagParts.calls (k : Nat) (a0_0 : Int) (A0_1 : Option Addr) (c0_1 : Nat) (l0_1 : List (List Int)) (A0_2 : Option Addr) (c0_2 : Nat) (l0_2 : List Bool) (A1 : Option Addr) (c1 : Nat) (l1 : List Int) (A2_0 : Option Addr) (c2_0 : Nat) (l2_0 : List (List Int)) (a3_0 : Int) (A3_1 : Option Addr) (c3_1 : Nat) (l3_1 : List Int) (a4 : Int) (a5 : Int) (r : Bool) (w : World) (hr0_1 : Kd.C (Kd.slice 3 (Kd.int .i64)) w A0_1 l0_1.length l0_1) (hc0_1 : l0_1.length ≤ c0_1) (hr0_2 : Kd.C Kd.bool w A0_2 l0_2.length l0_2) (hc0_2 : l0_2.length ≤ c0_2) (hr1 : Kd.C (Kd.int .i64) w A1 l1.length l1) (hc1 : l1.length ≤ c1) (hr2_0 : Kd.C (Kd.slice 3 (Kd.int .i64)) w A2_0 l2_0.length l2_0) (hc2_0 : l2_0.length ≤ c2_0) (hr3_1 : Kd.C (Kd.int .i64) w A3_1 l3_1.length l3_1) (hc3_1 : l3_1.length ≤ c3_1) (h : standstilllaw07_TagParts.f k a0_0 l0_1 l0_2 l1 l2_0 a3_0 l3_1 a4 a5 = some r) :
  Calls Try.prog 6 #[.agg #[.int .i64 a0_0, .slice A0_1 l0_1.length c0_1, .slice A0_2 l0_2.length c0_2], .slice A1 l1.length c1, .agg #[.slice A2_0 l2_0.length c2_0], .agg #[.int .i64 a3_0, .slice A3_1 l3_1.length c3_1], .int .u8 a4, .int .u8 a5] w fun e w' => e = .returned (.bool r) ∧ Below w.heap.size w w' := by
 have hu25 := Try.underlying25
 have hu45 := Try.underlying45
 have hu47 := Try.underlying47
 have HR0_1 := Aside0.mk hr0_1
 have HC0_1 := Aside0.mk hc0_1
 clear hr0_1 hc0_1
 have HR0_2 := Aside0.mk hr0_2
 have HC0_2 := Aside0.mk hc0_2
 clear hr0_2 hc0_2
 have HR1 := Aside0.mk hr1
 have HC1 := Aside0.mk hc1
 clear hr1 hc1
 have HR2_0 := Aside0.mk hr2_0
 have HC2_0 := Aside0.mk hc2_0
 clear hr2_0 hc2_0
 have HR3_1 := Aside0.mk hr3_1
 have HC3_1 := Aside0.mk hc3_1
 clear hr3_1 hc3_1
 have HB := A_ (Below.refl w.heap.size w)
 have H : ((standstilllaw07_wide.f k a0_0 l0_1 l0_2 l1).bind fun t221 => (if t221 = true then (standstilllaw07_TagParts.j0 k l1 a4 a5 true a0_0 l0_1 l0_2 l2_0 a3_0 l3_1) else ((standstilllaw07_wideCyclic.f k l2_0 a3_0 l3_1).bind fun t222 => (standstilllaw07_TagParts.j0 k l1 a4 a5 t222 a0_0 l0_1 l0_2 l2_0 a3_0 l3_1)))) = some r := h
 clear h
 have HC7 := Aside0.mk H
 clear H
 go_enter Try.func6, Try.ntmps6
 go_upto_region 1 with (first | ((with_reducible refine gate_dst (N := 6) rfl ?_); (try (refine gate_guard (by rfl) ?_; dsimp only)); refine box_event ?hg (N := 6) ?hd (cs := #[.int .i64 a0_0, .slice A0_1 l0_1.length c0_1, .slice A0_2 l0_2.length c0_2]) (t := 25) ?hr ?_; (case hd => rfl); (case hg => rfl); (case hr => first | (go_simp; done) | (go_simp; rfl)); intro gb218 hg w8 hbox hb; have n0_ := A_ (below_step (bk_ HB.out) hb); have n1_ := A_ (hbox); have n2_ := A_ ((by rw [hg]; exact (below_size (bk_ HB.out)) : w.heap.size ≤ gb218)); have n3_ := A_ ((by rw [hg]; exact (below_size (bk_ HB.out)) : w.heap.size ≤ gb218)); clear HB; have HB := n0_; have BK218 := n1_; have GW218 := n2_; have GE218 := n3_; clear n0_ n1_ n2_ n3_ hb hbox hg) | ((with_reducible refine gate_dst (N := 8) rfl ?_); (try (refine gate_guard (by rfl) ?_; dsimp only)); refine box_event ?hg (N := 8) ?hd (cs := #[.slice A2_0 l2_0.length c2_0]) (t := 45) ?hr ?_; (case hd => rfl); (case hg => rfl); (case hr => first | (go_simp; done) | (go_simp; rfl)); intro gb219 hg w9 hbox hb; have n0_ := A_ (blk_below (pk_ BK218.out) hb); have n1_ := A_ (below_step (bk_ HB.out) hb); have n2_ := A_ (hbox); have n3_ := A_ ((by rw [hg]; exact (below_size (bk_ HB.out)) : w.heap.size ≤ gb219)); have n4_ := A_ ((by rw [hg]; exact (below_size (bk_ HB.out)) : w.heap.size ≤ gb219)); have n5_ := A_ ((by rw [hg]; exact Nat.ne_of_lt (blk_lt (pk_ BK218.out)) : gb218 ≠ gb219)); have n6_ := A_ ((by rw [hg]; exact Nat.ne_of_gt (blk_lt (pk_ BK218.out)) : gb219 ≠ gb218)); clear BK218 HB; have BK218 := n0_; have HB := n1_; have BK219 := n2_; have GW219 := n3_; have GE219 := n4_; have NB218_219 := n5_; have NB219_218 := n6_; clear n0_ n1_ n2_ n3_ n4_ n5_ n6_ hb hbox hg) | ((with_reducible refine gate_dst (N := 9) rfl ?_); (try (refine gate_guard (by rfl) ?_; dsimp only)); refine box_event ?hg (N := 9) ?hd (cs := #[.int .i64 a3_0, .slice A3_1 l3_1.length c3_1]) (t := 47) ?hr ?_; (case hd => rfl); (case hg => rfl); (case hr => first | (go_simp; done) | (go_simp; rfl)); intro gb220 hg w10 hbox hb; have n0_ := A_ (blk_below (pk_ BK218.out) hb); have n1_ := A_ (blk_below (pk_ BK219.out) hb); have n2_ := A_ (below_step (bk_ HB.out) hb); have n3_ := A_ (hbox); have n4_ := A_ ((by rw [hg]; exact (below_size (bk_ HB.out)) : w.heap.size ≤ gb220)); have n5_ := A_ ((by rw [hg]; exact (below_size (bk_ HB.out)) : w.heap.size ≤ gb220)); have n6_ := A_ ((by rw [hg]; exact Nat.ne_of_lt (blk_lt (pk_ BK218.out)) : gb218 ≠ gb220)); have n7_ := A_ ((by rw [hg]; exact Nat.ne_of_gt (blk_lt (pk_ BK218.out)) : gb220 ≠ gb218)); have n8_ := A_ ((by rw [hg]; exact Nat.ne_of_lt (blk_lt (pk_ BK219.out)) : gb219 ≠ gb220)); have n9_ := A_ ((by rw [hg]; exact Nat.ne_of_gt (blk_lt (pk_ BK219.out)) : gb220 ≠ gb219)); clear BK218 BK219 HB; have BK218 := n0_; have BK219 := n1_; have HB := n2_; have BK220 := n3_; have GW220 := n4_; have GE220 := n5_; have NB218_220 := n6_; have NB220_218 := n7_; have NB219_220 := n8_; have NB220_219 := n9_; clear n0_ n1_ n2_ n3_ n4_ n5_ n6_ n7_ n8_ n9_ hb hbox hg))
 (try simp only [Act.put, List.setIfInBounds_toArray, List.set_cons_zero, List.set_cons_succ])
 go_cut [38] (fun v38 wc => ∃ (kq : Nat) (x38_6 : Bool), v38 = .bool x38_6 ∧ Aside0 (standstilllaw07_TagParts.j0 kq l1 a4 a5 x38_6 a0_0 l0_1 l0_2 l2_0 a3_0 l3_1 = some r) ∧ Aside0 (kq ≤ k) ∧ Aside0 (wc.heap[gb218]? = some (.cells #[.int .i64 a0_0, (.slice A0_1 l0_1.length c0_1), (.slice A0_2 l0_2.length c0_2)] 25 (0, 0))) ∧ Aside0 (wc.heap[gb219]? = some (.cells #[(.slice A2_0 l2_0.length c2_0)] 45 (0, 0))) ∧ Aside0 (wc.heap[gb220]? = some (.cells #[.int .i64 a3_0, (.slice A3_1 l3_1.length c3_1)] 47 (0, 0))) ∧ Aside0 (Below w.heap.size w wc))
 case first => as_aux_lemma =>
  have H := HC7.out
  clear HC7
  replace H := Option.bind_eq_some_iff.mp H
  obtain ⟨t221, A110, H⟩ := H
  replace H : (if t221 = true then (standstilllaw07_TagParts.j0 k l1 a4 a5 true a0_0 l0_1 l0_2 l2_0 a3_0 l3_1) else ((standstilllaw07_wideCyclic.f k l2_0 a3_0 l3_1).bind fun t222 => (standstilllaw07_TagParts.j0 k l1 a4 a5 t222 a0_0 l0_1 l0_2 l2_0 a3_0 l3_1))) = some r := H
  have A11 := Aside0.mk A110
  clear A110
  by_cases c12 : t221 = true
  ·subst c12
   have H1 : (standstilllaw07_TagParts.j0 k l1 a4 a5 true a0_0 l0_1 l0_2 l2_0 a3_0 l3_1) = some r := by rw [if_pos rfl] at H; exact H
   clear H
   have H := H1
   clear H1
   have H' := Aside0.mk H
   clear H
   have hnb13 := NB218_219.out
   have hnc13 := NB219_218.out
   have hnb14 := NB218_220.out
   have hnc14 := NB220_218.out
   have hcz15_0 : w10.cell? ⟨gb218, 0, none⟩ = some (.int .i64 a0_0) := (blk_cell BK218.out 0).trans rfl
   have hcz15_1 : w10.cell? ⟨gb218, 1, none⟩ = some (.slice A0_1 l0_1.length c0_1) := (blk_cell BK218.out 1).trans rfl
   have hcz15_2 : w10.cell? ⟨gb218, 2, none⟩ = some (.slice A0_2 l0_2.length c0_2) := (blk_cell BK218.out 2).trans rfl
   have hfz15_0 := blk_frozen BK218.out 0
   have hfz15_1 := blk_frozen BK218.out 1
   have hfz15_2 := blk_frozen BK218.out 2
   go_wp2_with (first | ((with_reducible refine gate_callee (f := 9) rfl ?_); refine goesL_ (some 33) rfl rfl Try.func9 (by kernel_rfl) rfl #[.agg #[.int .i64 a0_0, .slice A0_1 l0_1.length c0_1, .slice A0_2 l0_2.length c0_2], .slice A1 l1.length c1] rfl gl_ ?_; (with_reducible refine (standstilllaw07_wide.calls k a0_0 _ _ l0_1 _ _ l0_2 _ _ l1 true _ ?side1 ?side2 ?side3 ?side4 ?side5 ?side6 A11.out).mono ?_); (case side1 => exact ck_ (Kd.C_below HR0_1.out HB.out)); (case side2 => exact HC0_1.out); (case side3 => exact ck_ (Kd.C_below HR0_2.out HB.out)); (case side4 => exact HC0_2.out); (case side5 => exact ck_ (Kd.C_below HR1.out HB.out)); (case side6 => exact HC1.out); rintro e w16 ⟨rfl, hb⟩; refine ⟨_, rfl, ?_⟩; have n0_ := A_ (blk_below (pk_ BK218.out) hb); have n1_ := A_ (blk_below (pk_ BK219.out) hb); have n2_ := A_ (blk_below (pk_ BK220.out) hb); have n3_ := A_ (below_step (bk_ HB.out) hb); clear BK218 BK219 BK220 HB; have BK218 := n0_; have BK219 := n1_; have BK220 := n2_; have HB := n3_; clear n0_ n1_ n2_ n3_; (try clear hb); (try clear hb2); (try clear hk); (try clear hi)))
   go_meet
   case rel => exact ⟨_, (true), jr_, H', ⟨by first | omega | exact Nat.le_refl _⟩, ⟨pk_ BK218.out⟩, ⟨pk_ BK219.out⟩, ⟨pk_ BK220.out⟩, ⟨bk_ HB.out⟩⟩
  ·replace c12 := Bool.eq_false_iff.mpr c12
   subst c12
   have H1 : ((standstilllaw07_wideCyclic.f k l2_0 a3_0 l3_1).bind fun t222 => (standstilllaw07_TagParts.j0 k l1 a4 a5 t222 a0_0 l0_1 l0_2 l2_0 a3_0 l3_1)) = some r := by rw [if_neg (show ¬ (false = true) by decide)] at H; exact H
   clear H
   have H := H1
   clear H1
   replace H := Option.bind_eq_some_iff.mp H
   obtain ⟨t222, A170, H⟩ := H
   replace H : (standstilllaw07_TagParts.j0 k l1 a4 a5 t222 a0_0 l0_1 l0_2 l2_0 a3_0 l3_1) = some r := H
   have A17 := Aside0.mk A170
   clear A170
   have H' := Aside0.mk H
   clear H
   have hnb18 := NB218_219.out
   have hnc18 := NB219_218.out
   have hnb19 := NB218_220.out
   have hnc19 := NB220_218.out
   have hcz20_0 : w10.cell? ⟨gb218, 0, none⟩ = some (.int .i64 a0_0) := (blk_cell BK218.out 0).trans rfl
   have hcz20_1 : w10.cell? ⟨gb218, 1, none⟩ = some (.slice A0_1 l0_1.length c0_1) := (blk_cell BK218.out 1).trans rfl
   have hcz20_2 : w10.cell? ⟨gb218, 2, none⟩ = some (.slice A0_2 l0_2.length c0_2) := (blk_cell BK218.out 2).trans rfl
   have hfz20_0 := blk_frozen BK218.out 0
   have hfz20_1 := blk_frozen BK218.out 1
   have hfz20_2 := blk_frozen BK218.out 2
   go_wp2_with (first | ((with_reducible refine gate_callee (f := 9) rfl ?_); refine goesL_ (some 33) rfl rfl Try.func9 (by kernel_rfl) rfl #[.agg #[.int .i64 a0_0, .slice A0_1 l0_1.length c0_1, .slice A0_2 l0_2.length c0_2], .slice A1 l1.length c1] rfl gl_ ?_; (with_reducible refine (standstilllaw07_wide.calls k a0_0 _ _ l0_1 _ _ l0_2 _ _ l1 false _ ?side1 ?side2 ?side3 ?side4 ?side5 ?side6 A11.out).mono ?_); (case side1 => exact ck_ (Kd.C_below HR0_1.out HB.out)); (case side2 => exact HC0_1.out); (case side3 => exact ck_ (Kd.C_below HR0_2.out HB.out)); (case side4 => exact HC0_2.out); (case side5 => exact ck_ (Kd.C_below HR1.out HB.out)); (case side6 => exact HC1.out); rintro e w21 ⟨rfl, hb⟩; refine ⟨_, rfl, ?_⟩; have n0_ := A_ (blk_below (pk_ BK218.out) hb); have n1_ := A_ (blk_below (pk_ BK219.out) hb); have n2_ := A_ (blk_below (pk_ BK220.out) hb); have n3_ := A_ (below_step (bk_ HB.out) hb); clear BK218 BK219 BK220 HB; have BK218 := n0_; have BK219 := n1_; have BK220 := n2_; have HB := n3_; clear n0_ n1_ n2_ n3_; (try clear hb); (try clear hb2); (try clear hk); (try clear hi); have hnb22 := NB219_220.out; have hnc22 := NB220_219.out; have hcz23_0 : w21.cell? ⟨gb219, 0, none⟩ = some (.slice A2_0 l2_0.length c2_0) := (blk_cell BK219.out 0).trans rfl; have hfz23_0 := blk_frozen BK219.out 0; have hcz24_0 : w21.cell? ⟨gb220, 0, none⟩ = some (.int .i64 a3_0) := (blk_cell BK220.out 0).trans rfl; have hcz24_1 : w21.cell? ⟨gb220, 1, none⟩ = some (.slice A3_1 l3_1.length c3_1) := (blk_cell BK220.out 1).trans rfl; have hfz24_0 := blk_frozen BK220.out 0; have hfz24_1 := blk_frozen BK220.out 1) | (go_at_call 23; (with_reducible refine (standstilllaw07_wideCyclic.calls k _ _ l2_0 a3_0 _ _ l3_1 t222 _ ?side1 ?side2 ?side3 ?side4 A17.out).mono ?_); (case side1 => exact ck_ (Kd.C_below HR2_0.out HB.out)); (case side2 => exact HC2_0.out); (case side3 => exact ck_ (Kd.C_below HR3_1.out HB.out)); (case side4 => exact HC3_1.out); rintro e w25 ⟨rfl, hb⟩; have n0_ := A_ (blk_below (pk_ BK218.out) hb); have n1_ := A_ (blk_below (pk_ BK219.out) hb); have n2_ := A_ (blk_below (pk_ BK220.out) hb); have n3_ := A_ (below_step (bk_ HB.out) hb); clear BK218 BK219 BK220 HB; have BK218 := n0_; have BK219 := n1_; have BK220 := n2_; have HB := n3_; clear n0_ n1_ n2_ n3_; (try clear hb); (try clear hb2); (try clear hk); (try clear hi)))
   go_meet
   case rel => exact ⟨_, (t222), jr_, H', ⟨by first | omega | exact Nat.le_refl _⟩, ⟨pk_ BK218.out⟩, ⟨pk_ BK219.out⟩, ⟨pk_ BK220.out⟩, ⟨bk_ HB.out⟩⟩
 case rest => as_aux_lemma =>
  clear HC7
  (try clear c1)
  obtain ⟨kq, x38_6, rfl, HA, HJ6, BK218, BK219, BK220, HB⟩ := hcut
  cases kq with
  | zero => exact absurd HA.out (by simp [standstilllaw07_TagParts.j0])
  | succ kj6 =>
   have H := HA.out
   clear HA
   simp only [standstilllaw07_TagParts.j0] at H
   by_cases c26 : x38_6 = true
   ·subst c26
    have H1 : ((standstilllaw07_awake.f kj6).bind fun t223 => (some t223)) = some r := by rw [if_pos rfl] at H; exact H
    clear H
    have H := H1
    clear H1
    replace H := Option.bind_eq_some_iff.mp H
    obtain ⟨t223, A270, H⟩ := H
    replace H : (some t223) = some r := H
    have A27 := Aside0.mk A270
    clear A270
    obtain rfl := Option.some.inj H
    go_wp2_with (first | ((with_reducible refine gate_callee (f := 11) rfl ?_); refine goesL_ (some 39) rfl rfl Try.func11 (by kernel_rfl) rfl #[] rfl gl_ ?_; (with_reducible refine (standstilllaw07_awake.calls kj6  t223 _ A27.out).mono ?_); rintro e w28 ⟨rfl, hb⟩; refine ⟨_, rfl, ?_⟩; have n0_ := A_ (blk_below (pk_ BK218.out) hb); have n1_ := A_ (blk_below (pk_ BK219.out) hb); have n2_ := A_ (blk_below (pk_ BK220.out) hb); have n3_ := A_ (below_step (bk_ HB.out) hb); clear BK218 BK219 BK220 HB; have BK218 := n0_; have BK219 := n1_; have BK220 := n2_; have HB := n3_; clear n0_ n1_ n2_ n3_; (try clear hb); (try clear hb2); (try clear hk); (try clear hi)))
    go_ret
    exact ⟨er_, bk_ HB.out⟩
   ·replace c26 := Bool.eq_false_iff.mpr c26
    subst c26
    have H1 : ((tag_Run.f kj6 a0_0 l0_1 l0_2 l1 (wrap64 ((wrap64 (a4)) + (wrap64 (a5))))).bind fun bt224 => ((tag_Run.f kj6 a0_0 l0_1 l0_2 l1 (wrap64 (a4))).bind fun bt229 => (if bt229.2.2 = 0 then ((tag_Run.f kj6 a0_0 l0_1 l0_2 bt229.1 (wrap64 (a5))).bind fun bt234 => (if bt224.2.2 = bt234.2.2 then ((standstillref07_Same.f kj6 bt224.1 bt234.1).bind fun t239 => (if t239 = true then (if bt224.2.2 = 0 then (if bt224.2.1 = (wrap64 (bt229.2.1 + bt234.2.1)) then (standstilllaw07_TagParts.j1 kj6 l1 a4 a5 a0_0 l0_1 l0_2 l2_0 a3_0 l3_1) else (some false)) else (standstilllaw07_TagParts.j1 kj6 l1 a4 a5 a0_0 l0_1 l0_2 l2_0 a3_0 l3_1)) else (some false))) else (some false))) else (if bt224.2.2 = bt229.2.2 then (standstilllaw07_TagParts.j1 kj6 l1 a4 a5 a0_0 l0_1 l0_2 l2_0 a3_0 l3_1) else (some false))))) = some r := by rw [if_neg (show ¬ (false = true) by decide)] at H; exact H
    clear H
    have H := H1
    clear H1
    replace H := Option.bind_eq_some_iff.mp H
    obtain ⟨⟨t224, t227, t228⟩, A290, H⟩ := H
    replace H : ((tag_Run.f kj6 a0_0 l0_1 l0_2 l1 (wrap64 (a4))).bind fun bt229 => (if bt229.2.2 = 0 then ((tag_Run.f kj6 a0_0 l0_1 l0_2 bt229.1 (wrap64 (a5))).bind fun bt234 => (if t228 = bt234.2.2 then ((standstillref07_Same.f kj6 t224 bt234.1).bind fun t239 => (if t239 = true then (if t228 = 0 then (if t227 = (wrap64 (bt229.2.1 + bt234.2.1)) then (standstilllaw07_TagParts.j1 kj6 l1 a4 a5 a0_0 l0_1 l0_2 l2_0 a3_0 l3_1) else (some false)) else (standstilllaw07_TagParts.j1 kj6 l1 a4 a5 a0_0 l0_1 l0_2 l2_0 a3_0 l3_1)) else (some false))) else (some false))) else (if t228 = bt229.2.2 then (standstilllaw07_TagParts.j1 kj6 l1 a4 a5 a0_0 l0_1 l0_2 l2_0 a3_0 l3_1) else (some false)))) = some r := H
    have A29 := Aside0.mk A290
    clear A290
    replace H := Option.bind_eq_some_iff.mp H
    obtain ⟨⟨t229, t232, t233⟩, A300, H⟩ := H
    replace H : (if t233 = 0 then ((tag_Run.f kj6 a0_0 l0_1 l0_2 t229 (wrap64 (a5))).bind fun bt234 => (if t228 = bt234.2.2 then ((standstillref07_Same.f kj6 t224 bt234.1).bind fun t239 => (if t239 = true then (if t228 = 0 then (if t227 = (wrap64 (t232 + bt234.2.1)) then (standstilllaw07_TagParts.j1 kj6 l1 a4 a5 a0_0 l0_1 l0_2 l2_0 a3_0 l3_1) else (some false)) else (standstilllaw07_TagParts.j1 kj6 l1 a4 a5 a0_0 l0_1 l0_2 l2_0 a3_0 l3_1)) else (some false))) else (some false))) else (if t228 = t233 then (standstilllaw07_TagParts.j1 kj6 l1 a4 a5 a0_0 l0_1 l0_2 l2_0 a3_0 l3_1) else (some false))) = some r := H
    have A30 := Aside0.mk A300
    clear A300
    have HC31 := Aside0.mk H
    clear H
    have hnb32 := NB218_219.out
    have hnc32 := NB219_218.out
    have hnb33 := NB218_220.out
    have hnc33 := NB220_218.out
    have hcz34_0 : wc.cell? ⟨gb218, 0, none⟩ = some (.int .i64 a0_0) := (blk_cell BK218.out 0).trans rfl
    have hcz34_1 : wc.cell? ⟨gb218, 1, none⟩ = some (.slice A0_1 l0_1.length c0_1) := (blk_cell BK218.out 1).trans rfl
    have hcz34_2 : wc.cell? ⟨gb218, 2, none⟩ = some (.slice A0_2 l0_2.length c0_2) := (blk_cell BK218.out 2).trans rfl
    have hfz34_0 := blk_frozen BK218.out 0
    have hfz34_1 := blk_frozen BK218.out 1
    have hfz34_2 := blk_frozen BK218.out 2
    go_upto_if 62 with (first | ((with_reducible refine gate_callee (f := 13) rfl ?_); refine goesL_ (some 48) rfl rfl Try.func13 (by kernel_rfl) rfl #[.agg #[.int .i64 a0_0, .slice A0_1 l0_1.length c0_1, .slice A0_2 l0_2.length c0_2], .slice A1 l1.length c1, .int .i64 (wrap64 ((wrap64 (a4)) + (wrap64 (a5))))] rfl gl_ ?_; (with_reducible refine (tag_Run.calls kj6 a0_0 _ _ l0_1 _ _ l0_2 _ _ l1 (wrap64 ((wrap64 (a4)) + (wrap64 (a5)))) t224 t227 t228 _ ?side1 ?side2 ?side3 ?side4 ?side5 ?side6 A29.out).mono ?_); (case side1 => exact ck_ (Kd.C_below HR0_1.out HB.out)); (case side2 => exact HC0_1.out); (case side3 => exact ck_ (Kd.C_below HR0_2.out HB.out)); (case side4 => exact HC0_2.out); (case side5 => exact ck_ (Kd.C_below HR1.out HB.out)); (case side6 => exact HC1.out); rintro e w35 ⟨v225, rfl, ho0, hb⟩; refine ⟨_, rfl, ?_⟩; have n0_ := A_ (Kd.R_lower ho0 (below_size (bk_ HB.out))); have n1_ := A_ (blk_below (pk_ BK218.out) hb); have n2_ := A_ (blk_below (pk_ BK219.out) hb); have n3_ := A_ (blk_below (pk_ BK220.out) hb); have n4_ := A_ (below_step (bk_ HB.out) hb); clear BK218 BK219 BK220 HB; have HO226 := n0_; have BK218 := n1_; have BK219 := n2_; have BK220 := n3_; have HB := n4_; clear n0_ n1_ n2_ n3_ n4_; (try clear hb); (try clear hb2); (try clear hk); (try clear hi); (try clear ho0); have hcz36_0 : w35.cell? ⟨gb218, 0, none⟩ = some (.int .i64 a0_0) := (blk_cell BK218.out 0).trans rfl; have hcz36_1 : w35.cell? ⟨gb218, 1, none⟩ = some (.slice A0_1 l0_1.length c0_1) := (blk_cell BK218.out 1).trans rfl; have hcz36_2 : w35.cell? ⟨gb218, 2, none⟩ = some (.slice A0_2 l0_2.length c0_2) := (blk_cell BK218.out 2).trans rfl; have hfz36_0 := blk_frozen BK218.out 0; have hfz36_1 := blk_frozen BK218.out 1; have hfz36_2 := blk_frozen BK218.out 2) | ((with_reducible refine gate_callee (f := 13) rfl ?_); refine goesL_ (some 57) rfl rfl Try.func13 (by kernel_rfl) rfl #[.agg #[.int .i64 a0_0, .slice A0_1 l0_1.length c0_1, .slice A0_2 l0_2.length c0_2], .slice A1 l1.length c1, .int .i64 (wrap64 (a4))] rfl gl_ ?_; (with_reducible refine (tag_Run.calls kj6 a0_0 _ _ l0_1 _ _ l0_2 _ _ l1 (wrap64 (a4)) t229 t232 t233 _ ?side1 ?side2 ?side3 ?side4 ?side5 ?side6 A30.out).mono ?_); (case side1 => exact ck_ (Kd.C_below HR0_1.out HB.out)); (case side2 => exact HC0_1.out); (case side3 => exact ck_ (Kd.C_below HR0_2.out HB.out)); (case side4 => exact HC0_2.out); (case side5 => exact ck_ (Kd.C_below HR1.out HB.out)); (case side6 => exact HC1.out); rintro e w37 ⟨v230, rfl, ho0, hb⟩; refine ⟨_, rfl, ?_⟩; have n0_ := A_ (Kd.R_elder' (rk_ HO226.out) (Kd.R_base ho0) hb); have n1_ := A_ (Kd.R_lower (Kd.R_new' ho0 (Kd.R_lt (rk_ HO226.out))) (below_size (bk_ HB.out))); have n2_ := A_ (blk_below (pk_ BK218.out) hb); have n3_ := A_ (blk_below (pk_ BK219.out) hb); have n4_ := A_ (blk_below (pk_ BK220.out) hb); have n5_ := A_ (below_step (bk_ HB.out) hb); clear HO226 BK218 BK219 BK220 HB; have HO226 := n0_; have HO231 := n1_; have BK218 := n2_; have BK219 := n3_; have BK220 := n4_; have HB := n5_; clear n0_ n1_ n2_ n3_ n4_ n5_; (try clear hb); (try clear hb2); (try clear hk); (try clear hi); (try clear ho0)))
    (try simp only [Act.put, List.setIfInBounds_toArray, List.set_cons_zero, List.set_cons_succ])
    go_cut [] (fun wc => ∃ (kq : Nat), Aside0 (standstilllaw07_TagParts.j1 kq l1 a4 a5 a0_0 l0_1 l0_2 l2_0 a3_0 l3_1 = some r) ∧ Aside0 (kq ≤ kj6) ∧ Aside0 (wc.heap[gb218]? = some (.cells #[.int .i64 a0_0, (.slice A0_1 l0_1.length c0_1), (.slice A0_2 l0_2.length c0_2)] 25 (0, 0))) ∧ Aside0 (wc.heap[gb219]? = some (.cells #[(.slice A2_0 l2_0.length c2_0)] 45 (0, 0))) ∧ Aside0 (wc.heap[gb220]? = some (.cells #[.int .i64 a3_0, (.slice A3_1 l3_1.length c3_1)] 47 (0, 0))) ∧ Aside0 (Below w.heap.size w wc))
    case first => as_aux_lemma =>
     have H := HC31.out
     clear HC31
     by_cases c38 : t233 = 0
     ·rw [if_pos c38] at H
      have c38b0 : (t233 == 0) = true := beq_iff_eq.mpr c38
      have c38b1 : (t233 != 0) = false := bne_eq_false_iff_eq.mpr c38
      clear c38
      (first | rw [c38b0] | (simp only [i64_w, i32_w]; rw [c38b0]) | skip)
      replace H := Option.bind_eq_some_iff.mp H
      obtain ⟨⟨t234, t237, t238⟩, A390, H⟩ := H
      replace H : (if t228 = t238 then ((standstillref07_Same.f kj6 t224 t234).bind fun t239 => (if t239 = true then (if t228 = 0 then (if t227 = (wrap64 (t232 + t237)) then (standstilllaw07_TagParts.j1 kj6 l1 a4 a5 a0_0 l0_1 l0_2 l2_0 a3_0 l3_1) else (some false)) else (standstilllaw07_TagParts.j1 kj6 l1 a4 a5 a0_0 l0_1 l0_2 l2_0 a3_0 l3_1)) else (some false))) else (some false)) = some r := H
      have A39 := Aside0.mk A390
      clear A390
      by_cases c40 : t228 = t238
      ·rw [if_pos c40] at H
       have c40b0 : (t228 == t238) = true := beq_iff_eq.mpr c40
       have c40b1 : (t228 != t238) = false := bne_eq_false_iff_eq.mpr c40
       clear c40
       replace H := Option.bind_eq_some_iff.mp H
       obtain ⟨t239, A410, H⟩ := H
       replace H : (if t239 = true then (if t228 = 0 then (if t227 = (wrap64 (t232 + t237)) then (standstilllaw07_TagParts.j1 kj6 l1 a4 a5 a0_0 l0_1 l0_2 l2_0 a3_0 l3_1) else (some false)) else (standstilllaw07_TagParts.j1 kj6 l1 a4 a5 a0_0 l0_1 l0_2 l2_0 a3_0 l3_1)) else (some false)) = some r := H
       have A41 := Aside0.mk A410
       clear A410
       by_cases c42 : t239 = true
       ·subst c42
        have H1 : (if t228 = 0 then (if t227 = (wrap64 (t232 + t237)) then (standstilllaw07_TagParts.j1 kj6 l1 a4 a5 a0_0 l0_1 l0_2 l2_0 a3_0 l3_1) else (some false)) else (standstilllaw07_TagParts.j1 kj6 l1 a4 a5 a0_0 l0_1 l0_2 l2_0 a3_0 l3_1)) = some r := by rw [if_pos rfl] at H; exact H
        clear H
        have H := H1
        clear H1
        by_cases c43 : t228 = 0
        ·rw [if_pos c43] at H
         have c43b0 : (t228 == 0) = true := beq_iff_eq.mpr c43
         have c43b1 : (t228 != 0) = false := bne_eq_false_iff_eq.mpr c43
         clear c43
         by_cases c44 : t227 = (wrap64 (t232 + t237))
         ·rw [if_pos c44] at H
          have c44b0 : (t227 == (wrap64 (t232 + t237))) = true := beq_iff_eq.mpr c44
          have c44b1 : (t227 != (wrap64 (t232 + t237))) = false := bne_eq_false_iff_eq.mpr c44
          clear c44
          have H' := Aside0.mk H
          clear H
          have hnb45 := NB218_219.out
          have hnc45 := NB219_218.out
          have hnb46 := NB218_220.out
          have hnc46 := NB220_218.out
          have hcz47_0 : w37.cell? ⟨gb218, 0, none⟩ = some (.int .i64 a0_0) := (blk_cell BK218.out 0).trans rfl
          have hcz47_1 : w37.cell? ⟨gb218, 1, none⟩ = some (.slice A0_1 l0_1.length c0_1) := (blk_cell BK218.out 1).trans rfl
          have hcz47_2 : w37.cell? ⟨gb218, 2, none⟩ = some (.slice A0_2 l0_2.length c0_2) := (blk_cell BK218.out 2).trans rfl
          have hfz47_0 := blk_frozen BK218.out 0
          have hfz47_1 := blk_frozen BK218.out 1
          have hfz47_2 := blk_frozen BK218.out 2
          obtain ⟨Ao48, co48, eo48⟩ := Kd.R_slice HO231.out
          subst eo48
          go_wp2_with (first | ((with_reducible refine gate_callee (f := 13) rfl ?_); refine goesL_ (some 68) rfl rfl Try.func13 (by kernel_rfl) rfl #[.agg #[.int .i64 a0_0, .slice A0_1 l0_1.length c0_1, .slice A0_2 l0_2.length c0_2], .slice Ao48 t229.length co48, .int .i64 (wrap64 (a5))] rfl gl_ ?_; (with_reducible refine (tag_Run.calls kj6 a0_0 _ _ l0_1 _ _ l0_2 _ _ t229 (wrap64 (a5)) t234 t237 t238 _ ?side1 ?side2 ?side3 ?side4 ?side5 ?side6 A39.out).mono ?_); (case side1 => exact ck_ (Kd.C_below HR0_1.out HB.out)); (case side2 => exact HC0_1.out); (case side3 => exact ck_ (Kd.C_below HR0_2.out HB.out)); (case side4 => exact HC0_2.out); (case side5 => repeat (first | exact (Kd.R_reads' HO231.out).2.2 | (with_reducible refine Kd.C_alloc ?_ _) | (with_reducible refine Kd.C_drewN ?_ _) | (with_reducible refine Kd.C_drew ?_))); (case side6 => exact (Kd.R_reads' HO231.out).2.1); rintro e w49 ⟨v235, rfl, ho0, hb⟩; refine ⟨_, rfl, ?_⟩; have n0_ := A_ (Kd.R_elder' (rk_ HO226.out) (Kd.R_base ho0) hb); have n1_ := A_ (Kd.R_elder' (rk_ HO231.out) (Kd.R_base ho0) hb); have n2_ := A_ (Kd.R_lower (Kd.R_new' (Kd.R_new' ho0 (Kd.R_lt (rk_ HO226.out))) (Kd.R_lt (rk_ HO231.out))) (below_size (bk_ HB.out))); have n3_ := A_ (blk_below (pk_ BK218.out) hb); have n4_ := A_ (blk_below (pk_ BK219.out) hb); have n5_ := A_ (blk_below (pk_ BK220.out) hb); have n6_ := A_ (below_step (bk_ HB.out) hb); clear HO226 HO231 BK218 BK219 BK220 HB; have HO226 := n0_; have HO231 := n1_; have HO236 := n2_; have BK218 := n3_; have BK219 := n4_; have BK220 := n5_; have HB := n6_; clear n0_ n1_ n2_ n3_ n4_ n5_ n6_; (try clear hb); (try clear hb2); (try clear hk); (try clear hi); (try clear ho0); obtain ⟨Ao50, co50, eo50⟩ := Kd.R_slice HO226.out; subst eo50; obtain ⟨Ao51, co51, eo51⟩ := Kd.R_slice HO236.out; subst eo51) | (go_at_call 14; (with_reducible refine (standstillref07_Same.calls kj6 _ _ t224 _ _ t234 true _ ?side1 ?side2 ?side3 ?side4 A41.out).mono ?_); (case side1 => repeat (first | exact (Kd.R_reads' HO226.out).2.2 | (with_reducible refine Kd.C_alloc ?_ _) | (with_reducible refine Kd.C_drewN ?_ _) | (with_reducible refine Kd.C_drew ?_))); (case side2 => exact (Kd.R_reads' HO226.out).2.1); (case side3 => repeat (first | exact (Kd.R_reads' HO236.out).2.2 | (with_reducible refine Kd.C_alloc ?_ _) | (with_reducible refine Kd.C_drewN ?_ _) | (with_reducible refine Kd.C_drew ?_))); (case side4 => exact (Kd.R_reads' HO236.out).2.1); rintro e w' ⟨rfl, ⟨nd, rfl⟩⟩))
          go_meet
          case rel => exact ⟨_, H', ⟨by have := HJ6.out; first | omega | exact Nat.le_refl _⟩, ⟨pk_ BK218.out⟩, ⟨pk_ BK219.out⟩, ⟨pk_ BK220.out⟩, ⟨bk_ HB.out⟩⟩
         ·rw [if_neg c44] at H
          have c44b0 : (t227 == (wrap64 (t232 + t237))) = false := beq_eq_false_iff_ne.mpr c44
          have c44b1 : (t227 != (wrap64 (t232 + t237))) = true := bne_iff_ne.mpr c44
          obtain rfl := Option.some.inj H
          have hnb52 := NB218_219.out
          have hnc52 := NB219_218.out
          have hnb53 := NB218_220.out
          have hnc53 := NB220_218.out
          have hcz54_0 : w37.cell? ⟨gb218, 0, none⟩ = some (.int .i64 a0_0) := (blk_cell BK218.out 0).trans rfl
          have hcz54_1 : w37.cell? ⟨gb218, 1, none⟩ = some (.slice A0_1 l0_1.length c0_1) := (blk_cell BK218.out 1).trans rfl
          have hcz54_2 : w37.cell? ⟨gb218, 2, none⟩ = some (.slice A0_2 l0_2.length c0_2) := (blk_cell BK218.out 2).trans rfl
          have hfz54_0 := blk_frozen BK218.out 0
          have hfz54_1 := blk_frozen BK218.out 1
          have hfz54_2 := blk_frozen BK218.out 2
          obtain ⟨Ao55, co55, eo55⟩ := Kd.R_slice HO231.out
          subst eo55
          go_wp2_with (first | ((with_reducible refine gate_callee (f := 13) rfl ?_); refine goesL_ (some 68) rfl rfl Try.func13 (by kernel_rfl) rfl #[.agg #[.int .i64 a0_0, .slice A0_1 l0_1.length c0_1, .slice A0_2 l0_2.length c0_2], .slice Ao55 t229.length co55, .int .i64 (wrap64 (a5))] rfl gl_ ?_; (with_reducible refine (tag_Run.calls kj6 a0_0 _ _ l0_1 _ _ l0_2 _ _ t229 (wrap64 (a5)) t234 t237 t238 _ ?side1 ?side2 ?side3 ?side4 ?side5 ?side6 A39.out).mono ?_); (case side1 => exact ck_ (Kd.C_below HR0_1.out HB.out)); (case side2 => exact HC0_1.out); (case side3 => exact ck_ (Kd.C_below HR0_2.out HB.out)); (case side4 => exact HC0_2.out); (case side5 => repeat (first | exact (Kd.R_reads' HO231.out).2.2 | (with_reducible refine Kd.C_alloc ?_ _) | (with_reducible refine Kd.C_drewN ?_ _) | (with_reducible refine Kd.C_drew ?_))); (case side6 => exact (Kd.R_reads' HO231.out).2.1); rintro e w56 ⟨v235, rfl, ho0, hb⟩; refine ⟨_, rfl, ?_⟩; have n0_ := A_ (Kd.R_elder' (rk_ HO226.out) (Kd.R_base ho0) hb); have n1_ := A_ (Kd.R_elder' (rk_ HO231.out) (Kd.R_base ho0) hb); have n2_ := A_ (Kd.R_lower (Kd.R_new' (Kd.R_new' ho0 (Kd.R_lt (rk_ HO226.out))) (Kd.R_lt (rk_ HO231.out))) (below_size (bk_ HB.out))); have n3_ := A_ (blk_below (pk_ BK218.out) hb); have n4_ := A_ (blk_below (pk_ BK219.out) hb); have n5_ := A_ (blk_below (pk_ BK220.out) hb); have n6_ := A_ (below_step (bk_ HB.out) hb); clear HO226 HO231 BK218 BK219 BK220 HB; have HO226 := n0_; have HO231 := n1_; have HO236 := n2_; have BK218 := n3_; have BK219 := n4_; have BK220 := n5_; have HB := n6_; clear n0_ n1_ n2_ n3_ n4_ n5_ n6_; (try clear hb); (try clear hb2); (try clear hk); (try clear hi); (try clear ho0); obtain ⟨Ao57, co57, eo57⟩ := Kd.R_slice HO226.out; subst eo57; obtain ⟨Ao58, co58, eo58⟩ := Kd.R_slice HO236.out; subst eo58) | (go_at_call 14; (with_reducible refine (standstillref07_Same.calls kj6 _ _ t224 _ _ t234 true _ ?side1 ?side2 ?side3 ?side4 A41.out).mono ?_); (case side1 => repeat (first | exact (Kd.R_reads' HO226.out).2.2 | (with_reducible refine Kd.C_alloc ?_ _) | (with_reducible refine Kd.C_drewN ?_ _) | (with_reducible refine Kd.C_drew ?_))); (case side2 => exact (Kd.R_reads' HO226.out).2.1); (case side3 => repeat (first | exact (Kd.R_reads' HO236.out).2.2 | (with_reducible refine Kd.C_alloc ?_ _) | (with_reducible refine Kd.C_drewN ?_ _) | (with_reducible refine Kd.C_drew ?_))); (case side4 => exact (Kd.R_reads' HO236.out).2.1); rintro e w' ⟨rfl, ⟨nd, rfl⟩⟩))
          go_ret
          exact ⟨er_, bk_ HB.out⟩
        ·rw [if_neg c43] at H
         have c43b0 : (t228 == 0) = false := beq_eq_false_iff_ne.mpr c43
         have c43b1 : (t228 != 0) = true := bne_iff_ne.mpr c43
         have H' := Aside0.mk H
         clear H
         have hnb59 := NB218_219.out
         have hnc59 := NB219_218.out
         have hnb60 := NB218_220.out
         have hnc60 := NB220_218.out
         have hcz61_0 : w37.cell? ⟨gb218, 0, none⟩ = some (.int .i64 a0_0) := (blk_cell BK218.out 0).trans rfl
         have hcz61_1 : w37.cell? ⟨gb218, 1, none⟩ = some (.slice A0_1 l0_1.length c0_1) := (blk_cell BK218.out 1).trans rfl
         have hcz61_2 : w37.cell? ⟨gb218, 2, none⟩ = some (.slice A0_2 l0_2.length c0_2) := (blk_cell BK218.out 2).trans rfl
         have hfz61_0 := blk_frozen BK218.out 0
         have hfz61_1 := blk_frozen BK218.out 1
         have hfz61_2 := blk_frozen BK218.out 2
         obtain ⟨Ao62, co62, eo62⟩ := Kd.R_slice HO231.out
         subst eo62
         go_wp2_with (first | ((with_reducible refine gate_callee (f := 13) rfl ?_); refine goesL_ (some 68) rfl rfl Try.func13 (by kernel_rfl) rfl #[.agg #[.int .i64 a0_0, .slice A0_1 l0_1.length c0_1, .slice A0_2 l0_2.length c0_2], .slice Ao62 t229.length co62, .int .i64 (wrap64 (a5))] rfl gl_ ?_; (with_reducible refine (tag_Run.calls kj6 a0_0 _ _ l0_1 _ _ l0_2 _ _ t229 (wrap64 (a5)) t234 t237 t238 _ ?side1 ?side2 ?side3 ?side4 ?side5 ?side6 A39.out).mono ?_); (case side1 => exact ck_ (Kd.C_below HR0_1.out HB.out)); (case side2 => exact HC0_1.out); (case side3 => exact ck_ (Kd.C_below HR0_2.out HB.out)); (case side4 => exact HC0_2.out); (case side5 => repeat (first | exact (Kd.R_reads' HO231.out).2.2 | (with_reducible refine Kd.C_alloc ?_ _) | (with_reducible refine Kd.C_drewN ?_ _) | (with_reducible refine Kd.C_drew ?_))); (case side6 => exact (Kd.R_reads' HO231.out).2.1); rintro e w63 ⟨v235, rfl, ho0, hb⟩; refine ⟨_, rfl, ?_⟩; have n0_ := A_ (Kd.R_elder' (rk_ HO226.out) (Kd.R_base ho0) hb); have n1_ := A_ (Kd.R_elder' (rk_ HO231.out) (Kd.R_base ho0) hb); have n2_ := A_ (Kd.R_lower (Kd.R_new' (Kd.R_new' ho0 (Kd.R_lt (rk_ HO226.out))) (Kd.R_lt (rk_ HO231.out))) (below_size (bk_ HB.out))); have n3_ := A_ (blk_below (pk_ BK218.out) hb); have n4_ := A_ (blk_below (pk_ BK219.out) hb); have n5_ := A_ (blk_below (pk_ BK220.out) hb); have n6_ := A_ (below_step (bk_ HB.out) hb); clear HO226 HO231 BK218 BK219 BK220 HB; have HO226 := n0_; have HO231 := n1_; have HO236 := n2_; have BK218 := n3_; have BK219 := n4_; have BK220 := n5_; have HB := n6_; clear n0_ n1_ n2_ n3_ n4_ n5_ n6_; (try clear hb); (try clear hb2); (try clear hk); (try clear hi); (try clear ho0); obtain ⟨Ao64, co64, eo64⟩ := Kd.R_slice HO226.out; subst eo64; obtain ⟨Ao65, co65, eo65⟩ := Kd.R_slice HO236.out; subst eo65) | (go_at_call 14; (with_reducible refine (standstillref07_Same.calls kj6 _ _ t224 _ _ t234 true _ ?side1 ?side2 ?side3 ?side4 A41.out).mono ?_); (case side1 => repeat (first | exact (Kd.R_reads' HO226.out).2.2 | (with_reducible refine Kd.C_alloc ?_ _) | (with_reducible refine Kd.C_drewN ?_ _) | (with_reducible refine Kd.C_drew ?_))); (case side2 => exact (Kd.R_reads' HO226.out).2.1); (case side3 => repeat (first | exact (Kd.R_reads' HO236.out).2.2 | (with_reducible refine Kd.C_alloc ?_ _) | (with_reducible refine Kd.C_drewN ?_ _) | (with_reducible refine Kd.C_drew ?_))); (case side4 => exact (Kd.R_reads' HO236.out).2.1); rintro e w' ⟨rfl, ⟨nd, rfl⟩⟩))
         go_meet
         case rel => exact ⟨_, H', ⟨by have := HJ6.out; first | omega | exact Nat.le_refl _⟩, ⟨pk_ BK218.out⟩, ⟨pk_ BK219.out⟩, ⟨pk_ BK220.out⟩, ⟨bk_ HB.out⟩⟩
       ·replace c42 := Bool.eq_false_iff.mpr c42
        subst c42
        have H1 : (some false) = some r := by rw [if_neg (show ¬ (false = true) by decide)] at H; exact H
        clear H
        have H := H1
        clear H1
        obtain rfl := Option.some.inj H
        have hnb66 := NB218_219.out
        have hnc66 := NB219_218.out
        have hnb67 := NB218_220.out
        have hnc67 := NB220_218.out
        have hcz68_0 : w37.cell? ⟨gb218, 0, none⟩ = some (.int .i64 a0_0) := (blk_cell BK218.out 0).trans rfl
        have hcz68_1 : w37.cell? ⟨gb218, 1, none⟩ = some (.slice A0_1 l0_1.length c0_1) := (blk_cell BK218.out 1).trans rfl
        have hcz68_2 : w37.cell? ⟨gb218, 2, none⟩ = some (.slice A0_2 l0_2.length c0_2) := (blk_cell BK218.out 2).trans rfl
        have hfz68_0 := blk_frozen BK218.out 0
        have hfz68_1 := blk_frozen BK218.out 1
        have hfz68_2 := blk_frozen BK218.out 2
        obtain ⟨Ao69, co69, eo69⟩ := Kd.R_slice HO231.out
        subst eo69
        go_wp2_with (first | ((with_reducible refine gate_callee (f := 13) rfl ?_); refine goesL_ (some 68) rfl rfl Try.func13 (by kernel_rfl) rfl #[.agg #[.int .i64 a0_0, .slice A0_1 l0_1.length c0_1, .slice A0_2 l0_2.length c0_2], .slice Ao69 t229.length co69, .int .i64 (wrap64 (a5))] rfl gl_ ?_; (with_reducible refine (tag_Run.calls kj6 a0_0 _ _ l0_1 _ _ l0_2 _ _ t229 (wrap64 (a5)) t234 t237 t238 _ ?side1 ?side2 ?side3 ?side4 ?side5 ?side6 A39.out).mono ?_); (case side1 => exact ck_ (Kd.C_below HR0_1.out HB.out)); (case side2 => exact HC0_1.out); (case side3 => exact ck_ (Kd.C_below HR0_2.out HB.out)); (case side4 => exact HC0_2.out); (case side5 => repeat (first | exact (Kd.R_reads' HO231.out).2.2 | (with_reducible refine Kd.C_alloc ?_ _) | (with_reducible refine Kd.C_drewN ?_ _) | (with_reducible refine Kd.C_drew ?_))); (case side6 => exact (Kd.R_reads' HO231.out).2.1); rintro e w70 ⟨v235, rfl, ho0, hb⟩; refine ⟨_, rfl, ?_⟩; have n0_ := A_ (Kd.R_elder' (rk_ HO226.out) (Kd.R_base ho0) hb); have n1_ := A_ (Kd.R_elder' (rk_ HO231.out) (Kd.R_base ho0) hb); have n2_ := A_ (Kd.R_lower (Kd.R_new' (Kd.R_new' ho0 (Kd.R_lt (rk_ HO226.out))) (Kd.R_lt (rk_ HO231.out))) (below_size (bk_ HB.out))); have n3_ := A_ (blk_below (pk_ BK218.out) hb); have n4_ := A_ (blk_below (pk_ BK219.out) hb); have n5_ := A_ (blk_below (pk_ BK220.out) hb); have n6_ := A_ (below_step (bk_ HB.out) hb); clear HO226 HO231 BK218 BK219 BK220 HB; have HO226 := n0_; have HO231 := n1_; have HO236 := n2_; have BK218 := n3_; have BK219 := n4_; have BK220 := n5_; have HB := n6_; clear n0_ n1_ n2_ n3_ n4_ n5_ n6_; (try clear hb); (try clear hb2); (try clear hk); (try clear hi); (try clear ho0); obtain ⟨Ao71, co71, eo71⟩ := Kd.R_slice HO226.out; subst eo71; obtain ⟨Ao72, co72, eo72⟩ := Kd.R_slice HO236.out; subst eo72) | (go_at_call 14; (with_reducible refine (standstillref07_Same.calls kj6 _ _ t224 _ _ t234 false _ ?side1 ?side2 ?side3 ?side4 A41.out).mono ?_); (case side1 => repeat (first | exact (Kd.R_reads' HO226.out).2.2 | (with_reducible refine Kd.C_alloc ?_ _) | (with_reducible refine Kd.C_drewN ?_ _) | (with_reducible refine Kd.C_drew ?_))); (case side2 => exact (Kd.R_reads' HO226.out).2.1); (case side3 => repeat (first | exact (Kd.R_reads' HO236.out).2.2 | (with_reducible refine Kd.C_alloc ?_ _) | (with_reducible refine Kd.C_drewN ?_ _) | (with_reducible refine Kd.C_drew ?_))); (case side4 => exact (Kd.R_reads' HO236.out).2.1); rintro e w' ⟨rfl, ⟨nd, rfl⟩⟩))
        go_ret
        exact ⟨er_, bk_ HB.out⟩
      ·rw [if_neg c40] at H
       have c40b0 : (t228 == t238) = false := beq_eq_false_iff_ne.mpr c40
       have c40b1 : (t228 != t238) = true := bne_iff_ne.mpr c40
       obtain rfl := Option.some.inj H
       have hnb73 := NB218_219.out
       have hnc73 := NB219_218.out
       have hnb74 := NB218_220.out
       have hnc74 := NB220_218.out
       have hcz75_0 : w37.cell? ⟨gb218, 0, none⟩ = some (.int .i64 a0_0) := (blk_cell BK218.out 0).trans rfl
       have hcz75_1 : w37.cell? ⟨gb218, 1, none⟩ = some (.slice A0_1 l0_1.length c0_1) := (blk_cell BK218.out 1).trans rfl
       have hcz75_2 : w37.cell? ⟨gb218, 2, none⟩ = some (.slice A0_2 l0_2.length c0_2) := (blk_cell BK218.out 2).trans rfl
       have hfz75_0 := blk_frozen BK218.out 0
       have hfz75_1 := blk_frozen BK218.out 1
       have hfz75_2 := blk_frozen BK218.out 2
       obtain ⟨Ao76, co76, eo76⟩ := Kd.R_slice HO231.out
       subst eo76
       go_wp2_with (first | ((with_reducible refine gate_callee (f := 13) rfl ?_); refine goesL_ (some 68) rfl rfl Try.func13 (by kernel_rfl) rfl #[.agg #[.int .i64 a0_0, .slice A0_1 l0_1.length c0_1, .slice A0_2 l0_2.length c0_2], .slice Ao76 t229.length co76, .int .i64 (wrap64 (a5))] rfl gl_ ?_; (with_reducible refine (tag_Run.calls kj6 a0_0 _ _ l0_1 _ _ l0_2 _ _ t229 (wrap64 (a5)) t234 t237 t238 _ ?side1 ?side2 ?side3 ?side4 ?side5 ?side6 A39.out).mono ?_); (case side1 => exact ck_ (Kd.C_below HR0_1.out HB.out)); (case side2 => exact HC0_1.out); (case side3 => exact ck_ (Kd.C_below HR0_2.out HB.out)); (case side4 => exact HC0_2.out); (case side5 => repeat (first | exact (Kd.R_reads' HO231.out).2.2 | (with_reducible refine Kd.C_alloc ?_ _) | (with_reducible refine Kd.C_drewN ?_ _) | (with_reducible refine Kd.C_drew ?_))); (case side6 => exact (Kd.R_reads' HO231.out).2.1); rintro e w77 ⟨v235, rfl, ho0, hb⟩; refine ⟨_, rfl, ?_⟩; have n0_ := A_ (Kd.R_elder' (rk_ HO226.out) (Kd.R_base ho0) hb); have n1_ := A_ (Kd.R_elder' (rk_ HO231.out) (Kd.R_base ho0) hb); have n2_ := A_ (Kd.R_lower (Kd.R_new' (Kd.R_new' ho0 (Kd.R_lt (rk_ HO226.out))) (Kd.R_lt (rk_ HO231.out))) (below_size (bk_ HB.out))); have n3_ := A_ (blk_below (pk_ BK218.out) hb); have n4_ := A_ (blk_below (pk_ BK219.out) hb); have n5_ := A_ (blk_below (pk_ BK220.out) hb); have n6_ := A_ (below_step (bk_ HB.out) hb); clear HO226 HO231 BK218 BK219 BK220 HB; have HO226 := n0_; have HO231 := n1_; have HO236 := n2_; have BK218 := n3_; have BK219 := n4_; have BK220 := n5_; have HB := n6_; clear n0_ n1_ n2_ n3_ n4_ n5_ n6_; (try clear hb); (try clear hb2); (try clear hk); (try clear hi); (try clear ho0)))
       go_ret
       exact ⟨er_, bk_ HB.out⟩
     ·rw [if_neg c38] at H
      have c38b0 : (t233 == 0) = false := beq_eq_false_iff_ne.mpr c38
      have c38b1 : (t233 != 0) = true := bne_iff_ne.mpr c38
      (first | rw [c38b0] | (simp only [i64_w, i32_w]; rw [c38b0]) | skip)
      by_cases c78 : t228 = t233
      ·rw [if_pos c78] at H
       have c78b0 : (t228 == t233) = true := beq_iff_eq.mpr c78
       have c78b1 : (t228 != t233) = false := bne_eq_false_iff_eq.mpr c78
       clear c78
       have H' := Aside0.mk H
       clear H
       go_wp2
       go_meet
       case rel => exact ⟨_, H', ⟨by have := HJ6.out; first | omega | exact Nat.le_refl _⟩, ⟨pk_ BK218.out⟩, ⟨pk_ BK219.out⟩, ⟨pk_ BK220.out⟩, ⟨bk_ HB.out⟩⟩
      ·rw [if_neg c78] at H
       have c78b0 : (t228 == t233) = false := beq_eq_false_iff_ne.mpr c78
       have c78b1 : (t228 != t233) = true := bne_iff_ne.mpr c78
       obtain rfl := Option.some.inj H
       go_wp2
       go_ret
       exact ⟨er_, bk_ HB.out⟩
    case rest => as_aux_lemma =>
     clear HC31
     (try clear c1); (try clear c26); (try clear hcz34_0); (try clear hcz34_1); (try clear hcz34_2); (try clear hcz36_0); (try clear hcz36_1); (try clear hcz36_2); (try clear hfz34_0); (try clear hfz34_1); (try clear hfz34_2); (try clear hfz36_0); (try clear hfz36_1); (try clear hfz36_2)
     obtain ⟨kq, HA, HJ30, BK218, BK219, BK220, HB⟩ := hcut
     cases kq with
     | zero => exact absurd HA.out (by simp [standstilllaw07_TagParts.j1])
     | succ kj30 =>
      have H := HA.out
      clear HA
      simp only [standstilllaw07_TagParts.j1] at H
      replace H := Option.bind_eq_some_iff.mp H
      obtain ⟨⟨t240, t243⟩, A790, H⟩ := H
      replace H : (if t243 = 0 then ((standstillref07_Fits.f kj30 a0_0 l0_1 l0_2 l1).bind fun t244 => (if t244 = true then (if (l1.length : Int) = 0 then (standstilllaw07_TagParts.j2 kj30 a4 a5 true l2_0 a3_0 l3_1) else (if 0 < (l1.length : Int) then (if 0 ≤ (rd l1 0) then (if (rd l1 0) < (l0_1.length : Int) then (standstilllaw07_TagParts.j2 kj30 a4 a5 ((t240.length : Int) != (wrap64 ((wrap64 ((l1.length : Int) + ((rd_L1 l0_1 (rd l1 0)).length : Int))) - a0_0))) l2_0 a3_0 l3_1) else (none)) else (none)) else (none))) else (standstilllaw07_TagParts.j2 kj30 a4 a5 true l2_0 a3_0 l3_1))) else (standstilllaw07_TagParts.j2 kj30 a4 a5 false l2_0 a3_0 l3_1)) = some r := H
      have A79 := Aside0.mk A790
      clear A790
      have HC80 := Aside0.mk H
      clear H
      have hnb81 := NB218_219.out
      have hnc81 := NB219_218.out
      have hnb82 := NB218_220.out
      have hnc82 := NB220_218.out
      have hcz83_0 : wc.cell? ⟨gb218, 0, none⟩ = some (.int .i64 a0_0) := (blk_cell BK218.out 0).trans rfl
      have hcz83_1 : wc.cell? ⟨gb218, 1, none⟩ = some (.slice A0_1 l0_1.length c0_1) := (blk_cell BK218.out 1).trans rfl
      have hcz83_2 : wc.cell? ⟨gb218, 2, none⟩ = some (.slice A0_2 l0_2.length c0_2) := (blk_cell BK218.out 2).trans rfl
      have hfz83_0 := blk_frozen BK218.out 0
      have hfz83_1 := blk_frozen BK218.out 1
      have hfz83_2 := blk_frozen BK218.out 2
      go_upto_region 12 with (first | ((with_reducible refine gate_callee (f := 18) rfl ?_); refine goesL_ (some 98) rfl rfl Try.func18 (by kernel_rfl) rfl #[.agg #[.int .i64 a0_0, .slice A0_1 l0_1.length c0_1, .slice A0_2 l0_2.length c0_2], .slice A1 l1.length c1] rfl gl_ ?_; (with_reducible refine (tag_Step.calls kj30 a0_0 _ _ l0_1 _ _ l0_2 _ _ l1 t240 t243 _ ?side1 ?side2 ?side3 ?side4 ?side5 ?side6 A79.out).mono ?_); (case side1 => exact ck_ (Kd.C_below HR0_1.out HB.out)); (case side2 => exact HC0_1.out); (case side3 => exact ck_ (Kd.C_below HR0_2.out HB.out)); (case side4 => exact HC0_2.out); (case side5 => exact ck_ (Kd.C_below HR1.out HB.out)); (case side6 => exact HC1.out); rintro e w84 ⟨v241, rfl, ho0, hb⟩; refine ⟨_, rfl, ?_⟩; have n0_ := A_ (Kd.R_lower ho0 (below_size (bk_ HB.out))); have n1_ := A_ (blk_below (pk_ BK218.out) hb); have n2_ := A_ (blk_below (pk_ BK219.out) hb); have n3_ := A_ (blk_below (pk_ BK220.out) hb); have n4_ := A_ (below_step (bk_ HB.out) hb); clear BK218 BK219 BK220 HB; have HO242 := n0_; have BK218 := n1_; have BK219 := n2_; have BK220 := n3_; have HB := n4_; clear n0_ n1_ n2_ n3_ n4_; (try clear hb); (try clear hb2); (try clear hk); (try clear hi); (try clear ho0)))
      (try simp only [Act.put, List.setIfInBounds_toArray, List.set_cons_zero, List.set_cons_succ])
      go_cut [132] (fun v132 wc => ∃ (kq : Nat) (x132_79 : Bool), v132 = .bool x132_79 ∧ Aside0 (standstilllaw07_TagParts.j2 kq a4 a5 x132_79 l2_0 a3_0 l3_1 = some r) ∧ Aside0 (kq ≤ kj30) ∧ Aside0 (wc.heap[gb218]? = some (.cells #[.int .i64 a0_0, (.slice A0_1 l0_1.length c0_1), (.slice A0_2 l0_2.length c0_2)] 25 (0, 0))) ∧ Aside0 (wc.heap[gb219]? = some (.cells #[(.slice A2_0 l2_0.length c2_0)] 45 (0, 0))) ∧ Aside0 (wc.heap[gb220]? = some (.cells #[.int .i64 a3_0, (.slice A3_1 l3_1.length c3_1)] 47 (0, 0))) ∧ Aside0 (Below w.heap.size w wc))
      case first => as_aux_lemma =>
       have H := HC80.out
       clear HC80
       by_cases c85 : t243 = 0
       ·rw [if_pos c85] at H
        have c85b0 : (t243 == 0) = true := beq_iff_eq.mpr c85
        have c85b1 : (t243 != 0) = false := bne_eq_false_iff_eq.mpr c85
        clear c85
        (first | rw [c85b0] | (simp only [i64_w, i32_w]; rw [c85b0]) | skip)
        replace H := Option.bind_eq_some_iff.mp H
        obtain ⟨t244, A860, H⟩ := H
        replace H : (if t244 = true then (if (l1.length : Int) = 0 then (standstilllaw07_TagParts.j2 kj30 a4 a5 true l2_0 a3_0 l3_1) else (if 0 < (l1.length : Int) then (if 0 ≤ (rd l1 0) then (if (rd l1 0) < (l0_1.length : Int) then (standstilllaw07_TagParts.j2 kj30 a4 a5 ((t240.length : Int) != (wrap64 ((wrap64 ((l1.length : Int) + ((rd_L1 l0_1 (rd l1 0)).length : Int))) - a0_0))) l2_0 a3_0 l3_1) else (none)) else (none)) else (none))) else (standstilllaw07_TagParts.j2 kj30 a4 a5 true l2_0 a3_0 l3_1)) = some r := H
        have A86 := Aside0.mk A860
        clear A860
        by_cases c87 : t244 = true
        ·subst c87
         have H1 : (if (l1.length : Int) = 0 then (standstilllaw07_TagParts.j2 kj30 a4 a5 true l2_0 a3_0 l3_1) else (if 0 < (l1.length : Int) then (if 0 ≤ (rd l1 0) then (if (rd l1 0) < (l0_1.length : Int) then (standstilllaw07_TagParts.j2 kj30 a4 a5 ((t240.length : Int) != (wrap64 ((wrap64 ((l1.length : Int) + ((rd_L1 l0_1 (rd l1 0)).length : Int))) - a0_0))) l2_0 a3_0 l3_1) else (none)) else (none)) else (none))) = some r := by rw [if_pos rfl] at H; exact H
         clear H
         have H := H1
         clear H1
         by_cases c88 : (l1.length : Int) = 0
         ·rw [if_pos c88] at H
          have c88b0 : ((l1.length : Int) == 0) = true := beq_iff_eq.mpr c88
          have c88b1 : ((l1.length : Int) != 0) = false := bne_eq_false_iff_eq.mpr c88
          clear c88
          have H' := Aside0.mk H
          clear H
          try go_wp2
          have n0_ := A_ (Kd.R_drew HO242.out)
          have n1_ := A_ (blk_drew BK218.out)
          have n2_ := A_ (blk_drew BK219.out)
          have n3_ := A_ (blk_drew BK220.out)
          have n4_ := A_ (below_drew1 HB.out)
          clear HO242 BK218 BK219 BK220 HB
          have HO242 := n0_
          have BK218 := n1_
          have BK219 := n2_
          have BK220 := n3_
          have HB := n4_
          clear n0_ n1_ n2_ n3_ n4_
          refine start_ (n := 32) (S := fun w' => w'.cell? ⟨gb218, 0, none⟩ = some (.int .i64 a0_0) ∧ w'.cell? ⟨gb218, 1, none⟩ = some (.slice A0_1 l0_1.length c0_1) ∧ w'.cell? ⟨gb218, 2, none⟩ = some (.slice A0_2 l0_2.length c0_2)) (ds := []) #[false, false, false, false, false, false, false, false, false, false, false, false, false, false, false, false, false, false, false, false, false, false, false, false, false, false, false, false, false, false, false, false] (by kernel_rfl) rfl rfl ⟨(blk_cell BK218.out 0).trans rfl, (blk_cell BK218.out 1).trans rfl, (blk_cell BK218.out 2).trans rfl⟩ (fun hHeld => ?_); refine with_tabW standstilllaw07_TagParts.tab12 standstilllaw07_TagParts.bits12 (fun HT_ HW_ => ?_)
          generalize w84.drew = w89 at HO242 BK218 BK219 BK220 HB hHeld ⊢
          refine pure_ (i := 0) (N := some 101) (v := ?_) (a' := ?_) #[true, false, false, false, false, false, false, false, false, false, false, false, false, false, false, false, false, false, false, false, false, false, false, false, false, false, false, false, false, false, false, false] rfl rfl (any_of HT_.out (by kernel_rfl)) (fun _ _ _ h => h) (Or.inl ⟨by rfl, ?_⟩) ?_ ?_
          rotate_left
          ·intro w'
           go_simp
           with_reducible rfl
          rotate_left
          ·simp only [Act.put, sa_, sz_, ss_, i64_w, i32_w]
           rfl
          refine pure_ (i := 1) (N := some 102) (v := ?_) (a' := ?_) #[true, true, false, false, false, false, false, false, false, false, false, false, false, false, false, false, false, false, false, false, false, false, false, false, false, false, false, false, false, false, false, false] rfl rfl (any_of HT_.out (by kernel_rfl)) (fun _ _ _ h => h) (Or.inl ⟨by rfl, ?_⟩) ?_ ?_
          rotate_left
          ·intro w'
           go_simp
           with_reducible rfl
          rotate_left
          ·simp only [Act.put, sa_, sz_, ss_, i64_w, i32_w]
           rfl
          refine pure_ (i := 2) (N := some 103) (v := ?_) (a' := ?_) #[true, true, true, false, false, false, false, false, false, false, false, false, false, false, false, false, false, false, false, false, false, false, false, false, false, false, false, false, false, false, false, false] rfl rfl (any_of HT_.out (by kernel_rfl)) (fun _ _ _ h => h) (Or.inl ⟨by rfl, ?_⟩) ?_ ?_
          rotate_left
          ·intro w'
           go_simp
           with_reducible rfl
          rotate_left
          ·simp only [Act.put, sa_, sz_, ss_, i64_w, i32_w]
           rfl
          refine pure_ (i := 4) (N := some 105) (v := ?_) (a' := ?_) #[true, true, true, false, true, false, false, false, false, false, false, false, false, false, false, false, false, false, false, false, false, false, false, false, false, false, false, false, false, false, false, false] rfl rfl (any_of HT_.out (by kernel_rfl)) (fun _ _ _ h => h) (Or.inl ⟨by rfl, ?_⟩) ?_ ?_
          rotate_left
          ·intro w'
           go_simp
           with_reducible rfl
          rotate_left
          ·simp only [Act.put, sa_, sz_, ss_, i64_w, i32_w]
           rfl
          refine take_ (i := 3) (N := some 104) (v := ?_) (a' := ?_) #[true, true, true, true, true, false, false, false, false, false, false, false, false, false, false, false, false, false, false, false, false, false, false, false, false, false, false, false, false, false, false, false] rfl rfl (take_ofW HT_.out HW_.out (by kernel_rfl)) (fun _ _ _ h => h) (Or.inl ⟨by rfl, ?_⟩) hHeld ?_ ?_
          rotate_left
          ·rintro w' ⟨s0, s1, s2⟩
           go_simp
           with_reducible rfl
          rotate_left
          ·simp only [Act.put, sa_, sz_, ss_, i64_w, i32_w]
           rfl
          refine one_ (i := 5) (N := some 106) #[true, true, true, true, true, true, false, false, false, false, false, false, false, false, false, false, false, false, false, false, false, false, false, false, false, false, false, false, false, false, false, false] rfl rfl (one_of HT_.out (by kernel_rfl)) (by decide) (fun K hK => ?_)
          refine goes_ Try.func10 (by kernel_rfl) rfl #[.agg #[.int .i64 a0_0, .slice A0_1 l0_1.length c0_1, .slice A0_2 l0_2.length c0_2], .slice A1 l1.length c1] (by rfl) rfl rfl gl_ ?_
          with_reducible refine (standstillref07_Fits.calls kj30 a0_0 _ _ l0_1 _ _ l0_2 _ _ l1 true _ ?side1 ?side2 ?side3 ?side4 ?side5 ?side6 A86.out).mono ?_
          (case side1 => exact ck_ (Kd.C_below HR0_1.out HB.out))
          (case side2 => exact HC0_1.out)
          (case side3 => exact ck_ (Kd.C_below HR0_2.out HB.out))
          (case side4 => exact HC0_2.out)
          (case side5 => exact ck_ (Kd.C_below HR1.out HB.out))
          (case side6 => exact HC1.out)
          rintro e w90 ⟨rfl, hb⟩
          refine ⟨_, rfl, ?_⟩
          have n0_ := A_ (Kd.R_below (rk_ HO242.out) hb)
          have n1_ := A_ (blk_below (pk_ BK218.out) hb)
          have n2_ := A_ (blk_below (pk_ BK219.out) hb)
          have n3_ := A_ (blk_below (pk_ BK220.out) hb)
          have n4_ := A_ (below_step (bk_ HB.out) hb)
          clear HO242 BK218 BK219 BK220 HB
          have HO242 := n0_
          have BK218 := n1_
          have BK219 := n2_
          have BK220 := n3_
          have HB := n4_
          clear n0_ n1_ n2_ n3_ n4_
          (try clear hb)
          (try clear hb2)
          (try clear hk)
          (try clear hi)
          refine hK.out _ _ ⟨(blk_cell BK218.out 0).trans rfl, (blk_cell BK218.out 1).trans rfl, (blk_cell BK218.out 2).trans rfl⟩ (fun hHeld => ?_)
          clear hK K
          refine norm_ (a' := ?_) ?_ ?_
          rotate_left
          ·show Act.put _ (some 106) _ = _
           simp only [Act.put, sa_, sz_, ss_, i64_w, i32_w]
           rfl
          refine pure_ (i := 6) (N := some 107) (v := ?_) (a' := ?_) #[true, true, true, true, true, true, true, false, false, false, false, false, false, false, false, false, false, false, false, false, false, false, false, false, false, false, false, false, false, false, false, false] rfl rfl (any_of HT_.out (by kernel_rfl)) (fun _ _ _ h => h) (Or.inl ⟨by rfl, ?_⟩) ?_ ?_
          rotate_left
          ·intro w'
           go_simp
           with_reducible rfl
          rotate_left
          ·simp only [Act.put, sa_, sz_, ss_, i64_w, i32_w]
           rfl
          refine pure_ (i := 7) (N := some 108) (v := ?_) (a' := ?_) #[true, true, true, true, true, true, true, true, false, false, false, false, false, false, false, false, false, false, false, false, false, false, false, false, false, false, false, false, false, false, false, false] rfl rfl (any_of HT_.out (by kernel_rfl)) (fun _ _ _ h => h) (Or.inl ⟨by rfl, ?_⟩) ?_ ?_
          rotate_left
          ·intro w'
           go_simp
           with_reducible rfl
          rotate_left
          ·simp only [Act.put, sa_, sz_, ss_, i64_w, i32_w]
           rfl
          refine pure_ (i := 8) (N := some 109) (v := ?_) (a' := ?_) #[true, true, true, true, true, true, true, true, true, false, false, false, false, false, false, false, false, false, false, false, false, false, false, false, false, false, false, false, false, false, false, false] rfl rfl (any_of HT_.out (by kernel_rfl)) (fun _ _ _ h => h) (Or.inl ⟨by rfl, ?_⟩) ?_ ?_
          rotate_left
          ·intro w'
           go_simp
           with_reducible rfl
          rotate_left
          ·simp only [Act.put, sa_, sz_, ss_, i64_w, i32_w]
           rfl
          refine pure_ (i := 9) (N := some 110) (v := ?_) (a' := ?_) #[true, true, true, true, true, true, true, true, true, true, false, false, false, false, false, false, false, false, false, false, false, false, false, false, false, false, false, false, false, false, false, false] rfl rfl (any_of HT_.out (by kernel_rfl)) (fun _ _ _ h => h) (Or.inl ⟨by rfl, ?_⟩) ?_ ?_
          rotate_left
          ·intro w'
           go_simp
           with_reducible rfl
          rotate_left
          ·simp only [Act.put, sa_, sz_, ss_, i64_w, i32_w]
           rfl
          refine pure_ (i := 10) (N := some 111) (v := ?_) (a' := ?_) #[true, true, true, true, true, true, true, true, true, true, true, false, false, false, false, false, false, false, false, false, false, false, false, false, false, false, false, false, false, false, false, false] rfl rfl (any_of HT_.out (by kernel_rfl)) (fun _ _ _ h => h) (Or.inl ⟨by rfl, ?_⟩) ?_ ?_
          rotate_left
          ·intro w'
           go_simp
           with_reducible rfl
          rotate_left
          ·simp only [Act.put, sa_, sz_, ss_, i64_w, i32_w]
           rfl
          refine pure_ (i := 11) (N := some 112) (v := ?_) (a' := ?_) #[true, true, true, true, true, true, true, true, true, true, true, true, false, false, false, false, false, false, false, false, false, false, false, false, false, false, false, false, false, false, false, false] rfl rfl (any_of HT_.out (by kernel_rfl)) (fun _ _ _ h => h) (Or.inl ⟨by rfl, ?_⟩) ?_ ?_
          rotate_left
          ·intro w'
           go_simp
           with_reducible rfl
          rotate_left
          ·simp only [Act.put, sa_, sz_, ss_, i64_w, i32_w]
           rfl
          refine pure_ (i := 12) (N := some 113) (v := ?_) (a' := ?_) #[true, true, true, true, true, true, true, true, true, true, true, true, true, false, false, false, false, false, false, false, false, false, false, false, false, false, false, false, false, false, false, false] rfl rfl (any_of HT_.out (by kernel_rfl)) (fun _ _ _ h => h) (Or.inl ⟨by rfl, ?_⟩) ?_ ?_
          rotate_left
          ·intro w'
           go_simp
           with_reducible rfl
          rotate_left
          ·simp only [Act.put, sa_, sz_, ss_, i64_w, i32_w]
           rfl
          refine pure_ (i := 13) (N := some 114) (v := undef) (a' := ?_) #[true, true, true, true, true, true, true, true, true, true, true, true, true, true, false, false, false, false, false, false, false, false, false, false, false, false, false, false, false, false, false, false] rfl rfl (any_of HT_.out (by kernel_rfl)) (fun _ _ _ h => h) (Or.inr ⟨by rfl, rfl⟩) ?_ ?_
          rotate_left
          ·simp only [Act.put, sa_, sz_, ss_, i64_w, i32_w]
           rfl
          refine pure_ (i := 14) (N := some 115) (v := undef) (a' := ?_) #[true, true, true, true, true, true, true, true, true, true, true, true, true, true, true, false, false, false, false, false, false, false, false, false, false, false, false, false, false, false, false, false] rfl rfl (any_of HT_.out (by kernel_rfl)) (fun _ _ _ h => h) (Or.inr ⟨by rfl, rfl⟩) ?_ ?_
          rotate_left
          ·simp only [Act.put, sa_, sz_, ss_, i64_w, i32_w]
           rfl
          refine pure_ (i := 15) (N := some 116) (v := undef) (a' := ?_) #[true, true, true, true, true, true, true, true, true, true, true, true, true, true, true, true, false, false, false, false, false, false, false, false, false, false, false, false, false, false, false, false] rfl rfl (any_of HT_.out (by kernel_rfl)) (fun _ _ _ h => h) (Or.inr ⟨by rfl, rfl⟩) ?_ ?_
          rotate_left
          ·simp only [Act.put, sa_, sz_, ss_, i64_w, i32_w]
           rfl
          refine pure_ (i := 16) (N := some 117) (v := undef) (a' := ?_) #[true, true, true, true, true, true, true, true, true, true, true, true, true, true, true, true, true, false, false, false, false, false, false, false, false, false, false, false, false, false, false, false] rfl rfl (any_of HT_.out (by kernel_rfl)) (fun _ _ _ h => h) (Or.inr ⟨by rfl, rfl⟩) ?_ ?_
          rotate_left
          ·simp only [Act.put, sa_, sz_, ss_, i64_w, i32_w]
           rfl
          refine pure_ (i := 17) (N := some 118) (v := undef) (a' := ?_) #[true, true, true, true, true, true, true, true, true, true, true, true, true, true, true, true, true, true, false, false, false, false, false, false, false, false, false, false, false, false, false, false] rfl rfl (any_of HT_.out (by kernel_rfl)) (fun _ _ _ h => h) (Or.inr ⟨by rfl, rfl⟩) ?_ ?_
          rotate_left
          ·simp only [Act.put, sa_, sz_, ss_, i64_w, i32_w]
           rfl
          refine pure_ (i := 18) (N := some 119) (v := undef) (a' := ?_) #[true, true, true, true, true, true, true, true, true, true, true, true, true, true, true, true, true, true, true, false, false, false, false, false, false, false, false, false, false, false, false, false] rfl rfl (any_of HT_.out (by kernel_rfl)) (fun _ _ _ h => h) (Or.inr ⟨by rfl, rfl⟩) ?_ ?_
          rotate_left
          ·simp only [Act.put, sa_, sz_, ss_, i64_w, i32_w]
           rfl
          refine pure_ (i := 19) (N := some 120) (v := undef) (a' := ?_) #[true, true, true, true, true, true, true, true, true, true, true, true, true, true, true, true, true, true, true, true, false, false, false, false, false, false, false, false, false, false, false, false] rfl rfl (any_of HT_.out (by kernel_rfl)) (fun _ _ _ h => h) (Or.inr ⟨by rfl, rfl⟩) ?_ ?_
          rotate_left
          ·simp only [Act.put, sa_, sz_, ss_, i64_w, i32_w]
           rfl
          refine pure_ (i := 20) (N := some 121) (v := undef) (a' := ?_) #[true, true, true, true, true, true, true, true, true, true, true, true, true, true, true, true, true, true, true, true, true, false, false, false, false, false, false, false, false, false, false, false] rfl rfl (any_of HT_.out (by kernel_rfl)) (fun _ _ _ h => h) (Or.inr ⟨by rfl, rfl⟩) ?_ ?_
          rotate_left
          ·simp only [Act.put, sa_, sz_, ss_, i64_w, i32_w]
           rfl
          refine pure_ (i := 21) (N := some 122) (v := undef) (a' := ?_) #[true, true, true, true, true, true, true, true, true, true, true, true, true, true, true, true, true, true, true, true, true, true, false, false, false, false, false, false, false, false, false, false] rfl rfl (any_of HT_.out (by kernel_rfl)) (fun _ _ _ h => h) (Or.inr ⟨by rfl, rfl⟩) ?_ ?_
          rotate_left
          ·simp only [Act.put, sa_, sz_, ss_, i64_w, i32_w]
           rfl
          refine pure_ (i := 22) (N := some 123) (v := undef) (a' := ?_) #[true, true, true, true, true, true, true, true, true, true, true, true, true, true, true, true, true, true, true, true, true, true, true, false, false, false, false, false, false, false, false, false] rfl rfl (any_of HT_.out (by kernel_rfl)) (fun _ _ _ h => h) (Or.inr ⟨by rfl, rfl⟩) ?_ ?_
          rotate_left
          ·simp only [Act.put, sa_, sz_, ss_, i64_w, i32_w]
           rfl
          refine pure_ (i := 23) (N := some 124) (v := undef) (a' := ?_) #[true, true, true, true, true, true, true, true, true, true, true, true, true, true, true, true, true, true, true, true, true, true, true, true, false, false, false, false, false, false, false, false] rfl rfl (any_of HT_.out (by kernel_rfl)) (fun _ _ _ h => h) (Or.inr ⟨by rfl, rfl⟩) ?_ ?_
          rotate_left
          ·simp only [Act.put, sa_, sz_, ss_, i64_w, i32_w]
           rfl
          refine pure_ (i := 24) (N := some 125) (v := undef) (a' := ?_) #[true, true, true, true, true, true, true, true, true, true, true, true, true, true, true, true, true, true, true, true, true, true, true, true, true, false, false, false, false, false, false, false] rfl rfl (any_of HT_.out (by kernel_rfl)) (fun _ _ _ h => h) (Or.inr ⟨by rfl, rfl⟩) ?_ ?_
          rotate_left
          ·simp only [Act.put, sa_, sz_, ss_, i64_w, i32_w]
           rfl
          refine pure_ (i := 25) (N := some 126) (v := undef) (a' := ?_) #[true, true, true, true, true, true, true, true, true, true, true, true, true, true, true, true, true, true, true, true, true, true, true, true, true, true, false, false, false, false, false, false] rfl rfl (any_of HT_.out (by kernel_rfl)) (fun _ _ _ h => h) (Or.inr ⟨by rfl, rfl⟩) ?_ ?_
          rotate_left
          ·simp only [Act.put, sa_, sz_, ss_, i64_w, i32_w]
           rfl
          refine pure_ (i := 26) (N := some 127) (v := undef) (a' := ?_) #[true, true, true, true, true, true, true, true, true, true, true, true, true, true, true, true, true, true, true, true, true, true, true, true, true, true, true, false, false, false, false, false] rfl rfl (any_of HT_.out (by kernel_rfl)) (fun _ _ _ h => h) (Or.inr ⟨by rfl, rfl⟩) ?_ ?_
          rotate_left
          ·simp only [Act.put, sa_, sz_, ss_, i64_w, i32_w]
           rfl
          refine pure_ (i := 27) (N := some 128) (v := undef) (a' := ?_) #[true, true, true, true, true, true, true, true, true, true, true, true, true, true, true, true, true, true, true, true, true, true, true, true, true, true, true, true, false, false, false, false] rfl rfl (any_of HT_.out (by kernel_rfl)) (fun _ _ _ h => h) (Or.inr ⟨by rfl, rfl⟩) ?_ ?_
          rotate_left
          ·simp only [Act.put, sa_, sz_, ss_, i64_w, i32_w]
           rfl
          refine pure_ (i := 28) (N := some 129) (v := undef) (a' := ?_) #[true, true, true, true, true, true, true, true, true, true, true, true, true, true, true, true, true, true, true, true, true, true, true, true, true, true, true, true, true, false, false, false] rfl rfl (any_of HT_.out (by kernel_rfl)) (fun _ _ _ h => h) (Or.inr ⟨by rfl, rfl⟩) ?_ ?_
          rotate_left
          ·simp only [Act.put, sa_, sz_, ss_, i64_w, i32_w]
           rfl
          refine pure_ (i := 29) (N := some 130) (v := undef) (a' := ?_) #[true, true, true, true, true, true, true, true, true, true, true, true, true, true, true, true, true, true, true, true, true, true, true, true, true, true, true, true, true, true, false, false] rfl rfl (any_of HT_.out (by kernel_rfl)) (fun _ _ _ h => h) (Or.inr ⟨by rfl, rfl⟩) ?_ ?_
          rotate_left
          ·simp only [Act.put, sa_, sz_, ss_, i64_w, i32_w]
           rfl
          refine pure_ (i := 30) (N := some 131) (v := ?_) (a' := ?_) #[true, true, true, true, true, true, true, true, true, true, true, true, true, true, true, true, true, true, true, true, true, true, true, true, true, true, true, true, true, true, true, false] rfl rfl (any_of HT_.out (by kernel_rfl)) (fun _ _ _ h => h) (Or.inl ⟨by rfl, ?_⟩) ?_ ?_
          rotate_left
          ·intro w'
           go_simp
           with_reducible rfl
          rotate_left
          ·simp only [Act.put, sa_, sz_, ss_, i64_w, i32_w]
           rfl
          refine pure_ (i := 31) (N := some 132) (v := ?_) (a' := ?_) #[true, true, true, true, true, true, true, true, true, true, true, true, true, true, true, true, true, true, true, true, true, true, true, true, true, true, true, true, true, true, true, true] rfl rfl (any_of HT_.out (by kernel_rfl)) (fun _ _ _ h => h) (Or.inl ⟨by rfl, ?_⟩) ?_ ?_
          rotate_left
          ·intro w'
           go_simp
           with_reducible rfl
          rotate_left
          ·simp only [Act.put, sa_, sz_, ss_, i64_w, i32_w]
           rfl
          refine done_ (done_of HT_.out (by kernel_rfl)) ?_
          try go_wp2
          go_meet
          case rel => exact ⟨_, (true), jr_, H', ⟨by have := HJ6.out; have := HJ30.out; first | omega | exact Nat.le_refl _⟩, ⟨pk_ BK218.out⟩, ⟨pk_ BK219.out⟩, ⟨pk_ BK220.out⟩, ⟨bk_ HB.out⟩⟩
         ·rw [if_neg c88] at H
          have c88b0 : ((l1.length : Int) == 0) = false := beq_eq_false_iff_ne.mpr c88
          have c88b1 : ((l1.length : Int) != 0) = true := bne_iff_ne.mpr c88
          have c88b2 : ¬ (l1 = []) := fun h_ => c88 (by rw [h_]; rfl)
          by_cases c91 : 0 < (l1.length : Int)
          ·rw [if_pos c91] at H
           have c91b0 : decide (0 < (l1.length : Int)) = true := decide_eq_true c91
           have c91b1 : decide (0 < l1.length) = true := decide_eq_true (by omega)
           clear c91
           by_cases c92 : 0 ≤ (rd l1 0)
           ·rw [if_pos c92] at H
            have c92b0 : decide (0 ≤ (rd l1 0)) = true := decide_eq_true c92
            clear c92
            by_cases c93 : (rd l1 0) < (l0_1.length : Int)
            ·rw [if_pos c93] at H
             have c93b0 : decide ((rd l1 0) < (l0_1.length : Int)) = true := decide_eq_true c93
             clear c93
             have H' := Aside0.mk H
             clear H
             try go_wp2
             have n0_ := A_ (Kd.R_drew HO242.out)
             have n1_ := A_ (blk_drew BK218.out)
             have n2_ := A_ (blk_drew BK219.out)
             have n3_ := A_ (blk_drew BK220.out)
             have n4_ := A_ (below_drew1 HB.out)
             clear HO242 BK218 BK219 BK220 HB
             have HO242 := n0_
             have BK218 := n1_
             have BK219 := n2_
             have BK220 := n3_
             have HB := n4_
             clear n0_ n1_ n2_ n3_ n4_
             have p245 : 0 ≤ (0 : Int) := (by omega)
             have q245 : 0 < (l1.length : Int) := od_
             obtain ⟨ad245, e245, hx245_0⟩ := Kd.at_int HR1.out 0 p245 q245
             have hw245_0 := hx245_0
             (try rw [show ((0 : Int)).toNat = 0 from rfl] at hw245_0)
             (try rw [show 0 * 1 = 0 from rfl] at hw245_0)
             (try rw [Addr.add_zero'] at hw245_0)
             cases e245
             have qi245 : (0 < l1.length) = True := eq_true (by omega)
             (try rw [show ((0 : Int)).toNat = 0 from rfl] at hx245_0)
             (try rw [Addr.add_zero'] at hx245_0)
             replace hx245_0 := lf_ HB.out hx245_0
             replace p245 := eq_true p245
             replace q245 := eq_true q245
             have p246 : 0 ≤ ((rd l1 0) : Int) := od_
             have q246 : (rd l1 0) < (l0_1.length : Int) := od_
             obtain ⟨ad246, A246_0, c246_0, e246, hx246_0, hl246_0, hi246_0⟩ := at_L1 HR0_1.out (rd l1 0) p246 q246
             have hw246_0 := hx246_0
             cases e246
             replace hx246_0 := lf_ HB.out hx246_0
             have HR246_0 := Aside0.mk hi246_0
             have HC246_0 := Aside0.mk hl246_0
             clear hi246_0 hl246_0
             replace p246 := eq_true p246
             replace q246 := eq_true q246
             refine start_ (n := 32) (S := fun w' => w'.cell? ⟨gb218, 0, none⟩ = some (.int .i64 a0_0) ∧ w'.cell? ⟨gb218, 1, none⟩ = some (.slice (some ad246) l0_1.length c0_1) ∧ w'.cell? ⟨gb218, 2, none⟩ = some (.slice A0_2 l0_2.length c0_2) ∧ w'.cell? ad245 = some (.int .i64 (rd l1 0)) ∧ w'.cell? (ad246.add ((rd l1 0)).toNat) = some (.slice A246_0 (rd_L1 l0_1 (rd l1 0)).length c246_0)) (ds := []) #[false, false, false, false, false, false, false, false, false, false, false, false, false, false, false, false, false, false, false, false, false, false, false, false, false, false, false, false, false, false, false, false] (by kernel_rfl) rfl rfl ⟨(blk_cell BK218.out 0).trans rfl, (blk_cell BK218.out 1).trans rfl, (blk_cell BK218.out 2).trans rfl, ((HB.out.cell (World.block_lt_of_cell? w _ hw245_0)).trans hw245_0), ((HB.out.cell (World.block_lt_of_cell? w _ hw246_0)).trans hw246_0)⟩ (fun hHeld => ?_); refine with_tabW standstilllaw07_TagParts.tab12 standstilllaw07_TagParts.bits12 (fun HT_ HW_ => ?_)
             generalize w84.drew = w94 at HO242 BK218 BK219 BK220 HB HR246_0 hx245_0 hx246_0 hHeld ⊢
             refine pure_ (i := 0) (N := some 101) (v := ?_) (a' := ?_) #[true, false, false, false, false, false, false, false, false, false, false, false, false, false, false, false, false, false, false, false, false, false, false, false, false, false, false, false, false, false, false, false] rfl rfl (any_of HT_.out (by kernel_rfl)) (fun _ _ _ h => h) (Or.inl ⟨by rfl, ?_⟩) ?_ ?_
             rotate_left
             ·intro w'
              go_simp
              with_reducible rfl
             rotate_left
             ·simp only [Act.put, sa_, sz_, ss_, i64_w, i32_w]
              rfl
             refine pure_ (i := 1) (N := some 102) (v := ?_) (a' := ?_) #[true, true, false, false, false, false, false, false, false, false, false, false, false, false, false, false, false, false, false, false, false, false, false, false, false, false, false, false, false, false, false, false] rfl rfl (any_of HT_.out (by kernel_rfl)) (fun _ _ _ h => h) (Or.inl ⟨by rfl, ?_⟩) ?_ ?_
             rotate_left
             ·intro w'
              go_simp
              with_reducible rfl
             rotate_left
             ·simp only [Act.put, sa_, sz_, ss_, i64_w, i32_w]
              rfl
             refine pure_ (i := 2) (N := some 103) (v := ?_) (a' := ?_) #[true, true, true, false, false, false, false, false, false, false, false, false, false, false, false, false, false, false, false, false, false, false, false, false, false, false, false, false, false, false, false, false] rfl rfl (any_of HT_.out (by kernel_rfl)) (fun _ _ _ h => h) (Or.inl ⟨by rfl, ?_⟩) ?_ ?_
             rotate_left
             ·intro w'
              go_simp
              with_reducible rfl
             rotate_left
             ·simp only [Act.put, sa_, sz_, ss_, i64_w, i32_w]
              rfl
             refine pure_ (i := 4) (N := some 105) (v := ?_) (a' := ?_) #[true, true, true, false, true, false, false, false, false, false, false, false, false, false, false, false, false, false, false, false, false, false, false, false, false, false, false, false, false, false, false, false] rfl rfl (any_of HT_.out (by kernel_rfl)) (fun _ _ _ h => h) (Or.inl ⟨by rfl, ?_⟩) ?_ ?_
             rotate_left
             ·intro w'
              go_simp
              with_reducible rfl
             rotate_left
             ·simp only [Act.put, sa_, sz_, ss_, i64_w, i32_w]
              rfl
             refine take_ (i := 3) (N := some 104) (v := ?_) (a' := ?_) #[true, true, true, true, true, false, false, false, false, false, false, false, false, false, false, false, false, false, false, false, false, false, false, false, false, false, false, false, false, false, false, false] rfl rfl (take_ofW HT_.out HW_.out (by kernel_rfl)) (fun _ _ _ h => h) (Or.inl ⟨by rfl, ?_⟩) hHeld ?_ ?_
             rotate_left
             ·rintro w' ⟨s0, s1, s2, s3, s4⟩
              go_simp
              with_reducible rfl
             rotate_left
             ·simp only [Act.put, sa_, sz_, ss_, i64_w, i32_w]
              rfl
             refine one_ (i := 5) (N := some 106) #[true, true, true, true, true, true, false, false, false, false, false, false, false, false, false, false, false, false, false, false, false, false, false, false, false, false, false, false, false, false, false, false] rfl rfl (one_of HT_.out (by kernel_rfl)) (by decide) (fun K hK => ?_)
             refine goes_ Try.func10 (by kernel_rfl) rfl #[.agg #[.int .i64 a0_0, .slice (some ad246) l0_1.length c0_1, .slice A0_2 l0_2.length c0_2], .slice (some ad245) l1.length c1] (by rfl) rfl rfl gl_ ?_
             with_reducible refine (standstillref07_Fits.calls kj30 a0_0 _ _ l0_1 _ _ l0_2 _ _ l1 true _ ?side1 ?side2 ?side3 ?side4 ?side5 ?side6 A86.out).mono ?_
             (case side1 => exact ck_ (Kd.C_below HR0_1.out HB.out))
             (case side2 => exact HC0_1.out)
             (case side3 => exact ck_ (Kd.C_below HR0_2.out HB.out))
             (case side4 => exact HC0_2.out)
             (case side5 => exact ck_ (Kd.C_below HR1.out HB.out))
             (case side6 => exact HC1.out)
             rintro e w95 ⟨rfl, hb⟩
             refine ⟨_, rfl, ?_⟩
             have n0_ := A_ (Kd.R_below (rk_ HO242.out) hb)
             have n1_ := A_ (blk_below (pk_ BK218.out) hb)
             have n2_ := A_ (blk_below (pk_ BK219.out) hb)
             have n3_ := A_ (blk_below (pk_ BK220.out) hb)
             have n4_ := A_ (below_step (bk_ HB.out) hb)
             clear HO242 BK218 BK219 BK220 HB
             have HO242 := n0_
             have BK218 := n1_
             have BK219 := n2_
             have BK220 := n3_
             have HB := n4_
             clear n0_ n1_ n2_ n3_ n4_
             (try clear hb)
             (try clear hb2)
             (try clear hk)
             (try clear hi)
             obtain ⟨Ao96, co96, eo96⟩ := Kd.R_slice HO242.out
             (first | subst eo96 | (injection eo96 with f1_ f2_ f3_; have f4_ := f1_.symm; have f5_ := f3_.symm; clear f1_ f2_ f3_; subst f4_; subst f5_))
             refine hK.out _ _ ⟨(blk_cell BK218.out 0).trans rfl, (blk_cell BK218.out 1).trans rfl, (blk_cell BK218.out 2).trans rfl, ((HB.out.cell (World.block_lt_of_cell? w _ hw245_0)).trans hw245_0), ((HB.out.cell (World.block_lt_of_cell? w _ hw246_0)).trans hw246_0)⟩ (fun hHeld => ?_)
             clear hK K
             refine norm_ (a' := ?_) ?_ ?_
             rotate_left
             ·show Act.put _ (some 106) _ = _
              simp only [Act.put, sa_, sz_, ss_, i64_w, i32_w]
              rfl
             refine pure_ (i := 6) (N := some 107) (v := ?_) (a' := ?_) #[true, true, true, true, true, true, true, false, false, false, false, false, false, false, false, false, false, false, false, false, false, false, false, false, false, false, false, false, false, false, false, false] rfl rfl (any_of HT_.out (by kernel_rfl)) (fun _ _ _ h => h) (Or.inl ⟨by rfl, ?_⟩) ?_ ?_
             rotate_left
             ·intro w'
              go_simp
              with_reducible rfl
             rotate_left
             ·simp only [Act.put, sa_, sz_, ss_, i64_w, i32_w]
              rfl
             refine pure_ (i := 7) (N := some 108) (v := ?_) (a' := ?_) #[true, true, true, true, true, true, true, true, false, false, false, false, false, false, false, false, false, false, false, false, false, false, false, false, false, false, false, false, false, false, false, false] rfl rfl (any_of HT_.out (by kernel_rfl)) (fun _ _ _ h => h) (Or.inl ⟨by rfl, ?_⟩) ?_ ?_
             rotate_left
             ·intro w'
              go_simp
              with_reducible rfl
             rotate_left
             ·simp only [Act.put, sa_, sz_, ss_, i64_w, i32_w]
              rfl
             refine pure_ (i := 8) (N := some 109) (v := ?_) (a' := ?_) #[true, true, true, true, true, true, true, true, true, false, false, false, false, false, false, false, false, false, false, false, false, false, false, false, false, false, false, false, false, false, false, false] rfl rfl (any_of HT_.out (by kernel_rfl)) (fun _ _ _ h => h) (Or.inl ⟨by rfl, ?_⟩) ?_ ?_
             rotate_left
             ·intro w'
              go_simp
              with_reducible rfl
             rotate_left
             ·simp only [Act.put, sa_, sz_, ss_, i64_w, i32_w]
              rfl
             refine pure_ (i := 9) (N := some 110) (v := ?_) (a' := ?_) #[true, true, true, true, true, true, true, true, true, true, false, false, false, false, false, false, false, false, false, false, false, false, false, false, false, false, false, false, false, false, false, false] rfl rfl (any_of HT_.out (by kernel_rfl)) (fun _ _ _ h => h) (Or.inl ⟨by rfl, ?_⟩) ?_ ?_
             rotate_left
             ·intro w'
              go_simp
              with_reducible rfl
             rotate_left
             ·simp only [Act.put, sa_, sz_, ss_, i64_w, i32_w]
              rfl
             refine pure_ (i := 10) (N := some 111) (v := ?_) (a' := ?_) #[true, true, true, true, true, true, true, true, true, true, true, false, false, false, false, false, false, false, false, false, false, false, false, false, false, false, false, false, false, false, false, false] rfl rfl (any_of HT_.out (by kernel_rfl)) (fun _ _ _ h => h) (Or.inl ⟨by rfl, ?_⟩) ?_ ?_
             rotate_left
             ·intro w'
              go_simp
              with_reducible rfl
             rotate_left
             ·simp only [Act.put, sa_, sz_, ss_, i64_w, i32_w]
              rfl
             refine pure_ (i := 11) (N := some 112) (v := ?_) (a' := ?_) #[true, true, true, true, true, true, true, true, true, true, true, true, false, false, false, false, false, false, false, false, false, false, false, false, false, false, false, false, false, false, false, false] rfl rfl (any_of HT_.out (by kernel_rfl)) (fun _ _ _ h => h) (Or.inl ⟨by rfl, ?_⟩) ?_ ?_
             rotate_left
             ·intro w'
              go_simp
              with_reducible rfl
             rotate_left
             ·simp only [Act.put, sa_, sz_, ss_, i64_w, i32_w]
              rfl
             refine pure_ (i := 12) (N := some 113) (v := ?_) (a' := ?_) #[true, true, true, true, true, true, true, true, true, true, true, true, true, false, false, false, false, false, false, false, false, false, false, false, false, false, false, false, false, false, false, false] rfl rfl (any_of HT_.out (by kernel_rfl)) (fun _ _ _ h => h) (Or.inl ⟨by rfl, ?_⟩) ?_ ?_
             rotate_left
             ·intro w'
              go_simp
              with_reducible rfl
             rotate_left
             ·simp only [Act.put, sa_, sz_, ss_, i64_w, i32_w]
              rfl
             refine pure_ (i := 13) (N := some 114) (v := ?_) (a' := ?_) #[true, true, true, true, true, true, true, true, true, true, true, true, true, true, false, false, false, false, false, false, false, false, false, false, false, false, false, false, false, false, false, false] rfl rfl (any_of HT_.out (by kernel_rfl)) (fun _ _ _ h => h) (Or.inl ⟨by rfl, ?_⟩) ?_ ?_
             rotate_left
             ·intro w'
              go_simp
              with_reducible rfl
             rotate_left
             ·simp only [Act.put, sa_, sz_, ss_, i64_w, i32_w]
              rfl
             refine pure_ (i := 14) (N := some 115) (v := ?_) (a' := ?_) #[true, true, true, true, true, true, true, true, true, true, true, true, true, true, true, false, false, false, false, false, false, false, false, false, false, false, false, false, false, false, false, false] rfl rfl (any_of HT_.out (by kernel_rfl)) (fun _ _ _ h => h) (Or.inl ⟨by rfl, ?_⟩) ?_ ?_
             rotate_left
             ·intro w'
              go_simp
              with_reducible rfl
             rotate_left
             ·simp only [Act.put, sa_, sz_, ss_, i64_w, i32_w]
              rfl
             refine pure_ (i := 15) (N := some 116) (v := ?_) (a' := ?_) #[true, true, true, true, true, true, true, true, true, true, true, true, true, true, true, true, false, false, false, false, false, false, false, false, false, false, false, false, false, false, false, false] rfl rfl (any_of HT_.out (by kernel_rfl)) (fun _ _ _ h => h) (Or.inl ⟨by rfl, ?_⟩) ?_ ?_
             rotate_left
             ·intro w'
              go_simp
              with_reducible rfl
             rotate_left
             ·simp only [Act.put, sa_, sz_, ss_, i64_w, i32_w]
              rfl
             refine pure_ (i := 16) (N := some 117) (v := ?_) (a' := ?_) #[true, true, true, true, true, true, true, true, true, true, true, true, true, true, true, true, true, false, false, false, false, false, false, false, false, false, false, false, false, false, false, false] rfl rfl (any_of HT_.out (by kernel_rfl)) (fun _ _ _ h => h) (Or.inl ⟨by rfl, ?_⟩) ?_ ?_
             rotate_left
             ·intro w'
              go_simp
              with_reducible rfl
             rotate_left
             ·simp only [Act.put, sa_, sz_, ss_, i64_w, i32_w]
              rfl
             refine pure_ (i := 17) (N := some 118) (v := ?_) (a' := ?_) #[true, true, true, true, true, true, true, true, true, true, true, true, true, true, true, true, true, true, false, false, false, false, false, false, false, false, false, false, false, false, false, false] rfl rfl (any_of HT_.out (by kernel_rfl)) (fun _ _ _ h => h) (Or.inl ⟨by rfl, ?_⟩) ?_ ?_
             rotate_left
             ·intro w'
              go_simp
              with_reducible rfl
             rotate_left
             ·simp only [Act.put, sa_, sz_, ss_, i64_w, i32_w]
              rfl
             refine pure_ (i := 19) (N := some 120) (v := ?_) (a' := ?_) #[true, true, true, true, true, true, true, true, true, true, true, true, true, true, true, true, true, true, false, true, false, false, false, false, false, false, false, false, false, false, false, false] rfl rfl (any_of HT_.out (by kernel_rfl)) (fun _ _ _ h => h) (Or.inl ⟨by rfl, ?_⟩) ?_ ?_
             rotate_left
             ·intro w'
              go_simp
              with_reducible rfl
             rotate_left
             ·simp only [Act.put, sa_, sz_, ss_, i64_w, i32_w]
              rfl
             refine pure_ (i := 20) (N := some 121) (v := ?_) (a' := ?_) #[true, true, true, true, true, true, true, true, true, true, true, true, true, true, true, true, true, true, false, true, true, false, false, false, false, false, false, false, false, false, false, false] rfl rfl (any_of HT_.out (by kernel_rfl)) (fun _ _ _ h => h) (Or.inl ⟨by rfl, ?_⟩) ?_ ?_
             rotate_left
             ·intro w'
              go_simp
              with_reducible rfl
             rotate_left
             ·simp only [Act.put, sa_, sz_, ss_, i64_w, i32_w]
              rfl
             refine pure_ (i := 26) (N := some 127) (v := ?_) (a' := ?_) #[true, true, true, true, true, true, true, true, true, true, true, true, true, true, true, true, true, true, false, true, true, false, false, false, false, false, true, false, false, false, false, false] rfl rfl (any_of HT_.out (by kernel_rfl)) (fun _ _ _ h => h) (Or.inl ⟨by rfl, ?_⟩) ?_ ?_
             rotate_left
             ·intro w'
              go_simp
              with_reducible rfl
             rotate_left
             ·simp only [Act.put, sa_, sz_, ss_, i64_w, i32_w]
              rfl
             refine take_ (i := 18) (N := some 119) (v := ?_) (a' := ?_) #[true, true, true, true, true, true, true, true, true, true, true, true, true, true, true, true, true, true, true, true, true, false, false, false, false, false, true, false, false, false, false, false] rfl rfl (take_ofW HT_.out HW_.out (by kernel_rfl)) (fun _ _ _ h => h) (Or.inl ⟨by rfl, ?_⟩) hHeld ?_ ?_
             rotate_left
             ·rintro w' ⟨s0, s1, s2, s3, s4⟩
              go_simp
              with_reducible rfl
             rotate_left
             ·simp only [Act.put, sa_, sz_, ss_, i64_w, i32_w]
              rfl
             refine take_ (i := 21) (N := some 122) (v := ?_) (a' := ?_) #[true, true, true, true, true, true, true, true, true, true, true, true, true, true, true, true, true, true, true, true, true, true, false, false, false, false, true, false, false, false, false, false] rfl rfl (take_ofW HT_.out HW_.out (by kernel_rfl)) (fun _ _ _ h => h) (Or.inl ⟨by rfl, ?_⟩) hHeld ?_ ?_
             rotate_left
             ·rintro w' ⟨s0, s1, s2, s3, s4⟩
              go_simp
              with_reducible rfl
             rotate_left
             ·simp only [Act.put, sa_, sz_, ss_, i64_w, i32_w]
              rfl
             refine pure_ (i := 22) (N := some 123) (v := ?_) (a' := ?_) #[true, true, true, true, true, true, true, true, true, true, true, true, true, true, true, true, true, true, true, true, true, true, true, false, false, false, true, false, false, false, false, false] rfl rfl (any_of HT_.out (by kernel_rfl)) (fun _ _ _ h => h) (Or.inl ⟨by rfl, ?_⟩) ?_ ?_
             rotate_left
             ·intro w'
              go_simp
              with_reducible rfl
             rotate_left
             ·simp only [Act.put, sa_, sz_, ss_, i64_w, i32_w]
              rfl
             refine take_ (i := 23) (N := some 124) (v := ?_) (a' := ?_) #[true, true, true, true, true, true, true, true, true, true, true, true, true, true, true, true, true, true, true, true, true, true, true, true, false, false, true, false, false, false, false, false] rfl rfl (take_ofW HT_.out HW_.out (by kernel_rfl)) (fun _ _ _ h => h) (Or.inl ⟨by rfl, ?_⟩) hHeld ?_ ?_
             rotate_left
             ·rintro w' ⟨s0, s1, s2, s3, s4⟩
              go_simp
              with_reducible rfl
             rotate_left
             ·simp only [Act.put, sa_, sz_, ss_, i64_w, i32_w]
              rfl
             refine pure_ (i := 24) (N := some 125) (v := ?_) (a' := ?_) #[true, true, true, true, true, true, true, true, true, true, true, true, true, true, true, true, true, true, true, true, true, true, true, true, true, false, true, false, false, false, false, false] rfl rfl (any_of HT_.out (by kernel_rfl)) (fun _ _ _ h => h) (Or.inl ⟨by rfl, ?_⟩) ?_ ?_
             rotate_left
             ·intro w'
              go_simp
              with_reducible rfl
             rotate_left
             ·simp only [Act.put, sa_, sz_, ss_, i64_w, i32_w]
              rfl
             refine pure_ (i := 25) (N := some 126) (v := ?_) (a' := ?_) #[true, true, true, true, true, true, true, true, true, true, true, true, true, true, true, true, true, true, true, true, true, true, true, true, true, true, true, false, false, false, false, false] rfl rfl (any_of HT_.out (by kernel_rfl)) (fun _ _ _ h => h) (Or.inl ⟨by rfl, ?_⟩) ?_ ?_
             rotate_left
             ·intro w'
              go_simp
              with_reducible rfl
             rotate_left
             ·simp only [Act.put, sa_, sz_, ss_, i64_w, i32_w]
              rfl
             refine take_ (i := 27) (N := some 128) (v := ?_) (a' := ?_) #[true, true, true, true, true, true, true, true, true, true, true, true, true, true, true, true, true, true, true, true, true, true, true, true, true, true, true, true, false, false, false, false] rfl rfl (take_ofW HT_.out HW_.out (by kernel_rfl)) (fun _ _ _ h => h) (Or.inl ⟨by rfl, ?_⟩) hHeld ?_ ?_
             rotate_left
             ·rintro w' ⟨s0, s1, s2, s3, s4⟩
              go_simp
              with_reducible rfl
             rotate_left
             ·simp only [Act.put, sa_, sz_, ss_, i64_w, i32_w]
              rfl
             refine pure_ (i := 28) (N := some 129) (v := ?_) (a' := ?_) #[true, true, true, true, true, true, true, true, true, true, true, true, true, true, true, true, true, true, true, true, true, true, true, true, true, true, true, true, true, false, false, false] rfl rfl (any_of HT_.out (by kernel_rfl)) (fun _ _ _ h => h) (Or.inl ⟨by rfl, ?_⟩) ?_ ?_
             rotate_left
             ·intro w'
              go_simp
              with_reducible rfl
             rotate_left
             ·simp only [Act.put, sa_, sz_, ss_, i64_w, i32_w]
              rfl
             refine pure_ (i := 29) (N := some 130) (v := ?_) (a' := ?_) #[true, true, true, true, true, true, true, true, true, true, true, true, true, true, true, true, true, true, true, true, true, true, true, true, true, true, true, true, true, true, false, false] rfl rfl (any_of HT_.out (by kernel_rfl)) (fun _ _ _ h => h) (Or.inl ⟨by rfl, ?_⟩) ?_ ?_
             rotate_left
             ·intro w'
              go_simp
              with_reducible rfl
             rotate_left
             ·simp only [Act.put, sa_, sz_, ss_, i64_w, i32_w]
              rfl
             refine pure_ (i := 30) (N := some 131) (v := ?_) (a' := ?_) #[true, true, true, true, true, true, true, true, true, true, true, true, true, true, true, true, true, true, true, true, true, true, true, true, true, true, true, true, true, true, true, false] rfl rfl (any_of HT_.out (by kernel_rfl)) (fun _ _ _ h => h) (Or.inl ⟨by rfl, ?_⟩) ?_ ?_
             rotate_left
             ·intro w'
              go_simp
              with_reducible rfl
             rotate_left
             ·simp only [Act.put, sa_, sz_, ss_, i64_w, i32_w]
              rfl
             refine pure_ (i := 31) (N := some 132) (v := ?_) (a' := ?_) #[true, true, true, true, true, true, true, true, true, true, true, true, true, true, true, true, true, true, true, true, true, true, true, true, true, true, true, true, true, true, true, true] rfl rfl (any_of HT_.out (by kernel_rfl)) (fun _ _ _ h => h) (Or.inl ⟨by rfl, ?_⟩) ?_ ?_
             rotate_left
             ·intro w'
              go_simp
              with_reducible rfl
             rotate_left
             ·simp only [Act.put, sa_, sz_, ss_, i64_w, i32_w]
              rfl
             refine done_ (done_of HT_.out (by kernel_rfl)) ?_
             try go_wp2
             go_meet
             case rel => exact ⟨_, (((t240.length : Int) != (wrap64 ((wrap64 ((l1.length : Int) + ((rd_L1 l0_1 (rd l1 0)).length : Int))) - a0_0)))), jr_, H', ⟨by have := HJ6.out; have := HJ30.out; first | omega | exact Nat.le_refl _⟩, ⟨pk_ BK218.out⟩, ⟨pk_ BK219.out⟩, ⟨pk_ BK220.out⟩, ⟨bk_ HB.out⟩⟩
            ·rw [if_neg c93] at H
             exact absurd H (by simp)
           ·rw [if_neg c92] at H
            exact absurd H (by simp)
          ·rw [if_neg c91] at H
           exact absurd H (by simp)
        ·replace c87 := Bool.eq_false_iff.mpr c87
         subst c87
         have H1 : (standstilllaw07_TagParts.j2 kj30 a4 a5 true l2_0 a3_0 l3_1) = some r := by rw [if_neg (show ¬ (false = true) by decide)] at H; exact H
         clear H
         have H := H1
         clear H1
         have H' := Aside0.mk H
         clear H
         try go_wp2
         have n0_ := A_ (Kd.R_drew HO242.out)
         have n1_ := A_ (blk_drew BK218.out)
         have n2_ := A_ (blk_drew BK219.out)
         have n3_ := A_ (blk_drew BK220.out)
         have n4_ := A_ (below_drew1 HB.out)
         clear HO242 BK218 BK219 BK220 HB
         have HO242 := n0_
         have BK218 := n1_
         have BK219 := n2_
         have BK220 := n3_
         have HB := n4_
         clear n0_ n1_ n2_ n3_ n4_
         refine start_ (n := 32) (S := fun w' => w'.cell? ⟨gb218, 0, none⟩ = some (.int .i64 a0_0) ∧ w'.cell? ⟨gb218, 1, none⟩ = some (.slice A0_1 l0_1.length c0_1) ∧ w'.cell? ⟨gb218, 2, none⟩ = some (.slice A0_2 l0_2.length c0_2)) (ds := []) #[false, false, false, false, false, false, false, false, false, false, false, false, false, false, false, false, false, false, false, false, false, false, false, false, false, false, false, false, false, false, false, false] (by kernel_rfl) rfl rfl ⟨(blk_cell BK218.out 0).trans rfl, (blk_cell BK218.out 1).trans rfl, (blk_cell BK218.out 2).trans rfl⟩ (fun hHeld => ?_); refine with_tabW standstilllaw07_TagParts.tab12 standstilllaw07_TagParts.bits12 (fun HT_ HW_ => ?_)
         generalize w84.drew = w97 at HO242 BK218 BK219 BK220 HB hHeld ⊢
         refine pure_ (i := 0) (N := some 101) (v := ?_) (a' := ?_) #[true, false, false, false, false, false, false, false, false, false, false, false, false, false, false, false, false, false, false, false, false, false, false, false, false, false, false, false, false, false, false, false] rfl rfl (any_of HT_.out (by kernel_rfl)) (fun _ _ _ h => h) (Or.inl ⟨by rfl, ?_⟩) ?_ ?_
         rotate_left
         ·intro w'
          go_simp
          with_reducible rfl
         rotate_left
         ·simp only [Act.put, sa_, sz_, ss_, i64_w, i32_w]
          rfl
         refine pure_ (i := 1) (N := some 102) (v := ?_) (a' := ?_) #[true, true, false, false, false, false, false, false, false, false, false, false, false, false, false, false, false, false, false, false, false, false, false, false, false, false, false, false, false, false, false, false] rfl rfl (any_of HT_.out (by kernel_rfl)) (fun _ _ _ h => h) (Or.inl ⟨by rfl, ?_⟩) ?_ ?_
         rotate_left
         ·intro w'
          go_simp
          with_reducible rfl
         rotate_left
         ·simp only [Act.put, sa_, sz_, ss_, i64_w, i32_w]
          rfl
         refine pure_ (i := 2) (N := some 103) (v := ?_) (a' := ?_) #[true, true, true, false, false, false, false, false, false, false, false, false, false, false, false, false, false, false, false, false, false, false, false, false, false, false, false, false, false, false, false, false] rfl rfl (any_of HT_.out (by kernel_rfl)) (fun _ _ _ h => h) (Or.inl ⟨by rfl, ?_⟩) ?_ ?_
         rotate_left
         ·intro w'
          go_simp
          with_reducible rfl
         rotate_left
         ·simp only [Act.put, sa_, sz_, ss_, i64_w, i32_w]
          rfl
         refine pure_ (i := 4) (N := some 105) (v := ?_) (a' := ?_) #[true, true, true, false, true, false, false, false, false, false, false, false, false, false, false, false, false, false, false, false, false, false, false, false, false, false, false, false, false, false, false, false] rfl rfl (any_of HT_.out (by kernel_rfl)) (fun _ _ _ h => h) (Or.inl ⟨by rfl, ?_⟩) ?_ ?_
         rotate_left
         ·intro w'
          go_simp
          with_reducible rfl
         rotate_left
         ·simp only [Act.put, sa_, sz_, ss_, i64_w, i32_w]
          rfl
         refine take_ (i := 3) (N := some 104) (v := ?_) (a' := ?_) #[true, true, true, true, true, false, false, false, false, false, false, false, false, false, false, false, false, false, false, false, false, false, false, false, false, false, false, false, false, false, false, false] rfl rfl (take_ofW HT_.out HW_.out (by kernel_rfl)) (fun _ _ _ h => h) (Or.inl ⟨by rfl, ?_⟩) hHeld ?_ ?_
         rotate_left
         ·rintro w' ⟨s0, s1, s2⟩
          go_simp
          with_reducible rfl
         rotate_left
         ·simp only [Act.put, sa_, sz_, ss_, i64_w, i32_w]
          rfl
         refine one_ (i := 5) (N := some 106) #[true, true, true, true, true, true, false, false, false, false, false, false, false, false, false, false, false, false, false, false, false, false, false, false, false, false, false, false, false, false, false, false] rfl rfl (one_of HT_.out (by kernel_rfl)) (by decide) (fun K hK => ?_)
         refine goes_ Try.func10 (by kernel_rfl) rfl #[.agg #[.int .i64 a0_0, .slice A0_1 l0_1.length c0_1, .slice A0_2 l0_2.length c0_2], .slice A1 l1.length c1] (by rfl) rfl rfl gl_ ?_
         with_reducible refine (standstillref07_Fits.calls kj30 a0_0 _ _ l0_1 _ _ l0_2 _ _ l1 false _ ?side1 ?side2 ?side3 ?side4 ?side5 ?side6 A86.out).mono ?_
         (case side1 => exact ck_ (Kd.C_below HR0_1.out HB.out))
         (case side2 => exact HC0_1.out)
         (case side3 => exact ck_ (Kd.C_below HR0_2.out HB.out))
         (case side4 => exact HC0_2.out)
         (case side5 => exact ck_ (Kd.C_below HR1.out HB.out))
         (case side6 => exact HC1.out)
         rintro e w98 ⟨rfl, hb⟩
         refine ⟨_, rfl, ?_⟩
         have n0_ := A_ (Kd.R_below (rk_ HO242.out) hb)
         have n1_ := A_ (blk_below (pk_ BK218.out) hb)
         have n2_ := A_ (blk_below (pk_ BK219.out) hb)
         have n3_ := A_ (blk_below (pk_ BK220.out) hb)
         have n4_ := A_ (below_step (bk_ HB.out) hb)
         clear HO242 BK218 BK219 BK220 HB
         have HO242 := n0_
         have BK218 := n1_
         have BK219 := n2_
         have BK220 := n3_
         have HB := n4_
         clear n0_ n1_ n2_ n3_ n4_
         (try clear hb)
         (try clear hb2)
         (try clear hk)
         (try clear hi)
         refine hK.out _ _ ⟨(blk_cell BK218.out 0).trans rfl, (blk_cell BK218.out 1).trans rfl, (blk_cell BK218.out 2).trans rfl⟩ (fun hHeld => ?_)
         clear hK K
         refine norm_ (a' := ?_) ?_ ?_
         rotate_left
         ·show Act.put _ (some 106) _ = _
          simp only [Act.put, sa_, sz_, ss_, i64_w, i32_w]
          rfl
         refine pure_ (i := 6) (N := some 107) (v := ?_) (a' := ?_) #[true, true, true, true, true, true, true, false, false, false, false, false, false, false, false, false, false, false, false, false, false, false, false, false, false, false, false, false, false, false, false, false] rfl rfl (any_of HT_.out (by kernel_rfl)) (fun _ _ _ h => h) (Or.inl ⟨by rfl, ?_⟩) ?_ ?_
         rotate_left
         ·intro w'
          go_simp
          with_reducible rfl
         rotate_left
         ·simp only [Act.put, sa_, sz_, ss_, i64_w, i32_w]
          rfl
         refine pure_ (i := 7) (N := some 108) (v := ?_) (a' := ?_) #[true, true, true, true, true, true, true, true, false, false, false, false, false, false, false, false, false, false, false, false, false, false, false, false, false, false, false, false, false, false, false, false] rfl rfl (any_of HT_.out (by kernel_rfl)) (fun _ _ _ h => h) (Or.inl ⟨by rfl, ?_⟩) ?_ ?_
         rotate_left
         ·intro w'
          go_simp
          with_reducible rfl
         rotate_left
         ·simp only [Act.put, sa_, sz_, ss_, i64_w, i32_w]
          rfl
         refine pure_ (i := 8) (N := some 109) (v := undef) (a' := ?_) #[true, true, true, true, true, true, true, true, true, false, false, false, false, false, false, false, false, false, false, false, false, false, false, false, false, false, false, false, false, false, false, false] rfl rfl (any_of HT_.out (by kernel_rfl)) (fun _ _ _ h => h) (Or.inr ⟨by rfl, rfl⟩) ?_ ?_
         rotate_left
         ·simp only [Act.put, sa_, sz_, ss_, i64_w, i32_w]
          rfl
         refine pure_ (i := 9) (N := some 110) (v := undef) (a' := ?_) #[true, true, true, true, true, true, true, true, true, true, false, false, false, false, false, false, false, false, false, false, false, false, false, false, false, false, false, false, false, false, false, false] rfl rfl (any_of HT_.out (by kernel_rfl)) (fun _ _ _ h => h) (Or.inr ⟨by rfl, rfl⟩) ?_ ?_
         rotate_left
         ·simp only [Act.put, sa_, sz_, ss_, i64_w, i32_w]
          rfl
         refine pure_ (i := 10) (N := some 111) (v := undef) (a' := ?_) #[true, true, true, true, true, true, true, true, true, true, true, false, false, false, false, false, false, false, false, false, false, false, false, false, false, false, false, false, false, false, false, false] rfl rfl (any_of HT_.out (by kernel_rfl)) (fun _ _ _ h => h) (Or.inr ⟨by rfl, rfl⟩) ?_ ?_
         rotate_left
         ·simp only [Act.put, sa_, sz_, ss_, i64_w, i32_w]
          rfl
         refine pure_ (i := 11) (N := some 112) (v := ?_) (a' := ?_) #[true, true, true, true, true, true, true, true, true, true, true, true, false, false, false, false, false, false, false, false, false, false, false, false, false, false, false, false, false, false, false, false] rfl rfl (any_of HT_.out (by kernel_rfl)) (fun _ _ _ h => h) (Or.inl ⟨by rfl, ?_⟩) ?_ ?_
         rotate_left
         ·intro w'
          go_simp
          with_reducible rfl
         rotate_left
         ·simp only [Act.put, sa_, sz_, ss_, i64_w, i32_w]
          rfl
         refine pure_ (i := 12) (N := some 113) (v := ?_) (a' := ?_) #[true, true, true, true, true, true, true, true, true, true, true, true, true, false, false, false, false, false, false, false, false, false, false, false, false, false, false, false, false, false, false, false] rfl rfl (any_of HT_.out (by kernel_rfl)) (fun _ _ _ h => h) (Or.inl ⟨by rfl, ?_⟩) ?_ ?_
         rotate_left
         ·intro w'
          go_simp
          with_reducible rfl
         rotate_left
         ·simp only [Act.put, sa_, sz_, ss_, i64_w, i32_w]
          rfl
         refine pure_ (i := 13) (N := some 114) (v := undef) (a' := ?_) #[true, true, true, true, true, true, true, true, true, true, true, true, true, true, false, false, false, false, false, false, false, false, false, false, false, false, false, false, false, false, false, false] rfl rfl (any_of HT_.out (by kernel_rfl)) (fun _ _ _ h => h) (Or.inr ⟨by rfl, rfl⟩) ?_ ?_
         rotate_left
         ·simp only [Act.put, sa_, sz_, ss_, i64_w, i32_w]
          rfl
         refine pure_ (i := 14) (N := some 115) (v := undef) (a' := ?_) #[true, true, true, true, true, true, true, true, true, true, true, true, true, true, true, false, false, false, false, false, false, false, false, false, false, false, false, false, false, false, false, false] rfl rfl (any_of HT_.out (by kernel_rfl)) (fun _ _ _ h => h) (Or.inr ⟨by rfl, rfl⟩) ?_ ?_
         rotate_left
         ·simp only [Act.put, sa_, sz_, ss_, i64_w, i32_w]
          rfl
         refine pure_ (i := 15) (N := some 116) (v := undef) (a' := ?_) #[true, true, true, true, true, true, true, true, true, true, true, true, true, true, true, true, false, false, false, false, false, false, false, false, false, false, false, false, false, false, false, false] rfl rfl (any_of HT_.out (by kernel_rfl)) (fun _ _ _ h => h) (Or.inr ⟨by rfl, rfl⟩) ?_ ?_
         rotate_left
         ·simp only [Act.put, sa_, sz_, ss_, i64_w, i32_w]
          rfl
         refine pure_ (i := 16) (N := some 117) (v := undef) (a' := ?_) #[true, true, true, true, true, true, true, true, true, true, true, true, true, true, true, true, true, false, false, false, false, false, false, false, false, false, false, false, false, false, false, false] rfl rfl (any_of HT_.out (by kernel_rfl)) (fun _ _ _ h => h) (Or.inr ⟨by rfl, rfl⟩) ?_ ?_
         rotate_left
         ·simp only [Act.put, sa_, sz_, ss_, i64_w, i32_w]
          rfl
         refine pure_ (i := 17) (N := some 118) (v := undef) (a' := ?_) #[true, true, true, true, true, true, true, true, true, true, true, true, true, true, true, true, true, true, false, false, false, false, false, false, false, false, false, false, false, false, false, false] rfl rfl (any_of HT_.out (by kernel_rfl)) (fun _ _ _ h => h) (Or.inr ⟨by rfl, rfl⟩) ?_ ?_
         rotate_left
         ·simp only [Act.put, sa_, sz_, ss_, i64_w, i32_w]
          rfl
         refine pure_ (i := 18) (N := some 119) (v := undef) (a' := ?_) #[true, true, true, true, true, true, true, true, true, true, true, true, true, true, true, true, true, true, true, false, false, false, false, false, false, false, false, false, false, false, false, false] rfl rfl (any_of HT_.out (by kernel_rfl)) (fun _ _ _ h => h) (Or.inr ⟨by rfl, rfl⟩) ?_ ?_
         rotate_left
         ·simp only [Act.put, sa_, sz_, ss_, i64_w, i32_w]
          rfl
         refine pure_ (i := 19) (N := some 120) (v := undef) (a' := ?_) #[true, true, true, true, true, true, true, true, true, true, true, true, true, true, true, true, true, true, true, true, false, false, false, false, false, false, false, false, false, false, false, false] rfl rfl (any_of HT_.out (by kernel_rfl)) (fun _ _ _ h => h) (Or.inr ⟨by rfl, rfl⟩) ?_ ?_
         rotate_left
         ·simp only [Act.put, sa_, sz_, ss_, i64_w, i32_w]
          rfl
         refine pure_ (i := 20) (N := some 121) (v := undef) (a' := ?_) #[true, true, true, true, true, true, true, true, true, true, true, true, true, true, true, true, true, true, true, true, true, false, false, false, false, false, false, false, false, false, false, false] rfl rfl (any_of HT_.out (by kernel_rfl)) (fun _ _ _ h => h) (Or.inr ⟨by rfl, rfl⟩) ?_ ?_
         rotate_left
         ·simp only [Act.put, sa_, sz_, ss_, i64_w, i32_w]
          rfl
         refine pure_ (i := 21) (N := some 122) (v := undef) (a' := ?_) #[true, true, true, true, true, true, true, true, true, true, true, true, true, true, true, true, true, true, true, true, true, true, false, false, false, false, false, false, false, false, false, false] rfl rfl (any_of HT_.out (by kernel_rfl)) (fun _ _ _ h => h) (Or.inr ⟨by rfl, rfl⟩) ?_ ?_
         rotate_left
         ·simp only [Act.put, sa_, sz_, ss_, i64_w, i32_w]
          rfl
         refine pure_ (i := 22) (N := some 123) (v := undef) (a' := ?_) #[true, true, true, true, true, true, true, true, true, true, true, true, true, true, true, true, true, true, true, true, true, true, true, false, false, false, false, false, false, false, false, false] rfl rfl (any_of HT_.out (by kernel_rfl)) (fun _ _ _ h => h) (Or.inr ⟨by rfl, rfl⟩) ?_ ?_
         rotate_left
         ·simp only [Act.put, sa_, sz_, ss_, i64_w, i32_w]
          rfl
         refine pure_ (i := 23) (N := some 124) (v := undef) (a' := ?_) #[true, true, true, true, true, true, true, true, true, true, true, true, true, true, true, true, true, true, true, true, true, true, true, true, false, false, false, false, false, false, false, false] rfl rfl (any_of HT_.out (by kernel_rfl)) (fun _ _ _ h => h) (Or.inr ⟨by rfl, rfl⟩) ?_ ?_
         rotate_left
         ·simp only [Act.put, sa_, sz_, ss_, i64_w, i32_w]
          rfl
         refine pure_ (i := 24) (N := some 125) (v := undef) (a' := ?_) #[true, true, true, true, true, true, true, true, true, true, true, true, true, true, true, true, true, true, true, true, true, true, true, true, true, false, false, false, false, false, false, false] rfl rfl (any_of HT_.out (by kernel_rfl)) (fun _ _ _ h => h) (Or.inr ⟨by rfl, rfl⟩) ?_ ?_
         rotate_left
         ·simp only [Act.put, sa_, sz_, ss_, i64_w, i32_w]
          rfl
         refine pure_ (i := 25) (N := some 126) (v := undef) (a' := ?_) #[true, true, true, true, true, true, true, true, true, true, true, true, true, true, true, true, true, true, true, true, true, true, true, true, true, true, false, false, false, false, false, false] rfl rfl (any_of HT_.out (by kernel_rfl)) (fun _ _ _ h => h) (Or.inr ⟨by rfl, rfl⟩) ?_ ?_
         rotate_left
         ·simp only [Act.put, sa_, sz_, ss_, i64_w, i32_w]
          rfl
         refine pure_ (i := 26) (N := some 127) (v := undef) (a' := ?_) #[true, true, true, true, true, true, true, true, true, true, true, true, true, true, true, true, true, true, true, true, true, true, true, true, true, true, true, false, false, false, false, false] rfl rfl (any_of HT_.out (by kernel_rfl)) (fun _ _ _ h => h) (Or.inr ⟨by rfl, rfl⟩) ?_ ?_
         rotate_left
         ·simp only [Act.put, sa_, sz_, ss_, i64_w, i32_w]
          rfl
         refine pure_ (i := 27) (N := some 128) (v := undef) (a' := ?_) #[true, true, true, true, true, true, true, true, true, true, true, true, true, true, true, true, true, true, true, true, true, true, true, true, true, true, true, true, false, false, false, false] rfl rfl (any_of HT_.out (by kernel_rfl)) (fun _ _ _ h => h) (Or.inr ⟨by rfl, rfl⟩) ?_ ?_
         rotate_left
         ·simp only [Act.put, sa_, sz_, ss_, i64_w, i32_w]
          rfl
         refine pure_ (i := 28) (N := some 129) (v := undef) (a' := ?_) #[true, true, true, true, true, true, true, true, true, true, true, true, true, true, true, true, true, true, true, true, true, true, true, true, true, true, true, true, true, false, false, false] rfl rfl (any_of HT_.out (by kernel_rfl)) (fun _ _ _ h => h) (Or.inr ⟨by rfl, rfl⟩) ?_ ?_
         rotate_left
         ·simp only [Act.put, sa_, sz_, ss_, i64_w, i32_w]
          rfl
         refine pure_ (i := 29) (N := some 130) (v := undef) (a' := ?_) #[true, true, true, true, true, true, true, true, true, true, true, true, true, true, true, true, true, true, true, true, true, true, true, true, true, true, true, true, true, true, false, false] rfl rfl (any_of HT_.out (by kernel_rfl)) (fun _ _ _ h => h) (Or.inr ⟨by rfl, rfl⟩) ?_ ?_
         rotate_left
         ·simp only [Act.put, sa_, sz_, ss_, i64_w, i32_w]
          rfl
         refine pure_ (i := 30) (N := some 131) (v := ?_) (a' := ?_) #[true, true, true, true, true, true, true, true, true, true, true, true, true, true, true, true, true, true, true, true, true, true, true, true, true, true, true, true, true, true, true, false] rfl rfl (any_of HT_.out (by kernel_rfl)) (fun _ _ _ h => h) (Or.inl ⟨by rfl, ?_⟩) ?_ ?_
         rotate_left
         ·intro w'
          go_simp
          with_reducible rfl
         rotate_left
         ·simp only [Act.put, sa_, sz_, ss_, i64_w, i32_w]
          rfl
         refine pure_ (i := 31) (N := some 132) (v := ?_) (a' := ?_) #[true, true, true, true, true, true, true, true, true, true, true, true, true, true, true, true, true, true, true, true, true, true, true, true, true, true, true, true, true, true, true, true] rfl rfl (any_of HT_.out (by kernel_rfl)) (fun _ _ _ h => h) (Or.inl ⟨by rfl, ?_⟩) ?_ ?_
         rotate_left
         ·intro w'
          go_simp
          with_reducible rfl
         rotate_left
         ·simp only [Act.put, sa_, sz_, ss_, i64_w, i32_w]
          rfl
         refine done_ (done_of HT_.out (by kernel_rfl)) ?_
         try go_wp2
         go_meet
         case rel => exact ⟨_, (true), jr_, H', ⟨by have := HJ6.out; have := HJ30.out; first | omega | exact Nat.le_refl _⟩, ⟨pk_ BK218.out⟩, ⟨pk_ BK219.out⟩, ⟨pk_ BK220.out⟩, ⟨bk_ HB.out⟩⟩
       ·rw [if_neg c85] at H
        have c85b0 : (t243 == 0) = false := beq_eq_false_iff_ne.mpr c85
        have c85b1 : (t243 != 0) = true := bne_iff_ne.mpr c85
        (first | rw [c85b0] | (simp only [i64_w, i32_w]; rw [c85b0]) | skip)
        have H' := Aside0.mk H
        clear H
        try go_wp2
        have n0_ := A_ (Kd.R_drew HO242.out)
        have n1_ := A_ (blk_drew BK218.out)
        have n2_ := A_ (blk_drew BK219.out)
        have n3_ := A_ (blk_drew BK220.out)
        have n4_ := A_ (below_drew1 HB.out)
        clear HO242 BK218 BK219 BK220 HB
        have HO242 := n0_
        have BK218 := n1_
        have BK219 := n2_
        have BK220 := n3_
        have HB := n4_
        clear n0_ n1_ n2_ n3_ n4_
        refine start_ (n := 32) (S := fun w' => True) (ds := []) #[false, false, false, false, false, false, false, false, false, false, false, false, false, false, false, false, false, false, false, false, false, false, false, false, false, false, false, false, false, false, false, false] (by kernel_rfl) rfl rfl trivial (fun hHeld => ?_); refine with_tabW standstilllaw07_TagParts.tab12 standstilllaw07_TagParts.bits12 (fun HT_ HW_ => ?_)
        generalize w84.drew = w99 at HO242 BK218 BK219 BK220 HB hHeld ⊢
        refine pure_ (i := 0) (N := some 101) (v := ?_) (a' := ?_) #[true, false, false, false, false, false, false, false, false, false, false, false, false, false, false, false, false, false, false, false, false, false, false, false, false, false, false, false, false, false, false, false] rfl rfl (any_of HT_.out (by kernel_rfl)) (fun _ _ _ h => h) (Or.inl ⟨by rfl, ?_⟩) ?_ ?_
        rotate_left
        ·intro w'
         go_simp
         with_reducible rfl
        rotate_left
        ·simp only [Act.put, sa_, sz_, ss_, i64_w, i32_w]
         rfl
        refine pure_ (i := 1) (N := some 102) (v := ?_) (a' := ?_) #[true, true, false, false, false, false, false, false, false, false, false, false, false, false, false, false, false, false, false, false, false, false, false, false, false, false, false, false, false, false, false, false] rfl rfl (any_of HT_.out (by kernel_rfl)) (fun _ _ _ h => h) (Or.inl ⟨by rfl, ?_⟩) ?_ ?_
        rotate_left
        ·intro w'
         go_simp
         with_reducible rfl
        rotate_left
        ·simp only [Act.put, sa_, sz_, ss_, i64_w, i32_w]
         rfl
        refine pure_ (i := 2) (N := some 103) (v := ?_) (a' := ?_) #[true, true, true, false, false, false, false, false, false, false, false, false, false, false, false, false, false, false, false, false, false, false, false, false, false, false, false, false, false, false, false, false] rfl rfl (any_of HT_.out (by kernel_rfl)) (fun _ _ _ h => h) (Or.inl ⟨by rfl, ?_⟩) ?_ ?_
        rotate_left
        ·intro w'
         go_simp
         with_reducible rfl
        rotate_left
        ·simp only [Act.put, sa_, sz_, ss_, i64_w, i32_w]
         rfl
        refine pure_ (i := 3) (N := some 104) (v := undef) (a' := ?_) #[true, true, true, true, false, false, false, false, false, false, false, false, false, false, false, false, false, false, false, false, false, false, false, false, false, false, false, false, false, false, false, false] rfl rfl (any_of HT_.out (by kernel_rfl)) (fun _ _ _ h => h) (Or.inr ⟨by rfl, rfl⟩) ?_ ?_
        rotate_left
        ·simp only [Act.put, sa_, sz_, ss_, i64_w, i32_w]
         rfl
        refine pure_ (i := 4) (N := some 105) (v := undef) (a' := ?_) #[true, true, true, true, true, false, false, false, false, false, false, false, false, false, false, false, false, false, false, false, false, false, false, false, false, false, false, false, false, false, false, false] rfl rfl (any_of HT_.out (by kernel_rfl)) (fun _ _ _ h => h) (Or.inr ⟨by rfl, rfl⟩) ?_ ?_
        rotate_left
        ·simp only [Act.put, sa_, sz_, ss_, i64_w, i32_w]
         rfl
        refine pure_ (i := 5) (N := some 106) (v := undef) (a' := ?_) #[true, true, true, true, true, true, false, false, false, false, false, false, false, false, false, false, false, false, false, false, false, false, false, false, false, false, false, false, false, false, false, false] rfl rfl (any_of HT_.out (by kernel_rfl)) (fun _ _ _ h => h) (Or.inr ⟨by rfl, rfl⟩) ?_ ?_
        rotate_left
        ·simp only [Act.put, sa_, sz_, ss_, i64_w, i32_w]
         rfl
        refine pure_ (i := 6) (N := some 107) (v := undef) (a' := ?_) #[true, true, true, true, true, true, true, false, false, false, false, false, false, false, false, false, false, false, false, false, false, false, false, false, false, false, false, false, false, false, false, false] rfl rfl (any_of HT_.out (by kernel_rfl)) (fun _ _ _ h => h) (Or.inr ⟨by rfl, rfl⟩) ?_ ?_
        rotate_left
        ·simp only [Act.put, sa_, sz_, ss_, i64_w, i32_w]
         rfl
        refine pure_ (i := 7) (N := some 108) (v := undef) (a' := ?_) #[true, true, true, true, true, true, true, true, false, false, false, false, false, false, false, false, false, false, false, false, false, false, false, false, false, false, false, false, false, false, false, false] rfl rfl (any_of HT_.out (by kernel_rfl)) (fun _ _ _ h => h) (Or.inr ⟨by rfl, rfl⟩) ?_ ?_
        rotate_left
        ·simp only [Act.put, sa_, sz_, ss_, i64_w, i32_w]
         rfl
        refine pure_ (i := 8) (N := some 109) (v := undef) (a' := ?_) #[true, true, true, true, true, true, true, true, true, false, false, false, false, false, false, false, false, false, false, false, false, false, false, false, false, false, false, false, false, false, false, false] rfl rfl (any_of HT_.out (by kernel_rfl)) (fun _ _ _ h => h) (Or.inr ⟨by rfl, rfl⟩) ?_ ?_
        rotate_left
        ·simp only [Act.put, sa_, sz_, ss_, i64_w, i32_w]
         rfl
        refine pure_ (i := 9) (N := some 110) (v := undef) (a' := ?_) #[true, true, true, true, true, true, true, true, true, true, false, false, false, false, false, false, false, false, false, false, false, false, false, false, false, false, false, false, false, false, false, false] rfl rfl (any_of HT_.out (by kernel_rfl)) (fun _ _ _ h => h) (Or.inr ⟨by rfl, rfl⟩) ?_ ?_
        rotate_left
        ·simp only [Act.put, sa_, sz_, ss_, i64_w, i32_w]
         rfl
        refine pure_ (i := 10) (N := some 111) (v := undef) (a' := ?_) #[true, true, true, true, true, true, true, true, true, true, true, false, false, false, false, false, false, false, false, false, false, false, false, false, false, false, false, false, false, false, false, false] rfl rfl (any_of HT_.out (by kernel_rfl)) (fun _ _ _ h => h) (Or.inr ⟨by rfl, rfl⟩) ?_ ?_
        rotate_left
        ·simp only [Act.put, sa_, sz_, ss_, i64_w, i32_w]
         rfl
        refine pure_ (i := 11) (N := some 112) (v := undef) (a' := ?_) #[true, true, true, true, true, true, true, true, true, true, true, true, false, false, false, false, false, false, false, false, false, false, false, false, false, false, false, false, false, false, false, false] rfl rfl (any_of HT_.out (by kernel_rfl)) (fun _ _ _ h => h) (Or.inr ⟨by rfl, rfl⟩) ?_ ?_
        rotate_left
        ·simp only [Act.put, sa_, sz_, ss_, i64_w, i32_w]
         rfl
        refine pure_ (i := 12) (N := some 113) (v := undef) (a' := ?_) #[true, true, true, true, true, true, true, true, true, true, true, true, true, false, false, false, false, false, false, false, false, false, false, false, false, false, false, false, false, false, false, false] rfl rfl (any_of HT_.out (by kernel_rfl)) (fun _ _ _ h => h) (Or.inr ⟨by rfl, rfl⟩) ?_ ?_
        rotate_left
        ·simp only [Act.put, sa_, sz_, ss_, i64_w, i32_w]
         rfl
        refine pure_ (i := 13) (N := some 114) (v := undef) (a' := ?_) #[true, true, true, true, true, true, true, true, true, true, true, true, true, true, false, false, false, false, false, false, false, false, false, false, false, false, false, false, false, false, false, false] rfl rfl (any_of HT_.out (by kernel_rfl)) (fun _ _ _ h => h) (Or.inr ⟨by rfl, rfl⟩) ?_ ?_
        rotate_left
        ·simp only [Act.put, sa_, sz_, ss_, i64_w, i32_w]
         rfl
        refine pure_ (i := 14) (N := some 115) (v := undef) (a' := ?_) #[true, true, true, true, true, true, true, true, true, true, true, true, true, true, true, false, false, false, false, false, false, false, false, false, false, false, false, false, false, false, false, false] rfl rfl (any_of HT_.out (by kernel_rfl)) (fun _ _ _ h => h) (Or.inr ⟨by rfl, rfl⟩) ?_ ?_
        rotate_left
        ·simp only [Act.put, sa_, sz_, ss_, i64_w, i32_w]
         rfl
        refine pure_ (i := 15) (N := some 116) (v := undef) (a' := ?_) #[true, true, true, true, true, true, true, true, true, true, true, true, true, true, true, true, false, false, false, false, false, false, false, false, false, false, false, false, false, false, false, false] rfl rfl (any_of HT_.out (by kernel_rfl)) (fun _ _ _ h => h) (Or.inr ⟨by rfl, rfl⟩) ?_ ?_
        rotate_left
        ·simp only [Act.put, sa_, sz_, ss_, i64_w, i32_w]
         rfl
        refine pure_ (i := 16) (N := some 117) (v := undef) (a' := ?_) #[true, true, true, true, true, true, true, true, true, true, true, true, true, true, true, true, true, false, false, false, false, false, false, false, false, false, false, false, false, false, false, false] rfl rfl (any_of HT_.out (by kernel_rfl)) (fun _ _ _ h => h) (Or.inr ⟨by rfl, rfl⟩) ?_ ?_
        rotate_left
        ·simp only [Act.put, sa_, sz_, ss_, i64_w, i32_w]
         rfl
        refine pure_ (i := 17) (N := some 118) (v := undef) (a' := ?_) #[true, true, true, true, true, true, true, true, true, true, true, true, true, true, true, true, true, true, false, false, false, false, false, false, false, false, false, false, false, false, false, false] rfl rfl (any_of HT_.out (by kernel_rfl)) (fun _ _ _ h => h) (Or.inr ⟨by rfl, rfl⟩) ?_ ?_
        rotate_left
        ·simp only [Act.put, sa_, sz_, ss_, i64_w, i32_w]
         rfl
        refine pure_ (i := 18) (N := some 119) (v := undef) (a' := ?_) #[true, true, true, true, true, true, true, true, true, true, true, true, true, true, true, true, true, true, true, false, false, false, false, false, false, false, false, false, false, false, false, false] rfl rfl (any_of HT_.out (by kernel_rfl)) (fun _ _ _ h => h) (Or.inr ⟨by rfl, rfl⟩) ?_ ?_
        rotate_left
        ·simp only [Act.put, sa_, sz_, ss_, i64_w, i32_w]
         rfl
        refine pure_ (i := 19) (N := some 120) (v := undef) (a' := ?_) #[true, true, true, true, true, true, true, true, true, true, true, true, true, true, true, true, true, true, true, true, false, false, false, false, false, false, false, false, false, false, false, false] rfl rfl (any_of HT_.out (by kernel_rfl)) (fun _ _ _ h => h) (Or.inr ⟨by rfl, rfl⟩) ?_ ?_
        rotate_left
        ·simp only [Act.put, sa_, sz_, ss_, i64_w, i32_w]
         rfl
        refine pure_ (i := 20) (N := some 121) (v := undef) (a' := ?_) #[true, true, true, true, true, true, true, true, true, true, true, true, true, true, true, true, true, true, true, true, true, false, false, false, false, false, false, false, false, false, false, false] rfl rfl (any_of HT_.out (by kernel_rfl)) (fun _ _ _ h => h) (Or.inr ⟨by rfl, rfl⟩) ?_ ?_
        rotate_left
        ·simp only [Act.put, sa_, sz_, ss_, i64_w, i32_w]
         rfl
        refine pure_ (i := 21) (N := some 122) (v := undef) (a' := ?_) #[true, true, true, true, true, true, true, true, true, true, true, true, true, true, true, true, true, true, true, true, true, true, false, false, false, false, false, false, false, false, false, false] rfl rfl (any_of HT_.out (by kernel_rfl)) (fun _ _ _ h => h) (Or.inr ⟨by rfl, rfl⟩) ?_ ?_
        rotate_left
        ·simp only [Act.put, sa_, sz_, ss_, i64_w, i32_w]
         rfl
        refine pure_ (i := 22) (N := some 123) (v := undef) (a' := ?_) #[true, true, true, true, true, true, true, true, true, true, true, true, true, true, true, true, true, true, true, true, true, true, true, false, false, false, false, false, false, false, false, false] rfl rfl (any_of HT_.out (by kernel_rfl)) (fun _ _ _ h => h) (Or.inr ⟨by rfl, rfl⟩) ?_ ?_
        rotate_left
        ·simp only [Act.put, sa_, sz_, ss_, i64_w, i32_w]
         rfl
        refine pure_ (i := 23) (N := some 124) (v := undef) (a' := ?_) #[true, true, true, true, true, true, true, true, true, true, true, true, true, true, true, true, true, true, true, true, true, true, true, true, false, false, false, false, false, false, false, false] rfl rfl (any_of HT_.out (by kernel_rfl)) (fun _ _ _ h => h) (Or.inr ⟨by rfl, rfl⟩) ?_ ?_
        rotate_left
        ·simp only [Act.put, sa_, sz_, ss_, i64_w, i32_w]
         rfl
        refine pure_ (i := 24) (N := some 125) (v := undef) (a' := ?_) #[true, true, true, true, true, true, true, true, true, true, true, true, true, true, true, true, true, true, true, true, true, true, true, true, true, false, false, false, false, false, false, false] rfl rfl (any_of HT_.out (by kernel_rfl)) (fun _ _ _ h => h) (Or.inr ⟨by rfl, rfl⟩) ?_ ?_
        rotate_left
        ·simp only [Act.put, sa_, sz_, ss_, i64_w, i32_w]
         rfl
        refine pure_ (i := 25) (N := some 126) (v := undef) (a' := ?_) #[true, true, true, true, true, true, true, true, true, true, true, true, true, true, true, true, true, true, true, true, true, true, true, true, true, true, false, false, false, false, false, false] rfl rfl (any_of HT_.out (by kernel_rfl)) (fun _ _ _ h => h) (Or.inr ⟨by rfl, rfl⟩) ?_ ?_
        rotate_left
        ·simp only [Act.put, sa_, sz_, ss_, i64_w, i32_w]
         rfl
        refine pure_ (i := 26) (N := some 127) (v := undef) (a' := ?_) #[true, true, true, true, true, true, true, true, true, true, true, true, true, true, true, true, true, true, true, true, true, true, true, true, true, true, true, false, false, false, false, false] rfl rfl (any_of HT_.out (by kernel_rfl)) (fun _ _ _ h => h) (Or.inr ⟨by rfl, rfl⟩) ?_ ?_
        rotate_left
        ·simp only [Act.put, sa_, sz_, ss_, i64_w, i32_w]
         rfl
        refine pure_ (i := 27) (N := some 128) (v := undef) (a' := ?_) #[true, true, true, true, true, true, true, true, true, true, true, true, true, true, true, true, true, true, true, true, true, true, true, true, true, true, true, true, false, false, false, false] rfl rfl (any_of HT_.out (by kernel_rfl)) (fun _ _ _ h => h) (Or.inr ⟨by rfl, rfl⟩) ?_ ?_
        rotate_left
        ·simp only [Act.put, sa_, sz_, ss_, i64_w, i32_w]
         rfl
        refine pure_ (i := 28) (N := some 129) (v := undef) (a' := ?_) #[true, true, true, true, true, true, true, true, true, true, true, true, true, true, true, true, true, true, true, true, true, true, true, true, true, true, true, true, true, false, false, false] rfl rfl (any_of HT_.out (by kernel_rfl)) (fun _ _ _ h => h) (Or.inr ⟨by rfl, rfl⟩) ?_ ?_
        rotate_left
        ·simp only [Act.put, sa_, sz_, ss_, i64_w, i32_w]
         rfl
        refine pure_ (i := 29) (N := some 130) (v := undef) (a' := ?_) #[true, true, true, true, true, true, true, true, true, true, true, true, true, true, true, true, true, true, true, true, true, true, true, true, true, true, true, true, true, true, false, false] rfl rfl (any_of HT_.out (by kernel_rfl)) (fun _ _ _ h => h) (Or.inr ⟨by rfl, rfl⟩) ?_ ?_
        rotate_left
        ·simp only [Act.put, sa_, sz_, ss_, i64_w, i32_w]
         rfl
        refine pure_ (i := 30) (N := some 131) (v := undef) (a' := ?_) #[true, true, true, true, true, true, true, true, true, true, true, true, true, true, true, true, true, true, true, true, true, true, true, true, true, true, true, true, true, true, true, false] rfl rfl (any_of HT_.out (by kernel_rfl)) (fun _ _ _ h => h) (Or.inr ⟨by rfl, rfl⟩) ?_ ?_
        rotate_left
        ·simp only [Act.put, sa_, sz_, ss_, i64_w, i32_w]
         rfl
        refine pure_ (i := 31) (N := some 132) (v := ?_) (a' := ?_) #[true, true, true, true, true, true, true, true, true, true, true, true, true, true, true, true, true, true, true, true, true, true, true, true, true, true, true, true, true, true, true, true] rfl rfl (any_of HT_.out (by kernel_rfl)) (fun _ _ _ h => h) (Or.inl ⟨by rfl, ?_⟩) ?_ ?_
        rotate_left
        ·intro w'
         go_simp
         with_reducible rfl
        rotate_left
        ·simp only [Act.put, sa_, sz_, ss_, i64_w, i32_w]
         rfl
        refine done_ (done_of HT_.out (by kernel_rfl)) ?_
        try go_wp2
        go_meet
        case rel => exact ⟨_, (false), jr_, H', ⟨by have := HJ6.out; have := HJ30.out; first | omega | exact Nat.le_refl _⟩, ⟨pk_ BK218.out⟩, ⟨pk_ BK219.out⟩, ⟨pk_ BK220.out⟩, ⟨bk_ HB.out⟩⟩
      case rest => as_aux_lemma =>
       clear HC80
       (try clear c1)
       obtain ⟨kq, x132_79, rfl, HA, HJ79, BK218, BK219, BK220, HB⟩ := hcut
       cases kq with
       | zero => exact absurd HA.out (by simp [standstilllaw07_TagParts.j2])
       | succ kj79 =>
        have H := HA.out
        clear HA
        simp only [standstilllaw07_TagParts.j2] at H
        by_cases c100 : x132_79 = true
        ·subst c100
         have H1 : (some false) = some r := by rw [if_pos rfl] at H; exact H
         clear H
         have H := H1
         clear H1
         obtain rfl := Option.some.inj H
         go_wp2
         go_ret
         exact ⟨er_, bk_ HB.out⟩
        ·replace c100 := Bool.eq_false_iff.mpr c100
         subst c100
         have H1 : ((tag_Roll.f kj79 l2_0 a3_0 l3_1 (wrap64 ((wrap64 (a4)) + (wrap64 (a5))))).bind fun bt247 => ((tag_Roll.f kj79 l2_0 a3_0 l3_1 (wrap64 (a4))).bind fun bt254 => (if bt254.2.2.2 = 0 then ((tag_Roll.f kj79 l2_0 bt254.1 bt254.2.1 (wrap64 (a5))).bind fun bt261 => (if bt247.2.2.2 = bt261.2.2.2 then ((standstillref07_SameWheel.f kj79 bt247.1 bt247.2.1 bt261.1 bt261.2.1).bind fun t268 => (if t268 = true then (if bt247.2.2.2 = 0 then (if bt247.2.2.1 = (wrap64 (bt254.2.2.1 + bt261.2.2.1)) then ((standstilllaw07_awake.f kj79).bind fun t269 => (some t269)) else (some false)) else ((standstilllaw07_awake.f kj79).bind fun t270 => (some t270))) else (some false))) else (some false))) else (if bt247.2.2.2 = bt254.2.2.2 then ((standstilllaw07_awake.f kj79).bind fun t271 => (some t271)) else (some false))))) = some r := by rw [if_neg (show ¬ (false = true) by decide)] at H; exact H
         clear H
         have H := H1
         clear H1
         replace H := Option.bind_eq_some_iff.mp H
         obtain ⟨⟨t247, t248, t251, t252⟩, A1010, H⟩ := H
         replace H : ((tag_Roll.f kj79 l2_0 a3_0 l3_1 (wrap64 (a4))).bind fun bt254 => (if bt254.2.2.2 = 0 then ((tag_Roll.f kj79 l2_0 bt254.1 bt254.2.1 (wrap64 (a5))).bind fun bt261 => (if t252 = bt261.2.2.2 then ((standstillref07_SameWheel.f kj79 t247 t248 bt261.1 bt261.2.1).bind fun t268 => (if t268 = true then (if t252 = 0 then (if t251 = (wrap64 (bt254.2.2.1 + bt261.2.2.1)) then ((standstilllaw07_awake.f kj79).bind fun t269 => (some t269)) else (some false)) else ((standstilllaw07_awake.f kj79).bind fun t270 => (some t270))) else (some false))) else (some false))) else (if t252 = bt254.2.2.2 then ((standstilllaw07_awake.f kj79).bind fun t271 => (some t271)) else (some false)))) = some r := H
         have A101 := Aside0.mk A1010
         clear A1010
         replace H := Option.bind_eq_some_iff.mp H
         obtain ⟨⟨t254, t255, t258, t259⟩, A1020, H⟩ := H
         replace H : (if t259 = 0 then ((tag_Roll.f kj79 l2_0 t254 t255 (wrap64 (a5))).bind fun bt261 => (if t252 = bt261.2.2.2 then ((standstillref07_SameWheel.f kj79 t247 t248 bt261.1 bt261.2.1).bind fun t268 => (if t268 = true then (if t252 = 0 then (if t251 = (wrap64 (t258 + bt261.2.2.1)) then ((standstilllaw07_awake.f kj79).bind fun t269 => (some t269)) else (some false)) else ((standstilllaw07_awake.f kj79).bind fun t270 => (some t270))) else (some false))) else (some false))) else (if t252 = t259 then ((standstilllaw07_awake.f kj79).bind fun t271 => (some t271)) else (some false))) = some r := H
         have A102 := Aside0.mk A1020
         clear A1020
         by_cases c103 : t259 = 0
         ·rw [if_pos c103] at H
          have c103b0 : (t259 == 0) = true := beq_iff_eq.mpr c103
          have c103b1 : (t259 != 0) = false := bne_eq_false_iff_eq.mpr c103
          clear c103
          replace H := Option.bind_eq_some_iff.mp H
          obtain ⟨⟨t261, t262, t265, t266⟩, A1040, H⟩ := H
          replace H : (if t252 = t266 then ((standstillref07_SameWheel.f kj79 t247 t248 t261 t262).bind fun t268 => (if t268 = true then (if t252 = 0 then (if t251 = (wrap64 (t258 + t265)) then ((standstilllaw07_awake.f kj79).bind fun t269 => (some t269)) else (some false)) else ((standstilllaw07_awake.f kj79).bind fun t270 => (some t270))) else (some false))) else (some false)) = some r := H
          have A104 := Aside0.mk A1040
          clear A1040
          by_cases c105 : t252 = t266
          ·rw [if_pos c105] at H
           have c105b0 : (t252 == t266) = true := beq_iff_eq.mpr c105
           have c105b1 : (t252 != t266) = false := bne_eq_false_iff_eq.mpr c105
           clear c105
           replace H := Option.bind_eq_some_iff.mp H
           obtain ⟨t268, A1060, H⟩ := H
           replace H : (if t268 = true then (if t252 = 0 then (if t251 = (wrap64 (t258 + t265)) then ((standstilllaw07_awake.f kj79).bind fun t269 => (some t269)) else (some false)) else ((standstilllaw07_awake.f kj79).bind fun t270 => (some t270))) else (some false)) = some r := H
           have A106 := Aside0.mk A1060
           clear A1060
           by_cases c107 : t268 = true
           ·subst c107
            have H1 : (if t252 = 0 then (if t251 = (wrap64 (t258 + t265)) then ((standstilllaw07_awake.f kj79).bind fun t269 => (some t269)) else (some false)) else ((standstilllaw07_awake.f kj79).bind fun t270 => (some t270))) = some r := by rw [if_pos rfl] at H; exact H
            clear H
            have H := H1
            clear H1
            by_cases c108 : t252 = 0
            ·rw [if_pos c108] at H
             have c108b0 : (t252 == 0) = true := beq_iff_eq.mpr c108
             have c108b1 : (t252 != 0) = false := bne_eq_false_iff_eq.mpr c108
             clear c108
             by_cases c109 : t251 = (wrap64 (t258 + t265))
             ·rw [if_pos c109] at H
              have c109b0 : (t251 == (wrap64 (t258 + t265))) = true := beq_iff_eq.mpr c109
              have c109b1 : (t251 != (wrap64 (t258 + t265))) = false := bne_eq_false_iff_eq.mpr c109
              clear c109
              replace H := Option.bind_eq_some_iff.mp H
              obtain ⟨t269, A1100, H⟩ := H
              replace H : (some t269) = some r := H
              have A110 := Aside0.mk A1100
              clear A1100
              obtain rfl := Option.some.inj H
              have hnb111 := NB219_218.out
              have hnc111 := NB218_219.out
              have hnb112 := NB219_220.out
              have hnc112 := NB220_219.out
              have hcz113_0 : wc.cell? ⟨gb219, 0, none⟩ = some (.slice A2_0 l2_0.length c2_0) := (blk_cell BK219.out 0).trans rfl
              have hfz113_0 := blk_frozen BK219.out 0
              have hnb114 := NB220_218.out
              have hnc114 := NB218_220.out
              have hcz115_0 : wc.cell? ⟨gb220, 0, none⟩ = some (.int .i64 a3_0) := (blk_cell BK220.out 0).trans rfl
              have hcz115_1 : wc.cell? ⟨gb220, 1, none⟩ = some (.slice A3_1 l3_1.length c3_1) := (blk_cell BK220.out 1).trans rfl
              have hfz115_0 := blk_frozen BK220.out 0
              have hfz115_1 := blk_frozen BK220.out 1
              go_wp2_with (first | ((with_reducible refine gate_callee (f := 29) rfl ?_); refine goesL_ (some 141) rfl rfl Try.func29 (by kernel_rfl) rfl #[.agg #[.slice A2_0 l2_0.length c2_0], .agg #[.int .i64 a3_0, .slice A3_1 l3_1.length c3_1], .int .i64 (wrap64 ((wrap64 (a4)) + (wrap64 (a5))))] rfl gl_ ?_; (with_reducible refine (tag_Roll.calls kj79 _ _ l2_0 a3_0 _ _ l3_1 (wrap64 ((wrap64 (a4)) + (wrap64 (a5)))) t247 t248 t251 t252 _ ?side1 ?side2 ?side3 ?side4 A101.out).mono ?_); (case side1 => exact ck_ (Kd.C_below HR2_0.out HB.out)); (case side2 => exact HC2_0.out); (case side3 => exact ck_ (Kd.C_below HR3_1.out HB.out)); (case side4 => exact HC3_1.out); rintro e w116 ⟨v249, rfl, ho0, hb⟩; refine ⟨_, rfl, ?_⟩; have n0_ := A_ (Kd.R_lower ho0 (below_size (bk_ HB.out))); have n1_ := A_ (blk_below (pk_ BK218.out) hb); have n2_ := A_ (blk_below (pk_ BK219.out) hb); have n3_ := A_ (blk_below (pk_ BK220.out) hb); have n4_ := A_ (below_step (bk_ HB.out) hb); clear BK218 BK219 BK220 HB; have HO250 := n0_; have BK218 := n1_; have BK219 := n2_; have BK220 := n3_; have HB := n4_; clear n0_ n1_ n2_ n3_ n4_; (try clear hb); (try clear hb2); (try clear hk); (try clear hi); (try clear ho0)) | ((with_reducible refine gate_dst (N := 24) rfl ?_); (try (refine gate_guard (by rfl) ?_; dsimp only)); refine box_event ?hg (N := 24) ?hd (cs := #[.int .i64 0, .slice none 0 0]) (t := 47) ?hr ?_; (case hd => rfl); (case hg => rfl); (case hr => first | (go_simp; done) | (go_simp; rfl)); intro gb253 hg w117 hbox hb; have n0_ := A_ (Kd.R_below (rk_ HO250.out) hb); have n1_ := A_ (blk_below (pk_ BK218.out) hb); have n2_ := A_ (blk_below (pk_ BK219.out) hb); have n3_ := A_ (blk_below (pk_ BK220.out) hb); have n4_ := A_ (below_step (bk_ HB.out) hb); have n5_ := A_ (hbox); have n6_ := A_ ((by rw [hg]; exact (below_size (bk_ HB.out)) : w.heap.size ≤ gb253)); have n7_ := A_ ((by rw [hg]; exact (below_size (bk_ HB.out)) : w.heap.size ≤ gb253)); have n8_ := A_ ((by rw [hg]; exact Nat.ne_of_lt (blk_lt (pk_ BK218.out)) : gb218 ≠ gb253)); have n9_ := A_ ((by rw [hg]; exact Nat.ne_of_gt (blk_lt (pk_ BK218.out)) : gb253 ≠ gb218)); have n10_ := A_ ((by rw [hg]; exact Nat.ne_of_lt (blk_lt (pk_ BK219.out)) : gb219 ≠ gb253)); have n11_ := A_ ((by rw [hg]; exact Nat.ne_of_gt (blk_lt (pk_ BK219.out)) : gb253 ≠ gb219)); have n12_ := A_ ((by rw [hg]; exact Nat.ne_of_lt (blk_lt (pk_ BK220.out)) : gb220 ≠ gb253)); have n13_ := A_ ((by rw [hg]; exact Nat.ne_of_gt (blk_lt (pk_ BK220.out)) : gb253 ≠ gb220)); clear HO250 BK218 BK219 BK220 HB; have HO250 := n0_; have BK218 := n1_; have BK219 := n2_; have BK220 := n3_; have HB := n4_; have BK253 := n5_; have GW253 := n6_; have GE253 := n7_; have NB218_253 := n8_; have NB253_218 := n9_; have NB219_253 := n10_; have NB253_219 := n11_; have NB220_253 := n12_; have NB253_220 := n13_; clear n0_ n1_ n2_ n3_ n4_ n5_ n6_ n7_ n8_ n9_ n10_ n11_ n12_ n13_ hb hbox hg; have hnb118 := NB253_218.out; have hnc118 := NB218_253.out; have hnb119 := NB253_219.out; have hnc119 := NB219_253.out; have hnb120 := NB253_220.out; have hnc120 := NB220_253.out; have hcz121_0 : w117.cell? ⟨gb253, 0, none⟩ = some (.int .i64 0) := (blk_cell BK253.out 0).trans rfl; have hcz121_1 : w117.cell? ⟨gb253, 1, none⟩ = some (.slice none 0 0) := (blk_cell BK253.out 1).trans rfl; have hfz121_0 := blk_frozen BK253.out 0; have hfz121_1 := blk_frozen BK253.out 1; obtain ⟨Ao122, co122, eo122⟩ := Kd.R_slice HO250.out; subst eo122; have hcz123_0 : w117.cell? ⟨gb219, 0, none⟩ = some (.slice A2_0 l2_0.length c2_0) := (blk_cell BK219.out 0).trans rfl; have hfz123_0 := blk_frozen BK219.out 0; have hcz124_0 : w117.cell? ⟨gb220, 0, none⟩ = some (.int .i64 a3_0) := (blk_cell BK220.out 0).trans rfl; have hcz124_1 : w117.cell? ⟨gb220, 1, none⟩ = some (.slice A3_1 l3_1.length c3_1) := (blk_cell BK220.out 1).trans rfl; have hfz124_0 := blk_frozen BK220.out 0; have hfz124_1 := blk_frozen BK220.out 1) | ((with_reducible refine gate_callee (f := 29) rfl ?_); refine goesL_ (some 150) rfl rfl Try.func29 (by kernel_rfl) rfl #[.agg #[.slice A2_0 l2_0.length c2_0], .agg #[.int .i64 a3_0, .slice A3_1 l3_1.length c3_1], .int .i64 (wrap64 (a4))] rfl gl_ ?_; (with_reducible refine (tag_Roll.calls kj79 _ _ l2_0 a3_0 _ _ l3_1 (wrap64 (a4)) t254 t255 t258 t259 _ ?side1 ?side2 ?side3 ?side4 A102.out).mono ?_); (case side1 => exact Kd.C_below HR2_0.out (bk_ HB.out)); (case side2 => exact HC2_0.out); (case side3 => exact Kd.C_below HR3_1.out (bk_ HB.out)); (case side4 => exact HC3_1.out); rintro e w125 ⟨v256, rfl, ho0, hb⟩; refine ⟨_, rfl, ?_⟩; have n0_ := A_ (Kd.R_elder' (by (with_reducible repeat (first | apply Kd.R_alloc | apply Kd.R_drewN | apply Kd.R_drew)); exact (Kd.R_mono (Kd.R_far (p := ⟨gb253, 1, none⟩) (Kd.R_far (p := ⟨gb253, 0, none⟩) (Kd.R_types HO250.out BK253.out (by decide)) (fun _ hk => hk.2) (.int .i64 t247)) (fun _ hk => hk.2) (.slice Ao122 t248.length co122)) (fun _ h_ => h_.1))) (Kd.R_base ho0) hb); have n1_ := A_ (Kd.R_lower (Kd.R_new' ho0 (Kd.R_lt (by (with_reducible repeat (first | apply Kd.R_alloc | apply Kd.R_drewN | apply Kd.R_drew)); exact (Kd.R_mono (Kd.R_far (p := ⟨gb253, 1, none⟩) (Kd.R_far (p := ⟨gb253, 0, none⟩) (Kd.R_types HO250.out BK253.out (by decide)) (fun _ hk => hk.2) (.int .i64 t247)) (fun _ hk => hk.2) (.slice Ao122 t248.length co122)) (fun _ h_ => h_.1))))) (below_size (bk_ HB.out))); have n2_ := A_ (blk_below (g := gb218) (o := .cells #[.int .i64 a0_0, .slice A0_1 l0_1.length c0_1, .slice A0_2 l0_2.length c0_2] 25 (0, 0)) (by refine pk_ ?_; refine blk_far ?_ NB218_253.out _; refine pk_ ?_; refine blk_far ?_ NB218_253.out _; exact pk_ BK218.out) hb); have n3_ := A_ (blk_below (g := gb219) (o := .cells #[.slice A2_0 l2_0.length c2_0] 45 (0, 0)) (by refine pk_ ?_; refine blk_far ?_ NB219_253.out _; refine pk_ ?_; refine blk_far ?_ NB219_253.out _; exact pk_ BK219.out) hb); have n4_ := A_ (blk_below (g := gb220) (o := .cells #[.int .i64 a3_0, .slice A3_1 l3_1.length c3_1] 47 (0, 0)) (by refine pk_ ?_; refine blk_far ?_ NB220_253.out _; refine pk_ ?_; refine blk_far ?_ NB220_253.out _; exact pk_ BK220.out) hb); have n5_ := A_ (blk_below (g := gb253) (o := .cells #[.int .i64 t247, .slice Ao122 t248.length co122] 47 (0, 0)) (by refine pk_ ?_; refine blk_put (cs := #[.int .i64 t247, .slice none 0 0]) ?_ 1 _ rfl; refine pk_ ?_; refine blk_put (cs := #[.int .i64 0, .slice none 0 0]) ?_ 0 _ rfl; exact pk_ BK253.out) hb); have n6_ := A_ (below_step (bk_ HB.out) hb); clear HO250 BK218 BK219 BK220 BK253 HB; have HO250 := n0_; have HO257 := n1_; have BK218 := n2_; have BK219 := n3_; have BK220 := n4_; have BK253 := n5_; have HB := n6_; clear n0_ n1_ n2_ n3_ n4_ n5_ n6_; (try clear hb); (try clear hb2); (try clear hk); (try clear hi); (try clear ho0)) | ((with_reducible refine gate_dst (N := 26) rfl ?_); (try (refine gate_guard (by rfl) ?_; dsimp only)); refine box_event ?hg (N := 26) ?hd (cs := #[.int .i64 0, .slice none 0 0]) (t := 47) ?hr ?_; (case hd => rfl); (case hg => rfl); (case hr => first | (go_simp; done) | (go_simp; rfl)); intro gb260 hg w126 hbox hb; have n0_ := A_ (Kd.R_below (rk_ HO250.out) hb); have n1_ := A_ (Kd.R_below (rk_ HO257.out) hb); have n2_ := A_ (blk_below (pk_ BK218.out) hb); have n3_ := A_ (blk_below (pk_ BK219.out) hb); have n4_ := A_ (blk_below (pk_ BK220.out) hb); have n5_ := A_ (blk_below (pk_ BK253.out) hb); have n6_ := A_ (below_step (bk_ HB.out) hb); have n7_ := A_ (hbox); have n8_ := A_ ((by rw [hg]; exact (below_size (bk_ HB.out)) : w.heap.size ≤ gb260)); have n9_ := A_ ((by rw [hg]; exact (below_size (bk_ HB.out)) : w.heap.size ≤ gb260)); have n10_ := A_ ((by rw [hg]; exact Nat.ne_of_lt (blk_lt (pk_ BK218.out)) : gb218 ≠ gb260)); have n11_ := A_ ((by rw [hg]; exact Nat.ne_of_gt (blk_lt (pk_ BK218.out)) : gb260 ≠ gb218)); have n12_ := A_ ((by rw [hg]; exact Nat.ne_of_lt (blk_lt (pk_ BK219.out)) : gb219 ≠ gb260)); have n13_ := A_ ((by rw [hg]; exact Nat.ne_of_gt (blk_lt (pk_ BK219.out)) : gb260 ≠ gb219)); have n14_ := A_ ((by rw [hg]; exact Nat.ne_of_lt (blk_lt (pk_ BK220.out)) : gb220 ≠ gb260)); have n15_ := A_ ((by rw [hg]; exact Nat.ne_of_gt (blk_lt (pk_ BK220.out)) : gb260 ≠ gb220)); have n16_ := A_ ((by rw [hg]; exact Nat.ne_of_lt (blk_lt (pk_ BK253.out)) : gb253 ≠ gb260)); have n17_ := A_ ((by rw [hg]; exact Nat.ne_of_gt (blk_lt (pk_ BK253.out)) : gb260 ≠ gb253)); clear HO250 HO257 BK218 BK219 BK220 BK253 HB; have HO250 := n0_; have HO257 := n1_; have BK218 := n2_; have BK219 := n3_; have BK220 := n4_; have BK253 := n5_; have HB := n6_; have BK260 := n7_; have GW260 := n8_; have GE260 := n9_; have NB218_260 := n10_; have NB260_218 := n11_; have NB219_260 := n12_; have NB260_219 := n13_; have NB220_260 := n14_; have NB260_220 := n15_; have NB253_260 := n16_; have NB260_253 := n17_; clear n0_ n1_ n2_ n3_ n4_ n5_ n6_ n7_ n8_ n9_ n10_ n11_ n12_ n13_ n14_ n15_ n16_ n17_ hb hbox hg; have hnb127 := NB260_218.out; have hnc127 := NB218_260.out; have hnb128 := NB260_219.out; have hnc128 := NB219_260.out; have hnb129 := NB260_220.out; have hnc129 := NB220_260.out; have hnb130 := NB260_253.out; have hnc130 := NB253_260.out; have hcz131_0 : w126.cell? ⟨gb260, 0, none⟩ = some (.int .i64 0) := (blk_cell BK260.out 0).trans rfl; have hcz131_1 : w126.cell? ⟨gb260, 1, none⟩ = some (.slice none 0 0) := (blk_cell BK260.out 1).trans rfl; have hfz131_0 := blk_frozen BK260.out 0; have hfz131_1 := blk_frozen BK260.out 1; obtain ⟨Ao132, co132, eo132⟩ := Kd.R_slice HO257.out; subst eo132; have hcz133_0 : w126.cell? ⟨gb219, 0, none⟩ = some (.slice A2_0 l2_0.length c2_0) := (blk_cell BK219.out 0).trans rfl; have hfz133_0 := blk_frozen BK219.out 0) | ((with_reducible refine gate_callee (f := 29) rfl ?_); refine goesL_ (some 167) rfl rfl Try.func29 (by kernel_rfl) rfl #[.agg #[.slice A2_0 l2_0.length c2_0], .agg #[.int .i64 t254, .slice Ao132 t255.length co132], .int .i64 (wrap64 (a5))] rfl gl_ ?_; (with_reducible refine (tag_Roll.calls kj79 _ _ l2_0 t254 _ _ t255 (wrap64 (a5)) t261 t262 t265 t266 _ ?side1 ?side2 ?side3 ?side4 A104.out).mono ?_); (case side1 => exact Kd.C_below HR2_0.out (bk_ HB.out)); (case side2 => exact HC2_0.out); (case side3 => refine (Kd.R_reads' (e := 3) (base := w.heap.size) (ok := fun k_ => (True ∧ some k_ ≠ (.slice Ao122 t248.length co122 : Value).ownBlock)) (n := t255.length) (c := co132) ?_).2.2; exact (by (with_reducible repeat (first | apply Kd.R_alloc | apply Kd.R_drewN | apply Kd.R_drew)); exact (Kd.R_mono (Kd.R_far (p := ⟨gb260, 1, none⟩) (Kd.R_far (p := ⟨gb260, 0, none⟩) (Kd.R_types HO257.out BK260.out (by decide)) (fun _ hk => hk.2) (.int .i64 t254)) (fun _ hk => hk.2) (.slice Ao132 t255.length co132)) (fun _ h_ => h_.1)))); (case side4 => exact (Kd.R_reads' HO257.out).2.1); rintro e w134 ⟨v263, rfl, ho0, hb⟩; refine ⟨_, rfl, ?_⟩; have n0_ := A_ (Kd.R_elder' (by (with_reducible repeat (first | apply Kd.R_alloc | apply Kd.R_drewN | apply Kd.R_drew)); exact (Kd.R_mono (Kd.R_far (p := ⟨gb260, 1, none⟩) (Kd.R_far (p := ⟨gb260, 0, none⟩) (Kd.R_types HO250.out BK260.out (by decide)) (fun _ hk => hk.2) (.int .i64 t254)) (fun _ hk => hk.2) (.slice Ao132 t255.length co132)) (fun _ h_ => h_.1))) (Kd.R_base ho0) hb); have n1_ := A_ (Kd.R_elder' (by (with_reducible repeat (first | apply Kd.R_alloc | apply Kd.R_drewN | apply Kd.R_drew)); exact (Kd.R_mono (Kd.R_far (p := ⟨gb260, 1, none⟩) (Kd.R_far (p := ⟨gb260, 0, none⟩) (Kd.R_types HO257.out BK260.out (by decide)) (fun _ hk => hk.2) (.int .i64 t254)) (fun _ hk => hk.2) (.slice Ao132 t255.length co132)) (fun _ h_ => h_.1))) (Kd.R_base ho0) hb); have n2_ := A_ (Kd.R_lower (Kd.R_new' (Kd.R_new' ho0 (Kd.R_lt (by (with_reducible repeat (first | apply Kd.R_alloc | apply Kd.R_drewN | apply Kd.R_drew)); exact (Kd.R_mono (Kd.R_far (p := ⟨gb260, 1, none⟩) (Kd.R_far (p := ⟨gb260, 0, none⟩) (Kd.R_types HO250.out BK260.out (by decide)) (fun _ hk => hk.2) (.int .i64 t254)) (fun _ hk => hk.2) (.slice Ao132 t255.length co132)) (fun _ h_ => h_.1))))) (Kd.R_lt (by (with_reducible repeat (first | apply Kd.R_alloc | apply Kd.R_drewN | apply Kd.R_drew)); exact (Kd.R_mono (Kd.R_far (p := ⟨gb260, 1, none⟩) (Kd.R_far (p := ⟨gb260, 0, none⟩) (Kd.R_types HO257.out BK260.out (by decide)) (fun _ hk => hk.2) (.int .i64 t254)) (fun _ hk => hk.2) (.slice Ao132 t255.length co132)) (fun _ h_ => h_.1))))) (below_size (bk_ HB.out))); have n3_ := A_ (blk_below (g := gb218) (o := .cells #[.int .i64 a0_0, .slice A0_1 l0_1.length c0_1, .slice A0_2 l0_2.length c0_2] 25 (0, 0)) (by refine pk_ ?_; refine blk_far ?_ NB218_260.out _; refine pk_ ?_; refine blk_far ?_ NB218_260.out _; exact pk_ BK218.out) hb); have n4_ := A_ (blk_below (g := gb219) (o := .cells #[.slice A2_0 l2_0.length c2_0] 45 (0, 0)) (by refine pk_ ?_; refine blk_far ?_ NB219_260.out _; refine pk_ ?_; refine blk_far ?_ NB219_260.out _; exact pk_ BK219.out) hb); have n5_ := A_ (blk_below (g := gb220) (o := .cells #[.int .i64 a3_0, .slice A3_1 l3_1.length c3_1] 47 (0, 0)) (by refine pk_ ?_; refine blk_far ?_ NB220_260.out _; refine pk_ ?_; refine blk_far ?_ NB220_260.out _; exact pk_ BK220.out) hb); have n6_ := A_ (blk_below (g := gb253) (o := .cells #[.int .i64 t247, .slice Ao122 t248.length co122] 47 (0, 0)) (by refine pk_ ?_; refine blk_far ?_ NB253_260.out _; refine pk_ ?_; refine blk_far ?_ NB253_260.out _; exact pk_ BK253.out) hb); have n7_ := A_ (blk_below (g := gb260) (o := .cells #[.int .i64 t254, .slice Ao132 t255.length co132] 47 (0, 0)) (by refine pk_ ?_; refine blk_put (cs := #[.int .i64 t254, .slice none 0 0]) ?_ 1 _ rfl; refine pk_ ?_; refine blk_put (cs := #[.int .i64 0, .slice none 0 0]) ?_ 0 _ rfl; exact pk_ BK260.out) hb); have n8_ := A_ (below_step (bk_ HB.out) hb); clear HO250 HO257 BK218 BK219 BK220 BK253 BK260 HB; have HO250 := n0_; have HO257 := n1_; have HO264 := n2_; have BK218 := n3_; have BK219 := n4_; have BK220 := n5_; have BK253 := n6_; have BK260 := n7_; have HB := n8_; clear n0_ n1_ n2_ n3_ n4_ n5_ n6_ n7_ n8_; (try clear hb); (try clear hb2); (try clear hk); (try clear hi); (try clear ho0)) | ((with_reducible refine gate_dst (N := 28) rfl ?_); (try (refine gate_guard (by rfl) ?_; dsimp only)); refine box_event ?hg (N := 28) ?hd (cs := #[.int .i64 0, .slice none 0 0]) (t := 47) ?hr ?_; (case hd => rfl); (case hg => rfl); (case hr => first | (go_simp; done) | (go_simp; rfl)); intro gb267 hg w135 hbox hb; have n0_ := A_ (Kd.R_below (rk_ HO250.out) hb); have n1_ := A_ (Kd.R_below (rk_ HO257.out) hb); have n2_ := A_ (Kd.R_below (rk_ HO264.out) hb); have n3_ := A_ (blk_below (pk_ BK218.out) hb); have n4_ := A_ (blk_below (pk_ BK219.out) hb); have n5_ := A_ (blk_below (pk_ BK220.out) hb); have n6_ := A_ (blk_below (pk_ BK253.out) hb); have n7_ := A_ (blk_below (pk_ BK260.out) hb); have n8_ := A_ (below_step (bk_ HB.out) hb); have n9_ := A_ (hbox); have n10_ := A_ ((by rw [hg]; exact (below_size (bk_ HB.out)) : w.heap.size ≤ gb267)); have n11_ := A_ ((by rw [hg]; exact (below_size (bk_ HB.out)) : w.heap.size ≤ gb267)); have n12_ := A_ ((by rw [hg]; exact Nat.ne_of_lt (blk_lt (pk_ BK218.out)) : gb218 ≠ gb267)); have n13_ := A_ ((by rw [hg]; exact Nat.ne_of_gt (blk_lt (pk_ BK218.out)) : gb267 ≠ gb218)); have n14_ := A_ ((by rw [hg]; exact Nat.ne_of_lt (blk_lt (pk_ BK219.out)) : gb219 ≠ gb267)); have n15_ := A_ ((by rw [hg]; exact Nat.ne_of_gt (blk_lt (pk_ BK219.out)) : gb267 ≠ gb219)); have n16_ := A_ ((by rw [hg]; exact Nat.ne_of_lt (blk_lt (pk_ BK220.out)) : gb220 ≠ gb267)); have n17_ := A_ ((by rw [hg]; exact Nat.ne_of_gt (blk_lt (pk_ BK220.out)) : gb267 ≠ gb220)); have n18_ := A_ ((by rw [hg]; exact Nat.ne_of_lt (blk_lt (pk_ BK253.out)) : gb253 ≠ gb267)); have n19_ := A_ ((by rw [hg]; exact Nat.ne_of_gt (blk_lt (pk_ BK253.out)) : gb267 ≠ gb253)); have n20_ := A_ ((by rw [hg]; exact Nat.ne_of_lt (blk_lt (pk_ BK260.out)) : gb260 ≠ gb267)); have n21_ := A_ ((by rw [hg]; exact Nat.ne_of_gt (blk_lt (pk_ BK260.out)) : gb267 ≠ gb260)); clear HO250 HO257 HO264 BK218 BK219 BK220 BK253 BK260 HB; have HO250 := n0_; have HO257 := n1_; have HO264 := n2_; have BK218 := n3_; have BK219 := n4_; have BK220 := n5_; have BK253 := n6_; have BK260 := n7_; have HB := n8_; have BK267 := n9_; have GW267 := n10_; have GE267 := n11_; have NB218_267 := n12_; have NB267_218 := n13_; have NB219_267 := n14_; have NB267_219 := n15_; have NB220_267 := n16_; have NB267_220 := n17_; have NB253_267 := n18_; have NB267_253 := n19_; have NB260_267 := n20_; have NB267_260 := n21_; clear n0_ n1_ n2_ n3_ n4_ n5_ n6_ n7_ n8_ n9_ n10_ n11_ n12_ n13_ n14_ n15_ n16_ n17_ n18_ n19_ n20_ n21_ hb hbox hg; have hnb136 := NB267_218.out; have hnc136 := NB218_267.out; have hnb137 := NB267_219.out; have hnc137 := NB219_267.out; have hnb138 := NB267_220.out; have hnc138 := NB220_267.out; have hnb139 := NB267_253.out; have hnc139 := NB253_267.out; have hnb140 := NB267_260.out; have hnc140 := NB260_267.out; have hcz141_0 : w135.cell? ⟨gb267, 0, none⟩ = some (.int .i64 0) := (blk_cell BK267.out 0).trans rfl; have hcz141_1 : w135.cell? ⟨gb267, 1, none⟩ = some (.slice none 0 0) := (blk_cell BK267.out 1).trans rfl; have hfz141_0 := blk_frozen BK267.out 0; have hfz141_1 := blk_frozen BK267.out 1; obtain ⟨Ao142, co142, eo142⟩ := Kd.R_slice HO264.out; subst eo142; have hcz143_0 : w135.cell? ⟨gb253, 0, none⟩ = some (.int .i64 t247) := (blk_cell BK253.out 0).trans rfl; have hcz143_1 : w135.cell? ⟨gb253, 1, none⟩ = some (.slice Ao122 t248.length co122) := (blk_cell BK253.out 1).trans rfl; have hfz143_0 := blk_frozen BK253.out 0; have hfz143_1 := blk_frozen BK253.out 1) | (go_at_call 30; (with_reducible refine (standstillref07_SameWheel.calls kj79 t247 _ _ t248 t261 _ _ t262 true _ ?side1 ?side2 ?side3 ?side4 A106.out).mono ?_); (case side1 => refine (Kd.R_reads' (e := 3) (base := w.heap.size) (ok := fun k_ => ((True ∧ some k_ ≠ (.slice Ao132 t255.length co132 : Value).ownBlock) ∧ some k_ ≠ (.slice Ao142 t262.length co142 : Value).ownBlock)) (n := t248.length) (c := co122) ?_).2.2; exact (by (with_reducible repeat (first | apply Kd.R_alloc | apply Kd.R_drewN | apply Kd.R_drew)); exact (Kd.R_mono (Kd.R_far (p := ⟨gb267, 1, none⟩) (Kd.R_far (p := ⟨gb267, 0, none⟩) (Kd.R_types HO250.out BK267.out (by decide)) (fun _ hk => hk.2) (.int .i64 t261)) (fun _ hk => hk.2) (.slice Ao142 t262.length co142)) (fun _ h_ => h_.1)))); (case side2 => exact (Kd.R_reads' HO250.out).2.1); (case side3 => refine (Kd.R_reads' (e := 3) (base := w.heap.size) (ok := fun k_ => ((True ∧ some k_ ≠ (.slice Ao122 t248.length co122 : Value).ownBlock) ∧ some k_ ≠ (.slice Ao132 t255.length co132 : Value).ownBlock)) (n := t262.length) (c := co142) ?_).2.2; exact (by (with_reducible repeat (first | apply Kd.R_alloc | apply Kd.R_drewN | apply Kd.R_drew)); exact (Kd.R_mono (Kd.R_far (p := ⟨gb267, 1, none⟩) (Kd.R_far (p := ⟨gb267, 0, none⟩) (Kd.R_types HO264.out BK267.out (by decide)) (fun _ hk => hk.2) (.int .i64 t261)) (fun _ hk => hk.2) (.slice Ao142 t262.length co142)) (fun _ h_ => h_.1)))); (case side4 => exact (Kd.R_reads' HO264.out).2.1); rintro e w144 ⟨rfl, hb⟩; have n0_ := A_ (Kd.R_below (by (with_reducible repeat (first | apply Kd.R_alloc | apply Kd.R_drewN | apply Kd.R_drew)); exact (Kd.R_mono (Kd.R_far (p := ⟨gb267, 1, none⟩) (Kd.R_far (p := ⟨gb267, 0, none⟩) (Kd.R_types HO250.out BK267.out (by decide)) (fun _ hk => hk.2) (.int .i64 t261)) (fun _ hk => hk.2) (.slice Ao142 t262.length co142)) (fun _ h_ => h_.1))) hb); have n1_ := A_ (Kd.R_below (by (with_reducible repeat (first | apply Kd.R_alloc | apply Kd.R_drewN | apply Kd.R_drew)); exact (Kd.R_mono (Kd.R_far (p := ⟨gb267, 1, none⟩) (Kd.R_far (p := ⟨gb267, 0, none⟩) (Kd.R_types HO257.out BK267.out (by decide)) (fun _ hk => hk.2) (.int .i64 t261)) (fun _ hk => hk.2) (.slice Ao142 t262.length co142)) (fun _ h_ => h_.1))) hb); have n2_ := A_ (Kd.R_below (by (with_reducible repeat (first | apply Kd.R_alloc | apply Kd.R_drewN | apply Kd.R_drew)); exact (Kd.R_mono (Kd.R_far (p := ⟨gb267, 1, none⟩) (Kd.R_far (p := ⟨gb267, 0, none⟩) (Kd.R_types HO264.out BK267.out (by decide)) (fun _ hk => hk.2) (.int .i64 t261)) (fun _ hk => hk.2) (.slice Ao142 t262.length co142)) (fun _ h_ => h_.1))) hb); have n3_ := A_ (blk_below (g := gb218) (o := .cells #[.int .i64 a0_0, .slice A0_1 l0_1.length c0_1, .slice A0_2 l0_2.length c0_2] 25 (0, 0)) (by refine pk_ ?_; refine blk_far ?_ NB218_267.out _; refine pk_ ?_; refine blk_far ?_ NB218_267.out _; exact pk_ BK218.out) hb); have n4_ := A_ (blk_below (g := gb219) (o := .cells #[.slice A2_0 l2_0.length c2_0] 45 (0, 0)) (by refine pk_ ?_; refine blk_far ?_ NB219_267.out _; refine pk_ ?_; refine blk_far ?_ NB219_267.out _; exact pk_ BK219.out) hb); have n5_ := A_ (blk_below (g := gb220) (o := .cells #[.int .i64 a3_0, .slice A3_1 l3_1.length c3_1] 47 (0, 0)) (by refine pk_ ?_; refine blk_far ?_ NB220_267.out _; refine pk_ ?_; refine blk_far ?_ NB220_267.out _; exact pk_ BK220.out) hb); have n6_ := A_ (blk_below (g := gb253) (o := .cells #[.int .i64 t247, .slice Ao122 t248.length co122] 47 (0, 0)) (by refine pk_ ?_; refine blk_far ?_ NB253_267.out _; refine pk_ ?_; refine blk_far ?_ NB253_267.out _; exact pk_ BK253.out) hb); have n7_ := A_ (blk_below (g := gb260) (o := .cells #[.int .i64 t254, .slice Ao132 t255.length co132] 47 (0, 0)) (by refine pk_ ?_; refine blk_far ?_ NB260_267.out _; refine pk_ ?_; refine blk_far ?_ NB260_267.out _; exact pk_ BK260.out) hb); have n8_ := A_ (blk_below (g := gb267) (o := .cells #[.int .i64 t261, .slice Ao142 t262.length co142] 47 (0, 0)) (by refine pk_ ?_; refine blk_put (cs := #[.int .i64 t261, .slice none 0 0]) ?_ 1 _ rfl; refine pk_ ?_; refine blk_put (cs := #[.int .i64 0, .slice none 0 0]) ?_ 0 _ rfl; exact pk_ BK267.out) hb); have n9_ := A_ (below_step (bk_ HB.out) hb); clear HO250 HO257 HO264 BK218 BK219 BK220 BK253 BK260 BK267 HB; have HO250 := n0_; have HO257 := n1_; have HO264 := n2_; have BK218 := n3_; have BK219 := n4_; have BK220 := n5_; have BK253 := n6_; have BK260 := n7_; have BK267 := n8_; have HB := n9_; clear n0_ n1_ n2_ n3_ n4_ n5_ n6_ n7_ n8_ n9_; (try clear hb); (try clear hb2); (try clear hk); (try clear hi)) | (go_at_call 11; (with_reducible refine (standstilllaw07_awake.calls kj79  t269 _ A110.out).mono ?_); rintro e w145 ⟨rfl, hb⟩; have n0_ := A_ (Kd.R_below (rk_ HO250.out) hb); have n1_ := A_ (Kd.R_below (rk_ HO257.out) hb); have n2_ := A_ (Kd.R_below (rk_ HO264.out) hb); have n3_ := A_ (blk_below (pk_ BK218.out) hb); have n4_ := A_ (blk_below (pk_ BK219.out) hb); have n5_ := A_ (blk_below (pk_ BK220.out) hb); have n6_ := A_ (blk_below (pk_ BK253.out) hb); have n7_ := A_ (blk_below (pk_ BK260.out) hb); have n8_ := A_ (blk_below (pk_ BK267.out) hb); have n9_ := A_ (below_step (bk_ HB.out) hb); clear HO250 HO257 HO264 BK218 BK219 BK220 BK253 BK260 BK267 HB; have HO250 := n0_; have HO257 := n1_; have HO264 := n2_; have BK218 := n3_; have BK219 := n4_; have BK220 := n5_; have BK253 := n6_; have BK260 := n7_; have BK267 := n8_; have HB := n9_; clear n0_ n1_ n2_ n3_ n4_ n5_ n6_ n7_ n8_ n9_; (try clear hb); (try clear hb2); (try clear hk); (try clear hi)))
              go_ret
              exact ⟨er_, bk_ HB.out⟩
             ·rw [if_neg c109] at H
              have c109b0 : (t251 == (wrap64 (t258 + t265))) = false := beq_eq_false_iff_ne.mpr c109
              have c109b1 : (t251 != (wrap64 (t258 + t265))) = true := bne_iff_ne.mpr c109
              obtain rfl := Option.some.inj H
              have hnb146 := NB219_218.out
              have hnc146 := NB218_219.out
              have hnb147 := NB219_220.out
              have hnc147 := NB220_219.out
              have hcz148_0 : wc.cell? ⟨gb219, 0, none⟩ = some (.slice A2_0 l2_0.length c2_0) := (blk_cell BK219.out 0).trans rfl
              have hfz148_0 := blk_frozen BK219.out 0
              have hnb149 := NB220_218.out
              have hnc149 := NB218_220.out
              have hcz150_0 : wc.cell? ⟨gb220, 0, none⟩ = some (.int .i64 a3_0) := (blk_cell BK220.out 0).trans rfl
              have hcz150_1 : wc.cell? ⟨gb220, 1, none⟩ = some (.slice A3_1 l3_1.length c3_1) := (blk_cell BK220.out 1).trans rfl
              have hfz150_0 := blk_frozen BK220.out 0
              have hfz150_1 := blk_frozen BK220.out 1
              go_wp2_with (first | ((with_reducible refine gate_callee (f := 29) rfl ?_); refine goesL_ (some 141) rfl rfl Try.func29 (by kernel_rfl) rfl #[.agg #[.slice A2_0 l2_0.length c2_0], .agg #[.int .i64 a3_0, .slice A3_1 l3_1.length c3_1], .int .i64 (wrap64 ((wrap64 (a4)) + (wrap64 (a5))))] rfl gl_ ?_; (with_reducible refine (tag_Roll.calls kj79 _ _ l2_0 a3_0 _ _ l3_1 (wrap64 ((wrap64 (a4)) + (wrap64 (a5)))) t247 t248 t251 t252 _ ?side1 ?side2 ?side3 ?side4 A101.out).mono ?_); (case side1 => exact ck_ (Kd.C_below HR2_0.out HB.out)); (case side2 => exact HC2_0.out); (case side3 => exact ck_ (Kd.C_below HR3_1.out HB.out)); (case side4 => exact HC3_1.out); rintro e w151 ⟨v249, rfl, ho0, hb⟩; refine ⟨_, rfl, ?_⟩; have n0_ := A_ (Kd.R_lower ho0 (below_size (bk_ HB.out))); have n1_ := A_ (blk_below (pk_ BK218.out) hb); have n2_ := A_ (blk_below (pk_ BK219.out) hb); have n3_ := A_ (blk_below (pk_ BK220.out) hb); have n4_ := A_ (below_step (bk_ HB.out) hb); clear BK218 BK219 BK220 HB; have HO250 := n0_; have BK218 := n1_; have BK219 := n2_; have BK220 := n3_; have HB := n4_; clear n0_ n1_ n2_ n3_ n4_; (try clear hb); (try clear hb2); (try clear hk); (try clear hi); (try clear ho0)) | ((with_reducible refine gate_dst (N := 24) rfl ?_); (try (refine gate_guard (by rfl) ?_; dsimp only)); refine box_event ?hg (N := 24) ?hd (cs := #[.int .i64 0, .slice none 0 0]) (t := 47) ?hr ?_; (case hd => rfl); (case hg => rfl); (case hr => first | (go_simp; done) | (go_simp; rfl)); intro gb253 hg w152 hbox hb; have n0_ := A_ (Kd.R_below (rk_ HO250.out) hb); have n1_ := A_ (blk_below (pk_ BK218.out) hb); have n2_ := A_ (blk_below (pk_ BK219.out) hb); have n3_ := A_ (blk_below (pk_ BK220.out) hb); have n4_ := A_ (below_step (bk_ HB.out) hb); have n5_ := A_ (hbox); have n6_ := A_ ((by rw [hg]; exact (below_size (bk_ HB.out)) : w.heap.size ≤ gb253)); have n7_ := A_ ((by rw [hg]; exact (below_size (bk_ HB.out)) : w.heap.size ≤ gb253)); have n8_ := A_ ((by rw [hg]; exact Nat.ne_of_lt (blk_lt (pk_ BK218.out)) : gb218 ≠ gb253)); have n9_ := A_ ((by rw [hg]; exact Nat.ne_of_gt (blk_lt (pk_ BK218.out)) : gb253 ≠ gb218)); have n10_ := A_ ((by rw [hg]; exact Nat.ne_of_lt (blk_lt (pk_ BK219.out)) : gb219 ≠ gb253)); have n11_ := A_ ((by rw [hg]; exact Nat.ne_of_gt (blk_lt (pk_ BK219.out)) : gb253 ≠ gb219)); have n12_ := A_ ((by rw [hg]; exact Nat.ne_of_lt (blk_lt (pk_ BK220.out)) : gb220 ≠ gb253)); have n13_ := A_ ((by rw [hg]; exact Nat.ne_of_gt (blk_lt (pk_ BK220.out)) : gb253 ≠ gb220)); clear HO250 BK218 BK219 BK220 HB; have HO250 := n0_; have BK218 := n1_; have BK219 := n2_; have BK220 := n3_; have HB := n4_; have BK253 := n5_; have GW253 := n6_; have GE253 := n7_; have NB218_253 := n8_; have NB253_218 := n9_; have NB219_253 := n10_; have NB253_219 := n11_; have NB220_253 := n12_; have NB253_220 := n13_; clear n0_ n1_ n2_ n3_ n4_ n5_ n6_ n7_ n8_ n9_ n10_ n11_ n12_ n13_ hb hbox hg; have hnb153 := NB253_218.out; have hnc153 := NB218_253.out; have hnb154 := NB253_219.out; have hnc154 := NB219_253.out; have hnb155 := NB253_220.out; have hnc155 := NB220_253.out; have hcz156_0 : w152.cell? ⟨gb253, 0, none⟩ = some (.int .i64 0) := (blk_cell BK253.out 0).trans rfl; have hcz156_1 : w152.cell? ⟨gb253, 1, none⟩ = some (.slice none 0 0) := (blk_cell BK253.out 1).trans rfl; have hfz156_0 := blk_frozen BK253.out 0; have hfz156_1 := blk_frozen BK253.out 1; obtain ⟨Ao157, co157, eo157⟩ := Kd.R_slice HO250.out; subst eo157; have hcz158_0 : w152.cell? ⟨gb219, 0, none⟩ = some (.slice A2_0 l2_0.length c2_0) := (blk_cell BK219.out 0).trans rfl; have hfz158_0 := blk_frozen BK219.out 0; have hcz159_0 : w152.cell? ⟨gb220, 0, none⟩ = some (.int .i64 a3_0) := (blk_cell BK220.out 0).trans rfl; have hcz159_1 : w152.cell? ⟨gb220, 1, none⟩ = some (.slice A3_1 l3_1.length c3_1) := (blk_cell BK220.out 1).trans rfl; have hfz159_0 := blk_frozen BK220.out 0; have hfz159_1 := blk_frozen BK220.out 1) | ((with_reducible refine gate_callee (f := 29) rfl ?_); refine goesL_ (some 150) rfl rfl Try.func29 (by kernel_rfl) rfl #[.agg #[.slice A2_0 l2_0.length c2_0], .agg #[.int .i64 a3_0, .slice A3_1 l3_1.length c3_1], .int .i64 (wrap64 (a4))] rfl gl_ ?_; (with_reducible refine (tag_Roll.calls kj79 _ _ l2_0 a3_0 _ _ l3_1 (wrap64 (a4)) t254 t255 t258 t259 _ ?side1 ?side2 ?side3 ?side4 A102.out).mono ?_); (case side1 => exact Kd.C_below HR2_0.out (bk_ HB.out)); (case side2 => exact HC2_0.out); (case side3 => exact Kd.C_below HR3_1.out (bk_ HB.out)); (case side4 => exact HC3_1.out); rintro e w160 ⟨v256, rfl, ho0, hb⟩; refine ⟨_, rfl, ?_⟩; have n0_ := A_ (Kd.R_elder' (by (with_reducible repeat (first | apply Kd.R_alloc | apply Kd.R_drewN | apply Kd.R_drew)); exact (Kd.R_mono (Kd.R_far (p := ⟨gb253, 1, none⟩) (Kd.R_far (p := ⟨gb253, 0, none⟩) (Kd.R_types HO250.out BK253.out (by decide)) (fun _ hk => hk.2) (.int .i64 t247)) (fun _ hk => hk.2) (.slice Ao157 t248.length co157)) (fun _ h_ => h_.1))) (Kd.R_base ho0) hb); have n1_ := A_ (Kd.R_lower (Kd.R_new' ho0 (Kd.R_lt (by (with_reducible repeat (first | apply Kd.R_alloc | apply Kd.R_drewN | apply Kd.R_drew)); exact (Kd.R_mono (Kd.R_far (p := ⟨gb253, 1, none⟩) (Kd.R_far (p := ⟨gb253, 0, none⟩) (Kd.R_types HO250.out BK253.out (by decide)) (fun _ hk => hk.2) (.int .i64 t247)) (fun _ hk => hk.2) (.slice Ao157 t248.length co157)) (fun _ h_ => h_.1))))) (below_size (bk_ HB.out))); have n2_ := A_ (blk_below (g := gb218) (o := .cells #[.int .i64 a0_0, .slice A0_1 l0_1.length c0_1, .slice A0_2 l0_2.length c0_2] 25 (0, 0)) (by refine pk_ ?_; refine blk_far ?_ NB218_253.out _; refine pk_ ?_; refine blk_far ?_ NB218_253.out _; exact pk_ BK218.out) hb); have n3_ := A_ (blk_below (g := gb219) (o := .cells #[.slice A2_0 l2_0.length c2_0] 45 (0, 0)) (by refine pk_ ?_; refine blk_far ?_ NB219_253.out _; refine pk_ ?_; refine blk_far ?_ NB219_253.out _; exact pk_ BK219.out) hb); have n4_ := A_ (blk_below (g := gb220) (o := .cells #[.int .i64 a3_0, .slice A3_1 l3_1.length c3_1] 47 (0, 0)) (by refine pk_ ?_; refine blk_far ?_ NB220_253.out _; refine pk_ ?_; refine blk_far ?_ NB220_253.out _; exact pk_ BK220.out) hb); have n5_ := A_ (blk_below (g := gb253) (o := .cells #[.int .i64 t247, .slice Ao157 t248.length co157] 47 (0, 0)) (by refine pk_ ?_; refine blk_put (cs := #[.int .i64 t247, .slice none 0 0]) ?_ 1 _ rfl; refine pk_ ?_; refine blk_put (cs := #[.int .i64 0, .slice none 0 0]) ?_ 0 _ rfl; exact pk_ BK253.out) hb); have n6_ := A_ (below_step (bk_ HB.out) hb); clear HO250 BK218 BK219 BK220 BK253 HB; have HO250 := n0_; have HO257 := n1_; have BK218 := n2_; have BK219 := n3_; have BK220 := n4_; have BK253 := n5_; have HB := n6_; clear n0_ n1_ n2_ n3_ n4_ n5_ n6_; (try clear hb); (try clear hb2); (try clear hk); (try clear hi); (try clear ho0)) | ((with_reducible refine gate_dst (N := 26) rfl ?_); (try (refine gate_guard (by rfl) ?_; dsimp only)); refine box_event ?hg (N := 26) ?hd (cs := #[.int .i64 0, .slice none 0 0]) (t := 47) ?hr ?_; (case hd => rfl); (case hg => rfl); (case hr => first | (go_simp; done) | (go_simp; rfl)); intro gb260 hg w161 hbox hb; have n0_ := A_ (Kd.R_below (rk_ HO250.out) hb); have n1_ := A_ (Kd.R_below (rk_ HO257.out) hb); have n2_ := A_ (blk_below (pk_ BK218.out) hb); have n3_ := A_ (blk_below (pk_ BK219.out) hb); have n4_ := A_ (blk_below (pk_ BK220.out) hb); have n5_ := A_ (blk_below (pk_ BK253.out) hb); have n6_ := A_ (below_step (bk_ HB.out) hb); have n7_ := A_ (hbox); have n8_ := A_ ((by rw [hg]; exact (below_size (bk_ HB.out)) : w.heap.size ≤ gb260)); have n9_ := A_ ((by rw [hg]; exact (below_size (bk_ HB.out)) : w.heap.size ≤ gb260)); have n10_ := A_ ((by rw [hg]; exact Nat.ne_of_lt (blk_lt (pk_ BK218.out)) : gb218 ≠ gb260)); have n11_ := A_ ((by rw [hg]; exact Nat.ne_of_gt (blk_lt (pk_ BK218.out)) : gb260 ≠ gb218)); have n12_ := A_ ((by rw [hg]; exact Nat.ne_of_lt (blk_lt (pk_ BK219.out)) : gb219 ≠ gb260)); have n13_ := A_ ((by rw [hg]; exact Nat.ne_of_gt (blk_lt (pk_ BK219.out)) : gb260 ≠ gb219)); have n14_ := A_ ((by rw [hg]; exact Nat.ne_of_lt (blk_lt (pk_ BK220.out)) : gb220 ≠ gb260)); have n15_ := A_ ((by rw [hg]; exact Nat.ne_of_gt (blk_lt (pk_ BK220.out)) : gb260 ≠ gb220)); have n16_ := A_ ((by rw [hg]; exact Nat.ne_of_lt (blk_lt (pk_ BK253.out)) : gb253 ≠ gb260)); have n17_ := A_ ((by rw [hg]; exact Nat.ne_of_gt (blk_lt (pk_ BK253.out)) : gb260 ≠ gb253)); clear HO250 HO257 BK218 BK219 BK220 BK253 HB; have HO250 := n0_; have HO257 := n1_; have BK218 := n2_; have BK219 := n3_; have BK220 := n4_; have BK253 := n5_; have HB := n6_; have BK260 := n7_; have GW260 := n8_; have GE260 := n9_; have NB218_260 := n10_; have NB260_218 := n11_; have NB219_260 := n12_; have NB260_219 := n13_; have NB220_260 := n14_; have NB260_220 := n15_; have NB253_260 := n16_; have NB260_253 := n17_; clear n0_ n1_ n2_ n3_ n4_ n5_ n6_ n7_ n8_ n9_ n10_ n11_ n12_ n13_ n14_ n15_ n16_ n17_ hb hbox hg; have hnb162 := NB260_218.out; have hnc162 := NB218_260.out; have hnb163 := NB260_219.out; have hnc163 := NB219_260.out; have hnb164 := NB260_220.out; have hnc164 := NB220_260.out; have hnb165 := NB260_253.out; have hnc165 := NB253_260.out; have hcz166_0 : w161.cell? ⟨gb260, 0, none⟩ = some (.int .i64 0) := (blk_cell BK260.out 0).trans rfl; have hcz166_1 : w161.cell? ⟨gb260, 1, none⟩ = some (.slice none 0 0) := (blk_cell BK260.out 1).trans rfl; have hfz166_0 := blk_frozen BK260.out 0; have hfz166_1 := blk_frozen BK260.out 1; obtain ⟨Ao167, co167, eo167⟩ := Kd.R_slice HO257.out; subst eo167; have hcz168_0 : w161.cell? ⟨gb219, 0, none⟩ = some (.slice A2_0 l2_0.length c2_0) := (blk_cell BK219.out 0).trans rfl; have hfz168_0 := blk_frozen BK219.out 0) | ((with_reducible refine gate_callee (f := 29) rfl ?_); refine goesL_ (some 167) rfl rfl Try.func29 (by kernel_rfl) rfl #[.agg #[.slice A2_0 l2_0.length c2_0], .agg #[.int .i64 t254, .slice Ao167 t255.length co167], .int .i64 (wrap64 (a5))] rfl gl_ ?_; (with_reducible refine (tag_Roll.calls kj79 _ _ l2_0 t254 _ _ t255 (wrap64 (a5)) t261 t262 t265 t266 _ ?side1 ?side2 ?side3 ?side4 A104.out).mono ?_); (case side1 => exact Kd.C_below HR2_0.out (bk_ HB.out)); (case side2 => exact HC2_0.out); (case side3 => refine (Kd.R_reads' (e := 3) (base := w.heap.size) (ok := fun k_ => (True ∧ some k_ ≠ (.slice Ao157 t248.length co157 : Value).ownBlock)) (n := t255.length) (c := co167) ?_).2.2; exact (by (with_reducible repeat (first | apply Kd.R_alloc | apply Kd.R_drewN | apply Kd.R_drew)); exact (Kd.R_mono (Kd.R_far (p := ⟨gb260, 1, none⟩) (Kd.R_far (p := ⟨gb260, 0, none⟩) (Kd.R_types HO257.out BK260.out (by decide)) (fun _ hk => hk.2) (.int .i64 t254)) (fun _ hk => hk.2) (.slice Ao167 t255.length co167)) (fun _ h_ => h_.1)))); (case side4 => exact (Kd.R_reads' HO257.out).2.1); rintro e w169 ⟨v263, rfl, ho0, hb⟩; refine ⟨_, rfl, ?_⟩; have n0_ := A_ (Kd.R_elder' (by (with_reducible repeat (first | apply Kd.R_alloc | apply Kd.R_drewN | apply Kd.R_drew)); exact (Kd.R_mono (Kd.R_far (p := ⟨gb260, 1, none⟩) (Kd.R_far (p := ⟨gb260, 0, none⟩) (Kd.R_types HO250.out BK260.out (by decide)) (fun _ hk => hk.2) (.int .i64 t254)) (fun _ hk => hk.2) (.slice Ao167 t255.length co167)) (fun _ h_ => h_.1))) (Kd.R_base ho0) hb); have n1_ := A_ (Kd.R_elder' (by (with_reducible repeat (first | apply Kd.R_alloc | apply Kd.R_drewN | apply Kd.R_drew)); exact (Kd.R_mono (Kd.R_far (p := ⟨gb260, 1, none⟩) (Kd.R_far (p := ⟨gb260, 0, none⟩) (Kd.R_types HO257.out BK260.out (by decide)) (fun _ hk => hk.2) (.int .i64 t254)) (fun _ hk => hk.2) (.slice Ao167 t255.length co167)) (fun _ h_ => h_.1))) (Kd.R_base ho0) hb); have n2_ := A_ (Kd.R_lower (Kd.R_new' (Kd.R_new' ho0 (Kd.R_lt (by (with_reducible repeat (first | apply Kd.R_alloc | apply Kd.R_drewN | apply Kd.R_drew)); exact (Kd.R_mono (Kd.R_far (p := ⟨gb260, 1, none⟩) (Kd.R_far (p := ⟨gb260, 0, none⟩) (Kd.R_types HO250.out BK260.out (by decide)) (fun _ hk => hk.2) (.int .i64 t254)) (fun _ hk => hk.2) (.slice Ao167 t255.length co167)) (fun _ h_ => h_.1))))) (Kd.R_lt (by (with_reducible repeat (first | apply Kd.R_alloc | apply Kd.R_drewN | apply Kd.R_drew)); exact (Kd.R_mono (Kd.R_far (p := ⟨gb260, 1, none⟩) (Kd.R_far (p := ⟨gb260, 0, none⟩) (Kd.R_types HO257.out BK260.out (by decide)) (fun _ hk => hk.2) (.int .i64 t254)) (fun _ hk => hk.2) (.slice Ao167 t255.length co167)) (fun _ h_ => h_.1))))) (below_size (bk_ HB.out))); have n3_ := A_ (blk_below (g := gb218) (o := .cells #[.int .i64 a0_0, .slice A0_1 l0_1.length c0_1, .slice A0_2 l0_2.length c0_2] 25 (0, 0)) (by refine pk_ ?_; refine blk_far ?_ NB218_260.out _; refine pk_ ?_; refine blk_far ?_ NB218_260.out _; exact pk_ BK218.out) hb); have n4_ := A_ (blk_below (g := gb219) (o := .cells #[.slice A2_0 l2_0.length c2_0] 45 (0, 0)) (by refine pk_ ?_; refine blk_far ?_ NB219_260.out _; refine pk_ ?_; refine blk_far ?_ NB219_260.out _; exact pk_ BK219.out) hb); have n5_ := A_ (blk_below (g := gb220) (o := .cells #[.int .i64 a3_0, .slice A3_1 l3_1.length c3_1] 47 (0, 0)) (by refine pk_ ?_; refine blk_far ?_ NB220_260.out _; refine pk_ ?_; refine blk_far ?_ NB220_260.out _; exact pk_ BK220.out) hb); have n6_ := A_ (blk_below (g := gb253) (o := .cells #[.int .i64 t247, .slice Ao157 t248.length co157] 47 (0, 0)) (by refine pk_ ?_; refine blk_far ?_ NB253_260.out _; refine pk_ ?_; refine blk_far ?_ NB253_260.out _; exact pk_ BK253.out) hb); have n7_ := A_ (blk_below (g := gb260) (o := .cells #[.int .i64 t254, .slice Ao167 t255.length co167] 47 (0, 0)) (by refine pk_ ?_; refine blk_put (cs := #[.int .i64 t254, .slice none 0 0]) ?_ 1 _ rfl; refine pk_ ?_; refine blk_put (cs := #[.int .i64 0, .slice none 0 0]) ?_ 0 _ rfl; exact pk_ BK260.out) hb); have n8_ := A_ (below_step (bk_ HB.out) hb); clear HO250 HO257 BK218 BK219 BK220 BK253 BK260 HB; have HO250 := n0_; have HO257 := n1_; have HO264 := n2_; have BK218 := n3_; have BK219 := n4_; have BK220 := n5_; have BK253 := n6_; have BK260 := n7_; have HB := n8_; clear n0_ n1_ n2_ n3_ n4_ n5_ n6_ n7_ n8_; (try clear hb); (try clear hb2); (try clear hk); (try clear hi); (try clear ho0)) | ((with_reducible refine gate_dst (N := 28) rfl ?_); (try (refine gate_guard (by rfl) ?_; dsimp only)); refine box_event ?hg (N := 28) ?hd (cs := #[.int .i64 0, .slice none 0 0]) (t := 47) ?hr ?_; (case hd => rfl); (case hg => rfl); (case hr => first | (go_simp; done) | (go_simp; rfl)); intro gb267 hg w170 hbox hb; have n0_ := A_ (Kd.R_below (rk_ HO250.out) hb); have n1_ := A_ (Kd.R_below (rk_ HO257.out) hb); have n2_ := A_ (Kd.R_below (rk_ HO264.out) hb); have n3_ := A_ (blk_below (pk_ BK218.out) hb); have n4_ := A_ (blk_below (pk_ BK219.out) hb); have n5_ := A_ (blk_below (pk_ BK220.out) hb); have n6_ := A_ (blk_below (pk_ BK253.out) hb); have n7_ := A_ (blk_below (pk_ BK260.out) hb); have n8_ := A_ (below_step (bk_ HB.out) hb); have n9_ := A_ (hbox); have n10_ := A_ ((by rw [hg]; exact (below_size (bk_ HB.out)) : w.heap.size ≤ gb267)); have n11_ := A_ ((by rw [hg]; exact (below_size (bk_ HB.out)) : w.heap.size ≤ gb267)); have n12_ := A_ ((by rw [hg]; exact Nat.ne_of_lt (blk_lt (pk_ BK218.out)) : gb218 ≠ gb267)); have n13_ := A_ ((by rw [hg]; exact Nat.ne_of_gt (blk_lt (pk_ BK218.out)) : gb267 ≠ gb218)); have n14_ := A_ ((by rw [hg]; exact Nat.ne_of_lt (blk_lt (pk_ BK219.out)) : gb219 ≠ gb267)); have n15_ := A_ ((by rw [hg]; exact Nat.ne_of_gt (blk_lt (pk_ BK219.out)) : gb267 ≠ gb219)); have n16_ := A_ ((by rw [hg]; exact Nat.ne_of_lt (blk_lt (pk_ BK220.out)) : gb220 ≠ gb267)); have n17_ := A_ ((by rw [hg]; exact Nat.ne_of_gt (blk_lt (pk_ BK220.out)) : gb267 ≠ gb220)); have n18_ := A_ ((by rw [hg]; exact Nat.ne_of_lt (blk_lt (pk_ BK253.out)) : gb253 ≠ gb267)); have n19_ := A_ ((by rw [hg]; exact Nat.ne_of_gt (blk_lt (pk_ BK253.out)) : gb267 ≠ gb253)); have n20_ := A_ ((by rw [hg]; exact Nat.ne_of_lt (blk_lt (pk_ BK260.out)) : gb260 ≠ gb267)); have n21_ := A_ ((by rw [hg]; exact Nat.ne_of_gt (blk_lt (pk_ BK260.out)) : gb267 ≠ gb260)); clear HO250 HO257 HO264 BK218 BK219 BK220 BK253 BK260 HB; have HO250 := n0_; have HO257 := n1_; have HO264 := n2_; have BK218 := n3_; have BK219 := n4_; have BK220 := n5_; have BK253 := n6_; have BK260 := n7_; have HB := n8_; have BK267 := n9_; have GW267 := n10_; have GE267 := n11_; have NB218_267 := n12_; have NB267_218 := n13_; have NB219_267 := n14_; have NB267_219 := n15_; have NB220_267 := n16_; have NB267_220 := n17_; have NB253_267 := n18_; have NB267_253 := n19_; have NB260_267 := n20_; have NB267_260 := n21_; clear n0_ n1_ n2_ n3_ n4_ n5_ n6_ n7_ n8_ n9_ n10_ n11_ n12_ n13_ n14_ n15_ n16_ n17_ n18_ n19_ n20_ n21_ hb hbox hg; have hnb171 := NB267_218.out; have hnc171 := NB218_267.out; have hnb172 := NB267_219.out; have hnc172 := NB219_267.out; have hnb173 := NB267_220.out; have hnc173 := NB220_267.out; have hnb174 := NB267_253.out; have hnc174 := NB253_267.out; have hnb175 := NB267_260.out; have hnc175 := NB260_267.out; have hcz176_0 : w170.cell? ⟨gb267, 0, none⟩ = some (.int .i64 0) := (blk_cell BK267.out 0).trans rfl; have hcz176_1 : w170.cell? ⟨gb267, 1, none⟩ = some (.slice none 0 0) := (blk_cell BK267.out 1).trans rfl; have hfz176_0 := blk_frozen BK267.out 0; have hfz176_1 := blk_frozen BK267.out 1; obtain ⟨Ao177, co177, eo177⟩ := Kd.R_slice HO264.out; subst eo177; have hcz178_0 : w170.cell? ⟨gb253, 0, none⟩ = some (.int .i64 t247) := (blk_cell BK253.out 0).trans rfl; have hcz178_1 : w170.cell? ⟨gb253, 1, none⟩ = some (.slice Ao157 t248.length co157) := (blk_cell BK253.out 1).trans rfl; have hfz178_0 := blk_frozen BK253.out 0; have hfz178_1 := blk_frozen BK253.out 1) | (go_at_call 30; (with_reducible refine (standstillref07_SameWheel.calls kj79 t247 _ _ t248 t261 _ _ t262 true _ ?side1 ?side2 ?side3 ?side4 A106.out).mono ?_); (case side1 => refine (Kd.R_reads' (e := 3) (base := w.heap.size) (ok := fun k_ => ((True ∧ some k_ ≠ (.slice Ao167 t255.length co167 : Value).ownBlock) ∧ some k_ ≠ (.slice Ao177 t262.length co177 : Value).ownBlock)) (n := t248.length) (c := co157) ?_).2.2; exact (by (with_reducible repeat (first | apply Kd.R_alloc | apply Kd.R_drewN | apply Kd.R_drew)); exact (Kd.R_mono (Kd.R_far (p := ⟨gb267, 1, none⟩) (Kd.R_far (p := ⟨gb267, 0, none⟩) (Kd.R_types HO250.out BK267.out (by decide)) (fun _ hk => hk.2) (.int .i64 t261)) (fun _ hk => hk.2) (.slice Ao177 t262.length co177)) (fun _ h_ => h_.1)))); (case side2 => exact (Kd.R_reads' HO250.out).2.1); (case side3 => refine (Kd.R_reads' (e := 3) (base := w.heap.size) (ok := fun k_ => ((True ∧ some k_ ≠ (.slice Ao157 t248.length co157 : Value).ownBlock) ∧ some k_ ≠ (.slice Ao167 t255.length co167 : Value).ownBlock)) (n := t262.length) (c := co177) ?_).2.2; exact (by (with_reducible repeat (first | apply Kd.R_alloc | apply Kd.R_drewN | apply Kd.R_drew)); exact (Kd.R_mono (Kd.R_far (p := ⟨gb267, 1, none⟩) (Kd.R_far (p := ⟨gb267, 0, none⟩) (Kd.R_types HO264.out BK267.out (by decide)) (fun _ hk => hk.2) (.int .i64 t261)) (fun _ hk => hk.2) (.slice Ao177 t262.length co177)) (fun _ h_ => h_.1)))); (case side4 => exact (Kd.R_reads' HO264.out).2.1); rintro e w179 ⟨rfl, hb⟩; have n0_ := A_ (Kd.R_below (by (with_reducible repeat (first | apply Kd.R_alloc | apply Kd.R_drewN | apply Kd.R_drew)); exact (Kd.R_mono (Kd.R_far (p := ⟨gb267, 1, none⟩) (Kd.R_far (p := ⟨gb267, 0, none⟩) (Kd.R_types HO250.out BK267.out (by decide)) (fun _ hk => hk.2) (.int .i64 t261)) (fun _ hk => hk.2) (.slice Ao177 t262.length co177)) (fun _ h_ => h_.1))) hb); have n1_ := A_ (Kd.R_below (by (with_reducible repeat (first | apply Kd.R_alloc | apply Kd.R_drewN | apply Kd.R_drew)); exact (Kd.R_mono (Kd.R_far (p := ⟨gb267, 1, none⟩) (Kd.R_far (p := ⟨gb267, 0, none⟩) (Kd.R_types HO257.out BK267.out (by decide)) (fun _ hk => hk.2) (.int .i64 t261)) (fun _ hk => hk.2) (.slice Ao177 t262.length co177)) (fun _ h_ => h_.1))) hb); have n2_ := A_ (Kd.R_below (by (with_reducible repeat (first | apply Kd.R_alloc | apply Kd.R_drewN | apply Kd.R_drew)); exact (Kd.R_mono (Kd.R_far (p := ⟨gb267, 1, none⟩) (Kd.R_far (p := ⟨gb267, 0, none⟩) (Kd.R_types HO264.out BK267.out (by decide)) (fun _ hk => hk.2) (.int .i64 t261)) (fun _ hk => hk.2) (.slice Ao177 t262.length co177)) (fun _ h_ => h_.1))) hb); have n3_ := A_ (blk_below (g := gb218) (o := .cells #[.int .i64 a0_0, .slice A0_1 l0_1.length c0_1, .slice A0_2 l0_2.length c0_2] 25 (0, 0)) (by refine pk_ ?_; refine blk_far ?_ NB218_267.out _; refine pk_ ?_; refine blk_far ?_ NB218_267.out _; exact pk_ BK218.out) hb); have n4_ := A_ (blk_below (g := gb219) (o := .cells #[.slice A2_0 l2_0.length c2_0] 45 (0, 0)) (by refine pk_ ?_; refine blk_far ?_ NB219_267.out _; refine pk_ ?_; refine blk_far ?_ NB219_267.out _; exact pk_ BK219.out) hb); have n5_ := A_ (blk_below (g := gb220) (o := .cells #[.int .i64 a3_0, .slice A3_1 l3_1.length c3_1] 47 (0, 0)) (by refine pk_ ?_; refine blk_far ?_ NB220_267.out _; refine pk_ ?_; refine blk_far ?_ NB220_267.out _; exact pk_ BK220.out) hb); have n6_ := A_ (blk_below (g := gb253) (o := .cells #[.int .i64 t247, .slice Ao157 t248.length co157] 47 (0, 0)) (by refine pk_ ?_; refine blk_far ?_ NB253_267.out _; refine pk_ ?_; refine blk_far ?_ NB253_267.out _; exact pk_ BK253.out) hb); have n7_ := A_ (blk_below (g := gb260) (o := .cells #[.int .i64 t254, .slice Ao167 t255.length co167] 47 (0, 0)) (by refine pk_ ?_; refine blk_far ?_ NB260_267.out _; refine pk_ ?_; refine blk_far ?_ NB260_267.out _; exact pk_ BK260.out) hb); have n8_ := A_ (blk_below (g := gb267) (o := .cells #[.int .i64 t261, .slice Ao177 t262.length co177] 47 (0, 0)) (by refine pk_ ?_; refine blk_put (cs := #[.int .i64 t261, .slice none 0 0]) ?_ 1 _ rfl; refine pk_ ?_; refine blk_put (cs := #[.int .i64 0, .slice none 0 0]) ?_ 0 _ rfl; exact pk_ BK267.out) hb); have n9_ := A_ (below_step (bk_ HB.out) hb); clear HO250 HO257 HO264 BK218 BK219 BK220 BK253 BK260 BK267 HB; have HO250 := n0_; have HO257 := n1_; have HO264 := n2_; have BK218 := n3_; have BK219 := n4_; have BK220 := n5_; have BK253 := n6_; have BK260 := n7_; have BK267 := n8_; have HB := n9_; clear n0_ n1_ n2_ n3_ n4_ n5_ n6_ n7_ n8_ n9_; (try clear hb); (try clear hb2); (try clear hk); (try clear hi)))
              go_ret
              exact ⟨er_, bk_ HB.out⟩
            ·rw [if_neg c108] at H
             have c108b0 : (t252 == 0) = false := beq_eq_false_iff_ne.mpr c108
             have c108b1 : (t252 != 0) = true := bne_iff_ne.mpr c108
             replace H := Option.bind_eq_some_iff.mp H
             obtain ⟨t270, A1800, H⟩ := H
             replace H : (some t270) = some r := H
             have A180 := Aside0.mk A1800
             clear A1800
             obtain rfl := Option.some.inj H
             have hnb181 := NB219_218.out
             have hnc181 := NB218_219.out
             have hnb182 := NB219_220.out
             have hnc182 := NB220_219.out
             have hcz183_0 : wc.cell? ⟨gb219, 0, none⟩ = some (.slice A2_0 l2_0.length c2_0) := (blk_cell BK219.out 0).trans rfl
             have hfz183_0 := blk_frozen BK219.out 0
             have hnb184 := NB220_218.out
             have hnc184 := NB218_220.out
             have hcz185_0 : wc.cell? ⟨gb220, 0, none⟩ = some (.int .i64 a3_0) := (blk_cell BK220.out 0).trans rfl
             have hcz185_1 : wc.cell? ⟨gb220, 1, none⟩ = some (.slice A3_1 l3_1.length c3_1) := (blk_cell BK220.out 1).trans rfl
             have hfz185_0 := blk_frozen BK220.out 0
             have hfz185_1 := blk_frozen BK220.out 1
             go_wp2_with (first | ((with_reducible refine gate_callee (f := 29) rfl ?_); refine goesL_ (some 141) rfl rfl Try.func29 (by kernel_rfl) rfl #[.agg #[.slice A2_0 l2_0.length c2_0], .agg #[.int .i64 a3_0, .slice A3_1 l3_1.length c3_1], .int .i64 (wrap64 ((wrap64 (a4)) + (wrap64 (a5))))] rfl gl_ ?_; (with_reducible refine (tag_Roll.calls kj79 _ _ l2_0 a3_0 _ _ l3_1 (wrap64 ((wrap64 (a4)) + (wrap64 (a5)))) t247 t248 t251 t252 _ ?side1 ?side2 ?side3 ?side4 A101.out).mono ?_); (case side1 => exact ck_ (Kd.C_below HR2_0.out HB.out)); (case side2 => exact HC2_0.out); (case side3 => exact ck_ (Kd.C_below HR3_1.out HB.out)); (case side4 => exact HC3_1.out); rintro e w186 ⟨v249, rfl, ho0, hb⟩; refine ⟨_, rfl, ?_⟩; have n0_ := A_ (Kd.R_lower ho0 (below_size (bk_ HB.out))); have n1_ := A_ (blk_below (pk_ BK218.out) hb); have n2_ := A_ (blk_below (pk_ BK219.out) hb); have n3_ := A_ (blk_below (pk_ BK220.out) hb); have n4_ := A_ (below_step (bk_ HB.out) hb); clear BK218 BK219 BK220 HB; have HO250 := n0_; have BK218 := n1_; have BK219 := n2_; have BK220 := n3_; have HB := n4_; clear n0_ n1_ n2_ n3_ n4_; (try clear hb); (try clear hb2); (try clear hk); (try clear hi); (try clear ho0)) | ((with_reducible refine gate_dst (N := 24) rfl ?_); (try (refine gate_guard (by rfl) ?_; dsimp only)); refine box_event ?hg (N := 24) ?hd (cs := #[.int .i64 0, .slice none 0 0]) (t := 47) ?hr ?_; (case hd => rfl); (case hg => rfl); (case hr => first | (go_simp; done) | (go_simp; rfl)); intro gb253 hg w187 hbox hb; have n0_ := A_ (Kd.R_below (rk_ HO250.out) hb); have n1_ := A_ (blk_below (pk_ BK218.out) hb); have n2_ := A_ (blk_below (pk_ BK219.out) hb); have n3_ := A_ (blk_below (pk_ BK220.out) hb); have n4_ := A_ (below_step (bk_ HB.out) hb); have n5_ := A_ (hbox); have n6_ := A_ ((by rw [hg]; exact (below_size (bk_ HB.out)) : w.heap.size ≤ gb253)); have n7_ := A_ ((by rw [hg]; exact (below_size (bk_ HB.out)) : w.heap.size ≤ gb253)); have n8_ := A_ ((by rw [hg]; exact Nat.ne_of_lt (blk_lt (pk_ BK218.out)) : gb218 ≠ gb253)); have n9_ := A_ ((by rw [hg]; exact Nat.ne_of_gt (blk_lt (pk_ BK218.out)) : gb253 ≠ gb218)); have n10_ := A_ ((by rw [hg]; exact Nat.ne_of_lt (blk_lt (pk_ BK219.out)) : gb219 ≠ gb253)); have n11_ := A_ ((by rw [hg]; exact Nat.ne_of_gt (blk_lt (pk_ BK219.out)) : gb253 ≠ gb219)); have n12_ := A_ ((by rw [hg]; exact Nat.ne_of_lt (blk_lt (pk_ BK220.out)) : gb220 ≠ gb253)); have n13_ := A_ ((by rw [hg]; exact Nat.ne_of_gt (blk_lt (pk_ BK220.out)) : gb253 ≠ gb220)); clear HO250 BK218 BK219 BK220 HB; have HO250 := n0_; have BK218 := n1_; have BK219 := n2_; have BK220 := n3_; have HB := n4_; have BK253 := n5_; have GW253 := n6_; have GE253 := n7_; have NB218_253 := n8_; have NB253_218 := n9_; have NB219_253 := n10_; have NB253_219 := n11_; have NB220_253 := n12_; have NB253_220 := n13_; clear n0_ n1_ n2_ n3_ n4_ n5_ n6_ n7_ n8_ n9_ n10_ n11_ n12_ n13_ hb hbox hg; have hnb188 := NB253_218.out; have hnc188 := NB218_253.out; have hnb189 := NB253_219.out; have hnc189 := NB219_253.out; have hnb190 := NB253_220.out; have hnc190 := NB220_253.out; have hcz191_0 : w187.cell? ⟨gb253, 0, none⟩ = some (.int .i64 0) := (blk_cell BK253.out 0).trans rfl; have hcz191_1 : w187.cell? ⟨gb253, 1, none⟩ = some (.slice none 0 0) := (blk_cell BK253.out 1).trans rfl; have hfz191_0 := blk_frozen BK253.out 0; have hfz191_1 := blk_frozen BK253.out 1; obtain ⟨Ao192, co192, eo192⟩ := Kd.R_slice HO250.out; subst eo192; have hcz193_0 : w187.cell? ⟨gb219, 0, none⟩ = some (.slice A2_0 l2_0.length c2_0) := (blk_cell BK219.out 0).trans rfl; have hfz193_0 := blk_frozen BK219.out 0; have hcz194_0 : w187.cell? ⟨gb220, 0, none⟩ = some (.int .i64 a3_0) := (blk_cell BK220.out 0).trans rfl; have hcz194_1 : w187.cell? ⟨gb220, 1, none⟩ = some (.slice A3_1 l3_1.length c3_1) := (blk_cell BK220.out 1).trans rfl; have hfz194_0 := blk_frozen BK220.out 0; have hfz194_1 := blk_frozen BK220.out 1) | ((with_reducible refine gate_callee (f := 29) rfl ?_); refine goesL_ (some 150) rfl rfl Try.func29 (by kernel_rfl) rfl #[.agg #[.slice A2_0 l2_0.length c2_0], .agg #[.int .i64 a3_0, .slice A3_1 l3_1.length c3_1], .int .i64 (wrap64 (a4))] rfl gl_ ?_; (with_reducible refine (tag_Roll.calls kj79 _ _ l2_0 a3_0 _ _ l3_1 (wrap64 (a4)) t254 t255 t258 t259 _ ?side1 ?side2 ?side3 ?side4 A102.out).mono ?_); (case side1 => exact Kd.C_below HR2_0.out (bk_ HB.out)); (case side2 => exact HC2_0.out); (case side3 => exact Kd.C_below HR3_1.out (bk_ HB.out)); (case side4 => exact HC3_1.out); rintro e w195 ⟨v256, rfl, ho0, hb⟩; refine ⟨_, rfl, ?_⟩; have n0_ := A_ (Kd.R_elder' (by (with_reducible repeat (first | apply Kd.R_alloc | apply Kd.R_drewN | apply Kd.R_drew)); exact (Kd.R_mono (Kd.R_far (p := ⟨gb253, 1, none⟩) (Kd.R_far (p := ⟨gb253, 0, none⟩) (Kd.R_types HO250.out BK253.out (by decide)) (fun _ hk => hk.2) (.int .i64 t247)) (fun _ hk => hk.2) (.slice Ao192 t248.length co192)) (fun _ h_ => h_.1))) (Kd.R_base ho0) hb); have n1_ := A_ (Kd.R_lower (Kd.R_new' ho0 (Kd.R_lt (by (with_reducible repeat (first | apply Kd.R_alloc | apply Kd.R_drewN | apply Kd.R_drew)); exact (Kd.R_mono (Kd.R_far (p := ⟨gb253, 1, none⟩) (Kd.R_far (p := ⟨gb253, 0, none⟩) (Kd.R_types HO250.out BK253.out (by decide)) (fun _ hk => hk.2) (.int .i64 t247)) (fun _ hk => hk.2) (.slice Ao192 t248.length co192)) (fun _ h_ => h_.1))))) (below_size (bk_ HB.out))); have n2_ := A_ (blk_below (g := gb218) (o := .cells #[.int .i64 a0_0, .slice A0_1 l0_1.length c0_1, .slice A0_2 l0_2.length c0_2] 25 (0, 0)) (by refine pk_ ?_; refine blk_far ?_ NB218_253.out _; refine pk_ ?_; refine blk_far ?_ NB218_253.out _; exact pk_ BK218.out) hb); have n3_ := A_ (blk_below (g := gb219) (o := .cells #[.slice A2_0 l2_0.length c2_0] 45 (0, 0)) (by refine pk_ ?_; refine blk_far ?_ NB219_253.out _; refine pk_ ?_; refine blk_far ?_ NB219_253.out _; exact pk_ BK219.out) hb); have n4_ := A_ (blk_below (g := gb220) (o := .cells #[.int .i64 a3_0, .slice A3_1 l3_1.length c3_1] 47 (0, 0)) (by refine pk_ ?_; refine blk_far ?_ NB220_253.out _; refine pk_ ?_; refine blk_far ?_ NB220_253.out _; exact pk_ BK220.out) hb); have n5_ := A_ (blk_below (g := gb253) (o := .cells #[.int .i64 t247, .slice Ao192 t248.length co192] 47 (0, 0)) (by refine pk_ ?_; refine blk_put (cs := #[.int .i64 t247, .slice none 0 0]) ?_ 1 _ rfl; refine pk_ ?_; refine blk_put (cs := #[.int .i64 0, .slice none 0 0]) ?_ 0 _ rfl; exact pk_ BK253.out) hb); have n6_ := A_ (below_step (bk_ HB.out) hb); clear HO250 BK218 BK219 BK220 BK253 HB; have HO250 := n0_; have HO257 := n1_; have BK218 := n2_; have BK219 := n3_; have BK220 := n4_; have BK253 := n5_; have HB := n6_; clear n0_ n1_ n2_ n3_ n4_ n5_ n6_; (try clear hb); (try clear hb2); (try clear hk); (try clear hi); (try clear ho0)) | ((with_reducible refine gate_dst (N := 26) rfl ?_); (try (refine gate_guard (by rfl) ?_; dsimp only)); refine box_event ?hg (N := 26) ?hd (cs := #[.int .i64 0, .slice none 0 0]) (t := 47) ?hr ?_; (case hd => rfl); (case hg => rfl); (case hr => first | (go_simp; done) | (go_simp; rfl)); intro gb260 hg w196 hbox hb; have n0_ := A_ (Kd.R_below (rk_ HO250.out) hb); have n1_ := A_ (Kd.R_below (rk_ HO257.out) hb); have n2_ := A_ (blk_below (pk_ BK218.out) hb); have n3_ := A_ (blk_below (pk_ BK219.out) hb); have n4_ := A_ (blk_below (pk_ BK220.out) hb); have n5_ := A_ (blk_below (pk_ BK253.out) hb); have n6_ := A_ (below_step (bk_ HB.out) hb); have n7_ := A_ (hbox); have n8_ := A_ ((by rw [hg]; exact (below_size (bk_ HB.out)) : w.heap.size ≤ gb260)); have n9_ := A_ ((by rw [hg]; exact (below_size (bk_ HB.out)) : w.heap.size ≤ gb260)); have n10_ := A_ ((by rw [hg]; exact Nat.ne_of_lt (blk_lt (pk_ BK218.out)) : gb218 ≠ gb260)); have n11_ := A_ ((by rw [hg]; exact Nat.ne_of_gt (blk_lt (pk_ BK218.out)) : gb260 ≠ gb218)); have n12_ := A_ ((by rw [hg]; exact Nat.ne_of_lt (blk_lt (pk_ BK219.out)) : gb219 ≠ gb260)); have n13_ := A_ ((by rw [hg]; exact Nat.ne_of_gt (blk_lt (pk_ BK219.out)) : gb260 ≠ gb219)); have n14_ := A_ ((by rw [hg]; exact Nat.ne_of_lt (blk_lt (pk_ BK220.out)) : gb220 ≠ gb260)); have n15_ := A_ ((by rw [hg]; exact Nat.ne_of_gt (blk_lt (pk_ BK220.out)) : gb260 ≠ gb220)); have n16_ := A_ ((by rw [hg]; exact Nat.ne_of_lt (blk_lt (pk_ BK253.out)) : gb253 ≠ gb260)); have n17_ := A_ ((by rw [hg]; exact Nat.ne_of_gt (blk_lt (pk_ BK253.out)) : gb260 ≠ gb253)); clear HO250 HO257 BK218 BK219 BK220 BK253 HB; have HO250 := n0_; have HO257 := n1_; have BK218 := n2_; have BK219 := n3_; have BK220 := n4_; have BK253 := n5_; have HB := n6_; have BK260 := n7_; have GW260 := n8_; have GE260 := n9_; have NB218_260 := n10_; have NB260_218 := n11_; have NB219_260 := n12_; have NB260_219 := n13_; have NB220_260 := n14_; have NB260_220 := n15_; have NB253_260 := n16_; have NB260_253 := n17_; clear n0_ n1_ n2_ n3_ n4_ n5_ n6_ n7_ n8_ n9_ n10_ n11_ n12_ n13_ n14_ n15_ n16_ n17_ hb hbox hg; have hnb197 := NB260_218.out; have hnc197 := NB218_260.out; have hnb198 := NB260_219.out; have hnc198 := NB219_260.out; have hnb199 := NB260_220.out; have hnc199 := NB220_260.out; have hnb200 := NB260_253.out; have hnc200 := NB253_260.out; have hcz201_0 : w196.cell? ⟨gb260, 0, none⟩ = some (.int .i64 0) := (blk_cell BK260.out 0).trans rfl; have hcz201_1 : w196.cell? ⟨gb260, 1, none⟩ = some (.slice none 0 0) := (blk_cell BK260.out 1).trans rfl; have hfz201_0 := blk_frozen BK260.out 0; have hfz201_1 := blk_frozen BK260.out 1; obtain ⟨Ao202, co202, eo202⟩ := Kd.R_slice HO257.out; subst eo202; have hcz203_0 : w196.cell? ⟨gb219, 0, none⟩ = some (.slice A2_0 l2_0.length c2_0) := (blk_cell BK219.out 0).trans rfl; have hfz203_0 := blk_frozen BK219.out 0) | ((with_reducible refine gate_callee (f := 29) rfl ?_); refine goesL_ (some 167) rfl rfl Try.func29 (by kernel_rfl) rfl #[.agg #[.slice A2_0 l2_0.length c2_0], .agg #[.int .i64 t254, .slice Ao202 t255.length co202], .int .i64 (wrap64 (a5))] rfl gl_ ?_; (with_reducible refine (tag_Roll.calls kj79 _ _ l2_0 t254 _ _ t255 (wrap64 (a5)) t261 t262 t265 t266 _ ?side1 ?side2 ?side3 ?side4 A104.out).mono ?_); (case side1 => exact Kd.C_below HR2_0.out (bk_ HB.out)); (case side2 => exact HC2_0.out); (case side3 => refine (Kd.R_reads' (e := 3) (base := w.heap.size) (ok := fun k_ => (True ∧ some k_ ≠ (.slice Ao192 t248.length co192 : Value).ownBlock)) (n := t255.length) (c := co202) ?_).2.2; exact (by (with_reducible repeat (first | apply Kd.R_alloc | apply Kd.R_drewN | apply Kd.R_drew)); exact (Kd.R_mono (Kd.R_far (p := ⟨gb260, 1, none⟩) (Kd.R_far (p := ⟨gb260, 0, none⟩) (Kd.R_types HO257.out BK260.out (by decide)) (fun _ hk => hk.2) (.int .i64 t254)) (fun _ hk => hk.2) (.slice Ao202 t255.length co202)) (fun _ h_ => h_.1)))); (case side4 => exact (Kd.R_reads' HO257.out).2.1); rintro e w204 ⟨v263, rfl, ho0, hb⟩; refine ⟨_, rfl, ?_⟩; have n0_ := A_ (Kd.R_elder' (by (with_reducible repeat (first | apply Kd.R_alloc | apply Kd.R_drewN | apply Kd.R_drew)); exact (Kd.R_mono (Kd.R_far (p := ⟨gb260, 1, none⟩) (Kd.R_far (p := ⟨gb260, 0, none⟩) (Kd.R_types HO250.out BK260.out (by decide)) (fun _ hk => hk.2) (.int .i64 t254)) (fun _ hk => hk.2) (.slice Ao202 t255.length co202)) (fun _ h_ => h_.1))) (Kd.R_base ho0) hb); have n1_ := A_ (Kd.R_elder' (by (with_reducible repeat (first | apply Kd.R_alloc | apply Kd.R_drewN | apply Kd.R_drew)); exact (Kd.R_mono (Kd.R_far (p := ⟨gb260, 1, none⟩) (Kd.R_far (p := ⟨gb260, 0, none⟩) (Kd.R_types HO257.out BK260.out (by decide)) (fun _ hk => hk.2) (.int .i64 t254)) (fun _ hk => hk.2) (.slice Ao202 t255.length co202)) (fun _ h_ => h_.1))) (Kd.R_base ho0) hb); have n2_ := A_ (Kd.R_lower (Kd.R_new' (Kd.R_new' ho0 (Kd.R_lt (by (with_reducible repeat (first | apply Kd.R_alloc | apply Kd.R_drewN | apply Kd.R_drew)); exact (Kd.R_mono (Kd.R_far (p := ⟨gb260, 1, none⟩) (Kd.R_far (p := ⟨gb260, 0, none⟩) (Kd.R_types HO250.out BK260.out (by decide)) (fun _ hk => hk.2) (.int .i64 t254)) (fun _ hk => hk.2) (.slice Ao202 t255.length co202)) (fun _ h_ => h_.1))))) (Kd.R_lt (by (with_reducible repeat (first | apply Kd.R_alloc | apply Kd.R_drewN | apply Kd.R_drew)); exact (Kd.R_mono (Kd.R_far (p := ⟨gb260, 1, none⟩) (Kd.R_far (p := ⟨gb260, 0, none⟩) (Kd.R_types HO257.out BK260.out (by decide)) (fun _ hk => hk.2) (.int .i64 t254)) (fun _ hk => hk.2) (.slice Ao202 t255.length co202)) (fun _ h_ => h_.1))))) (below_size (bk_ HB.out))); have n3_ := A_ (blk_below (g := gb218) (o := .cells #[.int .i64 a0_0, .slice A0_1 l0_1.length c0_1, .slice A0_2 l0_2.length c0_2] 25 (0, 0)) (by refine pk_ ?_; refine blk_far ?_ NB218_260.out _; refine pk_ ?_; refine blk_far ?_ NB218_260.out _; exact pk_ BK218.out) hb); have n4_ := A_ (blk_below (g := gb219) (o := .cells #[.slice A2_0 l2_0.length c2_0] 45 (0, 0)) (by refine pk_ ?_; refine blk_far ?_ NB219_260.out _; refine pk_ ?_; refine blk_far ?_ NB219_260.out _; exact pk_ BK219.out) hb); have n5_ := A_ (blk_below (g := gb220) (o := .cells #[.int .i64 a3_0, .slice A3_1 l3_1.length c3_1] 47 (0, 0)) (by refine pk_ ?_; refine blk_far ?_ NB220_260.out _; refine pk_ ?_; refine blk_far ?_ NB220_260.out _; exact pk_ BK220.out) hb); have n6_ := A_ (blk_below (g := gb253) (o := .cells #[.int .i64 t247, .slice Ao192 t248.length co192] 47 (0, 0)) (by refine pk_ ?_; refine blk_far ?_ NB253_260.out _; refine pk_ ?_; refine blk_far ?_ NB253_260.out _; exact pk_ BK253.out) hb); have n7_ := A_ (blk_below (g := gb260) (o := .cells #[.int .i64 t254, .slice Ao202 t255.length co202] 47 (0, 0)) (by refine pk_ ?_; refine blk_put (cs := #[.int .i64 t254, .slice none 0 0]) ?_ 1 _ rfl; refine pk_ ?_; refine blk_put (cs := #[.int .i64 0, .slice none 0 0]) ?_ 0 _ rfl; exact pk_ BK260.out) hb); have n8_ := A_ (below_step (bk_ HB.out) hb); clear HO250 HO257 BK218 BK219 BK220 BK253 BK260 HB; have HO250 := n0_; have HO257 := n1_; have HO264 := n2_; have BK218 := n3_; have BK219 := n4_; have BK220 := n5_; have BK253 := n6_; have BK260 := n7_; have HB := n8_; clear n0_ n1_ n2_ n3_ n4_ n5_ n6_ n7_ n8_; (try clear hb); (try clear hb2); (try clear hk); (try clear hi); (try clear ho0)) | ((with_reducible refine gate_dst (N := 28) rfl ?_); (try (refine gate_guard (by rfl) ?_; dsimp only)); refine box_event ?hg (N := 28) ?hd (cs := #[.int .i64 0, .slice none 0 0]) (t := 47) ?hr ?_; (case hd => rfl); (case hg => rfl); (case hr => first | (go_simp; done) | (go_simp; rfl)); intro gb267 hg w205 hbox hb; have n0_ := A_ (Kd.R_below (rk_ HO250.out) hb); have n1_ := A_ (Kd.R_below (rk_ HO257.out) hb); have n2_ := A_ (Kd.R_below (rk_ HO264.out) hb); have n3_ := A_ (blk_below (pk_ BK218.out) hb); have n4_ := A_ (blk_below (pk_ BK219.out) hb); have n5_ := A_ (blk_below (pk_ BK220.out) hb); have n6_ := A_ (blk_below (pk_ BK253.out) hb); have n7_ := A_ (blk_below (pk_ BK260.out) hb); have n8_ := A_ (below_step (bk_ HB.out) hb); have n9_ := A_ (hbox); have n10_ := A_ ((by rw [hg]; exact (below_size (bk_ HB.out)) : w.heap.size ≤ gb267)); have n11_ := A_ ((by rw [hg]; exact (below_size (bk_ HB.out)) : w.heap.size ≤ gb267)); have n12_ := A_ ((by rw [hg]; exact Nat.ne_of_lt (blk_lt (pk_ BK218.out)) : gb218 ≠ gb267)); have n13_ := A_ ((by rw [hg]; exact Nat.ne_of_gt (blk_lt (pk_ BK218.out)) : gb267 ≠ gb218)); have n14_ := A_ ((by rw [hg]; exact Nat.ne_of_lt (blk_lt (pk_ BK219.out)) : gb219 ≠ gb267)); have n15_ := A_ ((by rw [hg]; exact Nat.ne_of_gt (blk_lt (pk_ BK219.out)) : gb267 ≠ gb219)); have n16_ := A_ ((by rw [hg]; exact Nat.ne_of_lt (blk_lt (pk_ BK220.out)) : gb220 ≠ gb267)); have n17_ := A_ ((by rw [hg]; exact Nat.ne_of_gt (blk_lt (pk_ BK220.out)) : gb267 ≠ gb220)); have n18_ := A_ ((by rw [hg]; exact Nat.ne_of_lt (blk_lt (pk_ BK253.out)) : gb253 ≠ gb267)); have n19_ := A_ ((by rw [hg]; exact Nat.ne_of_gt (blk_lt (pk_ BK253.out)) : gb267 ≠ gb253)); have n20_ := A_ ((by rw [hg]; exact Nat.ne_of_lt (blk_lt (pk_ BK260.out)) : gb260 ≠ gb267)); have n21_ := A_ ((by rw [hg]; exact Nat.ne_of_gt (blk_lt (pk_ BK260.out)) : gb267 ≠ gb260)); clear HO250 HO257 HO264 BK218 BK219 BK220 BK253 BK260 HB; have HO250 := n0_; have HO257 := n1_; have HO264 := n2_; have BK218 := n3_; have BK219 := n4_; have BK220 := n5_; have BK253 := n6_; have BK260 := n7_; have HB := n8_; have BK267 := n9_; have GW267 := n10_; have GE267 := n11_; have NB218_267 := n12_; have NB267_218 := n13_; have NB219_267 := n14_; have NB267_219 := n15_; have NB220_267 := n16_; have NB267_220 := n17_; have NB253_267 := n18_; have NB267_253 := n19_; have NB260_267 := n20_; have NB267_260 := n21_; clear n0_ n1_ n2_ n3_ n4_ n5_ n6_ n7_ n8_ n9_ n10_ n11_ n12_ n13_ n14_ n15_ n16_ n17_ n18_ n19_ n20_ n21_ hb hbox hg; have hnb206 := NB267_218.out; have hnc206 := NB218_267.out; have hnb207 := NB267_219.out; have hnc207 := NB219_267.out; have hnb208 := NB267_220.out; have hnc208 := NB220_267.out; have hnb209 := NB267_253.out; have hnc209 := NB253_267.out; have hnb210 := NB267_260.out; have hnc210 := NB260_267.out; have hcz211_0 : w205.cell? ⟨gb267, 0, none⟩ = some (.int .i64 0) := (blk_cell BK267.out 0).trans rfl; have hcz211_1 : w205.cell? ⟨gb267, 1, none⟩ = some (.slice none 0 0) := (blk_cell BK267.out 1).trans rfl; have hfz211_0 := blk_frozen BK267.out 0; have hfz211_1 := blk_frozen BK267.out 1; obtain ⟨Ao212, co212, eo212⟩ := Kd.R_slice HO264.out; subst eo212; have hcz213_0 : w205.cell? ⟨gb253, 0, none⟩ = some (.int .i64 t247) := (blk_cell BK253.out 0).trans rfl; have hcz213_1 : w205.cell? ⟨gb253, 1, none⟩ = some (.slice Ao192 t248.length co192) := (blk_cell BK253.out 1).trans rfl; have hfz213_0 := blk_frozen BK253.out 0; have hfz213_1 := blk_frozen BK253.out 1) | (go_at_call 30; (with_reducible refine (standstillref07_SameWheel.calls kj79 t247 _ _ t248 t261 _ _ t262 true _ ?side1 ?side2 ?side3 ?side4 A106.out).mono ?_); (case side1 => refine (Kd.R_reads' (e := 3) (base := w.heap.size) (ok := fun k_ => ((True ∧ some k_ ≠ (.slice Ao202 t255.length co202 : Value).ownBlock) ∧ some k_ ≠ (.slice Ao212 t262.length co212 : Value).ownBlock)) (n := t248.length) (c := co192) ?_).2.2; exact (by (with_reducible repeat (first | apply Kd.R_alloc | apply Kd.R_drewN | apply Kd.R_drew)); exact (Kd.R_mono (Kd.R_far (p := ⟨gb267, 1, none⟩) (Kd.R_far (p := ⟨gb267, 0, none⟩) (Kd.R_types HO250.out BK267.out (by decide)) (fun _ hk => hk.2) (.int .i64 t261)) (fun _ hk => hk.2) (.slice Ao212 t262.length co212)) (fun _ h_ => h_.1)))); (case side2 => exact (Kd.R_reads' HO250.out).2.1); (case side3 => refine (Kd.R_reads' (e := 3) (base := w.heap.size) (ok := fun k_ => ((True ∧ some k_ ≠ (.slice Ao192 t248.length co192 : Value).ownBlock) ∧ some k_ ≠ (.slice Ao202 t255.length co202 : Value).ownBlock)) (n := t262.length) (c := co212) ?_).2.2; exact (by (with_reducible repeat (first | apply Kd.R_alloc | apply Kd.R_drewN | apply Kd.R_drew)); exact (Kd.R_mono (Kd.R_far (p := ⟨gb267, 1, none⟩) (Kd.R_far (p := ⟨gb267, 0, none⟩) (Kd.R_types HO264.out BK267.out (by decide)) (fun _ hk => hk.2) (.int .i64 t261)) (fun _ hk => hk.2) (.slice Ao212 t262.length co212)) (fun _ h_ => h_.1)))); (case side4 => exact (Kd.R_reads' HO264.out).2.1); rintro e w214 ⟨rfl, hb⟩; have n0_ := A_ (Kd.R_below (by (with_reducible repeat (first | apply Kd.R_alloc | apply Kd.R_drewN | apply Kd.R_drew)); exact (Kd.R_mono (Kd.R_far (p := ⟨gb267, 1, none⟩) (Kd.R_far (p := ⟨gb267, 0, none⟩) (Kd.R_types HO250.out BK267.out (by decide)) (fun _ hk => hk.2) (.int .i64 t261)) (fun _ hk => hk.2) (.slice Ao212 t262.length co212)) (fun _ h_ => h_.1))) hb); have n1_ := A_ (Kd.R_below (by (with_reducible repeat (first | apply Kd.R_alloc | apply Kd.R_drewN | apply Kd.R_drew)); exact (Kd.R_mono (Kd.R_far (p := ⟨gb267, 1, none⟩) (Kd.R_far (p := ⟨gb267, 0, none⟩) (Kd.R_types HO257.out BK267.out (by decide)) (fun _ hk => hk.2) (.int .i64 t261)) (fun _ hk => hk.2) (.slice Ao212 t262.length co212)) (fun _ h_ => h_.1))) hb); have n2_ := A_ (Kd.R_below (by (with_reducible repeat (first | apply Kd.R_alloc | apply Kd.R_drewN | apply Kd.R_drew)); exact (Kd.R_mono (Kd.R_far (p := ⟨gb267, 1, none⟩) (Kd.R_far (p := ⟨gb267, 0, none⟩) (Kd.R_types HO264.out BK267.out (by decide)) (fun _ hk => hk.2) (.int .i64 t261)) (fun _ hk => hk.2) (.slice Ao212 t262.length co212)) (fun _ h_ => h_.1))) hb); have n3_ := A_ (blk_below (g := gb218) (o := .cells #[.int .i64 a0_0, .slice A0_1 l0_1.length c0_1, .slice A0_2 l0_2.length c0_2] 25 (0, 0)) (by refine pk_ ?_; refine blk_far ?_ NB218_267.out _; refine pk_ ?_; refine blk_far ?_ NB218_267.out _; exact pk_ BK218.out) hb); have n4_ := A_ (blk_below (g := gb219) (o := .cells #[.slice A2_0 l2_0.length c2_0] 45 (0, 0)) (by refine pk_ ?_; refine blk_far ?_ NB219_267.out _; refine pk_ ?_; refine blk_far ?_ NB219_267.out _; exact pk_ BK219.out) hb); have n5_ := A_ (blk_below (g := gb220) (o := .cells #[.int .i64 a3_0, .slice A3_1 l3_1.length c3_1] 47 (0, 0)) (by refine pk_ ?_; refine blk_far ?_ NB220_267.out _; refine pk_ ?_; refine blk_far ?_ NB220_267.out _; exact pk_ BK220.out) hb); have n6_ := A_ (blk_below (g := gb253) (o := .cells #[.int .i64 t247, .slice Ao192 t248.length co192] 47 (0, 0)) (by refine pk_ ?_; refine blk_far ?_ NB253_267.out _; refine pk_ ?_; refine blk_far ?_ NB253_267.out _; exact pk_ BK253.out) hb); have n7_ := A_ (blk_below (g := gb260) (o := .cells #[.int .i64 t254, .slice Ao202 t255.length co202] 47 (0, 0)) (by refine pk_ ?_; refine blk_far ?_ NB260_267.out _; refine pk_ ?_; refine blk_far ?_ NB260_267.out _; exact pk_ BK260.out) hb); have n8_ := A_ (blk_below (g := gb267) (o := .cells #[.int .i64 t261, .slice Ao212 t262.length co212] 47 (0, 0)) (by refine pk_ ?_; refine blk_put (cs := #[.int .i64 t261, .slice none 0 0]) ?_ 1 _ rfl; refine pk_ ?_; refine blk_put (cs := #[.int .i64 0, .slice none 0 0]) ?_ 0 _ rfl; exact pk_ BK267.out) hb); have n9_ := A_ (below_step (bk_ HB.out) hb); clear HO250 HO257 HO264 BK218 BK219 BK220 BK253 BK260 BK267 HB; have HO250 := n0_; have HO257 := n1_; have HO264 := n2_; have BK218 := n3_; have BK219 := n4_; have BK220 := n5_; have BK253 := n6_; have BK260 := n7_; have BK267 := n8_; have HB := n9_; clear n0_ n1_ n2_ n3_ n4_ n5_ n6_ n7_ n8_ n9_; (try clear hb); (try clear hb2); (try clear hk); (try clear hi)) | (go_at_call 11; (with_reducible refine (standstilllaw07_awake.calls kj79  t270 _ A180.out).mono ?_); rintro e w215 ⟨rfl, hb⟩; have n0_ := A_ (Kd.R_below (rk_ HO250.out) hb); have n1_ := A_ (Kd.R_below (rk_ HO257.out) hb); have n2_ := A_ (Kd.R_below (rk_ HO264.out) hb); have n3_ := A_ (blk_below (pk_ BK218.out) hb); have n4_ := A_ (blk_below (pk_ BK219.out) hb); have n5_ := A_ (blk_below (pk_ BK220.out) hb); have n6_ := A_ (blk_below (pk_ BK253.out) hb); have n7_ := A_ (blk_below (pk_ BK260.out) hb); have n8_ := A_ (blk_below (pk_ BK267.out) hb); have n9_ := A_ (below_step (bk_ HB.out) hb); clear HO250 HO257 HO264 BK218 BK219 BK220 BK253 BK260 BK267 HB; have HO250 := n0_; have HO257 := n1_; have HO264 := n2_; have BK218 := n3_; have BK219 := n4_; have BK220 := n5_; have BK253 := n6_; have BK260 := n7_; have BK267 := n8_; have HB := n9_; clear n0_ n1_ n2_ n3_ n4_ n5_ n6_ n7_ n8_ n9_; (try clear hb); (try clear hb2); (try clear hk); (try clear hi)))
             go_ret
             exact ⟨er_, bk_ HB.out⟩
           ·replace c107 := Bool.eq_false_iff.mpr c107
            subst c107
            have H1 : (some false) = some r := by rw [if_neg (show ¬ (false = true) by decide)] at H; exact H
            clear H
            have H := H1
            clear H1
            obtain rfl := Option.some.inj H
            have hnb216 := NB219_218.out
            have hnc216 := NB218_219.out
            have hnb217 := NB219_220.out
            have hnc217 := NB220_219.out
            have hcz218_0 : wc.cell? ⟨gb219, 0, none⟩ = some (.slice A2_0 l2_0.length c2_0) := (blk_cell BK219.out 0).trans rfl
            have hfz218_0 := blk_frozen BK219.out 0
            have hnb219 := NB220_218.out
            have hnc219 := NB218_220.out
            have hcz220_0 : wc.cell? ⟨gb220, 0, none⟩ = some (.int .i64 a3_0) := (blk_cell BK220.out 0).trans rfl
            have hcz220_1 : wc.cell? ⟨gb220, 1, none⟩ = some (.slice A3_1 l3_1.length c3_1) := (blk_cell BK220.out 1).trans rfl
            have hfz220_0 := blk_frozen BK220.out 0
            have hfz220_1 := blk_frozen BK220.out 1
            go_wp2_with (first | ((with_reducible refine gate_callee (f := 29) rfl ?_); refine goesL_ (some 141) rfl rfl Try.func29 (by kernel_rfl) rfl #[.agg #[.slice A2_0 l2_0.length c2_0], .agg #[.int .i64 a3_0, .slice A3_1 l3_1.length c3_1], .int .i64 (wrap64 ((wrap64 (a4)) + (wrap64 (a5))))] rfl gl_ ?_; (with_reducible refine (tag_Roll.calls kj79 _ _ l2_0 a3_0 _ _ l3_1 (wrap64 ((wrap64 (a4)) + (wrap64 (a5)))) t247 t248 t251 t252 _ ?side1 ?side2 ?side3 ?side4 A101.out).mono ?_); (case side1 => exact ck_ (Kd.C_below HR2_0.out HB.out)); (case side2 => exact HC2_0.out); (case side3 => exact ck_ (Kd.C_below HR3_1.out HB.out)); (case side4 => exact HC3_1.out); rintro e w221 ⟨v249, rfl, ho0, hb⟩; refine ⟨_, rfl, ?_⟩; have n0_ := A_ (Kd.R_lower ho0 (below_size (bk_ HB.out))); have n1_ := A_ (blk_below (pk_ BK218.out) hb); have n2_ := A_ (blk_below (pk_ BK219.out) hb); have n3_ := A_ (blk_below (pk_ BK220.out) hb); have n4_ := A_ (below_step (bk_ HB.out) hb); clear BK218 BK219 BK220 HB; have HO250 := n0_; have BK218 := n1_; have BK219 := n2_; have BK220 := n3_; have HB := n4_; clear n0_ n1_ n2_ n3_ n4_; (try clear hb); (try clear hb2); (try clear hk); (try clear hi); (try clear ho0)) | ((with_reducible refine gate_dst (N := 24) rfl ?_); (try (refine gate_guard (by rfl) ?_; dsimp only)); refine box_event ?hg (N := 24) ?hd (cs := #[.int .i64 0, .slice none 0 0]) (t := 47) ?hr ?_; (case hd => rfl); (case hg => rfl); (case hr => first | (go_simp; done) | (go_simp; rfl)); intro gb253 hg w222 hbox hb; have n0_ := A_ (Kd.R_below (rk_ HO250.out) hb); have n1_ := A_ (blk_below (pk_ BK218.out) hb); have n2_ := A_ (blk_below (pk_ BK219.out) hb); have n3_ := A_ (blk_below (pk_ BK220.out) hb); have n4_ := A_ (below_step (bk_ HB.out) hb); have n5_ := A_ (hbox); have n6_ := A_ ((by rw [hg]; exact (below_size (bk_ HB.out)) : w.heap.size ≤ gb253)); have n7_ := A_ ((by rw [hg]; exact (below_size (bk_ HB.out)) : w.heap.size ≤ gb253)); have n8_ := A_ ((by rw [hg]; exact Nat.ne_of_lt (blk_lt (pk_ BK218.out)) : gb218 ≠ gb253)); have n9_ := A_ ((by rw [hg]; exact Nat.ne_of_gt (blk_lt (pk_ BK218.out)) : gb253 ≠ gb218)); have n10_ := A_ ((by rw [hg]; exact Nat.ne_of_lt (blk_lt (pk_ BK219.out)) : gb219 ≠ gb253)); have n11_ := A_ ((by rw [hg]; exact Nat.ne_of_gt (blk_lt (pk_ BK219.out)) : gb253 ≠ gb219)); have n12_ := A_ ((by rw [hg]; exact Nat.ne_of_lt (blk_lt (pk_ BK220.out)) : gb220 ≠ gb253)); have n13_ := A_ ((by rw [hg]; exact Nat.ne_of_gt (blk_lt (pk_ BK220.out)) : gb253 ≠ gb220)); clear HO250 BK218 BK219 BK220 HB; have HO250 := n0_; have BK218 := n1_; have BK219 := n2_; have BK220 := n3_; have HB := n4_; have BK253 := n5_; have GW253 := n6_; have GE253 := n7_; have NB218_253 := n8_; have NB253_218 := n9_; have NB219_253 := n10_; have NB253_219 := n11_; have NB220_253 := n12_; have NB253_220 := n13_; clear n0_ n1_ n2_ n3_ n4_ n5_ n6_ n7_ n8_ n9_ n10_ n11_ n12_ n13_ hb hbox hg; have hnb223 := NB253_218.out; have hnc223 := NB218_253.out; have hnb224 := NB253_219.out; have hnc224 := NB219_253.out; have hnb225 := NB253_220.out; have hnc225 := NB220_253.out; have hcz226_0 : w222.cell? ⟨gb253, 0, none⟩ = some (.int .i64 0) := (blk_cell BK253.out 0).trans rfl; have hcz226_1 : w222.cell? ⟨gb253, 1, none⟩ = some (.slice none 0 0) := (blk_cell BK253.out 1).trans rfl; have hfz226_0 := blk_frozen BK253.out 0; have hfz226_1 := blk_frozen BK253.out 1; obtain ⟨Ao227, co227, eo227⟩ := Kd.R_slice HO250.out; subst eo227; have hcz228_0 : w222.cell? ⟨gb219, 0, none⟩ = some (.slice A2_0 l2_0.length c2_0) := (blk_cell BK219.out 0).trans rfl; have hfz228_0 := blk_frozen BK219.out 0; have hcz229_0 : w222.cell? ⟨gb220, 0, none⟩ = some (.int .i64 a3_0) := (blk_cell BK220.out 0).trans rfl; have hcz229_1 : w222.cell? ⟨gb220, 1, none⟩ = some (.slice A3_1 l3_1.length c3_1) := (blk_cell BK220.out 1).trans rfl; have hfz229_0 := blk_frozen BK220.out 0; have hfz229_1 := blk_frozen BK220.out 1) | ((with_reducible refine gate_callee (f := 29) rfl ?_); refine goesL_ (some 150) rfl rfl Try.func29 (by kernel_rfl) rfl #[.agg #[.slice A2_0 l2_0.length c2_0], .agg #[.int .i64 a3_0, .slice A3_1 l3_1.length c3_1], .int .i64 (wrap64 (a4))] rfl gl_ ?_; (with_reducible refine (tag_Roll.calls kj79 _ _ l2_0 a3_0 _ _ l3_1 (wrap64 (a4)) t254 t255 t258 t259 _ ?side1 ?side2 ?side3 ?side4 A102.out).mono ?_); (case side1 => exact Kd.C_below HR2_0.out (bk_ HB.out)); (case side2 => exact HC2_0.out); (case side3 => exact Kd.C_below HR3_1.out (bk_ HB.out)); (case side4 => exact HC3_1.out); rintro e w230 ⟨v256, rfl, ho0, hb⟩; refine ⟨_, rfl, ?_⟩; have n0_ := A_ (Kd.R_elder' (by (with_reducible repeat (first | apply Kd.R_alloc | apply Kd.R_drewN | apply Kd.R_drew)); exact (Kd.R_mono (Kd.R_far (p := ⟨gb253, 1, none⟩) (Kd.R_far (p := ⟨gb253, 0, none⟩) (Kd.R_types HO250.out BK253.out (by decide)) (fun _ hk => hk.2) (.int .i64 t247)) (fun _ hk => hk.2) (.slice Ao227 t248.length co227)) (fun _ h_ => h_.1))) (Kd.R_base ho0) hb); have n1_ := A_ (Kd.R_lower (Kd.R_new' ho0 (Kd.R_lt (by (with_reducible repeat (first | apply Kd.R_alloc | apply Kd.R_drewN | apply Kd.R_drew)); exact (Kd.R_mono (Kd.R_far (p := ⟨gb253, 1, none⟩) (Kd.R_far (p := ⟨gb253, 0, none⟩) (Kd.R_types HO250.out BK253.out (by decide)) (fun _ hk => hk.2) (.int .i64 t247)) (fun _ hk => hk.2) (.slice Ao227 t248.length co227)) (fun _ h_ => h_.1))))) (below_size (bk_ HB.out))); have n2_ := A_ (blk_below (g := gb218) (o := .cells #[.int .i64 a0_0, .slice A0_1 l0_1.length c0_1, .slice A0_2 l0_2.length c0_2] 25 (0, 0)) (by refine pk_ ?_; refine blk_far ?_ NB218_253.out _; refine pk_ ?_; refine blk_far ?_ NB218_253.out _; exact pk_ BK218.out) hb); have n3_ := A_ (blk_below (g := gb219) (o := .cells #[.slice A2_0 l2_0.length c2_0] 45 (0, 0)) (by refine pk_ ?_; refine blk_far ?_ NB219_253.out _; refine pk_ ?_; refine blk_far ?_ NB219_253.out _; exact pk_ BK219.out) hb); have n4_ := A_ (blk_below (g := gb220) (o := .cells #[.int .i64 a3_0, .slice A3_1 l3_1.length c3_1] 47 (0, 0)) (by refine pk_ ?_; refine blk_far ?_ NB220_253.out _; refine pk_ ?_; refine blk_far ?_ NB220_253.out _; exact pk_ BK220.out) hb); have n5_ := A_ (blk_below (g := gb253) (o := .cells #[.int .i64 t247, .slice Ao227 t248.length co227] 47 (0, 0)) (by refine pk_ ?_; refine blk_put (cs := #[.int .i64 t247, .slice none 0 0]) ?_ 1 _ rfl; refine pk_ ?_; refine blk_put (cs := #[.int .i64 0, .slice none 0 0]) ?_ 0 _ rfl; exact pk_ BK253.out) hb); have n6_ := A_ (below_step (bk_ HB.out) hb); clear HO250 BK218 BK219 BK220 BK253 HB; have HO250 := n0_; have HO257 := n1_; have BK218 := n2_; have BK219 := n3_; have BK220 := n4_; have BK253 := n5_; have HB := n6_; clear n0_ n1_ n2_ n3_ n4_ n5_ n6_; (try clear hb); (try clear hb2); (try clear hk); (try clear hi); (try clear ho0)) | ((with_reducible refine gate_dst (N := 26) rfl ?_); (try (refine gate_guard (by rfl) ?_; dsimp only)); refine box_event ?hg (N := 26) ?hd (cs := #[.int .i64 0, .slice none 0 0]) (t := 47) ?hr ?_; (case hd => rfl); (case hg => rfl); (case hr => first | (go_simp; done) | (go_simp; rfl)); intro gb260 hg w231 hbox hb; have n0_ := A_ (Kd.R_below (rk_ HO250.out) hb); have n1_ := A_ (Kd.R_below (rk_ HO257.out) hb); have n2_ := A_ (blk_below (pk_ BK218.out) hb); have n3_ := A_ (blk_below (pk_ BK219.out) hb); have n4_ := A_ (blk_below (pk_ BK220.out) hb); have n5_ := A_ (blk_below (pk_ BK253.out) hb); have n6_ := A_ (below_step (bk_ HB.out) hb); have n7_ := A_ (hbox); have n8_ := A_ ((by rw [hg]; exact (below_size (bk_ HB.out)) : w.heap.size ≤ gb260)); have n9_ := A_ ((by rw [hg]; exact (below_size (bk_ HB.out)) : w.heap.size ≤ gb260)); have n10_ := A_ ((by rw [hg]; exact Nat.ne_of_lt (blk_lt (pk_ BK218.out)) : gb218 ≠ gb260)); have n11_ := A_ ((by rw [hg]; exact Nat.ne_of_gt (blk_lt (pk_ BK218.out)) : gb260 ≠ gb218)); have n12_ := A_ ((by rw [hg]; exact Nat.ne_of_lt (blk_lt (pk_ BK219.out)) : gb219 ≠ gb260)); have n13_ := A_ ((by rw [hg]; exact Nat.ne_of_gt (blk_lt (pk_ BK219.out)) : gb260 ≠ gb219)); have n14_ := A_ ((by rw [hg]; exact Nat.ne_of_lt (blk_lt (pk_ BK220.out)) : gb220 ≠ gb260)); have n15_ := A_ ((by rw [hg]; exact Nat.ne_of_gt (blk_lt (pk_ BK220.out)) : gb260 ≠ gb220)); have n16_ := A_ ((by rw [hg]; exact Nat.ne_of_lt (blk_lt (pk_ BK253.out)) : gb253 ≠ gb260)); have n17_ := A_ ((by rw [hg]; exact Nat.ne_of_gt (blk_lt (pk_ BK253.out)) : gb260 ≠ gb253)); clear HO250 HO257 BK218 BK219 BK220 BK253 HB; have HO250 := n0_; have HO257 := n1_; have BK218 := n2_; have BK219 := n3_; have BK220 := n4_; have BK253 := n5_; have HB := n6_; have BK260 := n7_; have GW260 := n8_; have GE260 := n9_; have NB218_260 := n10_; have NB260_218 := n11_; have NB219_260 := n12_; have NB260_219 := n13_; have NB220_260 := n14_; have NB260_220 := n15_; have NB253_260 := n16_; have NB260_253 := n17_; clear n0_ n1_ n2_ n3_ n4_ n5_ n6_ n7_ n8_ n9_ n10_ n11_ n12_ n13_ n14_ n15_ n16_ n17_ hb hbox hg; have hnb232 := NB260_218.out; have hnc232 := NB218_260.out; have hnb233 := NB260_219.out; have hnc233 := NB219_260.out; have hnb234 := NB260_220.out; have hnc234 := NB220_260.out; have hnb235 := NB260_253.out; have hnc235 := NB253_260.out; have hcz236_0 : w231.cell? ⟨gb260, 0, none⟩ = some (.int .i64 0) := (blk_cell BK260.out 0).trans rfl; have hcz236_1 : w231.cell? ⟨gb260, 1, none⟩ = some (.slice none 0 0) := (blk_cell BK260.out 1).trans rfl; have hfz236_0 := blk_frozen BK260.out 0; have hfz236_1 := blk_frozen BK260.out 1; obtain ⟨Ao237, co237, eo237⟩ := Kd.R_slice HO257.out; subst eo237; have hcz238_0 : w231.cell? ⟨gb219, 0, none⟩ = some (.slice A2_0 l2_0.length c2_0) := (blk_cell BK219.out 0).trans rfl; have hfz238_0 := blk_frozen BK219.out 0) | ((with_reducible refine gate_callee (f := 29) rfl ?_); refine goesL_ (some 167) rfl rfl Try.func29 (by kernel_rfl) rfl #[.agg #[.slice A2_0 l2_0.length c2_0], .agg #[.int .i64 t254, .slice Ao237 t255.length co237], .int .i64 (wrap64 (a5))] rfl gl_ ?_; (with_reducible refine (tag_Roll.calls kj79 _ _ l2_0 t254 _ _ t255 (wrap64 (a5)) t261 t262 t265 t266 _ ?side1 ?side2 ?side3 ?side4 A104.out).mono ?_); (case side1 => exact Kd.C_below HR2_0.out (bk_ HB.out)); (case side2 => exact HC2_0.out); (case side3 => refine (Kd.R_reads' (e := 3) (base := w.heap.size) (ok := fun k_ => (True ∧ some k_ ≠ (.slice Ao227 t248.length co227 : Value).ownBlock)) (n := t255.length) (c := co237) ?_).2.2; exact (by (with_reducible repeat (first | apply Kd.R_alloc | apply Kd.R_drewN | apply Kd.R_drew)); exact (Kd.R_mono (Kd.R_far (p := ⟨gb260, 1, none⟩) (Kd.R_far (p := ⟨gb260, 0, none⟩) (Kd.R_types HO257.out BK260.out (by decide)) (fun _ hk => hk.2) (.int .i64 t254)) (fun _ hk => hk.2) (.slice Ao237 t255.length co237)) (fun _ h_ => h_.1)))); (case side4 => exact (Kd.R_reads' HO257.out).2.1); rintro e w239 ⟨v263, rfl, ho0, hb⟩; refine ⟨_, rfl, ?_⟩; have n0_ := A_ (Kd.R_elder' (by (with_reducible repeat (first | apply Kd.R_alloc | apply Kd.R_drewN | apply Kd.R_drew)); exact (Kd.R_mono (Kd.R_far (p := ⟨gb260, 1, none⟩) (Kd.R_far (p := ⟨gb260, 0, none⟩) (Kd.R_types HO250.out BK260.out (by decide)) (fun _ hk => hk.2) (.int .i64 t254)) (fun _ hk => hk.2) (.slice Ao237 t255.length co237)) (fun _ h_ => h_.1))) (Kd.R_base ho0) hb); have n1_ := A_ (Kd.R_elder' (by (with_reducible repeat (first | apply Kd.R_alloc | apply Kd.R_drewN | apply Kd.R_drew)); exact (Kd.R_mono (Kd.R_far (p := ⟨gb260, 1, none⟩) (Kd.R_far (p := ⟨gb260, 0, none⟩) (Kd.R_types HO257.out BK260.out (by decide)) (fun _ hk => hk.2) (.int .i64 t254)) (fun _ hk => hk.2) (.slice Ao237 t255.length co237)) (fun _ h_ => h_.1))) (Kd.R_base ho0) hb); have n2_ := A_ (Kd.R_lower (Kd.R_new' (Kd.R_new' ho0 (Kd.R_lt (by (with_reducible repeat (first | apply Kd.R_alloc | apply Kd.R_drewN | apply Kd.R_drew)); exact (Kd.R_mono (Kd.R_far (p := ⟨gb260, 1, none⟩) (Kd.R_far (p := ⟨gb260, 0, none⟩) (Kd.R_types HO250.out BK260.out (by decide)) (fun _ hk => hk.2) (.int .i64 t254)) (fun _ hk => hk.2) (.slice Ao237 t255.length co237)) (fun _ h_ => h_.1))))) (Kd.R_lt (by (with_reducible repeat (first | apply Kd.R_alloc | apply Kd.R_drewN | apply Kd.R_drew)); exact (Kd.R_mono (Kd.R_far (p := ⟨gb260, 1, none⟩) (Kd.R_far (p := ⟨gb260, 0, none⟩) (Kd.R_types HO257.out BK260.out (by decide)) (fun _ hk => hk.2) (.int .i64 t254)) (fun _ hk => hk.2) (.slice Ao237 t255.length co237)) (fun _ h_ => h_.1))))) (below_size (bk_ HB.out))); have n3_ := A_ (blk_below (g := gb218) (o := .cells #[.int .i64 a0_0, .slice A0_1 l0_1.length c0_1, .slice A0_2 l0_2.length c0_2] 25 (0, 0)) (by refine pk_ ?_; refine blk_far ?_ NB218_260.out _; refine pk_ ?_; refine blk_far ?_ NB218_260.out _; exact pk_ BK218.out) hb); have n4_ := A_ (blk_below (g := gb219) (o := .cells #[.slice A2_0 l2_0.length c2_0] 45 (0, 0)) (by refine pk_ ?_; refine blk_far ?_ NB219_260.out _; refine pk_ ?_; refine blk_far ?_ NB219_260.out _; exact pk_ BK219.out) hb); have n5_ := A_ (blk_below (g := gb220) (o := .cells #[.int .i64 a3_0, .slice A3_1 l3_1.length c3_1] 47 (0, 0)) (by refine pk_ ?_; refine blk_far ?_ NB220_260.out _; refine pk_ ?_; refine blk_far ?_ NB220_260.out _; exact pk_ BK220.out) hb); have n6_ := A_ (blk_below (g := gb253) (o := .cells #[.int .i64 t247, .slice Ao227 t248.length co227] 47 (0, 0)) (by refine pk_ ?_; refine blk_far ?_ NB253_260.out _; refine pk_ ?_; refine blk_far ?_ NB253_260.out _; exact pk_ BK253.out) hb); have n7_ := A_ (blk_below (g := gb260) (o := .cells #[.int .i64 t254, .slice Ao237 t255.length co237] 47 (0, 0)) (by refine pk_ ?_; refine blk_put (cs := #[.int .i64 t254, .slice none 0 0]) ?_ 1 _ rfl; refine pk_ ?_; refine blk_put (cs := #[.int .i64 0, .slice none 0 0]) ?_ 0 _ rfl; exact pk_ BK260.out) hb); have n8_ := A_ (below_step (bk_ HB.out) hb); clear HO250 HO257 BK218 BK219 BK220 BK253 BK260 HB; have HO250 := n0_; have HO257 := n1_; have HO264 := n2_; have BK218 := n3_; have BK219 := n4_; have BK220 := n5_; have BK253 := n6_; have BK260 := n7_; have HB := n8_; clear n0_ n1_ n2_ n3_ n4_ n5_ n6_ n7_ n8_; (try clear hb); (try clear hb2); (try clear hk); (try clear hi); (try clear ho0)) | ((with_reducible refine gate_dst (N := 28) rfl ?_); (try (refine gate_guard (by rfl) ?_; dsimp only)); refine box_event ?hg (N := 28) ?hd (cs := #[.int .i64 0, .slice none 0 0]) (t := 47) ?hr ?_; (case hd => rfl); (case hg => rfl); (case hr => first | (go_simp; done) | (go_simp; rfl)); intro gb267 hg w240 hbox hb; have n0_ := A_ (Kd.R_below (rk_ HO250.out) hb); have n1_ := A_ (Kd.R_below (rk_ HO257.out) hb); have n2_ := A_ (Kd.R_below (rk_ HO264.out) hb); have n3_ := A_ (blk_below (pk_ BK218.out) hb); have n4_ := A_ (blk_below (pk_ BK219.out) hb); have n5_ := A_ (blk_below (pk_ BK220.out) hb); have n6_ := A_ (blk_below (pk_ BK253.out) hb); have n7_ := A_ (blk_below (pk_ BK260.out) hb); have n8_ := A_ (below_step (bk_ HB.out) hb); have n9_ := A_ (hbox); have n10_ := A_ ((by rw [hg]; exact (below_size (bk_ HB.out)) : w.heap.size ≤ gb267)); have n11_ := A_ ((by rw [hg]; exact (below_size (bk_ HB.out)) : w.heap.size ≤ gb267)); have n12_ := A_ ((by rw [hg]; exact Nat.ne_of_lt (blk_lt (pk_ BK218.out)) : gb218 ≠ gb267)); have n13_ := A_ ((by rw [hg]; exact Nat.ne_of_gt (blk_lt (pk_ BK218.out)) : gb267 ≠ gb218)); have n14_ := A_ ((by rw [hg]; exact Nat.ne_of_lt (blk_lt (pk_ BK219.out)) : gb219 ≠ gb267)); have n15_ := A_ ((by rw [hg]; exact Nat.ne_of_gt (blk_lt (pk_ BK219.out)) : gb267 ≠ gb219)); have n16_ := A_ ((by rw [hg]; exact Nat.ne_of_lt (blk_lt (pk_ BK220.out)) : gb220 ≠ gb267)); have n17_ := A_ ((by rw [hg]; exact Nat.ne_of_gt (blk_lt (pk_ BK220.out)) : gb267 ≠ gb220)); have n18_ := A_ ((by rw [hg]; exact Nat.ne_of_lt (blk_lt (pk_ BK253.out)) : gb253 ≠ gb267)); have n19_ := A_ ((by rw [hg]; exact Nat.ne_of_gt (blk_lt (pk_ BK253.out)) : gb267 ≠ gb253)); have n20_ := A_ ((by rw [hg]; exact Nat.ne_of_lt (blk_lt (pk_ BK260.out)) : gb260 ≠ gb267)); have n21_ := A_ ((by rw [hg]; exact Nat.ne_of_gt (blk_lt (pk_ BK260.out)) : gb267 ≠ gb260)); clear HO250 HO257 HO264 BK218 BK219 BK220 BK253 BK260 HB; have HO250 := n0_; have HO257 := n1_; have HO264 := n2_; have BK218 := n3_; have BK219 := n4_; have BK220 := n5_; have BK253 := n6_; have BK260 := n7_; have HB := n8_; have BK267 := n9_; have GW267 := n10_; have GE267 := n11_; have NB218_267 := n12_; have NB267_218 := n13_; have NB219_267 := n14_; have NB267_219 := n15_; have NB220_267 := n16_; have NB267_220 := n17_; have NB253_267 := n18_; have NB267_253 := n19_; have NB260_267 := n20_; have NB267_260 := n21_; clear n0_ n1_ n2_ n3_ n4_ n5_ n6_ n7_ n8_ n9_ n10_ n11_ n12_ n13_ n14_ n15_ n16_ n17_ n18_ n19_ n20_ n21_ hb hbox hg; have hnb241 := NB267_218.out; have hnc241 := NB218_267.out; have hnb242 := NB267_219.out; have hnc242 := NB219_267.out; have hnb243 := NB267_220.out; have hnc243 := NB220_267.out; have hnb244 := NB267_253.out; have hnc244 := NB253_267.out; have hnb245 := NB267_260.out; have hnc245 := NB260_267.out; have hcz246_0 : w240.cell? ⟨gb267, 0, none⟩ = some (.int .i64 0) := (blk_cell BK267.out 0).trans rfl; have hcz246_1 : w240.cell? ⟨gb267, 1, none⟩ = some (.slice none 0 0) := (blk_cell BK267.out 1).trans rfl; have hfz246_0 := blk_frozen BK267.out 0; have hfz246_1 := blk_frozen BK267.out 1; obtain ⟨Ao247, co247, eo247⟩ := Kd.R_slice HO264.out; subst eo247; have hcz248_0 : w240.cell? ⟨gb253, 0, none⟩ = some (.int .i64 t247) := (blk_cell BK253.out 0).trans rfl; have hcz248_1 : w240.cell? ⟨gb253, 1, none⟩ = some (.slice Ao227 t248.length co227) := (blk_cell BK253.out 1).trans rfl; have hfz248_0 := blk_frozen BK253.out 0; have hfz248_1 := blk_frozen BK253.out 1) | (go_at_call 30; (with_reducible refine (standstillref07_SameWheel.calls kj79 t247 _ _ t248 t261 _ _ t262 false _ ?side1 ?side2 ?side3 ?side4 A106.out).mono ?_); (case side1 => refine (Kd.R_reads' (e := 3) (base := w.heap.size) (ok := fun k_ => ((True ∧ some k_ ≠ (.slice Ao237 t255.length co237 : Value).ownBlock) ∧ some k_ ≠ (.slice Ao247 t262.length co247 : Value).ownBlock)) (n := t248.length) (c := co227) ?_).2.2; exact (by (with_reducible repeat (first | apply Kd.R_alloc | apply Kd.R_drewN | apply Kd.R_drew)); exact (Kd.R_mono (Kd.R_far (p := ⟨gb267, 1, none⟩) (Kd.R_far (p := ⟨gb267, 0, none⟩) (Kd.R_types HO250.out BK267.out (by decide)) (fun _ hk => hk.2) (.int .i64 t261)) (fun _ hk => hk.2) (.slice Ao247 t262.length co247)) (fun _ h_ => h_.1)))); (case side2 => exact (Kd.R_reads' HO250.out).2.1); (case side3 => refine (Kd.R_reads' (e := 3) (base := w.heap.size) (ok := fun k_ => ((True ∧ some k_ ≠ (.slice Ao227 t248.length co227 : Value).ownBlock) ∧ some k_ ≠ (.slice Ao237 t255.length co237 : Value).ownBlock)) (n := t262.length) (c := co247) ?_).2.2; exact (by (with_reducible repeat (first | apply Kd.R_alloc | apply Kd.R_drewN | apply Kd.R_drew)); exact (Kd.R_mono (Kd.R_far (p := ⟨gb267, 1, none⟩) (Kd.R_far (p := ⟨gb267, 0, none⟩) (Kd.R_types HO264.out BK267.out (by decide)) (fun _ hk => hk.2) (.int .i64 t261)) (fun _ hk => hk.2) (.slice Ao247 t262.length co247)) (fun _ h_ => h_.1)))); (case side4 => exact (Kd.R_reads' HO264.out).2.1); rintro e w249 ⟨rfl, hb⟩; have n0_ := A_ (Kd.R_below (by (with_reducible repeat (first | apply Kd.R_alloc | apply Kd.R_drewN | apply Kd.R_drew)); exact (Kd.R_mono (Kd.R_far (p := ⟨gb267, 1, none⟩) (Kd.R_far (p := ⟨gb267, 0, none⟩) (Kd.R_types HO250.out BK267.out (by decide)) (fun _ hk => hk.2) (.int .i64 t261)) (fun _ hk => hk.2) (.slice Ao247 t262.length co247)) (fun _ h_ => h_.1))) hb); have n1_ := A_ (Kd.R_below (by (with_reducible repeat (first | apply Kd.R_alloc | apply Kd.R_drewN | apply Kd.R_drew)); exact (Kd.R_mono (Kd.R_far (p := ⟨gb267, 1, none⟩) (Kd.R_far (p := ⟨gb267, 0, none⟩) (Kd.R_types HO257.out BK267.out (by decide)) (fun _ hk => hk.2) (.int .i64 t261)) (fun _ hk => hk.2) (.slice Ao247 t262.length co247)) (fun _ h_ => h_.1))) hb); have n2_ := A_ (Kd.R_below (by (with_reducible repeat (first | apply Kd.R_alloc | apply Kd.R_drewN | apply Kd.R_drew)); exact (Kd.R_mono (Kd.R_far (p := ⟨gb267, 1, none⟩) (Kd.R_far (p := ⟨gb267, 0, none⟩) (Kd.R_types HO264.out BK267.out (by decide)) (fun _ hk => hk.2) (.int .i64 t261)) (fun _ hk => hk.2) (.slice Ao247 t262.length co247)) (fun _ h_ => h_.1))) hb); have n3_ := A_ (blk_below (g := gb218) (o := .cells #[.int .i64 a0_0, .slice A0_1 l0_1.length c0_1, .slice A0_2 l0_2.length c0_2] 25 (0, 0)) (by refine pk_ ?_; refine blk_far ?_ NB218_267.out _; refine pk_ ?_; refine blk_far ?_ NB218_267.out _; exact pk_ BK218.out) hb); have n4_ := A_ (blk_below (g := gb219) (o := .cells #[.slice A2_0 l2_0.length c2_0] 45 (0, 0)) (by refine pk_ ?_; refine blk_far ?_ NB219_267.out _; refine pk_ ?_; refine blk_far ?_ NB219_267.out _; exact pk_ BK219.out) hb); have n5_ := A_ (blk_below (g := gb220) (o := .cells #[.int .i64 a3_0, .slice A3_1 l3_1.length c3_1] 47 (0, 0)) (by refine pk_ ?_; refine blk_far ?_ NB220_267.out _; refine pk_ ?_; refine blk_far ?_ NB220_267.out _; exact pk_ BK220.out) hb); have n6_ := A_ (blk_below (g := gb253) (o := .cells #[.int .i64 t247, .slice Ao227 t248.length co227] 47 (0, 0)) (by refine pk_ ?_; refine blk_far ?_ NB253_267.out _; refine pk_ ?_; refine blk_far ?_ NB253_267.out _; exact pk_ BK253.out) hb); have n7_ := A_ (blk_below (g := gb260) (o := .cells #[.int .i64 t254, .slice Ao237 t255.length co237] 47 (0, 0)) (by refine pk_ ?_; refine blk_far ?_ NB260_267.out _; refine pk_ ?_; refine blk_far ?_ NB260_267.out _; exact pk_ BK260.out) hb); have n8_ := A_ (blk_below (g := gb267) (o := .cells #[.int .i64 t261, .slice Ao247 t262.length co247] 47 (0, 0)) (by refine pk_ ?_; refine blk_put (cs := #[.int .i64 t261, .slice none 0 0]) ?_ 1 _ rfl; refine pk_ ?_; refine blk_put (cs := #[.int .i64 0, .slice none 0 0]) ?_ 0 _ rfl; exact pk_ BK267.out) hb); have n9_ := A_ (below_step (bk_ HB.out) hb); clear HO250 HO257 HO264 BK218 BK219 BK220 BK253 BK260 BK267 HB; have HO250 := n0_; have HO257 := n1_; have HO264 := n2_; have BK218 := n3_; have BK219 := n4_; have BK220 := n5_; have BK253 := n6_; have BK260 := n7_; have BK267 := n8_; have HB := n9_; clear n0_ n1_ n2_ n3_ n4_ n5_ n6_ n7_ n8_ n9_; (try clear hb); (try clear hb2); (try clear hk); (try clear hi)))
            go_ret
            exact ⟨er_, bk_ HB.out⟩
          ·rw [if_neg c105] at H
           have c105b0 : (t252 == t266) = false := beq_eq_false_iff_ne.mpr c105
           have c105b1 : (t252 != t266) = true := bne_iff_ne.mpr c105
           obtain rfl := Option.some.inj H
           have hnb250 := NB219_218.out
           have hnc250 := NB218_219.out
           have hnb251 := NB219_220.out
           have hnc251 := NB220_219.out
           have hcz252_0 : wc.cell? ⟨gb219, 0, none⟩ = some (.slice A2_0 l2_0.length c2_0) := (blk_cell BK219.out 0).trans rfl
           have hfz252_0 := blk_frozen BK219.out 0
           have hnb253 := NB220_218.out
           have hnc253 := NB218_220.out
           have hcz254_0 : wc.cell? ⟨gb220, 0, none⟩ = some (.int .i64 a3_0) := (blk_cell BK220.out 0).trans rfl
           have hcz254_1 : wc.cell? ⟨gb220, 1, none⟩ = some (.slice A3_1 l3_1.length c3_1) := (blk_cell BK220.out 1).trans rfl
           have hfz254_0 := blk_frozen BK220.out 0
           have hfz254_1 := blk_frozen BK220.out 1
           go_wp2_with (first | ((with_reducible refine gate_callee (f := 29) rfl ?_); refine goesL_ (some 141) rfl rfl Try.func29 (by kernel_rfl) rfl #[.agg #[.slice A2_0 l2_0.length c2_0], .agg #[.int .i64 a3_0, .slice A3_1 l3_1.length c3_1], .int .i64 (wrap64 ((wrap64 (a4)) + (wrap64 (a5))))] rfl gl_ ?_; (with_reducible refine (tag_Roll.calls kj79 _ _ l2_0 a3_0 _ _ l3_1 (wrap64 ((wrap64 (a4)) + (wrap64 (a5)))) t247 t248 t251 t252 _ ?side1 ?side2 ?side3 ?side4 A101.out).mono ?_); (case side1 => exact ck_ (Kd.C_below HR2_0.out HB.out)); (case side2 => exact HC2_0.out); (case side3 => exact ck_ (Kd.C_below HR3_1.out HB.out)); (case side4 => exact HC3_1.out); rintro e w255 ⟨v249, rfl, ho0, hb⟩; refine ⟨_, rfl, ?_⟩; have n0_ := A_ (Kd.R_lower ho0 (below_size (bk_ HB.out))); have n1_ := A_ (blk_below (pk_ BK218.out) hb); have n2_ := A_ (blk_below (pk_ BK219.out) hb); have n3_ := A_ (blk_below (pk_ BK220.out) hb); have n4_ := A_ (below_step (bk_ HB.out) hb); clear BK218 BK219 BK220 HB; have HO250 := n0_; have BK218 := n1_; have BK219 := n2_; have BK220 := n3_; have HB := n4_; clear n0_ n1_ n2_ n3_ n4_; (try clear hb); (try clear hb2); (try clear hk); (try clear hi); (try clear ho0)) | ((with_reducible refine gate_dst (N := 24) rfl ?_); (try (refine gate_guard (by rfl) ?_; dsimp only)); refine box_event ?hg (N := 24) ?hd (cs := #[.int .i64 0, .slice none 0 0]) (t := 47) ?hr ?_; (case hd => rfl); (case hg => rfl); (case hr => first | (go_simp; done) | (go_simp; rfl)); intro gb253 hg w256 hbox hb; have n0_ := A_ (Kd.R_below (rk_ HO250.out) hb); have n1_ := A_ (blk_below (pk_ BK218.out) hb); have n2_ := A_ (blk_below (pk_ BK219.out) hb); have n3_ := A_ (blk_below (pk_ BK220.out) hb); have n4_ := A_ (below_step (bk_ HB.out) hb); have n5_ := A_ (hbox); have n6_ := A_ ((by rw [hg]; exact (below_size (bk_ HB.out)) : w.heap.size ≤ gb253)); have n7_ := A_ ((by rw [hg]; exact (below_size (bk_ HB.out)) : w.heap.size ≤ gb253)); have n8_ := A_ ((by rw [hg]; exact Nat.ne_of_lt (blk_lt (pk_ BK218.out)) : gb218 ≠ gb253)); have n9_ := A_ ((by rw [hg]; exact Nat.ne_of_gt (blk_lt (pk_ BK218.out)) : gb253 ≠ gb218)); have n10_ := A_ ((by rw [hg]; exact Nat.ne_of_lt (blk_lt (pk_ BK219.out)) : gb219 ≠ gb253)); have n11_ := A_ ((by rw [hg]; exact Nat.ne_of_gt (blk_lt (pk_ BK219.out)) : gb253 ≠ gb219)); have n12_ := A_ ((by rw [hg]; exact Nat.ne_of_lt (blk_lt (pk_ BK220.out)) : gb220 ≠ gb253)); have n13_ := A_ ((by rw [hg]; exact Nat.ne_of_gt (blk_lt (pk_ BK220.out)) : gb253 ≠ gb220)); clear HO250 BK218 BK219 BK220 HB; have HO250 := n0_; have BK218 := n1_; have BK219 := n2_; have BK220 := n3_; have HB := n4_; have BK253 := n5_; have GW253 := n6_; have GE253 := n7_; have NB218_253 := n8_; have NB253_218 := n9_; have NB219_253 := n10_; have NB253_219 := n11_; have NB220_253 := n12_; have NB253_220 := n13_; clear n0_ n1_ n2_ n3_ n4_ n5_ n6_ n7_ n8_ n9_ n10_ n11_ n12_ n13_ hb hbox hg; have hnb257 := NB253_218.out; have hnc257 := NB218_253.out; have hnb258 := NB253_219.out; have hnc258 := NB219_253.out; have hnb259 := NB253_220.out; have hnc259 := NB220_253.out; have hcz260_0 : w256.cell? ⟨gb253, 0, none⟩ = some (.int .i64 0) := (blk_cell BK253.out 0).trans rfl; have hcz260_1 : w256.cell? ⟨gb253, 1, none⟩ = some (.slice none 0 0) := (blk_cell BK253.out 1).trans rfl; have hfz260_0 := blk_frozen BK253.out 0; have hfz260_1 := blk_frozen BK253.out 1; obtain ⟨Ao261, co261, eo261⟩ := Kd.R_slice HO250.out; subst eo261; have hcz262_0 : w256.cell? ⟨gb219, 0, none⟩ = some (.slice A2_0 l2_0.length c2_0) := (blk_cell BK219.out 0).trans rfl; have hfz262_0 := blk_frozen BK219.out 0; have hcz263_0 : w256.cell? ⟨gb220, 0, none⟩ = some (.int .i64 a3_0) := (blk_cell BK220.out 0).trans rfl; have hcz263_1 : w256.cell? ⟨gb220, 1, none⟩ = some (.slice A3_1 l3_1.length c3_1) := (blk_cell BK220.out 1).trans rfl; have hfz263_0 := blk_frozen BK220.out 0; have hfz263_1 := blk_frozen BK220.out 1) | ((with_reducible refine gate_callee (f := 29) rfl ?_); refine goesL_ (some 150) rfl rfl Try.func29 (by kernel_rfl) rfl #[.agg #[.slice A2_0 l2_0.length c2_0], .agg #[.int .i64 a3_0, .slice A3_1 l3_1.length c3_1], .int .i64 (wrap64 (a4))] rfl gl_ ?_; (with_reducible refine (tag_Roll.calls kj79 _ _ l2_0 a3_0 _ _ l3_1 (wrap64 (a4)) t254 t255 t258 t259 _ ?side1 ?side2 ?side3 ?side4 A102.out).mono ?_); (case side1 => exact Kd.C_below HR2_0.out (bk_ HB.out)); (case side2 => exact HC2_0.out); (case side3 => exact Kd.C_below HR3_1.out (bk_ HB.out)); (case side4 => exact HC3_1.out); rintro e w264 ⟨v256, rfl, ho0, hb⟩; refine ⟨_, rfl, ?_⟩; have n0_ := A_ (Kd.R_elder' (by (with_reducible repeat (first | apply Kd.R_alloc | apply Kd.R_drewN | apply Kd.R_drew)); exact (Kd.R_mono (Kd.R_far (p := ⟨gb253, 1, none⟩) (Kd.R_far (p := ⟨gb253, 0, none⟩) (Kd.R_types HO250.out BK253.out (by decide)) (fun _ hk => hk.2) (.int .i64 t247)) (fun _ hk => hk.2) (.slice Ao261 t248.length co261)) (fun _ h_ => h_.1))) (Kd.R_base ho0) hb); have n1_ := A_ (Kd.R_lower (Kd.R_new' ho0 (Kd.R_lt (by (with_reducible repeat (first | apply Kd.R_alloc | apply Kd.R_drewN | apply Kd.R_drew)); exact (Kd.R_mono (Kd.R_far (p := ⟨gb253, 1, none⟩) (Kd.R_far (p := ⟨gb253, 0, none⟩) (Kd.R_types HO250.out BK253.out (by decide)) (fun _ hk => hk.2) (.int .i64 t247)) (fun _ hk => hk.2) (.slice Ao261 t248.length co261)) (fun _ h_ => h_.1))))) (below_size (bk_ HB.out))); have n2_ := A_ (blk_below (g := gb218) (o := .cells #[.int .i64 a0_0, .slice A0_1 l0_1.length c0_1, .slice A0_2 l0_2.length c0_2] 25 (0, 0)) (by refine pk_ ?_; refine blk_far ?_ NB218_253.out _; refine pk_ ?_; refine blk_far ?_ NB218_253.out _; exact pk_ BK218.out) hb); have n3_ := A_ (blk_below (g := gb219) (o := .cells #[.slice A2_0 l2_0.length c2_0] 45 (0, 0)) (by refine pk_ ?_; refine blk_far ?_ NB219_253.out _; refine pk_ ?_; refine blk_far ?_ NB219_253.out _; exact pk_ BK219.out) hb); have n4_ := A_ (blk_below (g := gb220) (o := .cells #[.int .i64 a3_0, .slice A3_1 l3_1.length c3_1] 47 (0, 0)) (by refine pk_ ?_; refine blk_far ?_ NB220_253.out _; refine pk_ ?_; refine blk_far ?_ NB220_253.out _; exact pk_ BK220.out) hb); have n5_ := A_ (blk_below (g := gb253) (o := .cells #[.int .i64 t247, .slice Ao261 t248.length co261] 47 (0, 0)) (by refine pk_ ?_; refine blk_put (cs := #[.int .i64 t247, .slice none 0 0]) ?_ 1 _ rfl; refine pk_ ?_; refine blk_put (cs := #[.int .i64 0, .slice none 0 0]) ?_ 0 _ rfl; exact pk_ BK253.out) hb); have n6_ := A_ (below_step (bk_ HB.out) hb); clear HO250 BK218 BK219 BK220 BK253 HB; have HO250 := n0_; have HO257 := n1_; have BK218 := n2_; have BK219 := n3_; have BK220 := n4_; have BK253 := n5_; have HB := n6_; clear n0_ n1_ n2_ n3_ n4_ n5_ n6_; (try clear hb); (try clear hb2); (try clear hk); (try clear hi); (try clear ho0)) | ((with_reducible refine gate_dst (N := 26) rfl ?_); (try (refine gate_guard (by rfl) ?_; dsimp only)); refine box_event ?hg (N := 26) ?hd (cs := #[.int .i64 0, .slice none 0 0]) (t := 47) ?hr ?_; (case hd => rfl); (case hg => rfl); (case hr => first | (go_simp; done) | (go_simp; rfl)); intro gb260 hg w265 hbox hb; have n0_ := A_ (Kd.R_below (rk_ HO250.out) hb); have n1_ := A_ (Kd.R_below (rk_ HO257.out) hb); have n2_ := A_ (blk_below (pk_ BK218.out) hb); have n3_ := A_ (blk_below (pk_ BK219.out) hb); have n4_ := A_ (blk_below (pk_ BK220.out) hb); have n5_ := A_ (blk_below (pk_ BK253.out) hb); have n6_ := A_ (below_step (bk_ HB.out) hb); have n7_ := A_ (hbox); have n8_ := A_ ((by rw [hg]; exact (below_size (bk_ HB.out)) : w.heap.size ≤ gb260)); have n9_ := A_ ((by rw [hg]; exact (below_size (bk_ HB.out)) : w.heap.size ≤ gb260)); have n10_ := A_ ((by rw [hg]; exact Nat.ne_of_lt (blk_lt (pk_ BK218.out)) : gb218 ≠ gb260)); have n11_ := A_ ((by rw [hg]; exact Nat.ne_of_gt (blk_lt (pk_ BK218.out)) : gb260 ≠ gb218)); have n12_ := A_ ((by rw [hg]; exact Nat.ne_of_lt (blk_lt (pk_ BK219.out)) : gb219 ≠ gb260)); have n13_ := A_ ((by rw [hg]; exact Nat.ne_of_gt (blk_lt (pk_ BK219.out)) : gb260 ≠ gb219)); have n14_ := A_ ((by rw [hg]; exact Nat.ne_of_lt (blk_lt (pk_ BK220.out)) : gb220 ≠ gb260)); have n15_ := A_ ((by rw [hg]; exact Nat.ne_of_gt (blk_lt (pk_ BK220.out)) : gb260 ≠ gb220)); have n16_ := A_ ((by rw [hg]; exact Nat.ne_of_lt (blk_lt (pk_ BK253.out)) : gb253 ≠ gb260)); have n17_ := A_ ((by rw [hg]; exact Nat.ne_of_gt (blk_lt (pk_ BK253.out)) : gb260 ≠ gb253)); clear HO250 HO257 BK218 BK219 BK220 BK253 HB; have HO250 := n0_; have HO257 := n1_; have BK218 := n2_; have BK219 := n3_; have BK220 := n4_; have BK253 := n5_; have HB := n6_; have BK260 := n7_; have GW260 := n8_; have GE260 := n9_; have NB218_260 := n10_; have NB260_218 := n11_; have NB219_260 := n12_; have NB260_219 := n13_; have NB220_260 := n14_; have NB260_220 := n15_; have NB253_260 := n16_; have NB260_253 := n17_; clear n0_ n1_ n2_ n3_ n4_ n5_ n6_ n7_ n8_ n9_ n10_ n11_ n12_ n13_ n14_ n15_ n16_ n17_ hb hbox hg; have hnb266 := NB260_218.out; have hnc266 := NB218_260.out; have hnb267 := NB260_219.out; have hnc267 := NB219_260.out; have hnb268 := NB260_220.out; have hnc268 := NB220_260.out; have hnb269 := NB260_253.out; have hnc269 := NB253_260.out; have hcz270_0 : w265.cell? ⟨gb260, 0, none⟩ = some (.int .i64 0) := (blk_cell BK260.out 0).trans rfl; have hcz270_1 : w265.cell? ⟨gb260, 1, none⟩ = some (.slice none 0 0) := (blk_cell BK260.out 1).trans rfl; have hfz270_0 := blk_frozen BK260.out 0; have hfz270_1 := blk_frozen BK260.out 1; obtain ⟨Ao271, co271, eo271⟩ := Kd.R_slice HO257.out; subst eo271; have hcz272_0 : w265.cell? ⟨gb219, 0, none⟩ = some (.slice A2_0 l2_0.length c2_0) := (blk_cell BK219.out 0).trans rfl; have hfz272_0 := blk_frozen BK219.out 0) | ((with_reducible refine gate_callee (f := 29) rfl ?_); refine goesL_ (some 167) rfl rfl Try.func29 (by kernel_rfl) rfl #[.agg #[.slice A2_0 l2_0.length c2_0], .agg #[.int .i64 t254, .slice Ao271 t255.length co271], .int .i64 (wrap64 (a5))] rfl gl_ ?_; (with_reducible refine (tag_Roll.calls kj79 _ _ l2_0 t254 _ _ t255 (wrap64 (a5)) t261 t262 t265 t266 _ ?side1 ?side2 ?side3 ?side4 A104.out).mono ?_); (case side1 => exact Kd.C_below HR2_0.out (bk_ HB.out)); (case side2 => exact HC2_0.out); (case side3 => refine (Kd.R_reads' (e := 3) (base := w.heap.size) (ok := fun k_ => (True ∧ some k_ ≠ (.slice Ao261 t248.length co261 : Value).ownBlock)) (n := t255.length) (c := co271) ?_).2.2; exact (by (with_reducible repeat (first | apply Kd.R_alloc | apply Kd.R_drewN | apply Kd.R_drew)); exact (Kd.R_mono (Kd.R_far (p := ⟨gb260, 1, none⟩) (Kd.R_far (p := ⟨gb260, 0, none⟩) (Kd.R_types HO257.out BK260.out (by decide)) (fun _ hk => hk.2) (.int .i64 t254)) (fun _ hk => hk.2) (.slice Ao271 t255.length co271)) (fun _ h_ => h_.1)))); (case side4 => exact (Kd.R_reads' HO257.out).2.1); rintro e w273 ⟨v263, rfl, ho0, hb⟩; refine ⟨_, rfl, ?_⟩; have n0_ := A_ (Kd.R_elder' (by (with_reducible repeat (first | apply Kd.R_alloc | apply Kd.R_drewN | apply Kd.R_drew)); exact (Kd.R_mono (Kd.R_far (p := ⟨gb260, 1, none⟩) (Kd.R_far (p := ⟨gb260, 0, none⟩) (Kd.R_types HO250.out BK260.out (by decide)) (fun _ hk => hk.2) (.int .i64 t254)) (fun _ hk => hk.2) (.slice Ao271 t255.length co271)) (fun _ h_ => h_.1))) (Kd.R_base ho0) hb); have n1_ := A_ (Kd.R_elder' (by (with_reducible repeat (first | apply Kd.R_alloc | apply Kd.R_drewN | apply Kd.R_drew)); exact (Kd.R_mono (Kd.R_far (p := ⟨gb260, 1, none⟩) (Kd.R_far (p := ⟨gb260, 0, none⟩) (Kd.R_types HO257.out BK260.out (by decide)) (fun _ hk => hk.2) (.int .i64 t254)) (fun _ hk => hk.2) (.slice Ao271 t255.length co271)) (fun _ h_ => h_.1))) (Kd.R_base ho0) hb); have n2_ := A_ (Kd.R_lower (Kd.R_new' (Kd.R_new' ho0 (Kd.R_lt (by (with_reducible repeat (first | apply Kd.R_alloc | apply Kd.R_drewN | apply Kd.R_drew)); exact (Kd.R_mono (Kd.R_far (p := ⟨gb260, 1, none⟩) (Kd.R_far (p := ⟨gb260, 0, none⟩) (Kd.R_types HO250.out BK260.out (by decide)) (fun _ hk => hk.2) (.int .i64 t254)) (fun _ hk => hk.2) (.slice Ao271 t255.length co271)) (fun _ h_ => h_.1))))) (Kd.R_lt (by (with_reducible repeat (first | apply Kd.R_alloc | apply Kd.R_drewN | apply Kd.R_drew)); exact (Kd.R_mono (Kd.R_far (p := ⟨gb260, 1, none⟩) (Kd.R_far (p := ⟨gb260, 0, none⟩) (Kd.R_types HO257.out BK260.out (by decide)) (fun _ hk => hk.2) (.int .i64 t254)) (fun _ hk => hk.2) (.slice Ao271 t255.length co271)) (fun _ h_ => h_.1))))) (below_size (bk_ HB.out))); have n3_ := A_ (blk_below (g := gb218) (o := .cells #[.int .i64 a0_0, .slice A0_1 l0_1.length c0_1, .slice A0_2 l0_2.length c0_2] 25 (0, 0)) (by refine pk_ ?_; refine blk_far ?_ NB218_260.out _; refine pk_ ?_; refine blk_far ?_ NB218_260.out _; exact pk_ BK218.out) hb); have n4_ := A_ (blk_below (g := gb219) (o := .cells #[.slice A2_0 l2_0.length c2_0] 45 (0, 0)) (by refine pk_ ?_; refine blk_far ?_ NB219_260.out _; refine pk_ ?_; refine blk_far ?_ NB219_260.out _; exact pk_ BK219.out) hb); have n5_ := A_ (blk_below (g := gb220) (o := .cells #[.int .i64 a3_0, .slice A3_1 l3_1.length c3_1] 47 (0, 0)) (by refine pk_ ?_; refine blk_far ?_ NB220_260.out _; refine pk_ ?_; refine blk_far ?_ NB220_260.out _; exact pk_ BK220.out) hb); have n6_ := A_ (blk_below (g := gb253) (o := .cells #[.int .i64 t247, .slice Ao261 t248.length co261] 47 (0, 0)) (by refine pk_ ?_; refine blk_far ?_ NB253_260.out _; refine pk_ ?_; refine blk_far ?_ NB253_260.out _; exact pk_ BK253.out) hb); have n7_ := A_ (blk_below (g := gb260) (o := .cells #[.int .i64 t254, .slice Ao271 t255.length co271] 47 (0, 0)) (by refine pk_ ?_; refine blk_put (cs := #[.int .i64 t254, .slice none 0 0]) ?_ 1 _ rfl; refine pk_ ?_; refine blk_put (cs := #[.int .i64 0, .slice none 0 0]) ?_ 0 _ rfl; exact pk_ BK260.out) hb); have n8_ := A_ (below_step (bk_ HB.out) hb); clear HO250 HO257 BK218 BK219 BK220 BK253 BK260 HB; have HO250 := n0_; have HO257 := n1_; have HO264 := n2_; have BK218 := n3_; have BK219 := n4_; have BK220 := n5_; have BK253 := n6_; have BK260 := n7_; have HB := n8_; clear n0_ n1_ n2_ n3_ n4_ n5_ n6_ n7_ n8_; (try clear hb); (try clear hb2); (try clear hk); (try clear hi); (try clear ho0)) | ((with_reducible refine gate_dst (N := 28) rfl ?_); (try (refine gate_guard (by rfl) ?_; dsimp only)); refine box_event ?hg (N := 28) ?hd (cs := #[.int .i64 0, .slice none 0 0]) (t := 47) ?hr ?_; (case hd => rfl); (case hg => rfl); (case hr => first | (go_simp; done) | (go_simp; rfl)); intro gb267 hg w274 hbox hb; have n0_ := A_ (Kd.R_below (rk_ HO250.out) hb); have n1_ := A_ (Kd.R_below (rk_ HO257.out) hb); have n2_ := A_ (Kd.R_below (rk_ HO264.out) hb); have n3_ := A_ (blk_below (pk_ BK218.out) hb); have n4_ := A_ (blk_below (pk_ BK219.out) hb); have n5_ := A_ (blk_below (pk_ BK220.out) hb); have n6_ := A_ (blk_below (pk_ BK253.out) hb); have n7_ := A_ (blk_below (pk_ BK260.out) hb); have n8_ := A_ (below_step (bk_ HB.out) hb); have n9_ := A_ (hbox); have n10_ := A_ ((by rw [hg]; exact (below_size (bk_ HB.out)) : w.heap.size ≤ gb267)); have n11_ := A_ ((by rw [hg]; exact (below_size (bk_ HB.out)) : w.heap.size ≤ gb267)); have n12_ := A_ ((by rw [hg]; exact Nat.ne_of_lt (blk_lt (pk_ BK218.out)) : gb218 ≠ gb267)); have n13_ := A_ ((by rw [hg]; exact Nat.ne_of_gt (blk_lt (pk_ BK218.out)) : gb267 ≠ gb218)); have n14_ := A_ ((by rw [hg]; exact Nat.ne_of_lt (blk_lt (pk_ BK219.out)) : gb219 ≠ gb267)); have n15_ := A_ ((by rw [hg]; exact Nat.ne_of_gt (blk_lt (pk_ BK219.out)) : gb267 ≠ gb219)); have n16_ := A_ ((by rw [hg]; exact Nat.ne_of_lt (blk_lt (pk_ BK220.out)) : gb220 ≠ gb267)); have n17_ := A_ ((by rw [hg]; exact Nat.ne_of_gt (blk_lt (pk_ BK220.out)) : gb267 ≠ gb220)); have n18_ := A_ ((by rw [hg]; exact Nat.ne_of_lt (blk_lt (pk_ BK253.out)) : gb253 ≠ gb267)); have n19_ := A_ ((by rw [hg]; exact Nat.ne_of_gt (blk_lt (pk_ BK253.out)) : gb267 ≠ gb253)); have n20_ := A_ ((by rw [hg]; exact Nat.ne_of_lt (blk_lt (pk_ BK260.out)) : gb260 ≠ gb267)); have n21_ := A_ ((by rw [hg]; exact Nat.ne_of_gt (blk_lt (pk_ BK260.out)) : gb267 ≠ gb260)); clear HO250 HO257 HO264 BK218 BK219 BK220 BK253 BK260 HB; have HO250 := n0_; have HO257 := n1_; have HO264 := n2_; have BK218 := n3_; have BK219 := n4_; have BK220 := n5_; have BK253 := n6_; have BK260 := n7_; have HB := n8_; have BK267 := n9_; have GW267 := n10_; have GE267 := n11_; have NB218_267 := n12_; have NB267_218 := n13_; have NB219_267 := n14_; have NB267_219 := n15_; have NB220_267 := n16_; have NB267_220 := n17_; have NB253_267 := n18_; have NB267_253 := n19_; have NB260_267 := n20_; have NB267_260 := n21_; clear n0_ n1_ n2_ n3_ n4_ n5_ n6_ n7_ n8_ n9_ n10_ n11_ n12_ n13_ n14_ n15_ n16_ n17_ n18_ n19_ n20_ n21_ hb hbox hg; have hnb275 := NB267_218.out; have hnc275 := NB218_267.out; have hnb276 := NB267_219.out; have hnc276 := NB219_267.out; have hnb277 := NB267_220.out; have hnc277 := NB220_267.out; have hnb278 := NB267_253.out; have hnc278 := NB253_267.out; have hnb279 := NB267_260.out; have hnc279 := NB260_267.out; have hcz280_0 : w274.cell? ⟨gb267, 0, none⟩ = some (.int .i64 0) := (blk_cell BK267.out 0).trans rfl; have hcz280_1 : w274.cell? ⟨gb267, 1, none⟩ = some (.slice none 0 0) := (blk_cell BK267.out 1).trans rfl; have hfz280_0 := blk_frozen BK267.out 0; have hfz280_1 := blk_frozen BK267.out 1; obtain ⟨Ao281, co281, eo281⟩ := Kd.R_slice HO264.out; subst eo281))
           go_ret
           exact ⟨er_, bk_ HB.out⟩
         ·rw [if_neg c103] at H
          have c103b0 : (t259 == 0) = false := beq_eq_false_iff_ne.mpr c103
          have c103b1 : (t259 != 0) = true := bne_iff_ne.mpr c103
          by_cases c282 : t252 = t259
          ·rw [if_pos c282] at H
           have c282b0 : (t252 == t259) = true := beq_iff_eq.mpr c282
           have c282b1 : (t252 != t259) = false := bne_eq_false_iff_eq.mpr c282
           clear c282
           replace H := Option.bind_eq_some_iff.mp H
           obtain ⟨t271, A2830, H⟩ := H
           replace H : (some t271) = some r := H
           have A283 := Aside0.mk A2830
           clear A2830
           obtain rfl := Option.some.inj H
           have hnb284 := NB219_218.out
           have hnc284 := NB218_219.out
           have hnb285 := NB219_220.out
           have hnc285 := NB220_219.out
           have hcz286_0 : wc.cell? ⟨gb219, 0, none⟩ = some (.slice A2_0 l2_0.length c2_0) := (blk_cell BK219.out 0).trans rfl
           have hfz286_0 := blk_frozen BK219.out 0
           have hnb287 := NB220_218.out
           have hnc287 := NB218_220.out
           have hcz288_0 : wc.cell? ⟨gb220, 0, none⟩ = some (.int .i64 a3_0) := (blk_cell BK220.out 0).trans rfl
           have hcz288_1 : wc.cell? ⟨gb220, 1, none⟩ = some (.slice A3_1 l3_1.length c3_1) := (blk_cell BK220.out 1).trans rfl
           have hfz288_0 := blk_frozen BK220.out 0
           have hfz288_1 := blk_frozen BK220.out 1
           go_wp2_with (first | ((with_reducible refine gate_callee (f := 29) rfl ?_); refine goesL_ (some 141) rfl rfl Try.func29 (by kernel_rfl) rfl #[.agg #[.slice A2_0 l2_0.length c2_0], .agg #[.int .i64 a3_0, .slice A3_1 l3_1.length c3_1], .int .i64 (wrap64 ((wrap64 (a4)) + (wrap64 (a5))))] rfl gl_ ?_; (with_reducible refine (tag_Roll.calls kj79 _ _ l2_0 a3_0 _ _ l3_1 (wrap64 ((wrap64 (a4)) + (wrap64 (a5)))) t247 t248 t251 t252 _ ?side1 ?side2 ?side3 ?side4 A101.out).mono ?_); (case side1 => exact ck_ (Kd.C_below HR2_0.out HB.out)); (case side2 => exact HC2_0.out); (case side3 => exact ck_ (Kd.C_below HR3_1.out HB.out)); (case side4 => exact HC3_1.out); rintro e w289 ⟨v249, rfl, ho0, hb⟩; refine ⟨_, rfl, ?_⟩; have n0_ := A_ (Kd.R_lower ho0 (below_size (bk_ HB.out))); have n1_ := A_ (blk_below (pk_ BK218.out) hb); have n2_ := A_ (blk_below (pk_ BK219.out) hb); have n3_ := A_ (blk_below (pk_ BK220.out) hb); have n4_ := A_ (below_step (bk_ HB.out) hb); clear BK218 BK219 BK220 HB; have HO250 := n0_; have BK218 := n1_; have BK219 := n2_; have BK220 := n3_; have HB := n4_; clear n0_ n1_ n2_ n3_ n4_; (try clear hb); (try clear hb2); (try clear hk); (try clear hi); (try clear ho0)) | ((with_reducible refine gate_dst (N := 24) rfl ?_); (try (refine gate_guard (by rfl) ?_; dsimp only)); refine box_event ?hg (N := 24) ?hd (cs := #[.int .i64 0, .slice none 0 0]) (t := 47) ?hr ?_; (case hd => rfl); (case hg => rfl); (case hr => first | (go_simp; done) | (go_simp; rfl)); intro gb253 hg w290 hbox hb; have n0_ := A_ (Kd.R_below (rk_ HO250.out) hb); have n1_ := A_ (blk_below (pk_ BK218.out) hb); have n2_ := A_ (blk_below (pk_ BK219.out) hb); have n3_ := A_ (blk_below (pk_ BK220.out) hb); have n4_ := A_ (below_step (bk_ HB.out) hb); have n5_ := A_ (hbox); have n6_ := A_ ((by rw [hg]; exact (below_size (bk_ HB.out)) : w.heap.size ≤ gb253)); have n7_ := A_ ((by rw [hg]; exact (below_size (bk_ HB.out)) : w.heap.size ≤ gb253)); have n8_ := A_ ((by rw [hg]; exact Nat.ne_of_lt (blk_lt (pk_ BK218.out)) : gb218 ≠ gb253)); have n9_ := A_ ((by rw [hg]; exact Nat.ne_of_gt (blk_lt (pk_ BK218.out)) : gb253 ≠ gb218)); have n10_ := A_ ((by rw [hg]; exact Nat.ne_of_lt (blk_lt (pk_ BK219.out)) : gb219 ≠ gb253)); have n11_ := A_ ((by rw [hg]; exact Nat.ne_of_gt (blk_lt (pk_ BK219.out)) : gb253 ≠ gb219)); have n12_ := A_ ((by rw [hg]; exact Nat.ne_of_lt (blk_lt (pk_ BK220.out)) : gb220 ≠ gb253)); have n13_ := A_ ((by rw [hg]; exact Nat.ne_of_gt (blk_lt (pk_ BK220.out)) : gb253 ≠ gb220)); clear HO250 BK218 BK219 BK220 HB; have HO250 := n0_; have BK218 := n1_; have BK219 := n2_; have BK220 := n3_; have HB := n4_; have BK253 := n5_; have GW253 := n6_; have GE253 := n7_; have NB218_253 := n8_; have NB253_218 := n9_; have NB219_253 := n10_; have NB253_219 := n11_; have NB220_253 := n12_; have NB253_220 := n13_; clear n0_ n1_ n2_ n3_ n4_ n5_ n6_ n7_ n8_ n9_ n10_ n11_ n12_ n13_ hb hbox hg; have hnb291 := NB253_218.out; have hnc291 := NB218_253.out; have hnb292 := NB253_219.out; have hnc292 := NB219_253.out; have hnb293 := NB253_220.out; have hnc293 := NB220_253.out; have hcz294_0 : w290.cell? ⟨gb253, 0, none⟩ = some (.int .i64 0) := (blk_cell BK253.out 0).trans rfl; have hcz294_1 : w290.cell? ⟨gb253, 1, none⟩ = some (.slice none 0 0) := (blk_cell BK253.out 1).trans rfl; have hfz294_0 := blk_frozen BK253.out 0; have hfz294_1 := blk_frozen BK253.out 1; obtain ⟨Ao295, co295, eo295⟩ := Kd.R_slice HO250.out; subst eo295; have hcz296_0 : w290.cell? ⟨gb219, 0, none⟩ = some (.slice A2_0 l2_0.length c2_0) := (blk_cell BK219.out 0).trans rfl; have hfz296_0 := blk_frozen BK219.out 0; have hcz297_0 : w290.cell? ⟨gb220, 0, none⟩ = some (.int .i64 a3_0) := (blk_cell BK220.out 0).trans rfl; have hcz297_1 : w290.cell? ⟨gb220, 1, none⟩ = some (.slice A3_1 l3_1.length c3_1) := (blk_cell BK220.out 1).trans rfl; have hfz297_0 := blk_frozen BK220.out 0; have hfz297_1 := blk_frozen BK220.out 1) | ((with_reducible refine gate_callee (f := 29) rfl ?_); refine goesL_ (some 150) rfl rfl Try.func29 (by kernel_rfl) rfl #[.agg #[.slice A2_0 l2_0.length c2_0], .agg #[.int .i64 a3_0, .slice A3_1 l3_1.length c3_1], .int .i64 (wrap64 (a4))] rfl gl_ ?_; (with_reducible refine (tag_Roll.calls kj79 _ _ l2_0 a3_0 _ _ l3_1 (wrap64 (a4)) t254 t255 t258 t259 _ ?side1 ?side2 ?side3 ?side4 A102.out).mono ?_); (case side1 => exact Kd.C_below HR2_0.out (bk_ HB.out)); (case side2 => exact HC2_0.out); (case side3 => exact Kd.C_below HR3_1.out (bk_ HB.out)); (case side4 => exact HC3_1.out); rintro e w298 ⟨v256, rfl, ho0, hb⟩; refine ⟨_, rfl, ?_⟩; have n0_ := A_ (Kd.R_elder' (by (with_reducible repeat (first | apply Kd.R_alloc | apply Kd.R_drewN | apply Kd.R_drew)); exact (Kd.R_mono (Kd.R_far (p := ⟨gb253, 1, none⟩) (Kd.R_far (p := ⟨gb253, 0, none⟩) (Kd.R_types HO250.out BK253.out (by decide)) (fun _ hk => hk.2) (.int .i64 t247)) (fun _ hk => hk.2) (.slice Ao295 t248.length co295)) (fun _ h_ => h_.1))) (Kd.R_base ho0) hb); have n1_ := A_ (Kd.R_lower (Kd.R_new' ho0 (Kd.R_lt (by (with_reducible repeat (first | apply Kd.R_alloc | apply Kd.R_drewN | apply Kd.R_drew)); exact (Kd.R_mono (Kd.R_far (p := ⟨gb253, 1, none⟩) (Kd.R_far (p := ⟨gb253, 0, none⟩) (Kd.R_types HO250.out BK253.out (by decide)) (fun _ hk => hk.2) (.int .i64 t247)) (fun _ hk => hk.2) (.slice Ao295 t248.length co295)) (fun _ h_ => h_.1))))) (below_size (bk_ HB.out))); have n2_ := A_ (blk_below (g := gb218) (o := .cells #[.int .i64 a0_0, .slice A0_1 l0_1.length c0_1, .slice A0_2 l0_2.length c0_2] 25 (0, 0)) (by refine pk_ ?_; refine blk_far ?_ NB218_253.out _; refine pk_ ?_; refine blk_far ?_ NB218_253.out _; exact pk_ BK218.out) hb); have n3_ := A_ (blk_below (g := gb219) (o := .cells #[.slice A2_0 l2_0.length c2_0] 45 (0, 0)) (by refine pk_ ?_; refine blk_far ?_ NB219_253.out _; refine pk_ ?_; refine blk_far ?_ NB219_253.out _; exact pk_ BK219.out) hb); have n4_ := A_ (blk_below (g := gb220) (o := .cells #[.int .i64 a3_0, .slice A3_1 l3_1.length c3_1] 47 (0, 0)) (by refine pk_ ?_; refine blk_far ?_ NB220_253.out _; refine pk_ ?_; refine blk_far ?_ NB220_253.out _; exact pk_ BK220.out) hb); have n5_ := A_ (blk_below (g := gb253) (o := .cells #[.int .i64 t247, .slice Ao295 t248.length co295] 47 (0, 0)) (by refine pk_ ?_; refine blk_put (cs := #[.int .i64 t247, .slice none 0 0]) ?_ 1 _ rfl; refine pk_ ?_; refine blk_put (cs := #[.int .i64 0, .slice none 0 0]) ?_ 0 _ rfl; exact pk_ BK253.out) hb); have n6_ := A_ (below_step (bk_ HB.out) hb); clear HO250 BK218 BK219 BK220 BK253 HB; have HO250 := n0_; have HO257 := n1_; have BK218 := n2_; have BK219 := n3_; have BK220 := n4_; have BK253 := n5_; have HB := n6_; clear n0_ n1_ n2_ n3_ n4_ n5_ n6_; (try clear hb); (try clear hb2); (try clear hk); (try clear hi); (try clear ho0)) | ((with_reducible refine gate_dst (N := 26) rfl ?_); (try (refine gate_guard (by rfl) ?_; dsimp only)); refine box_event ?hg (N := 26) ?hd (cs := #[.int .i64 0, .slice none 0 0]) (t := 47) ?hr ?_; (case hd => rfl); (case hg => rfl); (case hr => first | (go_simp; done) | (go_simp; rfl)); intro gb260 hg w299 hbox hb; have n0_ := A_ (Kd.R_below (rk_ HO250.out) hb); have n1_ := A_ (Kd.R_below (rk_ HO257.out) hb); have n2_ := A_ (blk_below (pk_ BK218.out) hb); have n3_ := A_ (blk_below (pk_ BK219.out) hb); have n4_ := A_ (blk_below (pk_ BK220.out) hb); have n5_ := A_ (blk_below (pk_ BK253.out) hb); have n6_ := A_ (below_step (bk_ HB.out) hb); have n7_ := A_ (hbox); have n8_ := A_ ((by rw [hg]; exact (below_size (bk_ HB.out)) : w.heap.size ≤ gb260)); have n9_ := A_ ((by rw [hg]; exact (below_size (bk_ HB.out)) : w.heap.size ≤ gb260)); have n10_ := A_ ((by rw [hg]; exact Nat.ne_of_lt (blk_lt (pk_ BK218.out)) : gb218 ≠ gb260)); have n11_ := A_ ((by rw [hg]; exact Nat.ne_of_gt (blk_lt (pk_ BK218.out)) : gb260 ≠ gb218)); have n12_ := A_ ((by rw [hg]; exact Nat.ne_of_lt (blk_lt (pk_ BK219.out)) : gb219 ≠ gb260)); have n13_ := A_ ((by rw [hg]; exact Nat.ne_of_gt (blk_lt (pk_ BK219.out)) : gb260 ≠ gb219)); have n14_ := A_ ((by rw [hg]; exact Nat.ne_of_lt (blk_lt (pk_ BK220.out)) : gb220 ≠ gb260)); have n15_ := A_ ((by rw [hg]; exact Nat.ne_of_gt (blk_lt (pk_ BK220.out)) : gb260 ≠ gb220)); have n16_ := A_ ((by rw [hg]; exact Nat.ne_of_lt (blk_lt (pk_ BK253.out)) : gb253 ≠ gb260)); have n17_ := A_ ((by rw [hg]; exact Nat.ne_of_gt (blk_lt (pk_ BK253.out)) : gb260 ≠ gb253)); clear HO250 HO257 BK218 BK219 BK220 BK253 HB; have HO250 := n0_; have HO257 := n1_; have BK218 := n2_; have BK219 := n3_; have BK220 := n4_; have BK253 := n5_; have HB := n6_; have BK260 := n7_; have GW260 := n8_; have GE260 := n9_; have NB218_260 := n10_; have NB260_218 := n11_; have NB219_260 := n12_; have NB260_219 := n13_; have NB220_260 := n14_; have NB260_220 := n15_; have NB253_260 := n16_; have NB260_253 := n17_; clear n0_ n1_ n2_ n3_ n4_ n5_ n6_ n7_ n8_ n9_ n10_ n11_ n12_ n13_ n14_ n15_ n16_ n17_ hb hbox hg; have hnb300 := NB260_218.out; have hnc300 := NB218_260.out; have hnb301 := NB260_219.out; have hnc301 := NB219_260.out; have hnb302 := NB260_220.out; have hnc302 := NB220_260.out; have hnb303 := NB260_253.out; have hnc303 := NB253_260.out; have hcz304_0 : w299.cell? ⟨gb260, 0, none⟩ = some (.int .i64 0) := (blk_cell BK260.out 0).trans rfl; have hcz304_1 : w299.cell? ⟨gb260, 1, none⟩ = some (.slice none 0 0) := (blk_cell BK260.out 1).trans rfl; have hfz304_0 := blk_frozen BK260.out 0; have hfz304_1 := blk_frozen BK260.out 1; obtain ⟨Ao305, co305, eo305⟩ := Kd.R_slice HO257.out; subst eo305) | (go_at_call 11; (with_reducible refine (standstilllaw07_awake.calls kj79  t271 _ A283.out).mono ?_); rintro e w306 ⟨rfl, hb⟩; have n0_ := A_ (Kd.R_below (by (with_reducible repeat (first | apply Kd.R_alloc | apply Kd.R_drewN | apply Kd.R_drew)); exact (Kd.R_mono (Kd.R_far (p := ⟨gb260, 1, none⟩) (Kd.R_far (p := ⟨gb260, 0, none⟩) (Kd.R_types HO250.out BK260.out (by decide)) (fun _ hk => hk.2) (.int .i64 t254)) (fun _ hk => hk.2) (.slice Ao305 t255.length co305)) (fun _ h_ => h_.1))) hb); have n1_ := A_ (Kd.R_below (by (with_reducible repeat (first | apply Kd.R_alloc | apply Kd.R_drewN | apply Kd.R_drew)); exact (Kd.R_mono (Kd.R_far (p := ⟨gb260, 1, none⟩) (Kd.R_far (p := ⟨gb260, 0, none⟩) (Kd.R_types HO257.out BK260.out (by decide)) (fun _ hk => hk.2) (.int .i64 t254)) (fun _ hk => hk.2) (.slice Ao305 t255.length co305)) (fun _ h_ => h_.1))) hb); have n2_ := A_ (blk_below (g := gb218) (o := .cells #[.int .i64 a0_0, .slice A0_1 l0_1.length c0_1, .slice A0_2 l0_2.length c0_2] 25 (0, 0)) (by refine pk_ ?_; refine blk_far ?_ NB218_260.out _; refine pk_ ?_; refine blk_far ?_ NB218_260.out _; exact pk_ BK218.out) hb); have n3_ := A_ (blk_below (g := gb219) (o := .cells #[.slice A2_0 l2_0.length c2_0] 45 (0, 0)) (by refine pk_ ?_; refine blk_far ?_ NB219_260.out _; refine pk_ ?_; refine blk_far ?_ NB219_260.out _; exact pk_ BK219.out) hb); have n4_ := A_ (blk_below (g := gb220) (o := .cells #[.int .i64 a3_0, .slice A3_1 l3_1.length c3_1] 47 (0, 0)) (by refine pk_ ?_; refine blk_far ?_ NB220_260.out _; refine pk_ ?_; refine blk_far ?_ NB220_260.out _; exact pk_ BK220.out) hb); have n5_ := A_ (blk_below (g := gb253) (o := .cells #[.int .i64 t247, .slice Ao295 t248.length co295] 47 (0, 0)) (by refine pk_ ?_; refine blk_far ?_ NB253_260.out _; refine pk_ ?_; refine blk_far ?_ NB253_260.out _; exact pk_ BK253.out) hb); have n6_ := A_ (blk_below (g := gb260) (o := .cells #[.int .i64 t254, .slice Ao305 t255.length co305] 47 (0, 0)) (by refine pk_ ?_; refine blk_put (cs := #[.int .i64 t254, .slice none 0 0]) ?_ 1 _ rfl; refine pk_ ?_; refine blk_put (cs := #[.int .i64 0, .slice none 0 0]) ?_ 0 _ rfl; exact pk_ BK260.out) hb); have n7_ := A_ (below_step (bk_ HB.out) hb); clear HO250 HO257 BK218 BK219 BK220 BK253 BK260 HB; have HO250 := n0_; have HO257 := n1_; have BK218 := n2_; have BK219 := n3_; have BK220 := n4_; have BK253 := n5_; have BK260 := n6_; have HB := n7_; clear n0_ n1_ n2_ n3_ n4_ n5_ n6_ n7_; (try clear hb); (try clear hb2); (try clear hk); (try clear hi)))
           go_ret
           exact ⟨er_, bk_ HB.out⟩
          ·rw [if_neg c282] at H
           have c282b0 : (t252 == t259) = false := beq_eq_false_iff_ne.mpr c282
           have c282b1 : (t252 != t259) = true := bne_iff_ne.mpr c282
           obtain rfl := Option.some.inj H
           have hnb307 := NB219_218.out
           have hnc307 := NB218_219.out
           have hnb308 := NB219_220.out
           have hnc308 := NB220_219.out
           have hcz309_0 : wc.cell? ⟨gb219, 0, none⟩ = some (.slice A2_0 l2_0.length c2_0) := (blk_cell BK219.out 0).trans rfl
           have hfz309_0 := blk_frozen BK219.out 0
           have hnb310 := NB220_218.out
           have hnc310 := NB218_220.out
           have hcz311_0 : wc.cell? ⟨gb220, 0, none⟩ = some (.int .i64 a3_0) := (blk_cell BK220.out 0).trans rfl
           have hcz311_1 : wc.cell? ⟨gb220, 1, none⟩ = some (.slice A3_1 l3_1.length c3_1) := (blk_cell BK220.out 1).trans rfl
           have hfz311_0 := blk_frozen BK220.out 0
           have hfz311_1 := blk_frozen BK220.out 1
           go_wp2_with (first | ((with_reducible refine gate_callee (f := 29) rfl ?_); refine goesL_ (some 141) rfl rfl Try.func29 (by kernel_rfl) rfl #[.agg #[.slice A2_0 l2_0.length c2_0], .agg #[.int .i64 a3_0, .slice A3_1 l3_1.length c3_1], .int .i64 (wrap64 ((wrap64 (a4)) + (wrap64 (a5))))] rfl gl_ ?_; (with_reducible refine (tag_Roll.calls kj79 _ _ l2_0 a3_0 _ _ l3_1 (wrap64 ((wrap64 (a4)) + (wrap64 (a5)))) t247 t248 t251 t252 _ ?side1 ?side2 ?side3 ?side4 A101.out).mono ?_); (case side1 => exact ck_ (Kd.C_below HR2_0.out HB.out)); (case side2 => exact HC2_0.out); (case side3 => exact ck_ (Kd.C_below HR3_1.out HB.out)); (case side4 => exact HC3_1.out); rintro e w312 ⟨v249, rfl, ho0, hb⟩; refine ⟨_, rfl, ?_⟩; have n0_ := A_ (Kd.R_lower ho0 (below_size (bk_ HB.out))); have n1_ := A_ (blk_below (pk_ BK218.out) hb); have n2_ := A_ (blk_below (pk_ BK219.out) hb); have n3_ := A_ (blk_below (pk_ BK220.out) hb); have n4_ := A_ (below_step (bk_ HB.out) hb); clear BK218 BK219 BK220 HB; have HO250 := n0_; have BK218 := n1_; have BK219 := n2_; have BK220 := n3_; have HB := n4_; clear n0_ n1_ n2_ n3_ n4_; (try clear hb); (try clear hb2); (try clear hk); (try clear hi); (try clear ho0)) | ((with_reducible refine gate_dst (N := 24) rfl ?_); (try (refine gate_guard (by rfl) ?_; dsimp only)); refine box_event ?hg (N := 24) ?hd (cs := #[.int .i64 0, .slice none 0 0]) (t := 47) ?hr ?_; (case hd => rfl); (case hg => rfl); (case hr => first | (go_simp; done) | (go_simp; rfl)); intro gb253 hg w313 hbox hb; have n0_ := A_ (Kd.R_below (rk_ HO250.out) hb); have n1_ := A_ (blk_below (pk_ BK218.out) hb); have n2_ := A_ (blk_below (pk_ BK219.out) hb); have n3_ := A_ (blk_below (pk_ BK220.out) hb); have n4_ := A_ (below_step (bk_ HB.out) hb); have n5_ := A_ (hbox); have n6_ := A_ ((by rw [hg]; exact (below_size (bk_ HB.out)) : w.heap.size ≤ gb253)); have n7_ := A_ ((by rw [hg]; exact (below_size (bk_ HB.out)) : w.heap.size ≤ gb253)); have n8_ := A_ ((by rw [hg]; exact Nat.ne_of_lt (blk_lt (pk_ BK218.out)) : gb218 ≠ gb253)); have n9_ := A_ ((by rw [hg]; exact Nat.ne_of_gt (blk_lt (pk_ BK218.out)) : gb253 ≠ gb218)); have n10_ := A_ ((by rw [hg]; exact Nat.ne_of_lt (blk_lt (pk_ BK219.out)) : gb219 ≠ gb253)); have n11_ := A_ ((by rw [hg]; exact Nat.ne_of_gt (blk_lt (pk_ BK219.out)) : gb253 ≠ gb219)); have n12_ := A_ ((by rw [hg]; exact Nat.ne_of_lt (blk_lt (pk_ BK220.out)) : gb220 ≠ gb253)); have n13_ := A_ ((by rw [hg]; exact Nat.ne_of_gt (blk_lt (pk_ BK220.out)) : gb253 ≠ gb220)); clear HO250 BK218 BK219 BK220 HB; have HO250 := n0_; have BK218 := n1_; have BK219 := n2_; have BK220 := n3_; have HB := n4_; have BK253 := n5_; have GW253 := n6_; have GE253 := n7_; have NB218_253 := n8_; have NB253_218 := n9_; have NB219_253 := n10_; have NB253_219 := n11_; have NB220_253 := n12_; have NB253_220 := n13_; clear n0_ n1_ n2_ n3_ n4_ n5_ n6_ n7_ n8_ n9_ n10_ n11_ n12_ n13_ hb hbox hg; have hnb314 := NB253_218.out; have hnc314 := NB218_253.out; have hnb315 := NB253_219.out; have hnc315 := NB219_253.out; have hnb316 := NB253_220.out; have hnc316 := NB220_253.out; have hcz317_0 : w313.cell? ⟨gb253, 0, none⟩ = some (.int .i64 0) := (blk_cell BK253.out 0).trans rfl; have hcz317_1 : w313.cell? ⟨gb253, 1, none⟩ = some (.slice none 0 0) := (blk_cell BK253.out 1).trans rfl; have hfz317_0 := blk_frozen BK253.out 0; have hfz317_1 := blk_frozen BK253.out 1; obtain ⟨Ao318, co318, eo318⟩ := Kd.R_slice HO250.out; subst eo318; have hcz319_0 : w313.cell? ⟨gb219, 0, none⟩ = some (.slice A2_0 l2_0.length c2_0) := (blk_cell BK219.out 0).trans rfl; have hfz319_0 := blk_frozen BK219.out 0; have hcz320_0 : w313.cell? ⟨gb220, 0, none⟩ = some (.int .i64 a3_0) := (blk_cell BK220.out 0).trans rfl; have hcz320_1 : w313.cell? ⟨gb220, 1, none⟩ = some (.slice A3_1 l3_1.length c3_1) := (blk_cell BK220.out 1).trans rfl; have hfz320_0 := blk_frozen BK220.out 0; have hfz320_1 := blk_frozen BK220.out 1) | ((with_reducible refine gate_callee (f := 29) rfl ?_); refine goesL_ (some 150) rfl rfl Try.func29 (by kernel_rfl) rfl #[.agg #[.slice A2_0 l2_0.length c2_0], .agg #[.int .i64 a3_0, .slice A3_1 l3_1.length c3_1], .int .i64 (wrap64 (a4))] rfl gl_ ?_; (with_reducible refine (tag_Roll.calls kj79 _ _ l2_0 a3_0 _ _ l3_1 (wrap64 (a4)) t254 t255 t258 t259 _ ?side1 ?side2 ?side3 ?side4 A102.out).mono ?_); (case side1 => exact Kd.C_below HR2_0.out (bk_ HB.out)); (case side2 => exact HC2_0.out); (case side3 => exact Kd.C_below HR3_1.out (bk_ HB.out)); (case side4 => exact HC3_1.out); rintro e w321 ⟨v256, rfl, ho0, hb⟩; refine ⟨_, rfl, ?_⟩; have n0_ := A_ (Kd.R_elder' (by (with_reducible repeat (first | apply Kd.R_alloc | apply Kd.R_drewN | apply Kd.R_drew)); exact (Kd.R_mono (Kd.R_far (p := ⟨gb253, 1, none⟩) (Kd.R_far (p := ⟨gb253, 0, none⟩) (Kd.R_types HO250.out BK253.out (by decide)) (fun _ hk => hk.2) (.int .i64 t247)) (fun _ hk => hk.2) (.slice Ao318 t248.length co318)) (fun _ h_ => h_.1))) (Kd.R_base ho0) hb); have n1_ := A_ (Kd.R_lower (Kd.R_new' ho0 (Kd.R_lt (by (with_reducible repeat (first | apply Kd.R_alloc | apply Kd.R_drewN | apply Kd.R_drew)); exact (Kd.R_mono (Kd.R_far (p := ⟨gb253, 1, none⟩) (Kd.R_far (p := ⟨gb253, 0, none⟩) (Kd.R_types HO250.out BK253.out (by decide)) (fun _ hk => hk.2) (.int .i64 t247)) (fun _ hk => hk.2) (.slice Ao318 t248.length co318)) (fun _ h_ => h_.1))))) (below_size (bk_ HB.out))); have n2_ := A_ (blk_below (g := gb218) (o := .cells #[.int .i64 a0_0, .slice A0_1 l0_1.length c0_1, .slice A0_2 l0_2.length c0_2] 25 (0, 0)) (by refine pk_ ?_; refine blk_far ?_ NB218_253.out _; refine pk_ ?_; refine blk_far ?_ NB218_253.out _; exact pk_ BK218.out) hb); have n3_ := A_ (blk_below (g := gb219) (o := .cells #[.slice A2_0 l2_0.length c2_0] 45 (0, 0)) (by refine pk_ ?_; refine blk_far ?_ NB219_253.out _; refine pk_ ?_; refine blk_far ?_ NB219_253.out _; exact pk_ BK219.out) hb); have n4_ := A_ (blk_below (g := gb220) (o := .cells #[.int .i64 a3_0, .slice A3_1 l3_1.length c3_1] 47 (0, 0)) (by refine pk_ ?_; refine blk_far ?_ NB220_253.out _; refine pk_ ?_; refine blk_far ?_ NB220_253.out _; exact pk_ BK220.out) hb); have n5_ := A_ (blk_below (g := gb253) (o := .cells #[.int .i64 t247, .slice Ao318 t248.length co318] 47 (0, 0)) (by refine pk_ ?_; refine blk_put (cs := #[.int .i64 t247, .slice none 0 0]) ?_ 1 _ rfl; refine pk_ ?_; refine blk_put (cs := #[.int .i64 0, .slice none 0 0]) ?_ 0 _ rfl; exact pk_ BK253.out) hb); have n6_ := A_ (below_step (bk_ HB.out) hb); clear HO250 BK218 BK219 BK220 BK253 HB; have HO250 := n0_; have HO257 := n1_; have BK218 := n2_; have BK219 := n3_; have BK220 := n4_; have BK253 := n5_; have HB := n6_; clear n0_ n1_ n2_ n3_ n4_ n5_ n6_; (try clear hb); (try clear hb2); (try clear hk); (try clear hi); (try clear ho0)) | ((with_reducible refine gate_dst (N := 26) rfl ?_); (try (refine gate_guard (by rfl) ?_; dsimp only)); refine box_event ?hg (N := 26) ?hd (cs := #[.int .i64 0, .slice none 0 0]) (t := 47) ?hr ?_; (case hd => rfl); (case hg => rfl); (case hr => first | (go_simp; done) | (go_simp; rfl)); intro gb260 hg w322 hbox hb; have n0_ := A_ (Kd.R_below (rk_ HO250.out) hb); have n1_ := A_ (Kd.R_below (rk_ HO257.out) hb); have n2_ := A_ (blk_below (pk_ BK218.out) hb); have n3_ := A_ (blk_below (pk_ BK219.out) hb); have n4_ := A_ (blk_below (pk_ BK220.out) hb); have n5_ := A_ (blk_below (pk_ BK253.out) hb); have n6_ := A_ (below_step (bk_ HB.out) hb); have n7_ := A_ (hbox); have n8_ := A_ ((by rw [hg]; exact (below_size (bk_ HB.out)) : w.heap.size ≤ gb260)); have n9_ := A_ ((by rw [hg]; exact (below_size (bk_ HB.out)) : w.heap.size ≤ gb260)); have n10_ := A_ ((by rw [hg]; exact Nat.ne_of_lt (blk_lt (pk_ BK218.out)) : gb218 ≠ gb260)); have n11_ := A_ ((by rw [hg]; exact Nat.ne_of_gt (blk_lt (pk_ BK218.out)) : gb260 ≠ gb218)); have n12_ := A_ ((by rw [hg]; exact Nat.ne_of_lt (blk_lt (pk_ BK219.out)) : gb219 ≠ gb260)); have n13_ := A_ ((by rw [hg]; exact Nat.ne_of_gt (blk_lt (pk_ BK219.out)) : gb260 ≠ gb219)); have n14_ := A_ ((by rw [hg]; exact Nat.ne_of_lt (blk_lt (pk_ BK220.out)) : gb220 ≠ gb260)); have n15_ := A_ ((by rw [hg]; exact Nat.ne_of_gt (blk_lt (pk_ BK220.out)) : gb260 ≠ gb220)); have n16_ := A_ ((by rw [hg]; exact Nat.ne_of_lt (blk_lt (pk_ BK253.out)) : gb253 ≠ gb260)); have n17_ := A_ ((by rw [hg]; exact Nat.ne_of_gt (blk_lt (pk_ BK253.out)) : gb260 ≠ gb253)); clear HO250 HO257 BK218 BK219 BK220 BK253 HB; have HO250 := n0_; have HO257 := n1_; have BK218 := n2_; have BK219 := n3_; have BK220 := n4_; have BK253 := n5_; have HB := n6_; have BK260 := n7_; have GW260 := n8_; have GE260 := n9_; have NB218_260 := n10_; have NB260_218 := n11_; have NB219_260 := n12_; have NB260_219 := n13_; have NB220_260 := n14_; have NB260_220 := n15_; have NB253_260 := n16_; have NB260_253 := n17_; clear n0_ n1_ n2_ n3_ n4_ n5_ n6_ n7_ n8_ n9_ n10_ n11_ n12_ n13_ n14_ n15_ n16_ n17_ hb hbox hg; have hnb323 := NB260_218.out; have hnc323 := NB218_260.out; have hnb324 := NB260_219.out; have hnc324 := NB219_260.out; have hnb325 := NB260_220.out; have hnc325 := NB220_260.out; have hnb326 := NB260_253.out; have hnc326 := NB253_260.out; have hcz327_0 : w322.cell? ⟨gb260, 0, none⟩ = some (.int .i64 0) := (blk_cell BK260.out 0).trans rfl; have hcz327_1 : w322.cell? ⟨gb260, 1, none⟩ = some (.slice none 0 0) := (blk_cell BK260.out 1).trans rfl; have hfz327_0 := blk_frozen BK260.out 0; have hfz327_1 := blk_frozen BK260.out 1; obtain ⟨Ao328, co328, eo328⟩ := Kd.R_slice HO257.out; subst eo328))
           go_ret
           exact ⟨er_, bk_ HB.out⟩

/-- THE ONE PURE STATEMENT of standstilllaw07_TagParts. -/
def standstilllaw07_TagParts.Pure : Prop := ∀ (a0_0 : Int) (l0_1 : List (List Int)) (l0_2 : List Bool) (l1 : List Int) (l2_0 : List (List Int)) (a3_0 : Int) (l3_1 : List Int) (a4 : Int) (a5 : Int), ((Lit.int .i64 a0_0).wf = true) → (l0_1.length * 24 ≤ 140737488351232 ∧ ∀ y_ ∈ l0_1, (y_.length * 8 ≤ 140737488351232 ∧ ∀ y__ ∈ y_, (Lit.int .i64 y__).wf = true)) → (l0_2.length * 1 ≤ 140737488351232 ∧ ∀ y_ ∈ l0_2, True) → (l1.length * 8 ≤ 140737488351232 ∧ ∀ y_ ∈ l1, (Lit.int .i64 y_).wf = true) → (l2_0.length * 24 ≤ 140737488351232 ∧ ∀ y_ ∈ l2_0, (y_.length * 8 ≤ 140737488351232 ∧ ∀ y__ ∈ y_, (Lit.int .i64 y__).wf = true)) → ((Lit.int .i64 a3_0).wf = true) → (l3_1.length * 8 ≤ 140737488351232 ∧ ∀ y_ ∈ l3_1, (Lit.int .i64 y_).wf = true) → ((Lit.int .u8 a4).wf = true) → ((Lit.int .u8 a5).wf = true) → ∃ k, standstilllaw07_TagParts.f k a0_0 l0_1 l0_2 l1 l2_0 a3_0 l3_1 a4 a5 = some true

end Go.Proofs.Ytkinnaegedbanaa.PTagParts
