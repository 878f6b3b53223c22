-- out of a turned copy of the print, by a program of this session; Lean checks it
import Derived.Test.YtkinnaegedbanaaPTagNamesx0
import Derived.Test.YtkinnaegedbanaaPTagNamesx1
import Derived.Test.YtkinnaegedbanaaPTagNamesx3
import Derived.Test.YtkinnaegedbanaaPTagNamesx4
import Derived.Test.YtkinnaegedbanaaPTagNamesx5
namespace Go.Proofs.Ytkinnaegedbanaa.PTagNames
open Go.RowKit Go.Proofs.YtkinnaegedbanaaW.PrintWords Go.Proofs.YtkinnaegedbanaaW.PrintLast Go.Proofs.YtkinnaegedbanaaW.PrintMore
attribute [local go_sem] max2_int min2_int max_two min_two max_three min_three max_four min_four   -- for this text's walks alone
set_option linter.unusedVariables false
set_option linter.unusedSimpArgs false

attribute [local go_sem] isSome_put_
/-! ### standstilllaw07_TagNames: function 3 -/
mutual
def standstilllaw07_TagNames.j0 : Nat → List Int → List Int → Int → Bool → Int → List (List Int) → List Bool → Option (Bool)
 | 0, _, _, _, _, _, _, _ => none
 | k + 1, x1, x2, x3, x35, x205000, x205001, x205002 => if x35 = true then ((standstilllaw07_awake.f k).bind fun t207 => (some t207)) else (if 0 ≤ (x2.length : Int) then (if ((x2.length : Int) : Int).toNat ≤ 281474976710656 then (standstilllaw07_TagNames.l0 k x1 x2 x3 (List.replicate ((x2.length : Int) : Int).toNat false) 0 x205000 x205001 x205002) else (none)) else (none))
def standstilllaw07_TagNames.l0 : Nat → List Int → List Int → Int → List Bool → Int → Int → List (List Int) → List Bool → Option (Bool)
 | 0, _, _, _, _, _, _, _, _ => none
 | k + 1, x1, x2, x3, x9, x10, x205000, x205001, x205002 => if x10 < (x2.length : Int) then (if 0 ≤ x10 then (if (rd x2 x10) < 0 then ((standstilllaw07_awake.f k).bind fun t212 => (some t212)) else (if (rd x2 x10) ≥ (x2.length : Int) then ((standstilllaw07_awake.f k).bind fun t214 => (some t214)) else (if 0 ≤ (rd x2 x10) then (if (rd x2 x10) < (x9.length : Int) then (if rdOf false x9 (rd x2 x10) = true then ((standstilllaw07_awake.f k).bind fun t217 => (some t217)) else (standstilllaw07_TagNames.l0 k x1 x2 x3 (x9.set ((rd x2 x10) : Int).toNat true) (wrap64 (x10 + 1)) x205000 x205001 x205002)) else (none)) else (none)))) else (none)) else (if 0 ≤ (x2.length : Int) then (if ((x2.length : Int) : Int).toNat ≤ 11728124029610 then (if ((x2.length : Int) : Int).toNat ≤ 281474976710656 then (standstilllaw07_TagNames.l1 k x1 x2 x3 0 x205000 x205001 x205002 x205000 (List.replicate ((x2.length : Int) : Int).toNat []) (List.replicate ((x2.length : Int) : Int).toNat false)) else (none)) else (none)) else (none))
def standstilllaw07_TagNames.l1 : Nat → List Int → List Int → Int → Int → Int → List (List Int) → List Bool → Int → List (List Int) → List Bool → Option (Bool)
 | 0, _, _, _, _, _, _, _, _, _, _ => none
 | k + 1, x1, x2, x3, x12, x205000, x205001, x205002, x227000, x227001, x227002 => if x12 < (x2.length : Int) then (if 0 ≤ x12 then (if x12 < (x205001.length : Int) then ((standstilllaw07_named.f k (rd_L1 x205001 x12) x2).bind fun t230 => (if x12 < (x205002.length : Int) then (if 0 ≤ (rd x2 x12) then (if (rd x2 x12) < (x227001.length : Int) then (if (rd x2 x12) < (x227002.length : Int) then (standstilllaw07_TagNames.l1 k x1 x2 x3 (wrap64 (x12 + 1)) x205000 x205001 x205002 x227000 (x227001.set ((rd x2 x12) : Int).toNat t230) (x227002.set ((rd x2 x12) : Int).toNat (rdOf false x205002 x12))) else (none)) else (none)) else (none)) else (none))) else (none)) else (none)) else ((tag_Run.f k x205000 x205001 x205002 x1 (wrap64 (x3))).bind fun bt236 => ((standstilllaw07_named.f k x1 x2).bind fun t241 => ((tag_Run.f k x227000 x227001 x227002 t241 (wrap64 (x3))).bind fun bt244 => (if bt236.2.2 = bt244.2.2 then (if bt236.2.1 = bt244.2.1 then ((standstillref07_Fits.f k x205000 x205001 x205002 bt236.1).bind fun t249 => (if t249 = true then ((standstilllaw07_named.f k bt236.1 x2).bind fun t250 => ((standstillref07_Same.f k t250 bt244.1).bind fun t253 => (if t253 = true then ((standstilllaw07_awake.f k).bind fun t254 => (some t254)) else (none)))) else (none))) else (none)) else (none)))))
end
def standstilllaw07_TagNames.f (k : Nat) (a0_0 : Int) (l0_1 : List (List Int)) (l0_2 : List Bool) (l1 : List Int) (l2 : List Int) (a3 : Int) : Option (Bool) := (standstilllaw07_wide.f k a0_0 l0_1 l0_2 l1).bind fun t205 => (if t205 = true then (standstilllaw07_TagNames.j0 k l1 l2 a3 true a0_0 l0_1 l0_2) else ((standstillref07_Fits.f k a0_0 l0_1 l0_2 l1).bind fun t206 => (if t206 = true then (standstilllaw07_TagNames.j0 k l1 l2 a3 ((l2.length : Int) != (l0_1.length : Int)) a0_0 l0_1 l0_2) else (standstilllaw07_TagNames.j0 k l1 l2 a3 true a0_0 l0_1 l0_2))))
theorem standstilllaw07_TagNames.mono_l : ∀ k, (∀ y0 y1 y2 y3 y4 y5 y6, LeO (standstilllaw07_TagNames.j0 k y0 y1 y2 y3 y4 y5 y6) (standstilllaw07_TagNames.j0 (k + 1) y0 y1 y2 y3 y4 y5 y6)) ∧ (∀ y0 y1 y2 y3 y4 y5 y6 y7, LeO (standstilllaw07_TagNames.l0 k y0 y1 y2 y3 y4 y5 y6 y7) (standstilllaw07_TagNames.l0 (k + 1) y0 y1 y2 y3 y4 y5 y6 y7)) ∧ (∀ y0 y1 y2 y3 y4 y5 y6 y7 y8 y9, LeO (standstilllaw07_TagNames.l1 k y0 y1 y2 y3 y4 y5 y6 y7 y8 y9) (standstilllaw07_TagNames.l1 (k + 1) y0 y1 y2 y3 y4 y5 y6 y7 y8 y9))
 | 0 => ⟨fun _ _ _ _ _ _ _ r h => by simp [standstilllaw07_TagNames.j0] at h, fun _ _ _ _ _ _ _ _ r h => by simp [standstilllaw07_TagNames.l0] at h, fun _ _ _ _ _ _ _ _ _ _ r h => by simp [standstilllaw07_TagNames.l1] at h⟩
 | k + 1 => by
  obtain ⟨ih0, ih1, ih2⟩ := standstilllaw07_TagNames.mono_l k
  refine ⟨?_, ?_, ?_⟩
  ·intro y0 y1 y2 y3 y4 y5 y6
   unfold standstilllaw07_TagNames.j0
   repeat' first
   | (with_reducible exact ih0 _ _ _ _ _ _ _)
   | (with_reducible exact ih1 _ _ _ _ _ _ _ _)
   | (with_reducible exact ih2 _ _ _ _ _ _ _ _ _ _)
   | (with_reducible exact standstilllaw07_awake.mono _)
   | (with_reducible exact standstilllaw07_named.mono _ _ _)
   | (with_reducible exact standstilllaw07_wide.mono _ _ _ _ _)
   | (with_reducible exact standstillref07_Fits.mono _ _ _ _ _)
   | (with_reducible exact standstillref07_Same.mono _ _ _)
   | (with_reducible exact tag_Run.mono _ _ _ _ _ _)
   | (with_reducible exact LeO.refl _)
   | (with_reducible exact LeO.none _)
   | (with_reducible refine LeO.ite ?_ ?_)
   | (with_reducible refine LeO.bind ?_ (fun _ => ?_))
   | exact ih0 _ _ _ _ _ _ _
   | exact ih1 _ _ _ _ _ _ _ _
   | exact ih2 _ _ _ _ _ _ _ _ _ _
   | exact standstilllaw07_awake.mono _
   | exact standstilllaw07_named.mono _ _ _
   | exact standstilllaw07_wide.mono _ _ _ _ _
   | exact standstillref07_Fits.mono _ _ _ _ _
   | exact standstillref07_Same.mono _ _ _
   | exact tag_Run.mono _ _ _ _ _ _
   | exact LeO.none _
   | refine LeO.ite ?_ ?_
   | refine LeO.bind ?_ (fun _ => ?_)
  ·intro y0 y1 y2 y3 y4 y5 y6 y7
   unfold standstilllaw07_TagNames.l0
   repeat' first
   | (with_reducible exact ih0 _ _ _ _ _ _ _)
   | (with_reducible exact ih1 _ _ _ _ _ _ _ _)
   | (with_reducible exact ih2 _ _ _ _ _ _ _ _ _ _)
   | (with_reducible exact standstilllaw07_awake.mono _)
   | (with_reducible exact standstilllaw07_named.mono _ _ _)
   | (with_reducible exact standstilllaw07_wide.mono _ _ _ _ _)
   | (with_reducible exact standstillref07_Fits.mono _ _ _ _ _)
   | (with_reducible exact standstillref07_Same.mono _ _ _)
   | (with_reducible exact tag_Run.mono _ _ _ _ _ _)
   | (with_reducible exact LeO.refl _)
   | (with_reducible exact LeO.none _)
   | (with_reducible refine LeO.ite ?_ ?_)
   | (with_reducible refine LeO.bind ?_ (fun _ => ?_))
   | exact ih0 _ _ _ _ _ _ _
   | exact ih1 _ _ _ _ _ _ _ _
   | exact ih2 _ _ _ _ _ _ _ _ _ _
   | exact standstilllaw07_awake.mono _
   | exact standstilllaw07_named.mono _ _ _
   | exact standstilllaw07_wide.mono _ _ _ _ _
   | exact standstillref07_Fits.mono _ _ _ _ _
   | exact standstillref07_Same.mono _ _ _
   | exact tag_Run.mono _ _ _ _ _ _
   | exact LeO.none _
   | refine LeO.ite ?_ ?_
   | refine LeO.bind ?_ (fun _ => ?_)
  ·intro y0 y1 y2 y3 y4 y5 y6 y7 y8 y9
   unfold standstilllaw07_TagNames.l1
   repeat' first
   | (with_reducible exact ih0 _ _ _ _ _ _ _)
   | (with_reducible exact ih1 _ _ _ _ _ _ _ _)
   | (with_reducible exact ih2 _ _ _ _ _ _ _ _ _ _)
   | (with_reducible exact standstilllaw07_awake.mono _)
   | (with_reducible exact standstilllaw07_named.mono _ _ _)
   | (with_reducible exact standstilllaw07_wide.mono _ _ _ _ _)
   | (with_reducible exact standstillref07_Fits.mono _ _ _ _ _)
   | (with_reducible exact standstillref07_Same.mono _ _ _)
   | (with_reducible exact tag_Run.mono _ _ _ _ _ _)
   | (with_reducible exact LeO.refl _)
   | (with_reducible exact LeO.none _)
   | (with_reducible refine LeO.ite ?_ ?_)
   | (with_reducible refine LeO.bind ?_ (fun _ => ?_))
   | exact ih0 _ _ _ _ _ _ _
   | exact ih1 _ _ _ _ _ _ _ _
   | exact ih2 _ _ _ _ _ _ _ _ _ _
   | exact standstilllaw07_awake.mono _
   | exact standstilllaw07_named.mono _ _ _
   | exact standstilllaw07_wide.mono _ _ _ _ _
   | exact standstillref07_Fits.mono _ _ _ _ _
   | exact standstillref07_Same.mono _ _ _
   | exact tag_Run.mono _ _ _ _ _ _
   | exact LeO.none _
   | refine LeO.ite ?_ ?_
   | refine LeO.bind ?_ (fun _ => ?_)
theorem standstilllaw07_TagNames.mono : ∀ a0 a1 a2 a3 a4 a5 k, LeO (standstilllaw07_TagNames.f k a0 a1 a2 a3 a4 a5) (standstilllaw07_TagNames.f (k + 1) a0 a1 a2 a3 a4 a5) := by
 intro a0 a1 a2 a3 a4 a5 k
 obtain ⟨ih0, ih1, ih2⟩ := standstilllaw07_TagNames.mono_l k
 unfold standstilllaw07_TagNames.f
 repeat' first
   | (with_reducible exact ih0 _ _ _ _ _ _ _)
   | (with_reducible exact ih1 _ _ _ _ _ _ _ _)
   | (with_reducible exact ih2 _ _ _ _ _ _ _ _ _ _)
   | (with_reducible exact standstilllaw07_awake.mono _)
   | (with_reducible exact standstilllaw07_named.mono _ _ _)
   | (with_reducible exact standstilllaw07_wide.mono _ _ _ _ _)
   | (with_reducible exact standstillref07_Fits.mono _ _ _ _ _)
   | (with_reducible exact standstillref07_Same.mono _ _ _)
   | (with_reducible exact tag_Run.mono _ _ _ _ _ _)
   | (with_reducible exact LeO.refl _)
   | (with_reducible exact LeO.none _)
   | (with_reducible refine LeO.ite ?_ ?_)
   | (with_reducible refine LeO.bind ?_ (fun _ => ?_))
   | exact ih0 _ _ _ _ _ _ _
   | exact ih1 _ _ _ _ _ _ _ _
   | exact ih2 _ _ _ _ _ _ _ _ _ _
   | exact standstilllaw07_awake.mono _
   | exact standstilllaw07_named.mono _ _ _
   | exact standstilllaw07_wide.mono _ _ _ _ _
   | exact standstillref07_Fits.mono _ _ _ _ _
   | exact standstillref07_Same.mono _ _ _
   | exact tag_Run.mono _ _ _ _ _ _
   | exact LeO.none _
   | refine LeO.ite ?_ ?_
   | refine LeO.bind ?_ (fun _ => ?_)
def standstilllaw07_TagNames.T10 : Bool × List (List Nat × List Nat) := (true, [([], []), ([0], [0]), ([], []), ([2], [2]), ([3, 3], [3]), ([], []), ([5], [5]), ([6, 6], [6]), ([1, 4, 7], [1, 4, 7]), ([], []), ([9, 8, 0, 1, 2, 3, 4, 5, 6, 7, 8, 9], [8, 9])])
def standstilllaw07_TagNames.B10 : List Nat := [0, 1, 0, 4, 12, 0, 32, 96, 255, 0, 1023]
theorem standstilllaw07_TagNames.tab10 : rtab .any (opsOf Try.f3 10) = standstilllaw07_TagNames.T10 := by kernel_rfl
theorem standstilllaw07_TagNames.bits10 : waitsOk standstilllaw07_TagNames.T10.2 standstilllaw07_TagNames.B10 = true := by kernel_rfl
def standstilllaw07_TagNames.T14 : Bool × List (List Nat × List Nat) := (true, [([], []), ([0], [0]), ([], []), ([], []), ([2, 3], [2, 3]), ([4], [4]), ([], []), ([6], [6]), ([], []), ([], []), ([8, 9], [8, 9]), ([10], [10]), ([], []), ([12], [12]), ([], []), ([13, 14], [13, 14]), ([15], [15]), ([], []), ([16, 17], [16, 17]), ([], []), ([19], [19]), ([], []), ([20, 21], [20, 21]), ([22], [22]), ([1, 5, 0, 1, 2, 3, 4, 5, 11, 12, 13, 14, 15, 16, 17, 18, 23], [1, 5]), ([24, 18, 18, 0, 1, 2, 3, 4, 5, 11, 12, 13, 14, 15, 16, 17, 18, 23], [18, 24]), ([7, 11, 0, 1, 2, 3, 4, 5, 6, 7, 8, 9, 10, 11, 12, 13, 14, 15, 16, 17, 18, 19, 20, 21, 22, 23, 24, 25], [7, 11]), ([26, 23, 25, 0, 1, 2, 3, 4, 5, 6, 7, 8, 9, 10, 11, 12, 13, 14, 15, 16, 17, 18, 19, 20, 21, 22, 23, 24, 25], [23, 26])])
def standstilllaw07_TagNames.B14 : List Nat := [0, 1, 0, 0, 12, 28, 0, 64, 0, 0, 768, 1792, 0, 4096, 0, 28672, 61440, 0, 258048, 0, 524288, 0, 3670016, 7864320, 16777023, 33554239, 67108863, 134217727]
theorem standstilllaw07_TagNames.tab14 : rtab .any (opsOf Try.f3 14) = standstilllaw07_TagNames.T14 := by kernel_rfl
theorem standstilllaw07_TagNames.bits14 : waitsOk standstilllaw07_TagNames.T14.2 standstilllaw07_TagNames.B14 = true := by kernel_rfl
def standstilllaw07_TagNames.T16 : Bool × List (List Nat × List Nat) := (true, [([], []), ([], []), ([], []), ([1, 2], [1, 2]), ([], []), ([4], [4]), ([0, 3, 5, 3], [0, 3, 5]), ([6], [6]), ([7], [7]), ([7], [7]), ([7], [7]), ([8, 6, 0, 1, 2, 3, 4, 5, 6, 7, 8], [8]), ([9, 11, 0, 1, 2, 3, 4, 5, 6, 7, 8, 9, 11], [9]), ([10, 12, 0, 1, 2, 3, 4, 5, 6, 7, 8, 9, 10, 11, 12], [10])])
def standstilllaw07_TagNames.B16 : List Nat := [0, 0, 0, 6, 0, 16, 63, 127, 255, 255, 255, 511, 3071, 8191]
theorem standstilllaw07_TagNames.tab16 : rtab .any (opsOf Try.f3 16) = standstilllaw07_TagNames.T16 := by kernel_rfl
theorem standstilllaw07_TagNames.bits16 : waitsOk standstilllaw07_TagNames.T16.2 standstilllaw07_TagNames.B16 = true := by kernel_rfl
set_option maxHeartbeats 8000000 in
set_option maxRecDepth 100000 in
theorem standstilllaw07_TagNames.calls (k : Nat) (a0_0 : Int) (A0_1 : Option Addr) (c0_1 : Nat) (l0_1 : List (List Int)) (A0_2 : Option Addr) (c0_2 : Nat) (l0_2 : List Bool) (A1 : Option Addr) (c1 : Nat) (l1 : List Int) (A2 : Option Addr) (c2 : Nat) (l2 : List Int) (a3 : Int) (r : Bool) (w : World) (hr0_1 : Kd.C (Kd.slice 3 (Kd.int .i64)) w A0_1 l0_1.length l0_1) (hc0_1 : l0_1.length ≤ c0_1) (hr0_2 : Kd.C Kd.bool w A0_2 l0_2.length l0_2) (hc0_2 : l0_2.length ≤ c0_2) (hr1 : Kd.C (Kd.int .i64) w A1 l1.length l1) (hc1 : l1.length ≤ c1) (hr2 : Kd.C (Kd.int .i64) w A2 l2.length l2) (hc2 : l2.length ≤ c2) (h : standstilllaw07_TagNames.f k a0_0 l0_1 l0_2 l1 l2 a3 = some r) :
  Calls Try.prog 3 #[.agg #[.int .i64 a0_0, .slice A0_1 l0_1.length c0_1, .slice A0_2 l0_2.length c0_2], .slice A1 l1.length c1, .slice A2 l2.length c2, .int .u8 a3] w fun e w' => e = .returned (.bool r) ∧ Below w.heap.size w w' := by
 have hu25 := Try.underlying25
 have HR0_1 := Aside0.mk hr0_1
 have HC0_1 := Aside0.mk hc0_1
 clear hr0_1 hc0_1
 have HR0_2 := Aside0.mk hr0_2
 have HC0_2 := Aside0.mk hc0_2
 clear hr0_2 hc0_2
 have HR1 := Aside0.mk hr1
 have HC1 := Aside0.mk hc1
 clear hr1 hc1
 have HR2 := Aside0.mk hr2
 have HC2 := Aside0.mk hc2
 clear hr2 hc2
 have HB := A_ (Below.refl w.heap.size w)
 have H : ((standstilllaw07_wide.f k a0_0 l0_1 l0_2 l1).bind fun t205 => (if t205 = true then (standstilllaw07_TagNames.j0 k l1 l2 a3 true a0_0 l0_1 l0_2) else ((standstillref07_Fits.f k a0_0 l0_1 l0_2 l1).bind fun t206 => (if t206 = true then (standstilllaw07_TagNames.j0 k l1 l2 a3 ((l2.length : Int) != (l0_1.length : Int)) a0_0 l0_1 l0_2) else (standstilllaw07_TagNames.j0 k l1 l2 a3 true a0_0 l0_1 l0_2))))) = some r := h
 clear h
 have HC5 := Aside0.mk H
 clear H
 go_enter Try.func3, Try.ntmps3
 go_upto_region 1 with (first | ((with_reducible refine gate_dst (N := 4) rfl ?_); (try (refine gate_guard (by rfl) ?_; dsimp only)); refine box_event ?hg (N := 4) ?hd (cs := #[.int .i64 a0_0, .slice A0_1 l0_1.length c0_1, .slice A0_2 l0_2.length c0_2]) (t := 25) ?hr ?_; (case hd => rfl); (case hg => rfl); (case hr => first | (go_simp; done) | (go_simp; rfl)); intro gb204 hg w6 hbox hb; have n0_ := A_ (below_step (bk_ HB.out) hb); have n1_ := A_ (hbox); have n2_ := A_ ((by rw [hg]; exact (below_size (bk_ HB.out)) : w.heap.size ≤ gb204)); have n3_ := A_ ((by rw [hg]; exact (below_size (bk_ HB.out)) : w.heap.size ≤ gb204)); clear HB; have HB := n0_; have BK204 := n1_; have GW204 := n2_; have GE204 := n3_; clear n0_ n1_ n2_ n3_ hb hbox hg))
 (try simp only [Act.put, List.setIfInBounds_toArray, List.set_cons_zero, List.set_cons_succ])
 go_cut [35] (fun v35 wc => ∃ (kq : Nat) (x35_4 : Bool), v35 = .bool x35_4 ∧ Aside0 (standstilllaw07_TagNames.j0 kq l1 l2 a3 x35_4 a0_0 l0_1 l0_2 = some r) ∧ Aside0 (kq ≤ k) ∧ Aside0 (wc.heap[gb204]? = some (.cells #[.int .i64 a0_0, (.slice A0_1 l0_1.length c0_1), (.slice A0_2 l0_2.length c0_2)] 25 (0, 0))) ∧ Aside0 (Below w.heap.size w wc))
 case first => as_aux_lemma =>
  have H := HC5.out
  clear HC5
  replace H := Option.bind_eq_some_iff.mp H
  obtain ⟨t205, A70, H⟩ := H
  replace H : (if t205 = true then (standstilllaw07_TagNames.j0 k l1 l2 a3 true a0_0 l0_1 l0_2) else ((standstillref07_Fits.f k a0_0 l0_1 l0_2 l1).bind fun t206 => (if t206 = true then (standstilllaw07_TagNames.j0 k l1 l2 a3 ((l2.length : Int) != (l0_1.length : Int)) a0_0 l0_1 l0_2) else (standstilllaw07_TagNames.j0 k l1 l2 a3 true a0_0 l0_1 l0_2)))) = some r := H
  have A7 := Aside0.mk A70
  clear A70
  by_cases c8 : t205 = true
  ·subst c8
   have H1 : (standstilllaw07_TagNames.j0 k l1 l2 a3 true a0_0 l0_1 l0_2) = some r := by rw [if_pos rfl] at H; exact H
   clear H
   have H := H1
   clear H1
   have H' := Aside0.mk H
   clear H
   have hcz9_0 : w6.cell? ⟨gb204, 0, none⟩ = some (.int .i64 a0_0) := (blk_cell BK204.out 0).trans rfl
   have hcz9_1 : w6.cell? ⟨gb204, 1, none⟩ = some (.slice A0_1 l0_1.length c0_1) := (blk_cell BK204.out 1).trans rfl
   have hcz9_2 : w6.cell? ⟨gb204, 2, none⟩ = some (.slice A0_2 l0_2.length c0_2) := (blk_cell BK204.out 2).trans rfl
   have hfz9_0 := blk_frozen BK204.out 0
   have hfz9_1 := blk_frozen BK204.out 1
   have hfz9_2 := blk_frozen BK204.out 2
   go_wp2_with (first | ((with_reducible refine gate_callee (f := 9) rfl ?_); refine goesL_ (some 21) rfl rfl Try.func9 (by kernel_rfl) rfl #[.agg #[.int .i64 a0_0, .slice A0_1 l0_1.length c0_1, .slice A0_2 l0_2.length c0_2], .slice A1 l1.length c1] rfl gl_ ?_; (with_reducible refine (standstilllaw07_wide.calls k a0_0 _ _ l0_1 _ _ l0_2 _ _ l1 true _ ?side1 ?side2 ?side3 ?side4 ?side5 ?side6 A7.out).mono ?_); (case side1 => exact ck_ (Kd.C_below HR0_1.out HB.out)); (case side2 => exact HC0_1.out); (case side3 => exact ck_ (Kd.C_below HR0_2.out HB.out)); (case side4 => exact HC0_2.out); (case side5 => exact ck_ (Kd.C_below HR1.out HB.out)); (case side6 => exact HC1.out); rintro e w10 ⟨rfl, hb⟩; refine ⟨_, rfl, ?_⟩; have n0_ := A_ (blk_below (pk_ BK204.out) hb); have n1_ := A_ (below_step (bk_ HB.out) hb); clear BK204 HB; have BK204 := n0_; have HB := n1_; clear n0_ n1_; (try clear hb); (try clear hb2); (try clear hk); (try clear hi)))
   go_meet
   case rel => exact ⟨_, (true), jr_, H', ⟨by first | omega | exact Nat.le_refl _⟩, ⟨pk_ BK204.out⟩, ⟨bk_ HB.out⟩⟩
  ·replace c8 := Bool.eq_false_iff.mpr c8
   subst c8
   have H1 : ((standstillref07_Fits.f k a0_0 l0_1 l0_2 l1).bind fun t206 => (if t206 = true then (standstilllaw07_TagNames.j0 k l1 l2 a3 ((l2.length : Int) != (l0_1.length : Int)) a0_0 l0_1 l0_2) else (standstilllaw07_TagNames.j0 k l1 l2 a3 true a0_0 l0_1 l0_2))) = some r := by rw [if_neg (show ¬ (false = true) by decide)] at H; exact H
   clear H
   have H := H1
   clear H1
   replace H := Option.bind_eq_some_iff.mp H
   obtain ⟨t206, A110, H⟩ := H
   replace H : (if t206 = true then (standstilllaw07_TagNames.j0 k l1 l2 a3 ((l2.length : Int) != (l0_1.length : Int)) a0_0 l0_1 l0_2) else (standstilllaw07_TagNames.j0 k l1 l2 a3 true a0_0 l0_1 l0_2)) = some r := H
   have A11 := Aside0.mk A110
   clear A110
   by_cases c12 : t206 = true
   ·subst c12
    have H1 : (standstilllaw07_TagNames.j0 k l1 l2 a3 ((l2.length : Int) != (l0_1.length : Int)) a0_0 l0_1 l0_2) = some r := by rw [if_pos rfl] at H; exact H
    clear H
    have H := H1
    clear H1
    have H' := Aside0.mk H
    clear H
    have hcz13_0 : w6.cell? ⟨gb204, 0, none⟩ = some (.int .i64 a0_0) := (blk_cell BK204.out 0).trans rfl
    have hcz13_1 : w6.cell? ⟨gb204, 1, none⟩ = some (.slice A0_1 l0_1.length c0_1) := (blk_cell BK204.out 1).trans rfl
    have hcz13_2 : w6.cell? ⟨gb204, 2, none⟩ = some (.slice A0_2 l0_2.length c0_2) := (blk_cell BK204.out 2).trans rfl
    have hfz13_0 := blk_frozen BK204.out 0
    have hfz13_1 := blk_frozen BK204.out 1
    have hfz13_2 := blk_frozen BK204.out 2
    go_wp2_with (first | ((with_reducible refine gate_callee (f := 9) rfl ?_); refine goesL_ (some 21) rfl rfl Try.func9 (by kernel_rfl) rfl #[.agg #[.int .i64 a0_0, .slice A0_1 l0_1.length c0_1, .slice A0_2 l0_2.length c0_2], .slice A1 l1.length c1] rfl gl_ ?_; (with_reducible refine (standstilllaw07_wide.calls k a0_0 _ _ l0_1 _ _ l0_2 _ _ l1 false _ ?side1 ?side2 ?side3 ?side4 ?side5 ?side6 A7.out).mono ?_); (case side1 => exact ck_ (Kd.C_below HR0_1.out HB.out)); (case side2 => exact HC0_1.out); (case side3 => exact ck_ (Kd.C_below HR0_2.out HB.out)); (case side4 => exact HC0_2.out); (case side5 => exact ck_ (Kd.C_below HR1.out HB.out)); (case side6 => exact HC1.out); rintro e w14 ⟨rfl, hb⟩; refine ⟨_, rfl, ?_⟩; have n0_ := A_ (blk_below (pk_ BK204.out) hb); have n1_ := A_ (below_step (bk_ HB.out) hb); clear BK204 HB; have BK204 := n0_; have HB := n1_; clear n0_ n1_; (try clear hb); (try clear hb2); (try clear hk); (try clear hi); have hcz15_0 : w14.cell? ⟨gb204, 0, none⟩ = some (.int .i64 a0_0) := (blk_cell BK204.out 0).trans rfl; have hcz15_1 : w14.cell? ⟨gb204, 1, none⟩ = some (.slice A0_1 l0_1.length c0_1) := (blk_cell BK204.out 1).trans rfl; have hcz15_2 : w14.cell? ⟨gb204, 2, none⟩ = some (.slice A0_2 l0_2.length c0_2) := (blk_cell BK204.out 2).trans rfl; have hfz15_0 := blk_frozen BK204.out 0; have hfz15_1 := blk_frozen BK204.out 1; have hfz15_2 := blk_frozen BK204.out 2) | (go_at_call 10; (with_reducible refine (standstillref07_Fits.calls k a0_0 _ _ l0_1 _ _ l0_2 _ _ l1 true _ ?side1 ?side2 ?side3 ?side4 ?side5 ?side6 A11.out).mono ?_); (case side1 => exact ck_ (Kd.C_below HR0_1.out HB.out)); (case side2 => exact HC0_1.out); (case side3 => exact ck_ (Kd.C_below HR0_2.out HB.out)); (case side4 => exact HC0_2.out); (case side5 => exact ck_ (Kd.C_below HR1.out HB.out)); (case side6 => exact HC1.out); rintro e w16 ⟨rfl, hb⟩; have n0_ := A_ (blk_below (pk_ BK204.out) hb); have n1_ := A_ (below_step (bk_ HB.out) hb); clear BK204 HB; have BK204 := n0_; have HB := n1_; clear n0_ n1_; (try clear hb); (try clear hb2); (try clear hk); (try clear hi); have hcz17_0 : w16.cell? ⟨gb204, 0, none⟩ = some (.int .i64 a0_0) := (blk_cell BK204.out 0).trans rfl; have hcz17_1 : w16.cell? ⟨gb204, 1, none⟩ = some (.slice A0_1 l0_1.length c0_1) := (blk_cell BK204.out 1).trans rfl; have hcz17_2 : w16.cell? ⟨gb204, 2, none⟩ = some (.slice A0_2 l0_2.length c0_2) := (blk_cell BK204.out 2).trans rfl; have hfz17_0 := blk_frozen BK204.out 0; have hfz17_1 := blk_frozen BK204.out 1; have hfz17_2 := blk_frozen BK204.out 2))
    go_meet
    case rel => exact ⟨_, (((l2.length : Int) != (l0_1.length : Int))), jr_, H', ⟨by first | omega | exact Nat.le_refl _⟩, ⟨pk_ BK204.out⟩, ⟨bk_ HB.out⟩⟩
   ·replace c12 := Bool.eq_false_iff.mpr c12
    subst c12
    have H1 : (standstilllaw07_TagNames.j0 k l1 l2 a3 true a0_0 l0_1 l0_2) = some r := by rw [if_neg (show ¬ (false = true) by decide)] at H; exact H
    clear H
    have H := H1
    clear H1
    have H' := Aside0.mk H
    clear H
    have hcz18_0 : w6.cell? ⟨gb204, 0, none⟩ = some (.int .i64 a0_0) := (blk_cell BK204.out 0).trans rfl
    have hcz18_1 : w6.cell? ⟨gb204, 1, none⟩ = some (.slice A0_1 l0_1.length c0_1) := (blk_cell BK204.out 1).trans rfl
    have hcz18_2 : w6.cell? ⟨gb204, 2, none⟩ = some (.slice A0_2 l0_2.length c0_2) := (blk_cell BK204.out 2).trans rfl
    have hfz18_0 := blk_frozen BK204.out 0
    have hfz18_1 := blk_frozen BK204.out 1
    have hfz18_2 := blk_frozen BK204.out 2
    go_wp2_with (first | ((with_reducible refine gate_callee (f := 9) rfl ?_); refine goesL_ (some 21) rfl rfl Try.func9 (by kernel_rfl) rfl #[.agg #[.int .i64 a0_0, .slice A0_1 l0_1.length c0_1, .slice A0_2 l0_2.length c0_2], .slice A1 l1.length c1] rfl gl_ ?_; (with_reducible refine (standstilllaw07_wide.calls k a0_0 _ _ l0_1 _ _ l0_2 _ _ l1 false _ ?side1 ?side2 ?side3 ?side4 ?side5 ?side6 A7.out).mono ?_); (case side1 => exact ck_ (Kd.C_below HR0_1.out HB.out)); (case side2 => exact HC0_1.out); (case side3 => exact ck_ (Kd.C_below HR0_2.out HB.out)); (case side4 => exact HC0_2.out); (case side5 => exact ck_ (Kd.C_below HR1.out HB.out)); (case side6 => exact HC1.out); rintro e w19 ⟨rfl, hb⟩; refine ⟨_, rfl, ?_⟩; have n0_ := A_ (blk_below (pk_ BK204.out) hb); have n1_ := A_ (below_step (bk_ HB.out) hb); clear BK204 HB; have BK204 := n0_; have HB := n1_; clear n0_ n1_; (try clear hb); (try clear hb2); (try clear hk); (try clear hi); have hcz20_0 : w19.cell? ⟨gb204, 0, none⟩ = some (.int .i64 a0_0) := (blk_cell BK204.out 0).trans rfl; have hcz20_1 : w19.cell? ⟨gb204, 1, none⟩ = some (.slice A0_1 l0_1.length c0_1) := (blk_cell BK204.out 1).trans rfl; have hcz20_2 : w19.cell? ⟨gb204, 2, none⟩ = some (.slice A0_2 l0_2.length c0_2) := (blk_cell BK204.out 2).trans rfl; have hfz20_0 := blk_frozen BK204.out 0; have hfz20_1 := blk_frozen BK204.out 1; have hfz20_2 := blk_frozen BK204.out 2) | (go_at_call 10; (with_reducible refine (standstillref07_Fits.calls k a0_0 _ _ l0_1 _ _ l0_2 _ _ l1 false _ ?side1 ?side2 ?side3 ?side4 ?side5 ?side6 A11.out).mono ?_); (case side1 => exact ck_ (Kd.C_below HR0_1.out HB.out)); (case side2 => exact HC0_1.out); (case side3 => exact ck_ (Kd.C_below HR0_2.out HB.out)); (case side4 => exact HC0_2.out); (case side5 => exact ck_ (Kd.C_below HR1.out HB.out)); (case side6 => exact HC1.out); rintro e w21 ⟨rfl, hb⟩; have n0_ := A_ (blk_below (pk_ BK204.out) hb); have n1_ := A_ (below_step (bk_ HB.out) hb); clear BK204 HB; have BK204 := n0_; have HB := n1_; clear n0_ n1_; (try clear hb); (try clear hb2); (try clear hk); (try clear hi)))
    go_meet
    case rel => exact ⟨_, (true), jr_, H', ⟨by first | omega | exact Nat.le_refl _⟩, ⟨pk_ BK204.out⟩, ⟨bk_ HB.out⟩⟩
 case rest => as_aux_lemma =>
  clear HC5
  (try clear c1); (try clear c2)
  obtain ⟨kq, x35_4, rfl, HA, HJ4, BK204, HB⟩ := hcut
  cases kq with
  | zero => exact absurd HA.out (by simp [standstilllaw07_TagNames.j0])
  | succ kj4 =>
   have H := HA.out
   clear HA
   simp only [standstilllaw07_TagNames.j0] at H
   by_cases c22 : x35_4 = true
   ·subst c22
    have H1 : ((standstilllaw07_awake.f kj4).bind fun t207 => (some t207)) = some r := by rw [if_pos rfl] at H; exact H
    clear H
    have H := H1
    clear H1
    replace H := Option.bind_eq_some_iff.mp H
    obtain ⟨t207, A230, H⟩ := H
    replace H : (some t207) = some r := H
    have A23 := Aside0.mk A230
    clear A230
    obtain rfl := Option.some.inj H
    go_wp2_with (first | ((with_reducible refine gate_callee (f := 11) rfl ?_); refine goesL_ (some 36) rfl rfl Try.func11 (by kernel_rfl) rfl #[] rfl gl_ ?_; (with_reducible refine (standstilllaw07_awake.calls kj4  t207 _ A23.out).mono ?_); rintro e w24 ⟨rfl, hb⟩; refine ⟨_, rfl, ?_⟩; have n0_ := A_ (blk_below (pk_ BK204.out) hb); have n1_ := A_ (below_step (bk_ HB.out) hb); clear BK204 HB; have BK204 := n0_; have HB := n1_; clear n0_ n1_; (try clear hb); (try clear hb2); (try clear hk); (try clear hi)))
    go_ret
    exact ⟨er_, bk_ HB.out⟩
   ·replace c22 := Bool.eq_false_iff.mpr c22
    subst c22
    have H1 : (if 0 ≤ (l2.length : Int) then (if ((l2.length : Int) : Int).toNat ≤ 281474976710656 then (standstilllaw07_TagNames.l0 kj4 l1 l2 a3 (List.replicate ((l2.length : Int) : Int).toNat false) 0 a0_0 l0_1 l0_2) else (none)) else (none)) = some r := by rw [if_neg (show ¬ (false = true) by decide)] at H; exact H
    clear H
    have H := H1
    clear H1
    by_cases c25 : 0 ≤ (l2.length : Int)
    ·rw [if_pos c25] at H
     have c25b0 := eq_true c25
     have c25b1 : decide (0 ≤ (l2.length : Int)) = true := decide_eq_true c25
     clear c25
     by_cases c26 : ((l2.length : Int) : Int).toNat ≤ 281474976710656
     ·rw [if_pos c26] at H
      have c26b0 := eq_true c26
      have c26b1 : decide (((l2.length : Int) : Int).toNat ≤ 281474976710656) = true := decide_eq_true c26
      clear c26
      obtain ⟨y208, hy208⟩ : ∃ y_ : List Bool, y_ = (List.replicate ((l2.length : Int) : Int).toNat false) := ⟨_, rfl⟩
      replace H : (standstilllaw07_TagNames.l0 kj4 l1 l2 a3 y208 0 a0_0 l0_1 l0_2) = some r := by first | (rw [hy208]; with_reducible exact H) | (have H2_ := (Option.bind_some _ _).symm.trans H; rw [hy208]; with_reducible exact H2_) | (have H2_ := (Option.bind_some _ _).symm.trans H; with_reducible exact H2_) | with_reducible exact H | (rw [hy208]; exact H) | exact H
      have Ny208 := Aside0.mk hy208
      clear hy208
      have H' := Aside0.mk H
      clear H
      go_wp2_with (first | ((with_reducible refine gate_dst (N := 39) rfl ?_); (try (refine gate_guard (by rfl) ?_; dsimp only)); refine Kd.R_make Kd.bool _ 4 rfl (N := 39) rfl 23 _ _ rfl (l2.length : Int) rfl rfl Try.underlying23 (.bool false) 1 info4 rfl (by decide) (by omega) false (ok := fun _ => True) (okp := fun _ => True) rfl (fun _ hk => hk) trivial (od_) (Nat.le_trans (Nat.mul_le_mul_right _ (od_ : (l2.length : Int).toNat ≤ 281474976710656)) (by omega)) (Below.refl _ _) (Nat.le_refl _) ?_; intro v209 w27 ho28 hb hg_ hnew_; clear hg_ hnew_; (first | rw [← Ny208.out] at ho28 | (simp only [Int.reduceToNat] at ho28; rw [← Ny208.out] at ho28)); have n0_ := A_ (Kd.R_lower ho28 (below_size (bk_ HB.out))); have n1_ := A_ (blk_below (pk_ BK204.out) hb); have n2_ := A_ (below_step (bk_ HB.out) hb); clear BK204 HB; have HO210 := n0_; have BK204 := n1_; have HB := n2_; clear n0_ n1_ n2_ hb ho28))
      go_loopg [10] kj4 (fun kq v10 w' => ∃ (x9_2 : List Bool) (x10_2 : Int), v10 = .int .i64 x10_2 ∧ Aside0 (standstilllaw07_TagNames.l0 kq l1 l2 a3 x9_2 x10_2 a0_0 l0_1 l0_2 = some r) ∧ Aside0 (kq ≤ kj4) ∧ Aside0 (Kd.R Kd.bool 4 w' w.heap.size (fun _ => True) v209 x9_2) ∧ Aside0 (w'.heap[gb204]? = some (.cells #[.int .i64 a0_0, (.slice A0_1 l0_1.length c0_1), (.slice A0_2 l0_2.length c0_2)] 25 (0, 0))) ∧ Aside0 (Below w.heap.size w w'))
      case atStart => exact ⟨(y208), (0), jr_, H', ⟨Nat.le_refl _⟩, ⟨rk_ HO210.out⟩, ⟨pk_ BK204.out⟩, ⟨bk_ HB.out⟩⟩
      case round => as_aux_lemma =>
       clear H'
       (try clear c1); (try clear c2); (try clear c22); (try clear c25); (try clear c25b0); (try clear c25b1); (try clear c26); (try clear c26b0); (try clear c26b1)
       obtain ⟨x9_2, x10_2, rfl, HA, HK2, HO_9, BK204, HB⟩ := hrel
       cases gk with
       | zero => exact absurd HA.out (by simp [standstilllaw07_TagNames.l0])
       | succ k2 =>
        have H := HA.out
        clear HA
        simp only [standstilllaw07_TagNames.l0] at H
        by_cases c29 : x10_2 < (l2.length : Int)
        ·rw [if_pos c29] at H
         have c29b0 : decide (x10_2 < (l2.length : Int)) = true := decide_eq_true c29
         clear c29
         by_cases c30 : 0 ≤ x10_2
         ·rw [if_pos c30] at H
          have c30b0 : decide (0 ≤ x10_2) = true := decide_eq_true c30
          clear c30
          by_cases c31 : (rd l2 x10_2) < 0
          ·rw [if_pos c31] at H
           have c31b0 : decide ((rd l2 x10_2) < 0) = true := decide_eq_true c31
           clear c31
           replace H := Option.bind_eq_some_iff.mp H
           obtain ⟨t212, A320, H⟩ := H
           replace H : (some t212) = some r := H
           have A32 := Aside0.mk A320
           clear A320
           obtain rfl := Option.some.inj H
           have p211 : 0 ≤ (x10_2 : Int) := od_
           have q211 : x10_2 < (l2.length : Int) := od_
           obtain ⟨ad211, e211, hx211_0⟩ := Kd.at_int HR2.out x10_2 p211 q211
           cases e211
           replace hx211_0 := lf_ HB.out hx211_0
           replace p211 := eq_true p211
           replace q211 := eq_true q211
           go_wp2_with (first | ((with_reducible refine gate_callee (f := 11) rfl ?_); refine goesL_ (some 69) rfl rfl Try.func11 (by kernel_rfl) rfl #[] rfl gl_ ?_; (with_reducible refine (standstilllaw07_awake.calls k2  t212 _ A32.out).mono ?_); rintro e w33 ⟨rfl, hb⟩; refine ⟨_, rfl, ?_⟩; have n0_ := A_ (Kd.R_below (rk_ HO_9.out) hb); have n1_ := A_ (blk_below (pk_ BK204.out) hb); have n2_ := A_ (below_step (bk_ HB.out) hb); clear HO_9 BK204 HB; have HO_9 := n0_; have BK204 := n1_; have HB := n2_; clear n0_ n1_ n2_; (try clear hb); (try clear hb2); (try clear hk); (try clear hi)))
           go_ret
           exact ⟨er_, bk_ HB.out⟩
          ·rw [if_neg c31] at H
           have c31b0 : decide ((rd l2 x10_2) < 0) = false := decide_eq_false c31
           clear c31
           by_cases c34 : (rd l2 x10_2) ≥ (l2.length : Int)
           ·rw [if_pos c34] at H
            have c34b0 : decide ((l2.length : Int) ≤ (rd l2 x10_2)) = true := decide_eq_true c34
            clear c34
            replace H := Option.bind_eq_some_iff.mp H
            obtain ⟨t214, A350, H⟩ := H
            replace H : (some t214) = some r := H
            have A35 := Aside0.mk A350
            clear A350
            obtain rfl := Option.some.inj H
            have p211 : 0 ≤ (x10_2 : Int) := od_
            have q211 : x10_2 < (l2.length : Int) := od_
            obtain ⟨ad211, e211, hx211_0⟩ := Kd.at_int HR2.out x10_2 p211 q211
            cases e211
            replace hx211_0 := lf_ HB.out hx211_0
            replace p211 := eq_true p211
            replace q211 := eq_true q211
            have p213 : 0 ≤ (x10_2 : Int) := od_
            have q213 : x10_2 < (l2.length : Int) := od_
            obtain ⟨ad213, e213, hx213_0⟩ := Kd.at_int HR2.out x10_2 p213 q213
            obtain rfl : ad211 = ad213 := (by injection e213)
            replace hx213_0 := lf_ HB.out hx213_0
            replace p213 := eq_true p213
            replace q213 := eq_true q213
            go_wp2_with (first | ((with_reducible refine gate_callee (f := 11) rfl ?_); refine goesL_ (some 69) rfl rfl Try.func11 (by kernel_rfl) rfl #[] rfl gl_ ?_; (with_reducible refine (standstilllaw07_awake.calls k2  t214 _ A35.out).mono ?_); rintro e w36 ⟨rfl, hb⟩; refine ⟨_, rfl, ?_⟩; have n0_ := A_ (Kd.R_below (rk_ HO_9.out) hb); have n1_ := A_ (blk_below (pk_ BK204.out) hb); have n2_ := A_ (below_step (bk_ HB.out) hb); clear HO_9 BK204 HB; have HO_9 := n0_; have BK204 := n1_; have HB := n2_; clear n0_ n1_ n2_; (try clear hb); (try clear hb2); (try clear hk); (try clear hi)))
            go_ret
            exact ⟨er_, bk_ HB.out⟩
           ·rw [if_neg c34] at H
            have c34b0 : decide ((l2.length : Int) ≤ (rd l2 x10_2)) = false := decide_eq_false c34
            clear c34
            by_cases c37 : 0 ≤ (rd l2 x10_2)
            ·rw [if_pos c37] at H
             have c37b0 : decide (0 ≤ (rd l2 x10_2)) = true := decide_eq_true c37
             clear c37
             by_cases c38 : (rd l2 x10_2) < (x9_2.length : Int)
             ·rw [if_pos c38] at H
              have c38b0 : decide ((rd l2 x10_2) < (x9_2.length : Int)) = true := decide_eq_true c38
              clear c38
              obtain ⟨bq39, hbq39⟩ : ∃ b_ : Bool, b_ = (rdOf false x9_2 (rd l2 x10_2)) := ⟨_, rfl⟩
              replace H : (if bq39 = true then ((standstilllaw07_awake.f k2).bind fun t217 => (some t217)) else (standstilllaw07_TagNames.l0 k2 l1 l2 a3 (x9_2.set ((rd l2 x10_2) : Int).toNat true) (wrap64 (x10_2 + 1)) a0_0 l0_1 l0_2)) = some r := by rw [← hbq39] at H; exact H
              have Nbq39 := Aside0.mk hbq39
              clear hbq39
              by_cases c40 : bq39 = true
              ·subst c40
               have H1 : ((standstilllaw07_awake.f k2).bind fun t217 => (some t217)) = some r := by rw [if_pos rfl] at H; exact H
               clear H
               have H := H1
               clear H1
               replace H := Option.bind_eq_some_iff.mp H
               obtain ⟨t217, A410, H⟩ := H
               replace H : (some t217) = some r := H
               have A41 := Aside0.mk A410
               clear A410
               obtain rfl := Option.some.inj H
               have p211 : 0 ≤ (x10_2 : Int) := od_
               have q211 : x10_2 < (l2.length : Int) := od_
               obtain ⟨ad211, e211, hx211_0⟩ := Kd.at_int HR2.out x10_2 p211 q211
               cases e211
               replace hx211_0 := lf_ HB.out hx211_0
               replace p211 := eq_true p211
               replace q211 := eq_true q211
               have p213 : 0 ≤ (x10_2 : Int) := od_
               have q213 : x10_2 < (l2.length : Int) := od_
               obtain ⟨ad213, e213, hx213_0⟩ := Kd.at_int HR2.out x10_2 p213 q213
               obtain rfl : ad211 = ad213 := (by injection e213)
               replace hx213_0 := lf_ HB.out hx213_0
               replace p213 := eq_true p213
               replace q213 := eq_true q213
               have p215 : 0 ≤ (x10_2 : Int) := od_
               have q215 : x10_2 < (l2.length : Int) := od_
               obtain ⟨ad215, e215, hx215_0⟩ := Kd.at_int HR2.out x10_2 p215 q215
               obtain rfl : ad211 = ad215 := (by injection e215)
               replace hx215_0 := lf_ HB.out hx215_0
               replace p215 := eq_true p215
               replace q215 := eq_true q215
               obtain ⟨Ao42, co42, eo42⟩ := Kd.R_slice HO_9.out
               subst eo42
               have p216 : 0 ≤ ((rd l2 x10_2) : Int) := od_
               have q216 : (rd l2 x10_2) < (x9_2.length : Int) := od_
               obtain ⟨ad216, e216, hx216_0⟩ := Kd.at_bool (Kd.R_reads' HO_9.out).2.2 (rd l2 x10_2) p216 q216
               (try rw [← Nbq39.out] at hx216_0)
               cases e216
               replace p216 := eq_true p216
               replace q216 := eq_true q216
               go_wp2_with (first | ((with_reducible refine gate_callee (f := 11) rfl ?_); refine goesL_ (some 69) rfl rfl Try.func11 (by kernel_rfl) rfl #[] rfl gl_ ?_; (with_reducible refine (standstilllaw07_awake.calls k2  t217 _ A41.out).mono ?_); rintro e w43 ⟨rfl, hb⟩; refine ⟨_, rfl, ?_⟩; have n0_ := A_ (Kd.R_below (rk_ HO_9.out) hb); have n1_ := A_ (blk_below (pk_ BK204.out) hb); have n2_ := A_ (below_step (bk_ HB.out) hb); clear HO_9 BK204 HB; have HO_9 := n0_; have BK204 := n1_; have HB := n2_; clear n0_ n1_ n2_; (try clear hb); (try clear hb2); (try clear hk); (try clear hi)))
               go_ret
               exact ⟨er_, bk_ HB.out⟩
              ·replace c40 := Bool.eq_false_iff.mpr c40
               subst c40
               have H1 : (standstilllaw07_TagNames.l0 k2 l1 l2 a3 (x9_2.set ((rd l2 x10_2) : Int).toNat true) (wrap64 (x10_2 + 1)) a0_0 l0_1 l0_2) = some r := by rw [if_neg (show ¬ (false = true) by decide)] at H; exact H
               clear H
               have H := H1
               clear H1
               obtain ⟨y219, hy219⟩ : ∃ y_ : List Bool, y_ = (x9_2.set ((rd l2 x10_2) : Int).toNat true) := ⟨_, rfl⟩
               replace H : (standstilllaw07_TagNames.l0 k2 l1 l2 a3 y219 (wrap64 (x10_2 + 1)) a0_0 l0_1 l0_2) = some r := by first | (rw [hy219]; with_reducible exact H) | (have H2_ := (Option.bind_some _ _).symm.trans H; rw [hy219]; with_reducible exact H2_) | (have H2_ := (Option.bind_some _ _).symm.trans H; with_reducible exact H2_) | with_reducible exact H | (rw [hy219]; exact H) | exact H
               have Ny219 := Aside0.mk hy219
               clear hy219
               have H' := Aside0.mk H
               clear H
               have p211 : 0 ≤ (x10_2 : Int) := od_
               have q211 : x10_2 < (l2.length : Int) := od_
               obtain ⟨ad211, e211, hx211_0⟩ := Kd.at_int HR2.out x10_2 p211 q211
               cases e211
               replace hx211_0 := lf_ HB.out hx211_0
               replace p211 := eq_true p211
               replace q211 := eq_true q211
               have p213 : 0 ≤ (x10_2 : Int) := od_
               have q213 : x10_2 < (l2.length : Int) := od_
               obtain ⟨ad213, e213, hx213_0⟩ := Kd.at_int HR2.out x10_2 p213 q213
               obtain rfl : ad211 = ad213 := (by injection e213)
               replace hx213_0 := lf_ HB.out hx213_0
               replace p213 := eq_true p213
               replace q213 := eq_true q213
               have p215 : 0 ≤ (x10_2 : Int) := od_
               have q215 : x10_2 < (l2.length : Int) := od_
               obtain ⟨ad215, e215, hx215_0⟩ := Kd.at_int HR2.out x10_2 p215 q215
               obtain rfl : ad211 = ad215 := (by injection e215)
               replace hx215_0 := lf_ HB.out hx215_0
               replace p215 := eq_true p215
               replace q215 := eq_true q215
               obtain ⟨Ao45, co45, eo45⟩ := Kd.R_slice HO_9.out
               subst eo45
               have p216 : 0 ≤ ((rd l2 x10_2) : Int) := od_
               have q216 : (rd l2 x10_2) < (x9_2.length : Int) := od_
               obtain ⟨ad216, e216, hx216_0⟩ := Kd.at_bool (Kd.R_reads' HO_9.out).2.2 (rd l2 x10_2) p216 q216
               (try rw [← Nbq39.out] at hx216_0)
               cases e216
               replace p216 := eq_true p216
               replace q216 := eq_true q216
               have p218 : 0 ≤ (x10_2 : Int) := od_
               have q218 : x10_2 < (l2.length : Int) := od_
               obtain ⟨ad218, e218, hx218_0⟩ := Kd.at_int HR2.out x10_2 p218 q218
               obtain rfl : ad211 = ad218 := (by injection e218)
               replace hx218_0 := lf_ HB.out hx218_0
               replace p218 := eq_true p218
               replace q218 := eq_true q218
               have p44 : 0 ≤ ((rd l2 x10_2) : Int) := od_
               have q44 : ((rd l2 x10_2) : Int) < ((x9_2.length : Int) : Int) := od_
               obtain ⟨go44, co44, eo44, gb44, gl44, cl44, HG44⟩ := Kd.R_form HO_9.out (by omega)
               (first | cases eo44 | (injection eo44 with ea_ en_ ec_; (first | subst ea_ | (injection ea_ with ea_; subst ea_)); subst ec_; clear en_))
               have GB44 := Aside0.mk gb44
               have GG44 := Aside0.mk HG44
               clear gb44 gl44 HG44
               (first | simp only [add_plain] at hx216_0 | skip)
               obtain ⟨hx44_0, hf44_0⟩ := Kd.R_celln false HO_9.out ((rd l2 x10_2) : Int) p44 q44
               replace p44 := eq_true p44
               replace q44 := eq_true q44
               have HP46 := Kd.R_putg HO_9.out ((rd l2 x10_2) : Int) true
               go_wp2_with (first | ((with_reducible refine gate_store (t := 4) (p := 75) rfl ?_); refine store_event (t := 4) (p := 75) (v := ?vo_w47) (w1 := (wr.setCell ⟨go44, ((rd l2 x10_2) : Int).toNat, none⟩ (.bool true))) ?hg ?ho ?hn ?hr ?_; (case ho => rfl); (case hg => rfl); (case hn => rfl); (case hr => first | (go_simp; done) | (go_simp; rfl)); intro w47 hw; have hg : wr.grownBy w47 (some go44) := (by rw [hw]; exact HP46.2); have hp_ : Kd.R Kd.bool 4 w47 w.heap.size (fun _ => True) (.slice (some ⟨go44, 0, none⟩) x9_2.length co45) y219 := (by rw [hw, Ny219.out]; exact HP46.1); clear HP46; have n0_ := A_ (hp_); have n1_ := A_ (blk_grown (pk_ BK204.out) hg (Kd.R_ne HO_9.out BK204.out (by decide))); have n2_ := A_ ((by rw [hw]; exact below_set (HB.out) GB44.out : Below w.heap.size w w47)); clear HO_9 BK204 HB; have HO_9 := n0_; have BK204 := n1_; have HB := n2_; clear n0_ n1_ n2_ hg hw hp_))
               go_roundg k2
               case measure => have := HJ4.out; have := HK2.out; omega
               case rel => exact ⟨(y219), (wrap64 (x10_2 + 1)), jr_, H', ⟨by have := HJ4.out; have := HK2.out; omega⟩, ⟨rk_ HO_9.out⟩, ⟨pk_ BK204.out⟩, ⟨bk_ HB.out⟩⟩
             ·rw [if_neg c38] at H
              exact absurd H (by simp)
            ·rw [if_neg c37] at H
             exact absurd H (by simp)
         ·rw [if_neg c30] at H
          exact absurd H (by simp)
        ·rw [if_neg c29] at H
         have c29b0 : decide (x10_2 < (l2.length : Int)) = false := decide_eq_false c29
         clear c29
         by_cases c48 : 0 ≤ (l2.length : Int)
         ·rw [if_pos c48] at H
          have c48b0 := eq_true c48
          have c48b1 : decide (0 ≤ (l2.length : Int)) = true := decide_eq_true c48
          clear c48
          by_cases c49 : ((l2.length : Int) : Int).toNat ≤ 11728124029610
          ·rw [if_pos c49] at H
           have c49b0 := eq_true c49
           have c49b1 : decide (((l2.length : Int) : Int).toNat ≤ 11728124029610) = true := decide_eq_true c49
           clear c49
           obtain ⟨y220, hy220⟩ : ∃ y_ : List (List Int), y_ = (List.replicate ((l2.length : Int) : Int).toNat []) := ⟨_, rfl⟩
           replace H : (if ((l2.length : Int) : Int).toNat ≤ 281474976710656 then (standstilllaw07_TagNames.l1 k2 l1 l2 a3 0 a0_0 l0_1 l0_2 a0_0 y220 (List.replicate ((l2.length : Int) : Int).toNat false)) else (none)) = some r := by first | (rw [hy220]; with_reducible exact H) | (have H2_ := (Option.bind_some _ _).symm.trans H; rw [hy220]; with_reducible exact H2_) | (have H2_ := (Option.bind_some _ _).symm.trans H; with_reducible exact H2_) | with_reducible exact H | (rw [hy220]; exact H) | exact H
           have Ny220 := Aside0.mk hy220
           clear hy220
           by_cases c50 : ((l2.length : Int) : Int).toNat ≤ 281474976710656
           ·rw [if_pos c50] at H
            have c50b0 := eq_true c50
            have c50b1 : decide (((l2.length : Int) : Int).toNat ≤ 281474976710656) = true := decide_eq_true c50
            clear c50
            obtain ⟨y223, hy223⟩ : ∃ y_ : List Bool, y_ = (List.replicate ((l2.length : Int) : Int).toNat false) := ⟨_, rfl⟩
            replace H : (standstilllaw07_TagNames.l1 k2 l1 l2 a3 0 a0_0 l0_1 l0_2 a0_0 y220 y223) = some r := by first | (rw [hy223]; with_reducible exact H) | (have H2_ := (Option.bind_some _ _).symm.trans H; rw [hy223]; with_reducible exact H2_) | (have H2_ := (Option.bind_some _ _).symm.trans H; with_reducible exact H2_) | with_reducible exact H | (rw [hy223]; exact H) | exact H
            have Ny223 := Aside0.mk hy223
            clear hy223
            have H' := Aside0.mk H
            clear H
            try go_wp2
            have n0_ := A_ (Kd.R_drew HO_9.out)
            have n1_ := A_ (blk_drew BK204.out)
            have n2_ := A_ (below_drew1 HB.out)
            clear HO_9 BK204 HB
            have HO_9 := n0_
            have BK204 := n1_
            have HB := n2_
            clear n0_ n1_ n2_
            refine start_ (n := 11) (S := fun w' => w'.cell? ⟨gb204, 0, none⟩ = some (.int .i64 a0_0) ∧ w'.cell? ⟨gb204, 1, none⟩ = some (.slice A0_1 l0_1.length c0_1) ∧ w'.cell? ⟨gb204, 2, none⟩ = some (.slice A0_2 l0_2.length c0_2)) (ds := []) #[false, false, false, false, false, false, false, false, false, false, false] (by kernel_rfl) rfl rfl ⟨(blk_cell BK204.out 0).trans rfl, (blk_cell BK204.out 1).trans rfl, (blk_cell BK204.out 2).trans rfl⟩ (fun hHeld => ?_); refine with_tabW standstilllaw07_TagNames.tab10 standstilllaw07_TagNames.bits10 (fun HT_ HW_ => ?_)
            generalize wr.drew = w51 at HO_9 BK204 HB hHeld ⊢
            refine pure_ (i := 0) (N := some 76) (v := ?_) (a' := ?_) #[true, false, false, false, false, false, false, false, false, false, false] rfl rfl (any_of HT_.out (by kernel_rfl)) (fun _ _ _ h => h) (Or.inl ⟨by rfl, ?_⟩) ?_ ?_
            rotate_left
            ·intro w'
             go_simp
             with_reducible rfl
            rotate_left
            ·simp only [Act.put, sa_, sz_, ss_, i64_w, i32_w]
             rfl
            refine pure_ (i := 2) (N := some 78) (v := ?_) (a' := ?_) #[true, false, true, false, false, false, false, false, false, false, false] rfl rfl (any_of HT_.out (by kernel_rfl)) (fun _ _ _ h => h) (Or.inl ⟨by rfl, ?_⟩) ?_ ?_
            rotate_left
            ·intro w'
             go_simp
             with_reducible rfl
            rotate_left
            ·simp only [Act.put, sa_, sz_, ss_, i64_w, i32_w]
             rfl
            refine pure_ (i := 3) (N := some 79) (v := ?_) (a' := ?_) #[true, false, true, true, false, false, false, false, false, false, false] rfl rfl (any_of HT_.out (by kernel_rfl)) (fun _ _ _ h => h) (Or.inl ⟨by rfl, ?_⟩) ?_ ?_
            rotate_left
            ·intro w'
             go_simp
             with_reducible rfl
            rotate_left
            ·simp only [Act.put, sa_, sz_, ss_, i64_w, i32_w]
             rfl
            refine pure_ (i := 5) (N := some 81) (v := ?_) (a' := ?_) #[true, false, true, true, false, true, false, false, false, false, false] rfl rfl (any_of HT_.out (by kernel_rfl)) (fun _ _ _ h => h) (Or.inl ⟨by rfl, ?_⟩) ?_ ?_
            rotate_left
            ·intro w'
             go_simp
             with_reducible rfl
            rotate_left
            ·simp only [Act.put, sa_, sz_, ss_, i64_w, i32_w]
             rfl
            refine pure_ (i := 6) (N := some 82) (v := ?_) (a' := ?_) #[true, false, true, true, false, true, true, false, false, false, false] rfl rfl (any_of HT_.out (by kernel_rfl)) (fun _ _ _ h => h) (Or.inl ⟨by rfl, ?_⟩) ?_ ?_
            rotate_left
            ·intro w'
             go_simp
             with_reducible rfl
            rotate_left
            ·simp only [Act.put, sa_, sz_, ss_, i64_w, i32_w]
             rfl
            refine take_ (i := 1) (N := some 77) (v := ?_) (a' := ?_) #[true, true, true, true, false, true, true, false, false, false, false] rfl rfl (take_ofW HT_.out HW_.out (by kernel_rfl)) (fun _ _ _ h => h) (Or.inl ⟨by rfl, ?_⟩) hHeld ?_ ?_
            rotate_left
            ·rintro w' ⟨s0, s1, s2⟩
             go_simp
             with_reducible rfl
            rotate_left
            ·simp only [Act.put, sa_, sz_, ss_, i64_w, i32_w]
             rfl
            refine join_ (σ := Value × Value × Nat) 1 #[true, true, true, true, true, true, true, true, true, true, false] (fun s_ => [(80, s_.1), (83, s_.2.1), (11, .pointer (some ⟨s_.2.2, 0, none⟩)), (84, .agg #[.int .i64 a0_0, s_.1, s_.2.1])]) (fun s_ w' => (w'.cell? ⟨gb204, 0, none⟩ = some (.int .i64 a0_0) ∧ w'.cell? ⟨gb204, 1, none⟩ = some (.slice A0_1 l0_1.length c0_1) ∧ w'.cell? ⟨gb204, 2, none⟩ = some (.slice A0_2 l0_2.length c0_2)) ∧ (Kd.N (Kd.slice 3 (Kd.int .i64)) 26 w' w.heap.size (fun k_ => some k_ ≠ (s_.2.1 : Value).ownBlock ∧ some k_ ≠ (v209 : Value).ownBlock ∧ k_ ≠ gb204 ∧ k_ ≠ s_.2.2) s_.1 y220) ∧ (Kd.R Kd.bool 4 w' w.heap.size (fun k_ => some k_ ≠ (v209 : Value).ownBlock) s_.2.1 y223) ∧ (Kd.R Kd.bool 4 w' w.heap.size (fun k_ => some k_ ≠ (s_.2.1 : Value).ownBlock) v209 x9_2) ∧ (w'.heap[gb204]? = some (.cells #[.int .i64 a0_0, .slice A0_1 l0_1.length c0_1, .slice A0_2 l0_2.length c0_2] 25 (0, 0))) ∧ (w'.heap[s_.2.2]? = some (.cells #[.int .i64 0, .slice none 0 0, .slice none 0 0] 25 (0, 0))) ∧ (w.heap.size ≤ s_.2.2) ∧ (w.heap.size ≤ s_.2.2) ∧ (gb204 ≠ s_.2.2) ∧ (s_.2.2 ≠ gb204) ∧ (Below w.heap.size w w')) ?_ ?_
            rotate_left
            ·intro hJ4_7_9
             refine join_ (σ := Value × Value) 2 #[true, true, true, true, true, true, true, true, true, false, false] (fun s_ => [(80, s_.1), (83, s_.2), (84, .agg #[.int .i64 a0_0, s_.1, s_.2])]) (fun s_ w' => (w'.cell? ⟨gb204, 0, none⟩ = some (.int .i64 a0_0) ∧ w'.cell? ⟨gb204, 1, none⟩ = some (.slice A0_1 l0_1.length c0_1) ∧ w'.cell? ⟨gb204, 2, none⟩ = some (.slice A0_2 l0_2.length c0_2)) ∧ (Kd.N (Kd.slice 3 (Kd.int .i64)) 26 w' w.heap.size (fun k_ => some k_ ≠ (s_.2 : Value).ownBlock ∧ some k_ ≠ (v209 : Value).ownBlock ∧ k_ ≠ gb204) s_.1 y220) ∧ (Kd.R Kd.bool 4 w' w.heap.size (fun k_ => some k_ ≠ (v209 : Value).ownBlock) s_.2 y223) ∧ (Kd.R Kd.bool 4 w' w.heap.size (fun k_ => some k_ ≠ (s_.2 : Value).ownBlock) v209 x9_2) ∧ (w'.heap[gb204]? = some (.cells #[.int .i64 a0_0, .slice A0_1 l0_1.length c0_1, .slice A0_2 l0_2.length c0_2] 25 (0, 0))) ∧ (Below w.heap.size w w')) ?_ ?_
             rotate_left
             ·intro hJ4_7
              refine join_ (σ := Value × Nat) 3 #[true, true, true, true, true, true, true, false, false, true, false] (fun s_ => [(80, s_.1), (11, .pointer (some ⟨s_.2, 0, none⟩))]) (fun s_ w' => (w'.cell? ⟨gb204, 0, none⟩ = some (.int .i64 a0_0) ∧ w'.cell? ⟨gb204, 1, none⟩ = some (.slice A0_1 l0_1.length c0_1) ∧ w'.cell? ⟨gb204, 2, none⟩ = some (.slice A0_2 l0_2.length c0_2)) ∧ (Kd.N (Kd.slice 3 (Kd.int .i64)) 26 w' w.heap.size (fun k_ => some k_ ≠ (v209 : Value).ownBlock ∧ k_ ≠ gb204 ∧ k_ ≠ s_.2) s_.1 y220) ∧ (Kd.R Kd.bool 4 w' w.heap.size (fun _ => True) v209 x9_2) ∧ (w'.heap[gb204]? = some (.cells #[.int .i64 a0_0, .slice A0_1 l0_1.length c0_1, .slice A0_2 l0_2.length c0_2] 25 (0, 0))) ∧ (w'.heap[s_.2]? = some (.cells #[.int .i64 0, .slice none 0 0, .slice none 0 0] 25 (0, 0))) ∧ (w.heap.size ≤ s_.2) ∧ (w.heap.size ≤ s_.2) ∧ (gb204 ≠ s_.2) ∧ (s_.2 ≠ gb204) ∧ (Below w.heap.size w w')) ?_ ?_
              rotate_left
              ·intro hJ4_9
               refine join_ (σ := Value × Nat) 3 #[true, true, true, true, false, true, true, true, false, true, false] (fun s_ => [(83, s_.1), (11, .pointer (some ⟨s_.2, 0, none⟩))]) (fun s_ w' => (w'.cell? ⟨gb204, 0, none⟩ = some (.int .i64 a0_0) ∧ w'.cell? ⟨gb204, 1, none⟩ = some (.slice A0_1 l0_1.length c0_1) ∧ w'.cell? ⟨gb204, 2, none⟩ = some (.slice A0_2 l0_2.length c0_2)) ∧ (Kd.R Kd.bool 4 w' w.heap.size (fun k_ => some k_ ≠ (v209 : Value).ownBlock) s_.1 y223) ∧ (Kd.R Kd.bool 4 w' w.heap.size (fun k_ => some k_ ≠ (s_.1 : Value).ownBlock) v209 x9_2) ∧ (w'.heap[gb204]? = some (.cells #[.int .i64 a0_0, .slice A0_1 l0_1.length c0_1, .slice A0_2 l0_2.length c0_2] 25 (0, 0))) ∧ (w'.heap[s_.2]? = some (.cells #[.int .i64 0, .slice none 0 0, .slice none 0 0] 25 (0, 0))) ∧ (w.heap.size ≤ s_.2) ∧ (w.heap.size ≤ s_.2) ∧ (gb204 ≠ s_.2) ∧ (s_.2 ≠ gb204) ∧ (Below w.heap.size w w')) ?_ ?_
               rotate_left
               ·intro hJ7_9
                refine join_ (σ := Value) 4 #[true, true, true, true, true, true, true, false, false, false, false] (fun s_ => [(80, s_)]) (fun s_ w' => (w'.cell? ⟨gb204, 0, none⟩ = some (.int .i64 a0_0) ∧ w'.cell? ⟨gb204, 1, none⟩ = some (.slice A0_1 l0_1.length c0_1) ∧ w'.cell? ⟨gb204, 2, none⟩ = some (.slice A0_2 l0_2.length c0_2)) ∧ (Kd.N (Kd.slice 3 (Kd.int .i64)) 26 w' w.heap.size (fun k_ => some k_ ≠ (v209 : Value).ownBlock ∧ k_ ≠ gb204) s_ y220) ∧ (Kd.R Kd.bool 4 w' w.heap.size (fun _ => True) v209 x9_2) ∧ (w'.heap[gb204]? = some (.cells #[.int .i64 a0_0, .slice A0_1 l0_1.length c0_1, .slice A0_2 l0_2.length c0_2] 25 (0, 0))) ∧ (Below w.heap.size w w')) ?_ ?_
                rotate_left
                ·intro hJ4
                 refine join_ (σ := Value) 4 #[true, true, true, true, false, true, true, true, false, false, false] (fun s_ => [(83, s_)]) (fun s_ w' => (w'.cell? ⟨gb204, 0, none⟩ = some (.int .i64 a0_0) ∧ w'.cell? ⟨gb204, 1, none⟩ = some (.slice A0_1 l0_1.length c0_1) ∧ w'.cell? ⟨gb204, 2, none⟩ = some (.slice A0_2 l0_2.length c0_2)) ∧ (Kd.R Kd.bool 4 w' w.heap.size (fun k_ => some k_ ≠ (v209 : Value).ownBlock) s_ y223) ∧ (Kd.R Kd.bool 4 w' w.heap.size (fun k_ => some k_ ≠ (s_ : Value).ownBlock) v209 x9_2) ∧ (w'.heap[gb204]? = some (.cells #[.int .i64 a0_0, .slice A0_1 l0_1.length c0_1, .slice A0_2 l0_2.length c0_2] 25 (0, 0))) ∧ (Below w.heap.size w w')) ?_ ?_
                 rotate_left
                 ·intro hJ7
                  refine join_ (σ := Nat) 4 #[true, true, true, true, false, true, true, false, false, true, false] (fun s_ => [(11, .pointer (some ⟨s_, 0, none⟩))]) (fun s_ w' => (w'.cell? ⟨gb204, 0, none⟩ = some (.int .i64 a0_0) ∧ w'.cell? ⟨gb204, 1, none⟩ = some (.slice A0_1 l0_1.length c0_1) ∧ w'.cell? ⟨gb204, 2, none⟩ = some (.slice A0_2 l0_2.length c0_2)) ∧ (Kd.R Kd.bool 4 w' w.heap.size (fun _ => True) v209 x9_2) ∧ (w'.heap[gb204]? = some (.cells #[.int .i64 a0_0, .slice A0_1 l0_1.length c0_1, .slice A0_2 l0_2.length c0_2] 25 (0, 0))) ∧ (w'.heap[s_]? = some (.cells #[.int .i64 0, .slice none 0 0, .slice none 0 0] 25 (0, 0))) ∧ (w.heap.size ≤ s_) ∧ (w.heap.size ≤ s_) ∧ (gb204 ≠ s_) ∧ (s_ ≠ gb204) ∧ (Below w.heap.size w w')) ?_ ?_
                  rotate_left
                  ·intro hJ9
                   refine three_ (i := 4) (j := 7) (k := 9) (Ni := some 80) (Nj := some 83) (Nk := some 11) #[true, true, true, true, true, true, true, false, false, false, false] #[true, true, true, true, false, true, true, true, false, false, false] #[true, true, true, true, false, true, true, false, false, true, false] rfl rfl rfl rfl rfl rfl (three_of HT_.out (by kernel_rfl)) (by decide) (by decide) (by decide) (fun K hK => ?_) (fun K hK => ?_) (fun K hK => ?_)
                   ·skip
                    refine Kd.N_make_step (Kd.slice 3 (Kd.int .i64)) _ 26 (by rfl) (N' := 80) rfl 22 _ _ rfl (l2.length : Int) rfl rfl Try.underlying22 (.slice none 0 0) 24 info26 rfl (by decide) (by omega) [] (ok := fun k_ => w51.heap.size ≤ k_) (okp := fun _ => False) (Kd.FK_slice_mk (Nat.le_refl _) (Kd.F_nil _ _ _)) (fun _ hk => hk.elim) (Nat.le_refl _) (od_) (Nat.le_trans (Nat.mul_le_mul_right _ (od_ : (l2.length : Int).toNat ≤ 11728124029610)) (by omega)) (Below.refl _ _) (Nat.le_refl _) ?_
                    intro v221 w52 ho53 hb hg_ hnew_
                    clear hg_ hnew_
                    (first | rw [← Ny220.out] at ho53 | (simp only [Int.reduceToNat] at ho53; rw [← Ny220.out] at ho53))
                    have n0_ := A_ (Kd.R_below (rk_ HO_9.out) hb)
                    have n1_ := A_ (Kd.N_lower (Kd.N_mono (ok' := fun k_ => some k_ ≠ (v209 : Value).ownBlock ∧ k_ ≠ gb204) ho53 (fun k_ hk_ => ⟨(Kd.fresh' (Kd.R_lt (rk_ HO_9.out)) k_ hk_), (Kd.freshB (g := gb204) (o := .cells #[.int .i64 a0_0, .slice A0_1 l0_1.length c0_1, .slice A0_2 l0_2.length c0_2] 25 (0, 0)) (pk_ BK204.out) k_ hk_)⟩)) (below_size (bk_ HB.out)))
                    have n2_ := A_ (blk_below (pk_ BK204.out) hb)
                    have n3_ := A_ (below_step (bk_ HB.out) hb)
                    clear HO_9 BK204 HB
                    have HO_9 := n0_
                    have HO222 := n1_
                    have BK204 := n2_
                    have HB := n3_
                    clear n0_ n1_ n2_ n3_ hb ho53
                    refine hK.out _ _ ⟨(blk_cell BK204.out 0).trans rfl, (blk_cell BK204.out 1).trans rfl, (blk_cell BK204.out 2).trans rfl⟩ (fun hHeld => ?_)
                    clear hK K
                    refine norm_ (a' := ?_) ?_ ?_
                    rotate_left
                    ·show Act.put _ (some 80) _ = _
                     simp only [Act.put, sa_, sz_, ss_, i64_w, i32_w]
                     rfl
                    exact norm_ (by first | (simp only [putAll, Act.put, List.setIfInBounds_toArray, List.set_cons_zero, List.set_cons_succ]; done) | (simp only [putAll, Act.put, List.setIfInBounds_toArray, List.set_cons_zero, List.set_cons_succ]; rfl)) (hJ4 (v221) _ ⟨hHeld, (by (with_reducible repeat (first | apply Kd.N_alloc | apply Kd.N_drewN | apply Kd.N_drew)); exact HO222.out), (rk_ HO_9.out), (pk_ BK204.out), (bk_ HB.out)⟩)
                   ·skip
                    refine Kd.R_make_step Kd.bool _ 4 (by rfl) (N := 83) rfl 23 _ _ rfl (l2.length : Int) rfl rfl Try.underlying23 (.bool false) 1 info4 rfl (by decide) (by omega) false (ok := fun _ => True) (okp := fun _ => True) rfl (fun _ hk => hk) trivial (od_) (Nat.le_trans (Nat.mul_le_mul_right _ (od_ : (l2.length : Int).toNat ≤ 281474976710656)) (by omega)) (Below.refl _ _) (Nat.le_refl _) ?_
                    intro v224 w52 ho53 hb hg_ hnew_
                    clear hg_ hnew_
                    (first | rw [← Ny223.out] at ho53 | (simp only [Int.reduceToNat] at ho53; rw [← Ny223.out] at ho53))
                    have n0_ := A_ (Kd.R_elder' (rk_ HO_9.out) (Kd.R_base ho53) hb)
                    have n1_ := A_ (Kd.R_lower (Kd.R_new' ho53 (Kd.R_lt (rk_ HO_9.out))) (below_size (bk_ HB.out)))
                    have n2_ := A_ (blk_below (pk_ BK204.out) hb)
                    have n3_ := A_ (below_step (bk_ HB.out) hb)
                    clear HO_9 BK204 HB
                    have HO_9 := n0_
                    have HO225 := n1_
                    have BK204 := n2_
                    have HB := n3_
                    clear n0_ n1_ n2_ n3_ hb ho53
                    refine hK.out _ _ ⟨(blk_cell BK204.out 0).trans rfl, (blk_cell BK204.out 1).trans rfl, (blk_cell BK204.out 2).trans rfl⟩ (fun hHeld => ?_)
                    clear hK K
                    refine norm_ (a' := ?_) ?_ ?_
                    rotate_left
                    ·show Act.put _ (some 83) _ = _
                     simp only [Act.put, sa_, sz_, ss_, i64_w, i32_w]
                     rfl
                    exact norm_ (by first | (simp only [putAll, Act.put, List.setIfInBounds_toArray, List.set_cons_zero, List.set_cons_succ]; done) | (simp only [putAll, Act.put, List.setIfInBounds_toArray, List.set_cons_zero, List.set_cons_succ]; rfl)) (hJ7 (v224) _ ⟨hHeld, (by (with_reducible repeat (first | apply Kd.R_alloc | apply Kd.R_drewN | apply Kd.R_drew)); exact Kd.R_mono HO225.out (fun _ hk => hk.2)), (by (with_reducible repeat (first | apply Kd.R_alloc | apply Kd.R_drewN | apply Kd.R_drew)); exact Kd.R_mono HO_9.out (fun _ hk => hk.2)), (pk_ BK204.out), (bk_ HB.out)⟩)
                   ·skip
                    refine box_step ?hg (N := 11) ?hd (cs := #[.int .i64 0, .slice none 0 0, .slice none 0 0]) (t := 25) ?hr ?_; (case hd => rfl); (case hg => rfl); (case hr => first | (go_simp; done) | (go_simp; rfl))
                    intro gb226 hg w52 hbox hb
                    have n0_ := A_ (Kd.R_below (rk_ HO_9.out) hb)
                    have n1_ := A_ (blk_below (pk_ BK204.out) hb)
                    have n2_ := A_ (below_step (bk_ HB.out) hb)
                    have n3_ := A_ (hbox)
                    have n4_ := A_ ((by rw [hg]; exact (below_size (bk_ HB.out)) : w.heap.size ≤ gb226))
                    have n5_ := A_ ((by rw [hg]; exact (below_size (bk_ HB.out)) : w.heap.size ≤ gb226))
                    have n6_ := A_ ((by rw [hg]; exact Nat.ne_of_lt (blk_lt (pk_ BK204.out)) : gb204 ≠ gb226))
                    have n7_ := A_ ((by rw [hg]; exact Nat.ne_of_gt (blk_lt (pk_ BK204.out)) : gb226 ≠ gb204))
                    clear HO_9 BK204 HB
                    have HO_9 := n0_
                    have BK204 := n1_
                    have HB := n2_
                    have BK226 := n3_
                    have GW226 := n4_
                    have GE226 := n5_
                    have NB204_226 := n6_
                    have NB226_204 := n7_
                    clear n0_ n1_ n2_ n3_ n4_ n5_ n6_ n7_ hb hbox hg
                    refine hK.out _ _ ⟨(blk_cell BK204.out 0).trans rfl, (blk_cell BK204.out 1).trans rfl, (blk_cell BK204.out 2).trans rfl⟩ (fun hHeld => ?_)
                    clear hK K
                    refine norm_ (a' := ?_) ?_ ?_
                    rotate_left
                    ·show Act.put _ (some 11) _ = _
                     simp only [Act.put, sa_, sz_, ss_, i64_w, i32_w]
                     rfl
                    exact norm_ (by first | (simp only [putAll, Act.put, List.setIfInBounds_toArray, List.set_cons_zero, List.set_cons_succ]; done) | (simp only [putAll, Act.put, List.setIfInBounds_toArray, List.set_cons_zero, List.set_cons_succ]; rfl)) (hJ9 (gb226) _ ⟨hHeld, (rk_ HO_9.out), (pk_ BK204.out), (pk_ BK226.out), GW226.out, GE226.out, NB204_226.out, NB226_204.out, (bk_ HB.out)⟩)
                  ·skip
                   rintro gb226 w53 ⟨hS_, h0_, h1_, h2_, h3_, h4_, h5_, h6_, h7_⟩
                   have n0_ : Aside0 (Kd.R Kd.bool 4 w53 w.heap.size (fun _ => True) v209 x9_2) := ⟨h0_⟩
                   have n1_ : Aside0 (w53.heap[gb204]? = some (.cells #[.int .i64 a0_0, .slice A0_1 l0_1.length c0_1, .slice A0_2 l0_2.length c0_2] 25 (0, 0))) := ⟨h1_⟩
                   have n2_ : Aside0 (w53.heap[gb226]? = some (.cells #[.int .i64 0, .slice none 0 0, .slice none 0 0] 25 (0, 0))) := ⟨h2_⟩
                   have n3_ : Aside0 (w.heap.size ≤ gb226) := ⟨h3_⟩
                   have n4_ : Aside0 (w.heap.size ≤ gb226) := ⟨h4_⟩
                   have n5_ : Aside0 (gb204 ≠ gb226) := ⟨h5_⟩
                   have n6_ : Aside0 (gb226 ≠ gb204) := ⟨h6_⟩
                   have n7_ : Aside0 (Below w.heap.size w w53) := ⟨h7_⟩
                   clear HO_9 BK204 HB h0_ h1_ h2_ h3_ h4_ h5_ h6_ h7_
                   have HO_9 := n0_
                   have BK204 := n1_
                   have BK226 := n2_
                   have GW226 := n3_
                   have GE226 := n4_
                   have NB204_226 := n5_
                   have NB226_204 := n6_
                   have HB := n7_
                   clear n0_ n1_ n2_ n3_ n4_ n5_ n6_ n7_
                   have hHeld : w53.cell? ⟨gb204, 0, none⟩ = some (.int .i64 a0_0) ∧ w53.cell? ⟨gb204, 1, none⟩ = some (.slice A0_1 l0_1.length c0_1) ∧ w53.cell? ⟨gb204, 2, none⟩ = some (.slice A0_2 l0_2.length c0_2) := hS_
                   refine norm_ (a' := ?_) ?_ ?_
                   rotate_left
                   ·simp only [putAll, Act.put, List.setIfInBounds_toArray, List.set_cons_zero, List.set_cons_succ]
                    rfl
                   refine two_ (i := 4) (j := 7) (Ni := some 80) (Nj := some 83) #[true, true, true, true, true, true, true, false, false, true, false] #[true, true, true, true, false, true, true, true, false, true, false] rfl rfl rfl rfl (two_of HT_.out (by kernel_rfl)) (by decide) (by decide) (fun K hK => ?_) (fun K hK => ?_)
                   ·skip
                    refine Kd.N_make_step (Kd.slice 3 (Kd.int .i64)) _ 26 (by rfl) (N' := 80) rfl 22 _ _ rfl (l2.length : Int) rfl rfl Try.underlying22 (.slice none 0 0) 24 info26 rfl (by decide) (by omega) [] (ok := fun k_ => w53.heap.size ≤ k_) (okp := fun _ => False) (Kd.FK_slice_mk (Nat.le_refl _) (Kd.F_nil _ _ _)) (fun _ hk => hk.elim) (Nat.le_refl _) (od_) (Nat.le_trans (Nat.mul_le_mul_right _ (od_ : (l2.length : Int).toNat ≤ 11728124029610)) (by omega)) (Below.refl _ _) (Nat.le_refl _) ?_
                    intro v221 w54 ho55 hb hg_ hnew_
                    clear hg_ hnew_
                    (first | rw [← Ny220.out] at ho55 | (simp only [Int.reduceToNat] at ho55; rw [← Ny220.out] at ho55))
                    have n0_ := A_ (Kd.R_below (rk_ HO_9.out) hb)
                    have n1_ := A_ (Kd.N_lower (Kd.N_mono (ok' := fun k_ => some k_ ≠ (v209 : Value).ownBlock ∧ k_ ≠ gb204 ∧ k_ ≠ gb226) ho55 (fun k_ hk_ => ⟨(Kd.fresh' (Kd.R_lt (rk_ HO_9.out)) k_ hk_), (Kd.freshB (g := gb204) (o := .cells #[.int .i64 a0_0, .slice A0_1 l0_1.length c0_1, .slice A0_2 l0_2.length c0_2] 25 (0, 0)) (pk_ BK204.out) k_ hk_), (Kd.freshB (g := gb226) (o := .cells #[.int .i64 0, .slice none 0 0, .slice none 0 0] 25 (0, 0)) (pk_ BK226.out) k_ hk_)⟩)) (below_size (bk_ HB.out)))
                    have n2_ := A_ (blk_below (pk_ BK204.out) hb)
                    have n3_ := A_ (blk_below (pk_ BK226.out) hb)
                    have n4_ := A_ (below_step (bk_ HB.out) hb)
                    clear HO_9 BK204 BK226 HB
                    have HO_9 := n0_
                    have HO222 := n1_
                    have BK204 := n2_
                    have BK226 := n3_
                    have HB := n4_
                    clear n0_ n1_ n2_ n3_ n4_ hb ho55
                    refine hK.out _ _ ⟨(blk_cell BK204.out 0).trans rfl, (blk_cell BK204.out 1).trans rfl, (blk_cell BK204.out 2).trans rfl⟩ (fun hHeld => ?_)
                    clear hK K
                    refine norm_ (a' := ?_) ?_ ?_
                    rotate_left
                    ·show Act.put _ (some 80) _ = _
                     simp only [Act.put, sa_, sz_, ss_, i64_w, i32_w]
                     rfl
                    exact norm_ (by first | (simp only [putAll, Act.put, List.setIfInBounds_toArray, List.set_cons_zero, List.set_cons_succ]; done) | (simp only [putAll, Act.put, List.setIfInBounds_toArray, List.set_cons_zero, List.set_cons_succ]; rfl)) (hJ4_9 (v221, gb226) _ ⟨hHeld, (by (with_reducible repeat (first | apply Kd.N_alloc | apply Kd.N_drewN | apply Kd.N_drew)); exact HO222.out), (rk_ HO_9.out), (pk_ BK204.out), (pk_ BK226.out), GW226.out, GE226.out, NB204_226.out, NB226_204.out, (bk_ HB.out)⟩)
                   ·skip
                    refine Kd.R_make_step Kd.bool _ 4 (by rfl) (N := 83) rfl 23 _ _ rfl (l2.length : Int) rfl rfl Try.underlying23 (.bool false) 1 info4 rfl (by decide) (by omega) false (ok := fun _ => True) (okp := fun _ => True) rfl (fun _ hk => hk) trivial (od_) (Nat.le_trans (Nat.mul_le_mul_right _ (od_ : (l2.length : Int).toNat ≤ 281474976710656)) (by omega)) (Below.refl _ _) (Nat.le_refl _) ?_
                    intro v224 w54 ho55 hb hg_ hnew_
                    clear hg_ hnew_
                    (first | rw [← Ny223.out] at ho55 | (simp only [Int.reduceToNat] at ho55; rw [← Ny223.out] at ho55))
                    have n0_ := A_ (Kd.R_elder' (rk_ HO_9.out) (Kd.R_base ho55) hb)
                    have n1_ := A_ (Kd.R_lower (Kd.R_new' ho55 (Kd.R_lt (rk_ HO_9.out))) (below_size (bk_ HB.out)))
                    have n2_ := A_ (blk_below (pk_ BK204.out) hb)
                    have n3_ := A_ (blk_below (pk_ BK226.out) hb)
                    have n4_ := A_ (below_step (bk_ HB.out) hb)
                    clear HO_9 BK204 BK226 HB
                    have HO_9 := n0_
                    have HO225 := n1_
                    have BK204 := n2_
                    have BK226 := n3_
                    have HB := n4_
                    clear n0_ n1_ n2_ n3_ n4_ hb ho55
                    refine hK.out _ _ ⟨(blk_cell BK204.out 0).trans rfl, (blk_cell BK204.out 1).trans rfl, (blk_cell BK204.out 2).trans rfl⟩ (fun hHeld => ?_)
                    clear hK K
                    refine norm_ (a' := ?_) ?_ ?_
                    rotate_left
                    ·show Act.put _ (some 83) _ = _
                     simp only [Act.put, sa_, sz_, ss_, i64_w, i32_w]
                     rfl
                    exact norm_ (by first | (simp only [putAll, Act.put, List.setIfInBounds_toArray, List.set_cons_zero, List.set_cons_succ]; done) | (simp only [putAll, Act.put, List.setIfInBounds_toArray, List.set_cons_zero, List.set_cons_succ]; rfl)) (hJ7_9 (v224, gb226) _ ⟨hHeld, (by (with_reducible repeat (first | apply Kd.R_alloc | apply Kd.R_drewN | apply Kd.R_drew)); exact Kd.R_mono HO225.out (fun _ hk => hk.2)), (by (with_reducible repeat (first | apply Kd.R_alloc | apply Kd.R_drewN | apply Kd.R_drew)); exact Kd.R_mono HO_9.out (fun _ hk => hk.2)), (pk_ BK204.out), (pk_ BK226.out), GW226.out, GE226.out, NB204_226.out, NB226_204.out, (bk_ HB.out)⟩)
                 ·skip
                  rintro v224 w54 ⟨hS_, h0_, h1_, h2_, h3_⟩
                  have n0_ : Aside0 (Kd.R Kd.bool 4 w54 w.heap.size (fun k_ => some k_ ≠ (v209 : Value).ownBlock) v224 y223) := ⟨h0_⟩
                  have n1_ : Aside0 (Kd.R Kd.bool 4 w54 w.heap.size (fun k_ => some k_ ≠ (v224 : Value).ownBlock) v209 x9_2) := ⟨h1_⟩
                  have n2_ : Aside0 (w54.heap[gb204]? = some (.cells #[.int .i64 a0_0, .slice A0_1 l0_1.length c0_1, .slice A0_2 l0_2.length c0_2] 25 (0, 0))) := ⟨h2_⟩
                  have n3_ : Aside0 (Below w.heap.size w w54) := ⟨h3_⟩
                  clear HO_9 BK204 HB h0_ h1_ h2_ h3_
                  have HO225 := n0_
                  have HO_9 := n1_
                  have BK204 := n2_
                  have HB := n3_
                  clear n0_ n1_ n2_ n3_
                  have hHeld : w54.cell? ⟨gb204, 0, none⟩ = some (.int .i64 a0_0) ∧ w54.cell? ⟨gb204, 1, none⟩ = some (.slice A0_1 l0_1.length c0_1) ∧ w54.cell? ⟨gb204, 2, none⟩ = some (.slice A0_2 l0_2.length c0_2) := hS_
                  refine norm_ (a' := ?_) ?_ ?_
                  rotate_left
                  ·simp only [putAll, Act.put, List.setIfInBounds_toArray, List.set_cons_zero, List.set_cons_succ]
                   rfl
                  refine two_ (i := 4) (j := 9) (Ni := some 80) (Nj := some 11) #[true, true, true, true, true, true, true, true, false, false, false] #[true, true, true, true, false, true, true, true, false, true, false] rfl rfl rfl rfl (two_of HT_.out (by kernel_rfl)) (by decide) (by decide) (fun K hK => ?_) (fun K hK => ?_)
                  ·skip
                   refine Kd.N_make_step (Kd.slice 3 (Kd.int .i64)) _ 26 (by rfl) (N' := 80) rfl 22 _ _ rfl (l2.length : Int) rfl rfl Try.underlying22 (.slice none 0 0) 24 info26 rfl (by decide) (by omega) [] (ok := fun k_ => w54.heap.size ≤ k_) (okp := fun _ => False) (Kd.FK_slice_mk (Nat.le_refl _) (Kd.F_nil _ _ _)) (fun _ hk => hk.elim) (Nat.le_refl _) (od_) (Nat.le_trans (Nat.mul_le_mul_right _ (od_ : (l2.length : Int).toNat ≤ 11728124029610)) (by omega)) (Below.refl _ _) (Nat.le_refl _) ?_
                   intro v221 w55 ho56 hb hg_ hnew_
                   clear hg_ hnew_
                   (first | rw [← Ny220.out] at ho56 | (simp only [Int.reduceToNat] at ho56; rw [← Ny220.out] at ho56))
                   have n0_ := A_ (Kd.R_below (rk_ HO_9.out) hb)
                   have n1_ := A_ (Kd.R_below (rk_ HO225.out) hb)
                   have n2_ := A_ (Kd.N_lower (Kd.N_mono (ok' := fun k_ => some k_ ≠ (v209 : Value).ownBlock ∧ some k_ ≠ (v224 : Value).ownBlock ∧ k_ ≠ gb204) ho56 (fun k_ hk_ => ⟨(Kd.fresh' (Kd.R_lt (rk_ HO_9.out)) k_ hk_), (Kd.fresh' (Kd.R_lt (rk_ HO225.out)) k_ hk_), (Kd.freshB (g := gb204) (o := .cells #[.int .i64 a0_0, .slice A0_1 l0_1.length c0_1, .slice A0_2 l0_2.length c0_2] 25 (0, 0)) (pk_ BK204.out) k_ hk_)⟩)) (below_size (bk_ HB.out)))
                   have n3_ := A_ (blk_below (pk_ BK204.out) hb)
                   have n4_ := A_ (below_step (bk_ HB.out) hb)
                   clear HO_9 HO225 BK204 HB
                   have HO_9 := n0_
                   have HO225 := n1_
                   have HO222 := n2_
                   have BK204 := n3_
                   have HB := n4_
                   clear n0_ n1_ n2_ n3_ n4_ hb ho56
                   obtain ⟨Ao57, co57, eo57⟩ := Kd.R_slice HO225.out
                   (first | subst eo57 | (injection eo57 with f1_ f2_ f3_; have f4_ := f1_.symm; have f5_ := f3_.symm; clear f1_ f2_ f3_; subst f4_; subst f5_))
                   obtain ⟨Ao58, co58, eo58⟩ := Kd.N_slice HO222.out
                   (first | subst eo58 | (injection eo58 with f1_ f2_ f3_; have f4_ := f1_.symm; have f5_ := f3_.symm; clear f1_ f2_ f3_; subst f4_; subst f5_))
                   refine hK.out _ _ ⟨(blk_cell BK204.out 0).trans rfl, (blk_cell BK204.out 1).trans rfl, (blk_cell BK204.out 2).trans rfl⟩ (fun hHeld => ?_)
                   clear hK K
                   refine norm_ (a' := ?_) ?_ ?_
                   rotate_left
                   ·show Act.put _ (some 80) _ = _
                    simp only [Act.put, sa_, sz_, ss_, i64_w, i32_w]
                    rfl
                   refine pure_ (i := 8) (N := some 84) (v := ?_) (a' := ?_) #[true, true, true, true, true, true, true, true, true, false, false] rfl rfl (any_of HT_.out (by kernel_rfl)) (fun _ _ _ h => h) (Or.inl ⟨by rfl, ?_⟩) ?_ ?_
                   rotate_left
                   ·intro w'
                    go_simp
                    with_reducible rfl
                   rotate_left
                   ·simp only [Act.put, sa_, sz_, ss_, i64_w, i32_w]
                    rfl
                   exact norm_ (by first | (simp only [putAll, Act.put, List.setIfInBounds_toArray, List.set_cons_zero, List.set_cons_succ]; done) | (simp only [putAll, Act.put, List.setIfInBounds_toArray, List.set_cons_zero, List.set_cons_succ]; rfl)) (hJ4_7 (.slice Ao58 y220.length co58, .slice Ao57 y223.length co57) _ ⟨hHeld, (by (with_reducible repeat (first | apply Kd.N_alloc | apply Kd.N_drewN | apply Kd.N_drew)); exact Kd.N_mono HO222.out (fun _ hk => ⟨hk.2.1, ⟨hk.1, hk.2.2⟩⟩)), (rk_ HO225.out), (rk_ HO_9.out), (pk_ BK204.out), (bk_ HB.out)⟩)
                  ·skip
                   refine box_step ?hg (N := 11) ?hd (cs := #[.int .i64 0, .slice none 0 0, .slice none 0 0]) (t := 25) ?hr ?_; (case hd => rfl); (case hg => rfl); (case hr => first | (go_simp; done) | (go_simp; rfl))
                   intro gb226 hg w55 hbox hb
                   have n0_ := A_ (Kd.R_below (rk_ HO_9.out) hb)
                   have n1_ := A_ (Kd.R_below (rk_ HO225.out) hb)
                   have n2_ := A_ (blk_below (pk_ BK204.out) hb)
                   have n3_ := A_ (below_step (bk_ HB.out) hb)
                   have n4_ := A_ (hbox)
                   have n5_ := A_ ((by rw [hg]; exact (below_size (bk_ HB.out)) : w.heap.size ≤ gb226))
                   have n6_ := A_ ((by rw [hg]; exact (below_size (bk_ HB.out)) : w.heap.size ≤ gb226))
                   have n7_ := A_ ((by rw [hg]; exact Nat.ne_of_lt (blk_lt (pk_ BK204.out)) : gb204 ≠ gb226))
                   have n8_ := A_ ((by rw [hg]; exact Nat.ne_of_gt (blk_lt (pk_ BK204.out)) : gb226 ≠ gb204))
                   clear HO_9 HO225 BK204 HB
                   have HO_9 := n0_
                   have HO225 := n1_
                   have BK204 := n2_
                   have HB := n3_
                   have BK226 := n4_
                   have GW226 := n5_
                   have GE226 := n6_
                   have NB204_226 := n7_
                   have NB226_204 := n8_
                   clear n0_ n1_ n2_ n3_ n4_ n5_ n6_ n7_ n8_ hb hbox hg
                   refine hK.out _ _ ⟨(blk_cell BK204.out 0).trans rfl, (blk_cell BK204.out 1).trans rfl, (blk_cell BK204.out 2).trans rfl⟩ (fun hHeld => ?_)
                   clear hK K
                   refine norm_ (a' := ?_) ?_ ?_
                   rotate_left
                   ·show Act.put _ (some 11) _ = _
                    simp only [Act.put, sa_, sz_, ss_, i64_w, i32_w]
                    rfl
                   exact norm_ (by first | (simp only [putAll, Act.put, List.setIfInBounds_toArray, List.set_cons_zero, List.set_cons_succ]; done) | (simp only [putAll, Act.put, List.setIfInBounds_toArray, List.set_cons_zero, List.set_cons_succ]; rfl)) (hJ7_9 (v224, gb226) _ ⟨hHeld, (rk_ HO225.out), (rk_ HO_9.out), (pk_ BK204.out), (pk_ BK226.out), GW226.out, GE226.out, NB204_226.out, NB226_204.out, (bk_ HB.out)⟩)
                ·skip
                 rintro v221 w54 ⟨hS_, h0_, h1_, h2_, h3_⟩
                 have n0_ : Aside0 (Kd.N (Kd.slice 3 (Kd.int .i64)) 26 w54 w.heap.size (fun k_ => some k_ ≠ (v209 : Value).ownBlock ∧ k_ ≠ gb204) v221 y220) := ⟨h0_⟩
                 have n1_ : Aside0 (Kd.R Kd.bool 4 w54 w.heap.size (fun _ => True) v209 x9_2) := ⟨h1_⟩
                 have n2_ : Aside0 (w54.heap[gb204]? = some (.cells #[.int .i64 a0_0, .slice A0_1 l0_1.length c0_1, .slice A0_2 l0_2.length c0_2] 25 (0, 0))) := ⟨h2_⟩
                 have n3_ : Aside0 (Below w.heap.size w w54) := ⟨h3_⟩
                 clear HO_9 BK204 HB h0_ h1_ h2_ h3_
                 have HO222 := n0_
                 have HO_9 := n1_
                 have BK204 := n2_
                 have HB := n3_
                 clear n0_ n1_ n2_ n3_
                 have hHeld : w54.cell? ⟨gb204, 0, none⟩ = some (.int .i64 a0_0) ∧ w54.cell? ⟨gb204, 1, none⟩ = some (.slice A0_1 l0_1.length c0_1) ∧ w54.cell? ⟨gb204, 2, none⟩ = some (.slice A0_2 l0_2.length c0_2) := hS_
                 refine norm_ (a' := ?_) ?_ ?_
                 rotate_left
                 ·simp only [putAll, Act.put, List.setIfInBounds_toArray, List.set_cons_zero, List.set_cons_succ]
                  rfl
                 refine two_ (i := 7) (j := 9) (Ni := some 83) (Nj := some 11) #[true, true, true, true, true, true, true, true, false, false, false] #[true, true, true, true, true, true, true, false, false, true, false] rfl rfl rfl rfl (two_of HT_.out (by kernel_rfl)) (by decide) (by decide) (fun K hK => ?_) (fun K hK => ?_)
                 ·skip
                  refine Kd.R_make_step Kd.bool _ 4 (by rfl) (N := 83) rfl 23 _ _ rfl (l2.length : Int) rfl rfl Try.underlying23 (.bool false) 1 info4 rfl (by decide) (by omega) false (ok := fun _ => True) (okp := fun _ => True) rfl (fun _ hk => hk) trivial (od_) (Nat.le_trans (Nat.mul_le_mul_right _ (od_ : (l2.length : Int).toNat ≤ 281474976710656)) (by omega)) (Below.refl _ _) (Nat.le_refl _) ?_
                  intro v224 w55 ho56 hb hg_ hnew_
                  clear hg_ hnew_
                  (first | rw [← Ny223.out] at ho56 | (simp only [Int.reduceToNat] at ho56; rw [← Ny223.out] at ho56))
                  have n0_ := A_ (Kd.R_elder' (rk_ HO_9.out) (Kd.R_base ho56) hb)
                  have n1_ := A_ (Kd.N_elder' (by (with_reducible repeat (first | apply Kd.N_alloc | apply Kd.N_drewN | apply Kd.N_drew)); exact HO222.out) (Kd.R_base ho56) hb)
                  have n2_ := A_ (Kd.R_lower (Kd.R_new' ho56 (Kd.R_lt (rk_ HO_9.out))) (below_size (bk_ HB.out)))
                  have n3_ := A_ (blk_below (pk_ BK204.out) hb)
                  have n4_ := A_ (below_step (bk_ HB.out) hb)
                  clear HO_9 HO222 BK204 HB
                  have HO_9 := n0_
                  have HO222 := n1_
                  have HO225 := n2_
                  have BK204 := n3_
                  have HB := n4_
                  clear n0_ n1_ n2_ n3_ n4_ hb ho56
                  obtain ⟨Ao57, co57, eo57⟩ := Kd.R_slice HO225.out
                  (first | subst eo57 | (injection eo57 with f1_ f2_ f3_; have f4_ := f1_.symm; have f5_ := f3_.symm; clear f1_ f2_ f3_; subst f4_; subst f5_))
                  obtain ⟨Ao58, co58, eo58⟩ := Kd.N_slice HO222.out
                  (first | subst eo58 | (injection eo58 with f1_ f2_ f3_; have f4_ := f1_.symm; have f5_ := f3_.symm; clear f1_ f2_ f3_; subst f4_; subst f5_))
                  refine hK.out _ _ ⟨(blk_cell BK204.out 0).trans rfl, (blk_cell BK204.out 1).trans rfl, (blk_cell BK204.out 2).trans rfl⟩ (fun hHeld => ?_)
                  clear hK K
                  refine norm_ (a' := ?_) ?_ ?_
                  rotate_left
                  ·show Act.put _ (some 83) _ = _
                   simp only [Act.put, sa_, sz_, ss_, i64_w, i32_w]
                   rfl
                  refine pure_ (i := 8) (N := some 84) (v := ?_) (a' := ?_) #[true, true, true, true, true, true, true, true, true, false, false] rfl rfl (any_of HT_.out (by kernel_rfl)) (fun _ _ _ h => h) (Or.inl ⟨by rfl, ?_⟩) ?_ ?_
                  rotate_left
                  ·intro w'
                   go_simp
                   with_reducible rfl
                  rotate_left
                  ·simp only [Act.put, sa_, sz_, ss_, i64_w, i32_w]
                   rfl
                  exact norm_ (by first | (simp only [putAll, Act.put, List.setIfInBounds_toArray, List.set_cons_zero, List.set_cons_succ]; done) | (simp only [putAll, Act.put, List.setIfInBounds_toArray, List.set_cons_zero, List.set_cons_succ]; rfl)) (hJ4_7 (.slice Ao58 y220.length co58, .slice Ao57 y223.length co57) _ ⟨hHeld, (by (with_reducible repeat (first | apply Kd.N_alloc | apply Kd.N_drewN | apply Kd.N_drew)); exact Kd.N_mono HO222.out (fun _ hk => ⟨hk.2, ⟨hk.1.1, hk.1.2⟩⟩)), (by (with_reducible repeat (first | apply Kd.R_alloc | apply Kd.R_drewN | apply Kd.R_drew)); exact Kd.R_mono HO225.out (fun _ hk => hk.2)), (by (with_reducible repeat (first | apply Kd.R_alloc | apply Kd.R_drewN | apply Kd.R_drew)); exact Kd.R_mono HO_9.out (fun _ hk => hk.2)), (pk_ BK204.out), (bk_ HB.out)⟩)
                 ·skip
                  refine box_step ?hg (N := 11) ?hd (cs := #[.int .i64 0, .slice none 0 0, .slice none 0 0]) (t := 25) ?hr ?_; (case hd => rfl); (case hg => rfl); (case hr => first | (go_simp; done) | (go_simp; rfl))
                  intro gb226 hg w55 hbox hb
                  have n0_ := A_ (Kd.R_below (rk_ HO_9.out) hb)
                  have n1_ := A_ (Kd.N_below (Kd.N_elderB (by (with_reducible repeat (first | apply Kd.N_alloc | apply Kd.N_drewN | apply Kd.N_drew)); exact HO222.out) gb226 (Nat.le_of_eq hg.symm)) hb)
                  have n2_ := A_ (blk_below (pk_ BK204.out) hb)
                  have n3_ := A_ (below_step (bk_ HB.out) hb)
                  have n4_ := A_ (hbox)
                  have n5_ := A_ ((by rw [hg]; exact (below_size (bk_ HB.out)) : w.heap.size ≤ gb226))
                  have n6_ := A_ ((by rw [hg]; exact (below_size (bk_ HB.out)) : w.heap.size ≤ gb226))
                  have n7_ := A_ ((by rw [hg]; exact Nat.ne_of_lt (blk_lt (pk_ BK204.out)) : gb204 ≠ gb226))
                  have n8_ := A_ ((by rw [hg]; exact Nat.ne_of_gt (blk_lt (pk_ BK204.out)) : gb226 ≠ gb204))
                  clear HO_9 HO222 BK204 HB
                  have HO_9 := n0_
                  have HO222 := n1_
                  have BK204 := n2_
                  have HB := n3_
                  have BK226 := n4_
                  have GW226 := n5_
                  have GE226 := n6_
                  have NB204_226 := n7_
                  have NB226_204 := n8_
                  clear n0_ n1_ n2_ n3_ n4_ n5_ n6_ n7_ n8_ hb hbox hg
                  refine hK.out _ _ ⟨(blk_cell BK204.out 0).trans rfl, (blk_cell BK204.out 1).trans rfl, (blk_cell BK204.out 2).trans rfl⟩ (fun hHeld => ?_)
                  clear hK K
                  refine norm_ (a' := ?_) ?_ ?_
                  rotate_left
                  ·show Act.put _ (some 11) _ = _
                   simp only [Act.put, sa_, sz_, ss_, i64_w, i32_w]
                   rfl
                  exact norm_ (by first | (simp only [putAll, Act.put, List.setIfInBounds_toArray, List.set_cons_zero, List.set_cons_succ]; done) | (simp only [putAll, Act.put, List.setIfInBounds_toArray, List.set_cons_zero, List.set_cons_succ]; rfl)) (hJ4_9 (v221, gb226) _ ⟨hHeld, (by (with_reducible repeat (first | apply Kd.N_alloc | apply Kd.N_drewN | apply Kd.N_drew)); exact Kd.N_mono HO222.out (fun _ hk => ⟨hk.1.1, ⟨hk.1.2, hk.2⟩⟩)), (rk_ HO_9.out), (pk_ BK204.out), (pk_ BK226.out), GW226.out, GE226.out, NB204_226.out, NB226_204.out, (bk_ HB.out)⟩)
               ·skip
                rintro ⟨v224, gb226⟩ w55 ⟨hS_, h0_, h1_, h2_, h3_, h4_, h5_, h6_, h7_, h8_⟩
                have n0_ : Aside0 (Kd.R Kd.bool 4 w55 w.heap.size (fun k_ => some k_ ≠ (v209 : Value).ownBlock) v224 y223) := ⟨h0_⟩
                have n1_ : Aside0 (Kd.R Kd.bool 4 w55 w.heap.size (fun k_ => some k_ ≠ (v224 : Value).ownBlock) v209 x9_2) := ⟨h1_⟩
                have n2_ : Aside0 (w55.heap[gb204]? = some (.cells #[.int .i64 a0_0, .slice A0_1 l0_1.length c0_1, .slice A0_2 l0_2.length c0_2] 25 (0, 0))) := ⟨h2_⟩
                have n3_ : Aside0 (w55.heap[gb226]? = some (.cells #[.int .i64 0, .slice none 0 0, .slice none 0 0] 25 (0, 0))) := ⟨h3_⟩
                have n4_ : Aside0 (w.heap.size ≤ gb226) := ⟨h4_⟩
                have n5_ : Aside0 (w.heap.size ≤ gb226) := ⟨h5_⟩
                have n6_ : Aside0 (gb204 ≠ gb226) := ⟨h6_⟩
                have n7_ : Aside0 (gb226 ≠ gb204) := ⟨h7_⟩
                have n8_ : Aside0 (Below w.heap.size w w55) := ⟨h8_⟩
                clear HO_9 BK204 HB h0_ h1_ h2_ h3_ h4_ h5_ h6_ h7_ h8_
                have HO225 := n0_
                have HO_9 := n1_
                have BK204 := n2_
                have BK226 := n3_
                have GW226 := n4_
                have GE226 := n5_
                have NB204_226 := n6_
                have NB226_204 := n7_
                have HB := n8_
                clear n0_ n1_ n2_ n3_ n4_ n5_ n6_ n7_ n8_
                have hHeld : w55.cell? ⟨gb204, 0, none⟩ = some (.int .i64 a0_0) ∧ w55.cell? ⟨gb204, 1, none⟩ = some (.slice A0_1 l0_1.length c0_1) ∧ w55.cell? ⟨gb204, 2, none⟩ = some (.slice A0_2 l0_2.length c0_2) := hS_
                refine norm_ (a' := ?_) ?_ ?_
                rotate_left
                ·simp only [putAll, Act.put, List.setIfInBounds_toArray, List.set_cons_zero, List.set_cons_succ]
                 rfl
                refine one_ (i := 4) (N := some 80) #[true, true, true, true, true, true, true, true, false, true, false] rfl rfl (one_of HT_.out (by kernel_rfl)) (by decide) (fun K hK => ?_)
                refine Kd.N_make_step (Kd.slice 3 (Kd.int .i64)) _ 26 (by rfl) (N' := 80) rfl 22 _ _ rfl (l2.length : Int) rfl rfl Try.underlying22 (.slice none 0 0) 24 info26 rfl (by decide) (by omega) [] (ok := fun k_ => w55.heap.size ≤ k_) (okp := fun _ => False) (Kd.FK_slice_mk (Nat.le_refl _) (Kd.F_nil _ _ _)) (fun _ hk => hk.elim) (Nat.le_refl _) (od_) (Nat.le_trans (Nat.mul_le_mul_right _ (od_ : (l2.length : Int).toNat ≤ 11728124029610)) (by omega)) (Below.refl _ _) (Nat.le_refl _) ?_
                intro v221 w56 ho57 hb hg_ hnew_
                clear hg_ hnew_
                (first | rw [← Ny220.out] at ho57 | (simp only [Int.reduceToNat] at ho57; rw [← Ny220.out] at ho57))
                have n0_ := A_ (Kd.R_below (rk_ HO_9.out) hb)
                have n1_ := A_ (Kd.R_below (rk_ HO225.out) hb)
                have n2_ := A_ (Kd.N_lower (Kd.N_mono (ok' := fun k_ => some k_ ≠ (v209 : Value).ownBlock ∧ some k_ ≠ (v224 : Value).ownBlock ∧ k_ ≠ gb204 ∧ k_ ≠ gb226) ho57 (fun k_ hk_ => ⟨(Kd.fresh' (Kd.R_lt (rk_ HO_9.out)) k_ hk_), (Kd.fresh' (Kd.R_lt (rk_ HO225.out)) k_ hk_), (Kd.freshB (g := gb204) (o := .cells #[.int .i64 a0_0, .slice A0_1 l0_1.length c0_1, .slice A0_2 l0_2.length c0_2] 25 (0, 0)) (pk_ BK204.out) k_ hk_), (Kd.freshB (g := gb226) (o := .cells #[.int .i64 0, .slice none 0 0, .slice none 0 0] 25 (0, 0)) (pk_ BK226.out) k_ hk_)⟩)) (below_size (bk_ HB.out)))
                have n3_ := A_ (blk_below (pk_ BK204.out) hb)
                have n4_ := A_ (blk_below (pk_ BK226.out) hb)
                have n5_ := A_ (below_step (bk_ HB.out) hb)
                clear HO_9 HO225 BK204 BK226 HB
                have HO_9 := n0_
                have HO225 := n1_
                have HO222 := n2_
                have BK204 := n3_
                have BK226 := n4_
                have HB := n5_
                clear n0_ n1_ n2_ n3_ n4_ n5_ hb ho57
                obtain ⟨Ao58, co58, eo58⟩ := Kd.R_slice HO225.out
                (first | subst eo58 | (injection eo58 with f1_ f2_ f3_; have f4_ := f1_.symm; have f5_ := f3_.symm; clear f1_ f2_ f3_; subst f4_; subst f5_))
                obtain ⟨Ao59, co59, eo59⟩ := Kd.N_slice HO222.out
                (first | subst eo59 | (injection eo59 with f1_ f2_ f3_; have f4_ := f1_.symm; have f5_ := f3_.symm; clear f1_ f2_ f3_; subst f4_; subst f5_))
                refine hK.out _ _ ⟨(blk_cell BK204.out 0).trans rfl, (blk_cell BK204.out 1).trans rfl, (blk_cell BK204.out 2).trans rfl⟩ (fun hHeld => ?_)
                clear hK K
                refine norm_ (a' := ?_) ?_ ?_
                rotate_left
                ·show Act.put _ (some 80) _ = _
                 simp only [Act.put, sa_, sz_, ss_, i64_w, i32_w]
                 rfl
                refine pure_ (i := 8) (N := some 84) (v := ?_) (a' := ?_) #[true, true, true, true, true, true, true, true, true, true, false] rfl rfl (any_of HT_.out (by kernel_rfl)) (fun _ _ _ h => h) (Or.inl ⟨by rfl, ?_⟩) ?_ ?_
                rotate_left
                ·intro w'
                 go_simp
                 with_reducible rfl
                rotate_left
                ·simp only [Act.put, sa_, sz_, ss_, i64_w, i32_w]
                 rfl
                exact norm_ (by first | (simp only [putAll, Act.put, List.setIfInBounds_toArray, List.set_cons_zero, List.set_cons_succ]; done) | (simp only [putAll, Act.put, List.setIfInBounds_toArray, List.set_cons_zero, List.set_cons_succ]; rfl)) (hJ4_7_9 (.slice Ao59 y220.length co59, .slice Ao58 y223.length co58, gb226) _ ⟨hHeld, (by (with_reducible repeat (first | apply Kd.N_alloc | apply Kd.N_drewN | apply Kd.N_drew)); exact Kd.N_mono HO222.out (fun _ hk => ⟨hk.2.1, ⟨hk.1, ⟨hk.2.2.1, hk.2.2.2⟩⟩⟩)), (rk_ HO225.out), (rk_ HO_9.out), (pk_ BK204.out), (pk_ BK226.out), GW226.out, GE226.out, NB204_226.out, NB226_204.out, (bk_ HB.out)⟩)
              ·skip
               rintro ⟨v221, gb226⟩ w55 ⟨hS_, h0_, h1_, h2_, h3_, h4_, h5_, h6_, h7_, h8_⟩
               have n0_ : Aside0 (Kd.N (Kd.slice 3 (Kd.int .i64)) 26 w55 w.heap.size (fun k_ => some k_ ≠ (v209 : Value).ownBlock ∧ k_ ≠ gb204 ∧ k_ ≠ gb226) v221 y220) := ⟨h0_⟩
               have n1_ : Aside0 (Kd.R Kd.bool 4 w55 w.heap.size (fun _ => True) v209 x9_2) := ⟨h1_⟩
               have n2_ : Aside0 (w55.heap[gb204]? = some (.cells #[.int .i64 a0_0, .slice A0_1 l0_1.length c0_1, .slice A0_2 l0_2.length c0_2] 25 (0, 0))) := ⟨h2_⟩
               have n3_ : Aside0 (w55.heap[gb226]? = some (.cells #[.int .i64 0, .slice none 0 0, .slice none 0 0] 25 (0, 0))) := ⟨h3_⟩
               have n4_ : Aside0 (w.heap.size ≤ gb226) := ⟨h4_⟩
               have n5_ : Aside0 (w.heap.size ≤ gb226) := ⟨h5_⟩
               have n6_ : Aside0 (gb204 ≠ gb226) := ⟨h6_⟩
               have n7_ : Aside0 (gb226 ≠ gb204) := ⟨h7_⟩
               have n8_ : Aside0 (Below w.heap.size w w55) := ⟨h8_⟩
               clear HO_9 BK204 HB h0_ h1_ h2_ h3_ h4_ h5_ h6_ h7_ h8_
               have HO222 := n0_
               have HO_9 := n1_
               have BK204 := n2_
               have BK226 := n3_
               have GW226 := n4_
               have GE226 := n5_
               have NB204_226 := n6_
               have NB226_204 := n7_
               have HB := n8_
               clear n0_ n1_ n2_ n3_ n4_ n5_ n6_ n7_ n8_
               have hHeld : w55.cell? ⟨gb204, 0, none⟩ = some (.int .i64 a0_0) ∧ w55.cell? ⟨gb204, 1, none⟩ = some (.slice A0_1 l0_1.length c0_1) ∧ w55.cell? ⟨gb204, 2, none⟩ = some (.slice A0_2 l0_2.length c0_2) := hS_
               refine norm_ (a' := ?_) ?_ ?_
               rotate_left
               ·simp only [putAll, Act.put, List.setIfInBounds_toArray, List.set_cons_zero, List.set_cons_succ]
                rfl
               refine one_ (i := 7) (N := some 83) #[true, true, true, true, true, true, true, true, false, true, false] rfl rfl (one_of HT_.out (by kernel_rfl)) (by decide) (fun K hK => ?_)
               refine Kd.R_make_step Kd.bool _ 4 (by rfl) (N := 83) rfl 23 _ _ rfl (l2.length : Int) rfl rfl Try.underlying23 (.bool false) 1 info4 rfl (by decide) (by omega) false (ok := fun _ => True) (okp := fun _ => True) rfl (fun _ hk => hk) trivial (od_) (Nat.le_trans (Nat.mul_le_mul_right _ (od_ : (l2.length : Int).toNat ≤ 281474976710656)) (by omega)) (Below.refl _ _) (Nat.le_refl _) ?_
               intro v224 w56 ho57 hb hg_ hnew_
               clear hg_ hnew_
               (first | rw [← Ny223.out] at ho57 | (simp only [Int.reduceToNat] at ho57; rw [← Ny223.out] at ho57))
               have n0_ := A_ (Kd.R_elder' (rk_ HO_9.out) (Kd.R_base ho57) hb)
               have n1_ := A_ (Kd.N_elder' (by (with_reducible repeat (first | apply Kd.N_alloc | apply Kd.N_drewN | apply Kd.N_drew)); exact HO222.out) (Kd.R_base ho57) hb)
               have n2_ := A_ (Kd.R_lower (Kd.R_new' ho57 (Kd.R_lt (rk_ HO_9.out))) (below_size (bk_ HB.out)))
               have n3_ := A_ (blk_below (pk_ BK204.out) hb)
               have n4_ := A_ (blk_below (pk_ BK226.out) hb)
               have n5_ := A_ (below_step (bk_ HB.out) hb)
               clear HO_9 HO222 BK204 BK226 HB
               have HO_9 := n0_
               have HO222 := n1_
               have HO225 := n2_
               have BK204 := n3_
               have BK226 := n4_
               have HB := n5_
               clear n0_ n1_ n2_ n3_ n4_ n5_ hb ho57
               obtain ⟨Ao58, co58, eo58⟩ := Kd.R_slice HO225.out
               (first | subst eo58 | (injection eo58 with f1_ f2_ f3_; have f4_ := f1_.symm; have f5_ := f3_.symm; clear f1_ f2_ f3_; subst f4_; subst f5_))
               obtain ⟨Ao59, co59, eo59⟩ := Kd.N_slice HO222.out
               (first | subst eo59 | (injection eo59 with f1_ f2_ f3_; have f4_ := f1_.symm; have f5_ := f3_.symm; clear f1_ f2_ f3_; subst f4_; subst f5_))
               refine hK.out _ _ ⟨(blk_cell BK204.out 0).trans rfl, (blk_cell BK204.out 1).trans rfl, (blk_cell BK204.out 2).trans rfl⟩ (fun hHeld => ?_)
               clear hK K
               refine norm_ (a' := ?_) ?_ ?_
               rotate_left
               ·show Act.put _ (some 83) _ = _
                simp only [Act.put, sa_, sz_, ss_, i64_w, i32_w]
                rfl
               refine pure_ (i := 8) (N := some 84) (v := ?_) (a' := ?_) #[true, true, true, true, true, true, true, true, true, true, false] rfl rfl (any_of HT_.out (by kernel_rfl)) (fun _ _ _ h => h) (Or.inl ⟨by rfl, ?_⟩) ?_ ?_
               rotate_left
               ·intro w'
                go_simp
                with_reducible rfl
               rotate_left
               ·simp only [Act.put, sa_, sz_, ss_, i64_w, i32_w]
                rfl
               exact norm_ (by first | (simp only [putAll, Act.put, List.setIfInBounds_toArray, List.set_cons_zero, List.set_cons_succ]; done) | (simp only [putAll, Act.put, List.setIfInBounds_toArray, List.set_cons_zero, List.set_cons_succ]; rfl)) (hJ4_7_9 (.slice Ao59 y220.length co59, .slice Ao58 y223.length co58, gb226) _ ⟨hHeld, (by (with_reducible repeat (first | apply Kd.N_alloc | apply Kd.N_drewN | apply Kd.N_drew)); exact Kd.N_mono HO222.out (fun _ hk => ⟨hk.2, ⟨hk.1.1, ⟨hk.1.2.1, hk.1.2.2⟩⟩⟩)), (by (with_reducible repeat (first | apply Kd.R_alloc | apply Kd.R_drewN | apply Kd.R_drew)); exact Kd.R_mono HO225.out (fun _ hk => hk.2)), (by (with_reducible repeat (first | apply Kd.R_alloc | apply Kd.R_drewN | apply Kd.R_drew)); exact Kd.R_mono HO_9.out (fun _ hk => hk.2)), (pk_ BK204.out), (pk_ BK226.out), GW226.out, GE226.out, NB204_226.out, NB226_204.out, (bk_ HB.out)⟩)
             ·skip
              rintro ⟨v221, v224⟩ w58 ⟨hS_, h0_, h1_, h2_, h3_, h4_⟩
              have n0_ : Aside0 (Kd.N (Kd.slice 3 (Kd.int .i64)) 26 w58 w.heap.size (fun k_ => some k_ ≠ (v224 : Value).ownBlock ∧ some k_ ≠ (v209 : Value).ownBlock ∧ k_ ≠ gb204) v221 y220) := ⟨h0_⟩
              have n1_ : Aside0 (Kd.R Kd.bool 4 w58 w.heap.size (fun k_ => some k_ ≠ (v209 : Value).ownBlock) v224 y223) := ⟨h1_⟩
              have n2_ : Aside0 (Kd.R Kd.bool 4 w58 w.heap.size (fun k_ => some k_ ≠ (v224 : Value).ownBlock) v209 x9_2) := ⟨h2_⟩
              have n3_ : Aside0 (w58.heap[gb204]? = some (.cells #[.int .i64 a0_0, .slice A0_1 l0_1.length c0_1, .slice A0_2 l0_2.length c0_2] 25 (0, 0))) := ⟨h3_⟩
              have n4_ : Aside0 (Below w.heap.size w w58) := ⟨h4_⟩
              clear HO_9 BK204 HB h0_ h1_ h2_ h3_ h4_
              have HO222 := n0_
              have HO225 := n1_
              have HO_9 := n2_
              have BK204 := n3_
              have HB := n4_
              clear n0_ n1_ n2_ n3_ n4_
              have hHeld : w58.cell? ⟨gb204, 0, none⟩ = some (.int .i64 a0_0) ∧ w58.cell? ⟨gb204, 1, none⟩ = some (.slice A0_1 l0_1.length c0_1) ∧ w58.cell? ⟨gb204, 2, none⟩ = some (.slice A0_2 l0_2.length c0_2) := hS_
              obtain ⟨Ao59, co59, eo59⟩ := Kd.R_slice HO225.out
              (first | subst eo59 | (injection eo59 with f1_ f2_ f3_; have f4_ := f1_.symm; have f5_ := f3_.symm; clear f1_ f2_ f3_; subst f4_; subst f5_))
              obtain ⟨Ao60, co60, eo60⟩ := Kd.N_slice HO222.out
              (first | subst eo60 | (injection eo60 with f1_ f2_ f3_; have f4_ := f1_.symm; have f5_ := f3_.symm; clear f1_ f2_ f3_; subst f4_; subst f5_))
              refine norm_ (a' := ?_) ?_ ?_
              rotate_left
              ·simp only [putAll, Act.put, List.setIfInBounds_toArray, List.set_cons_zero, List.set_cons_succ]
               rfl
              refine one_ (i := 9) (N := some 11) #[true, true, true, true, true, true, true, true, true, true, false] rfl rfl (one_of HT_.out (by kernel_rfl)) (by decide) (fun K hK => ?_)
              refine box_step ?hg (N := 11) ?hd (cs := #[.int .i64 0, .slice none 0 0, .slice none 0 0]) (t := 25) ?hr ?_; (case hd => rfl); (case hg => rfl); (case hr => first | (go_simp; done) | (go_simp; rfl))
              intro gb226 hg w61 hbox hb
              have n0_ := A_ (Kd.R_below (rk_ HO_9.out) hb)
              have n1_ := A_ (Kd.N_below (Kd.N_elderB (by (with_reducible repeat (first | apply Kd.N_alloc | apply Kd.N_drewN | apply Kd.N_drew)); exact HO222.out) gb226 (Nat.le_of_eq hg.symm)) hb)
              have n2_ := A_ (Kd.R_below (rk_ HO225.out) hb)
              have n3_ := A_ (blk_below (pk_ BK204.out) hb)
              have n4_ := A_ (below_step (bk_ HB.out) hb)
              have n5_ := A_ (hbox)
              have n6_ := A_ ((by rw [hg]; exact (below_size (bk_ HB.out)) : w.heap.size ≤ gb226))
              have n7_ := A_ ((by rw [hg]; exact (below_size (bk_ HB.out)) : w.heap.size ≤ gb226))
              have n8_ := A_ ((by rw [hg]; exact Nat.ne_of_lt (blk_lt (pk_ BK204.out)) : gb204 ≠ gb226))
              have n9_ := A_ ((by rw [hg]; exact Nat.ne_of_gt (blk_lt (pk_ BK204.out)) : gb226 ≠ gb204))
              clear HO_9 HO222 HO225 BK204 HB
              have HO_9 := n0_
              have HO222 := n1_
              have HO225 := n2_
              have BK204 := n3_
              have HB := n4_
              have BK226 := n5_
              have GW226 := n6_
              have GE226 := n7_
              have NB204_226 := n8_
              have NB226_204 := n9_
              clear n0_ n1_ n2_ n3_ n4_ n5_ n6_ n7_ n8_ n9_ hb hbox hg
              refine hK.out _ _ ⟨(blk_cell BK204.out 0).trans rfl, (blk_cell BK204.out 1).trans rfl, (blk_cell BK204.out 2).trans rfl⟩ (fun hHeld => ?_)
              clear hK K
              refine norm_ (a' := ?_) ?_ ?_
              rotate_left
              ·show Act.put _ (some 11) _ = _
               simp only [Act.put, sa_, sz_, ss_, i64_w, i32_w]
               rfl
              exact norm_ (by first | (simp only [putAll, Act.put, List.setIfInBounds_toArray, List.set_cons_zero, List.set_cons_succ]; done) | (simp only [putAll, Act.put, List.setIfInBounds_toArray, List.set_cons_zero, List.set_cons_succ]; rfl)) (hJ4_7_9 (.slice Ao60 y220.length co60, .slice Ao59 y223.length co59, gb226) _ ⟨hHeld, (by (with_reducible repeat (first | apply Kd.N_alloc | apply Kd.N_drewN | apply Kd.N_drew)); exact Kd.N_mono HO222.out (fun _ hk => ⟨hk.1.1, ⟨hk.1.2.1, ⟨hk.1.2.2, hk.2⟩⟩⟩)), (rk_ HO225.out), (rk_ HO_9.out), (pk_ BK204.out), (pk_ BK226.out), GW226.out, GE226.out, NB204_226.out, NB226_204.out, (bk_ HB.out)⟩)
            rintro ⟨v221, v224, gb226⟩ w59 ⟨hS_, h0_, h1_, h2_, h3_, h4_, h5_, h6_, h7_, h8_, h9_⟩
            have n0_ : Aside0 (Kd.N (Kd.slice 3 (Kd.int .i64)) 26 w59 w.heap.size (fun k_ => some k_ ≠ (v224 : Value).ownBlock ∧ some k_ ≠ (v209 : Value).ownBlock ∧ k_ ≠ gb204 ∧ k_ ≠ gb226) v221 y220) := ⟨h0_⟩
            have n1_ : Aside0 (Kd.R Kd.bool 4 w59 w.heap.size (fun k_ => some k_ ≠ (v209 : Value).ownBlock) v224 y223) := ⟨h1_⟩
            have n2_ : Aside0 (Kd.R Kd.bool 4 w59 w.heap.size (fun k_ => some k_ ≠ (v224 : Value).ownBlock) v209 x9_2) := ⟨h2_⟩
            have n3_ : Aside0 (w59.heap[gb204]? = some (.cells #[.int .i64 a0_0, .slice A0_1 l0_1.length c0_1, .slice A0_2 l0_2.length c0_2] 25 (0, 0))) := ⟨h3_⟩
            have n4_ : Aside0 (w59.heap[gb226]? = some (.cells #[.int .i64 0, .slice none 0 0, .slice none 0 0] 25 (0, 0))) := ⟨h4_⟩
            have n5_ : Aside0 (w.heap.size ≤ gb226) := ⟨h5_⟩
            have n6_ : Aside0 (w.heap.size ≤ gb226) := ⟨h6_⟩
            have n7_ : Aside0 (gb204 ≠ gb226) := ⟨h7_⟩
            have n8_ : Aside0 (gb226 ≠ gb204) := ⟨h8_⟩
            have n9_ : Aside0 (Below w.heap.size w w59) := ⟨h9_⟩
            clear HO_9 BK204 HB h0_ h1_ h2_ h3_ h4_ h5_ h6_ h7_ h8_ h9_
            have HO222 := n0_
            have HO225 := n1_
            have HO_9 := n2_
            have BK204 := n3_
            have BK226 := n4_
            have GW226 := n5_
            have GE226 := n6_
            have NB204_226 := n7_
            have NB226_204 := n8_
            have HB := n9_
            clear n0_ n1_ n2_ n3_ n4_ n5_ n6_ n7_ n8_ n9_
            have hHeld : w59.cell? ⟨gb204, 0, none⟩ = some (.int .i64 a0_0) ∧ w59.cell? ⟨gb204, 1, none⟩ = some (.slice A0_1 l0_1.length c0_1) ∧ w59.cell? ⟨gb204, 2, none⟩ = some (.slice A0_2 l0_2.length c0_2) := hS_
            obtain ⟨Ao60, co60, eo60⟩ := Kd.R_slice HO225.out
            (first | subst eo60 | (injection eo60 with f1_ f2_ f3_; have f4_ := f1_.symm; have f5_ := f3_.symm; clear f1_ f2_ f3_; subst f4_; subst f5_))
            obtain ⟨Ao61, co61, eo61⟩ := Kd.N_slice HO222.out
            (first | subst eo61 | (injection eo61 with f1_ f2_ f3_; have f4_ := f1_.symm; have f5_ := f3_.symm; clear f1_ f2_ f3_; subst f4_; subst f5_))
            refine norm_ (a' := ?_) ?_ ?_
            rotate_left
            ·simp only [putAll, Act.put, List.setIfInBounds_toArray, List.set_cons_zero, List.set_cons_succ]
             rfl
            refine one_ (i := 10) (N := none) #[true, true, true, true, true, true, true, true, true, true, true] rfl rfl (one_of HT_.out (by kernel_rfl)) (by decide) (fun K hK => ?_)
            have hs62 : w59.cell? ⟨gb226, 0, none⟩ = some (.int .i64 0) := (blk_cell BK226.out 0).trans rfl
            have hfs62 := blk_frozen BK226.out 0
            have hns62_0 := NB204_226.out
            have hms62_0 := NB226_204.out
            have hs63 : w59.cell? ⟨gb226, 1, none⟩ = some (.slice none 0 0) := (blk_cell BK226.out 1).trans rfl
            have hfs63 := blk_frozen BK226.out 1
            have hns63_0 := NB204_226.out
            have hms63_0 := NB226_204.out
            have hs64 : w59.cell? ⟨gb226, 2, none⟩ = some (.slice none 0 0) := (blk_cell BK226.out 2).trans rfl
            have hfs64 := blk_frozen BK226.out 2
            have hns64_0 := NB204_226.out
            have hms64_0 := NB226_204.out
            refine skip_ (w1 := ?_) (by rfl) rfl ?_ ?_
            rotate_left
            ·go_simp
             rfl
            refine hK.out _ _ ⟨((cell_far (p := ⟨gb226, _, none⟩) NB204_226.out _).trans (((cell_far (p := ⟨gb226, _, none⟩) NB204_226.out _).trans (((cell_far (p := ⟨gb226, _, none⟩) NB204_226.out _).trans (hHeld.1)))))), ((cell_far (p := ⟨gb226, _, none⟩) NB204_226.out _).trans (((cell_far (p := ⟨gb226, _, none⟩) NB204_226.out _).trans (((cell_far (p := ⟨gb226, _, none⟩) NB204_226.out _).trans (hHeld.2.1)))))), ((cell_far (p := ⟨gb226, _, none⟩) NB204_226.out _).trans (((cell_far (p := ⟨gb226, _, none⟩) NB204_226.out _).trans (((cell_far (p := ⟨gb226, _, none⟩) NB204_226.out _).trans (hHeld.2.2))))))⟩ (fun hHeld => ?_)
            clear hK K
            refine done_ (done_of HT_.out (by kernel_rfl)) ?_
            try go_wp2
            go_loopg [12] k2 (fun kq v12 w' => ∃ (x12_3 : Int) (x227001_3 : List (List Int)) (x227002_3 : List Bool) (u227001 : Value) (u227002 : Value), v12 = .int .i64 x12_3 ∧ Aside0 (standstilllaw07_TagNames.l1 kq l1 l2 a3 x12_3 a0_0 l0_1 l0_2 a0_0 x227001_3 x227002_3 = some r) ∧ Aside0 (kq ≤ k2) ∧ Aside0 (Kd.N (Kd.slice 3 (Kd.int .i64)) 26 w' w.heap.size (fun k_ => some k_ ≠ (u227002 : Value).ownBlock ∧ k_ ≠ gb204 ∧ k_ ≠ gb226) u227001 x227001_3) ∧ Aside0 (Kd.R Kd.bool 4 w' w.heap.size (fun _ => True) u227002 x227002_3) ∧ Aside0 (w'.heap[gb204]? = some (.cells #[.int .i64 a0_0, (.slice A0_1 l0_1.length c0_1), (.slice A0_2 l0_2.length c0_2)] 25 (0, 0))) ∧ Aside0 (w'.heap[gb226]? = some (.cells #[.int .i64 a0_0, u227001, u227002] 25 (0, 0))) ∧ Aside0 (Below w.heap.size w w'))
            case atStart => exact ⟨(0), (y220), (y223), (.slice Ao61 y220.length co61), (.slice Ao60 y223.length co60), jr_, H', ⟨Nat.le_refl _⟩, ⟨by (with_reducible repeat (first | apply Kd.N_alloc | apply Kd.N_drewN | apply Kd.N_drew)); exact Kd.N_mono (Kd.N_far (p := ⟨gb226, 2, none⟩) (Kd.N_far (p := ⟨gb226, 1, none⟩) (Kd.N_far (p := ⟨gb226, 0, none⟩) (Kd.N_mono HO222.out (fun k_ hk => (⟨hk, hk.2.2.2⟩ : _ ∧ k_ ≠ gb226))) (fun _ hk => hk.2) (.int .i64 a0_0)) (fun _ hk => hk.2) (.slice Ao61 y220.length co61)) (fun _ hk => hk.2) (.slice Ao60 y223.length co60)) (fun _ hk => ⟨hk.1.1, ⟨hk.1.2.2.1, hk.1.2.2.2⟩⟩)⟩, ⟨by (with_reducible repeat (first | apply Kd.R_alloc | apply Kd.R_drewN | apply Kd.R_drew)); exact Kd.R_mono (Kd.R_far (p := ⟨gb226, 2, none⟩) (Kd.R_far (p := ⟨gb226, 1, none⟩) (Kd.R_far (p := ⟨gb226, 0, none⟩) (Kd.R_types HO225.out BK226.out (by decide)) (fun _ hk => hk.2) (.int .i64 a0_0)) (fun _ hk => hk.2) (.slice Ao61 y220.length co61)) (fun _ hk => hk.2) (.slice Ao60 y223.length co60)) (fun _ hk => trivial)⟩, ⟨by refine pk_ ?_; refine blk_far ?_ NB204_226.out _; refine pk_ ?_; refine blk_far ?_ NB204_226.out _; refine pk_ ?_; refine blk_far ?_ NB204_226.out _; exact pk_ BK204.out⟩, ⟨by refine pk_ ?_; refine blk_put (cs := #[.int .i64 a0_0, .slice Ao61 y220.length co61, .slice none 0 0]) ?_ 2 _ rfl; refine pk_ ?_; refine blk_put (cs := #[.int .i64 a0_0, .slice none 0 0, .slice none 0 0]) ?_ 1 _ rfl; refine pk_ ?_; refine blk_put (cs := #[.int .i64 0, .slice none 0 0, .slice none 0 0]) ?_ 0 _ rfl; exact pk_ BK226.out⟩, ⟨bk_ HB.out⟩⟩
            case round => as_aux_lemma =>
             clear H'
             obtain ⟨x12_3, x227001_3, x227002_3, u227001, u227002, rfl, HA, HK3, HO_227001, HO_227002, BK204, BK226, HB⟩ := hrel
             cases gk with
             | zero => exact absurd HA.out (by simp [standstilllaw07_TagNames.l1])
             | succ k3 =>
              have H := HA.out
              clear HA
              simp only [standstilllaw07_TagNames.l1] at H
              by_cases c65 : x12_3 < (l2.length : Int)
              ·rw [if_pos c65] at H
               have c65b0 : decide (x12_3 < (l2.length : Int)) = true := decide_eq_true c65
               clear c65
               by_cases c66 : 0 ≤ x12_3
               ·rw [if_pos c66] at H
                have c66b0 : decide (0 ≤ x12_3) = true := decide_eq_true c66
                clear c66
                by_cases c67 : x12_3 < (l0_1.length : Int)
                ·rw [if_pos c67] at H
                 have c67b0 : decide (x12_3 < (l0_1.length : Int)) = true := decide_eq_true c67
                 clear c67
                 replace H := Option.bind_eq_some_iff.mp H
                 obtain ⟨t230, A680, H⟩ := H
                 replace H : (if x12_3 < (l0_2.length : Int) then (if 0 ≤ (rd l2 x12_3) then (if (rd l2 x12_3) < (x227001_3.length : Int) then (if (rd l2 x12_3) < (x227002_3.length : Int) then (standstilllaw07_TagNames.l1 k3 l1 l2 a3 (wrap64 (x12_3 + 1)) a0_0 l0_1 l0_2 a0_0 (x227001_3.set ((rd l2 x12_3) : Int).toNat t230) (x227002_3.set ((rd l2 x12_3) : Int).toNat (rdOf false l0_2 x12_3))) else (none)) else (none)) else (none)) else (none)) = some r := H
                 have A68 := Aside0.mk A680
                 clear A680
                 by_cases c69 : x12_3 < (l0_2.length : Int)
                 ·rw [if_pos c69] at H
                  have c69b0 : decide (x12_3 < (l0_2.length : Int)) = true := decide_eq_true c69
                  clear c69
                  by_cases c70 : 0 ≤ (rd l2 x12_3)
                  ·rw [if_pos c70] at H
                   have c70b0 : decide (0 ≤ (rd l2 x12_3)) = true := decide_eq_true c70
                   clear c70
                   by_cases c71 : (rd l2 x12_3) < (x227001_3.length : Int)
                   ·rw [if_pos c71] at H
                    have c71b0 : decide ((rd l2 x12_3) < (x227001_3.length : Int)) = true := decide_eq_true c71
                    clear c71
                    obtain ⟨y234, hy234⟩ : ∃ y_ : List (List Int), y_ = (x227001_3.set ((rd l2 x12_3) : Int).toNat t230) := ⟨_, rfl⟩
                    replace H : (if (rd l2 x12_3) < (x227002_3.length : Int) then (standstilllaw07_TagNames.l1 k3 l1 l2 a3 (wrap64 (x12_3 + 1)) a0_0 l0_1 l0_2 a0_0 y234 (x227002_3.set ((rd l2 x12_3) : Int).toNat (rdOf false l0_2 x12_3))) else (none)) = some r := by first | (rw [hy234]; with_reducible exact H) | (have H2_ := (Option.bind_some _ _).symm.trans H; rw [hy234]; with_reducible exact H2_) | (have H2_ := (Option.bind_some _ _).symm.trans H; with_reducible exact H2_) | with_reducible exact H | (rw [hy234]; exact H) | exact H
                    have Ny234 := Aside0.mk hy234
                    clear hy234
                    by_cases c73 : (rd l2 x12_3) < (x227002_3.length : Int)
                    ·rw [if_pos c73] at H
                     have c73b0 : decide ((rd l2 x12_3) < (x227002_3.length : Int)) = true := decide_eq_true c73
                     clear c73
                     obtain ⟨y235, hy235⟩ : ∃ y_ : List Bool, y_ = (x227002_3.set ((rd l2 x12_3) : Int).toNat (rdOf false l0_2 x12_3)) := ⟨_, rfl⟩
                     replace H : (standstilllaw07_TagNames.l1 k3 l1 l2 a3 (wrap64 (x12_3 + 1)) a0_0 l0_1 l0_2 a0_0 y234 y235) = some r := by first | (rw [hy235]; with_reducible exact H) | (have H2_ := (Option.bind_some _ _).symm.trans H; rw [hy235]; with_reducible exact H2_) | (have H2_ := (Option.bind_some _ _).symm.trans H; with_reducible exact H2_) | with_reducible exact H | (rw [hy235]; exact H) | exact H
                     have Ny235 := Aside0.mk hy235
                     clear hy235
                     have H' := Aside0.mk H
                     clear H
                     try go_wp2
                     have n0_ := A_ (Kd.N_drew HO_227001.out)
                     have n1_ := A_ (Kd.R_drew HO_227002.out)
                     have n2_ := A_ (blk_drew BK204.out)
                     have n3_ := A_ (blk_drew BK226.out)
                     have n4_ := A_ (below_drew1 HB.out)
                     clear HO_227001 HO_227002 BK204 BK226 HB
                     have HO_227001 := n0_
                     have HO_227002 := n1_
                     have BK204 := n2_
                     have BK226 := n3_
                     have HB := n4_
                     clear n0_ n1_ n2_ n3_ n4_
                     have p227 : 0 ≤ (x12_3 : Int) := od_
                     have q227 : x12_3 < (l2.length : Int) := od_
                     obtain ⟨ad227, e227, hx227_0⟩ := Kd.at_int HR2.out x12_3 p227 q227
                     have hw227_0 := hx227_0
                     cases e227
                     replace hx227_0 := lf_ HB.out hx227_0
                     replace p227 := eq_true p227
                     replace q227 := eq_true q227
                     have p228 : 0 ≤ (x12_3 : Int) := od_
                     have q228 : x12_3 < (l2.length : Int) := od_
                     obtain ⟨ad228, e228, hx228_0⟩ := Kd.at_int HR2.out x12_3 p228 q228
                     have hw228_0 := hx228_0
                     obtain rfl : ad227 = ad228 := (by injection e228)
                     replace hx228_0 := lf_ HB.out hx228_0
                     replace p228 := eq_true p228
                     replace q228 := eq_true q228
                     have p229 : 0 ≤ (x12_3 : Int) := od_
                     have q229 : x12_3 < (l0_1.length : Int) := od_
                     obtain ⟨ad229, A229_0, c229_0, e229, hx229_0, hl229_0, hi229_0⟩ := at_L1 HR0_1.out x12_3 p229 q229
                     have hw229_0 := hx229_0
                     cases e229
                     replace hx229_0 := lf_ HB.out hx229_0
                     have HR229_0 := Aside0.mk hi229_0
                     have HC229_0 := Aside0.mk hl229_0
                     clear hi229_0 hl229_0
                     replace p229 := eq_true p229
                     replace q229 := eq_true q229
                     have p233 : 0 ≤ (x12_3 : Int) := od_
                     have q233 : x12_3 < (l0_2.length : Int) := od_
                     obtain ⟨ad233, e233, hx233_0⟩ := Kd.at_bool HR0_2.out x12_3 p233 q233
                     have hw233_0 := hx233_0
                     cases e233
                     replace hx233_0 := lf_ HB.out hx233_0
                     replace p233 := eq_true p233
                     replace q233 := eq_true q233
                     refine start_ (n := 28) (S := fun w' => w'.cell? ⟨gb226, 0, none⟩ = some (.int .i64 a0_0) ∧ w'.cell? ⟨gb226, 1, none⟩ = some (u227001) ∧ w'.cell? ⟨gb226, 2, none⟩ = some (u227002) ∧ w'.cell? ⟨gb204, 0, none⟩ = some (.int .i64 a0_0) ∧ w'.cell? ⟨gb204, 1, none⟩ = some (.slice (some ad229) l0_1.length c0_1) ∧ w'.cell? ⟨gb204, 2, none⟩ = some (.slice (some ad233) l0_2.length c0_2) ∧ w'.cell? (ad227.add (x12_3).toNat) = some (.int .i64 (rd l2 x12_3)) ∧ w'.cell? (ad227.add (x12_3).toNat) = some (.int .i64 (rd l2 x12_3)) ∧ w'.cell? (ad229.add (x12_3).toNat) = some (.slice A229_0 (rd_L1 l0_1 x12_3).length c229_0) ∧ w'.cell? (ad233.add (x12_3).toNat) = some (.bool (rdOf false l0_2 x12_3))) (ds := [27]) #[false, false, false, false, false, false, false, false, false, false, false, false, false, false, false, false, false, false, false, false, false, false, false, false, false, false, false, false] (by kernel_rfl) rfl rfl ⟨(blk_cell BK226.out 0).trans rfl, (blk_cell BK226.out 1).trans rfl, (blk_cell BK226.out 2).trans rfl, (blk_cell BK204.out 0).trans rfl, (blk_cell BK204.out 1).trans rfl, (blk_cell BK204.out 2).trans rfl, ((HB.out.cell (World.block_lt_of_cell? w _ hw227_0)).trans hw227_0), ((HB.out.cell (World.block_lt_of_cell? w _ hw228_0)).trans hw228_0), ((HB.out.cell (World.block_lt_of_cell? w _ hw229_0)).trans hw229_0), ((HB.out.cell (World.block_lt_of_cell? w _ hw233_0)).trans hw233_0)⟩ (fun hHeld => ?_); refine with_tabW standstilllaw07_TagNames.tab14 standstilllaw07_TagNames.bits14 (fun HT_ HW_ => ?_)
                     generalize wr.drew = w75 at HO_227001 HO_227002 BK204 BK226 HB HR229_0 hx227_0 hx228_0 hx229_0 hx233_0 hHeld ⊢
                     refine pure_ (i := 0) (N := some 91) (v := ?_) (a' := ?_) #[true, false, false, false, false, false, false, false, false, false, false, false, false, false, false, false, false, false, false, false, false, false, false, false, false, false, false, false] rfl rfl (any_of HT_.out (by kernel_rfl)) (fun _ _ _ h => h) (Or.inl ⟨by rfl, ?_⟩) ?_ ?_
                     rotate_left
                     ·intro w'
                      go_simp
                      with_reducible rfl
                     rotate_left
                     ·simp only [Act.put, sa_, sz_, ss_, i64_w, i32_w]
                      rfl
                     refine pure_ (i := 2) (N := some 93) (v := ?_) (a' := ?_) #[true, false, true, false, false, false, false, false, false, false, false, false, false, false, false, false, false, false, false, false, false, false, false, false, false, false, false, false] rfl rfl (any_of HT_.out (by kernel_rfl)) (fun _ _ _ h => h) (Or.inl ⟨by rfl, ?_⟩) ?_ ?_
                     rotate_left
                     ·intro w'
                      go_simp
                      with_reducible rfl
                     rotate_left
                     ·simp only [Act.put, sa_, sz_, ss_, i64_w, i32_w]
                      rfl
                     refine pure_ (i := 3) (N := some 94) (v := ?_) (a' := ?_) #[true, false, true, true, false, false, false, false, false, false, false, false, false, false, false, false, false, false, false, false, false, false, false, false, false, false, false, false] rfl rfl (any_of HT_.out (by kernel_rfl)) (fun _ _ _ h => h) (Or.inl ⟨by rfl, ?_⟩) ?_ ?_
                     rotate_left
                     ·intro w'
                      go_simp
                      with_reducible rfl
                     rotate_left
                     ·simp only [Act.put, sa_, sz_, ss_, i64_w, i32_w]
                      rfl
                     refine pure_ (i := 4) (N := some 95) (v := ?_) (a' := ?_) #[true, false, true, true, true, false, false, false, false, false, false, false, false, false, false, false, false, false, false, false, false, false, false, false, false, false, false, false] rfl rfl (any_of HT_.out (by kernel_rfl)) (fun _ _ _ h => h) (Or.inl ⟨by rfl, ?_⟩) ?_ ?_
                     rotate_left
                     ·intro w'
                      go_simp
                      with_reducible rfl
                     rotate_left
                     ·simp only [Act.put, sa_, sz_, ss_, i64_w, i32_w]
                      rfl
                     refine pure_ (i := 6) (N := some 97) (v := ?_) (a' := ?_) #[true, false, true, true, true, false, true, false, false, false, false, false, false, false, false, false, false, false, false, false, false, false, false, false, false, false, false, false] rfl rfl (any_of HT_.out (by kernel_rfl)) (fun _ _ _ h => h) (Or.inl ⟨by rfl, ?_⟩) ?_ ?_
                     rotate_left
                     ·intro w'
                      go_simp
                      with_reducible rfl
                     rotate_left
                     ·simp only [Act.put, sa_, sz_, ss_, i64_w, i32_w]
                      rfl
                     refine pure_ (i := 8) (N := some 99) (v := ?_) (a' := ?_) #[true, false, true, true, true, false, true, false, true, false, false, false, false, false, false, false, false, false, false, false, false, false, false, false, false, false, false, false] rfl rfl (any_of HT_.out (by kernel_rfl)) (fun _ _ _ h => h) (Or.inl ⟨by rfl, ?_⟩) ?_ ?_
                     rotate_left
                     ·intro w'
                      go_simp
                      with_reducible rfl
                     rotate_left
                     ·simp only [Act.put, sa_, sz_, ss_, i64_w, i32_w]
                      rfl
                     refine pure_ (i := 9) (N := some 100) (v := ?_) (a' := ?_) #[true, false, true, true, true, false, true, false, true, true, false, false, false, false, false, false, false, false, false, false, false, false, false, false, false, false, false, false] rfl rfl (any_of HT_.out (by kernel_rfl)) (fun _ _ _ h => h) (Or.inl ⟨by rfl, ?_⟩) ?_ ?_
                     rotate_left
                     ·intro w'
                      go_simp
                      with_reducible rfl
                     rotate_left
                     ·simp only [Act.put, sa_, sz_, ss_, i64_w, i32_w]
                      rfl
                     refine pure_ (i := 10) (N := some 101) (v := ?_) (a' := ?_) #[true, false, true, true, true, false, true, false, true, true, true, false, false, false, false, false, false, false, false, false, false, false, false, false, false, false, false, false] rfl rfl (any_of HT_.out (by kernel_rfl)) (fun _ _ _ h => h) (Or.inl ⟨by rfl, ?_⟩) ?_ ?_
                     rotate_left
                     ·intro w'
                      go_simp
                      with_reducible rfl
                     rotate_left
                     ·simp only [Act.put, sa_, sz_, ss_, i64_w, i32_w]
                      rfl
                     refine pure_ (i := 12) (N := some 103) (v := ?_) (a' := ?_) #[true, false, true, true, true, false, true, false, true, true, true, false, true, false, false, false, false, false, false, false, false, false, false, false, false, false, false, false] rfl rfl (any_of HT_.out (by kernel_rfl)) (fun _ _ _ h => h) (Or.inl ⟨by rfl, ?_⟩) ?_ ?_
                     rotate_left
                     ·intro w'
                      go_simp
                      with_reducible rfl
                     rotate_left
                     ·simp only [Act.put, sa_, sz_, ss_, i64_w, i32_w]
                      rfl
                     refine pure_ (i := 14) (N := some 105) (v := ?_) (a' := ?_) #[true, false, true, true, true, false, true, false, true, true, true, false, true, false, true, false, false, false, false, false, false, false, false, false, false, false, false, false] rfl rfl (any_of HT_.out (by kernel_rfl)) (fun _ _ _ h => h) (Or.inl ⟨by rfl, ?_⟩) ?_ ?_
                     rotate_left
                     ·intro w'
                      go_simp
                      with_reducible rfl
                     rotate_left
                     ·simp only [Act.put, sa_, sz_, ss_, i64_w, i32_w]
                      rfl
                     refine pure_ (i := 17) (N := some 108) (v := ?_) (a' := ?_) #[true, false, true, true, true, false, true, false, true, true, true, false, true, false, true, false, false, true, false, false, false, false, false, false, false, false, false, false] rfl rfl (any_of HT_.out (by kernel_rfl)) (fun _ _ _ h => h) (Or.inl ⟨by rfl, ?_⟩) ?_ ?_
                     rotate_left
                     ·intro w'
                      go_simp
                      with_reducible rfl
                     rotate_left
                     ·simp only [Act.put, sa_, sz_, ss_, i64_w, i32_w]
                      rfl
                     refine pure_ (i := 19) (N := some 110) (v := ?_) (a' := ?_) #[true, false, true, true, true, false, true, false, true, true, true, false, true, false, true, false, false, true, false, true, false, false, false, false, false, false, false, false] rfl rfl (any_of HT_.out (by kernel_rfl)) (fun _ _ _ h => h) (Or.inl ⟨by rfl, ?_⟩) ?_ ?_
                     rotate_left
                     ·intro w'
                      go_simp
                      with_reducible rfl
                     rotate_left
                     ·simp only [Act.put, sa_, sz_, ss_, i64_w, i32_w]
                      rfl
                     refine pure_ (i := 21) (N := some 112) (v := ?_) (a' := ?_) #[true, false, true, true, true, false, true, false, true, true, true, false, true, false, true, false, false, true, false, true, false, true, false, false, false, false, false, false] rfl rfl (any_of HT_.out (by kernel_rfl)) (fun _ _ _ h => h) (Or.inl ⟨by rfl, ?_⟩) ?_ ?_
                     rotate_left
                     ·intro w'
                      go_simp
                      with_reducible rfl
                     rotate_left
                     ·simp only [Act.put, sa_, sz_, ss_, i64_w, i32_w]
                      rfl
                     refine take_ (i := 1) (N := some 92) (v := ?_) (a' := ?_) #[true, true, true, true, true, false, true, false, true, true, true, false, true, false, true, false, false, true, false, true, false, true, false, false, false, false, false, false] rfl rfl (take_ofW HT_.out HW_.out (by kernel_rfl)) (fun _ _ _ h => h) (Or.inl ⟨by rfl, ?_⟩) hHeld ?_ ?_
                     rotate_left
                     ·rintro w' ⟨s0, s1, s2, s3, s4, s5, s6, s7, s8, s9⟩
                      go_simp
                      with_reducible rfl
                     rotate_left
                     ·simp only [Act.put, sa_, sz_, ss_, i64_w, i32_w]
                      rfl
                     refine take_ (i := 5) (N := some 96) (v := ?_) (a' := ?_) #[true, true, true, true, true, true, true, false, true, true, true, false, true, false, true, false, false, true, false, true, false, true, false, false, false, false, false, false] rfl rfl (take_ofW HT_.out HW_.out (by kernel_rfl)) (fun _ _ _ h => h) (Or.inl ⟨by rfl, ?_⟩) hHeld ?_ ?_
                     rotate_left
                     ·rintro w' ⟨s0, s1, s2, s3, s4, s5, s6, s7, s8, s9⟩
                      go_simp
                      with_reducible rfl
                     rotate_left
                     ·simp only [Act.put, sa_, sz_, ss_, i64_w, i32_w]
                      rfl
                     refine take_ (i := 7) (N := some 98) (v := ?_) (a' := ?_) #[true, true, true, true, true, true, true, true, true, true, true, false, true, false, true, false, false, true, false, true, false, true, false, false, false, false, false, false] rfl rfl (take_ofW HT_.out HW_.out (by kernel_rfl)) (fun _ _ _ h => h) (Or.inl ⟨by rfl, ?_⟩) hHeld ?_ ?_
                     rotate_left
                     ·rintro w' ⟨s0, s1, s2, s3, s4, s5, s6, s7, s8, s9⟩
                      go_simp
                      with_reducible rfl
                     rotate_left
                     ·simp only [Act.put, sa_, sz_, ss_, i64_w, i32_w]
                      rfl
                     refine take_ (i := 11) (N := some 102) (v := ?_) (a' := ?_) #[true, true, true, true, true, true, true, true, true, true, true, true, true, false, true, false, false, true, false, true, false, true, false, false, false, false, false, false] rfl rfl (take_ofW HT_.out HW_.out (by kernel_rfl)) (fun _ _ _ h => h) (Or.inl ⟨by rfl, ?_⟩) hHeld ?_ ?_
                     rotate_left
                     ·rintro w' ⟨s0, s1, s2, s3, s4, s5, s6, s7, s8, s9⟩
                      go_simp
                      with_reducible rfl
                     rotate_left
                     ·simp only [Act.put, sa_, sz_, ss_, i64_w, i32_w]
                      rfl
                     refine take_ (i := 13) (N := some 104) (v := ?_) (a' := ?_) #[true, true, true, true, true, true, true, true, true, true, true, true, true, true, true, false, false, true, false, true, false, true, false, false, false, false, false, false] rfl rfl (take_ofW HT_.out HW_.out (by kernel_rfl)) (fun _ _ _ h => h) (Or.inl ⟨by rfl, ?_⟩) hHeld ?_ ?_
                     rotate_left
                     ·rintro w' ⟨s0, s1, s2, s3, s4, s5, s6, s7, s8, s9⟩
                      go_simp
                      with_reducible rfl
                     rotate_left
                     ·simp only [Act.put, sa_, sz_, ss_, i64_w, i32_w]
                      rfl
                     refine pure_ (i := 15) (N := some 106) (v := ?_) (a' := ?_) #[true, true, true, true, true, true, true, true, true, true, true, true, true, true, true, true, false, true, false, true, false, true, false, false, false, false, false, false] rfl rfl (any_of HT_.out (by kernel_rfl)) (fun _ _ _ h => h) (Or.inl ⟨by rfl, ?_⟩) ?_ ?_
                     rotate_left
                     ·intro w'
                      go_simp
                      with_reducible rfl
                     rotate_left
                     ·simp only [Act.put, sa_, sz_, ss_, i64_w, i32_w]
                      rfl
                     refine take_ (i := 16) (N := some 107) (v := ?_) (a' := ?_) #[true, true, true, true, true, true, true, true, true, true, true, true, true, true, true, true, true, true, false, true, false, true, false, false, false, false, false, false] rfl rfl (take_ofW HT_.out HW_.out (by kernel_rfl)) (fun _ _ _ h => h) (Or.inl ⟨by rfl, ?_⟩) hHeld ?_ ?_
                     rotate_left
                     ·rintro w' ⟨s0, s1, s2, s3, s4, s5, s6, s7, s8, s9⟩
                      go_simp
                      with_reducible rfl
                     rotate_left
                     ·simp only [Act.put, sa_, sz_, ss_, i64_w, i32_w]
                      rfl
                     refine take_ (i := 20) (N := some 111) (v := ?_) (a' := ?_) #[true, true, true, true, true, true, true, true, true, true, true, true, true, true, true, true, true, true, false, true, true, true, false, false, false, false, false, false] rfl rfl (take_ofW HT_.out HW_.out (by kernel_rfl)) (fun _ _ _ h => h) (Or.inl ⟨by rfl, ?_⟩) hHeld ?_ ?_
                     rotate_left
                     ·rintro w' ⟨s0, s1, s2, s3, s4, s5, s6, s7, s8, s9⟩
                      go_simp
                      with_reducible rfl
                     rotate_left
                     ·simp only [Act.put, sa_, sz_, ss_, i64_w, i32_w]
                      rfl
                     refine pure_ (i := 22) (N := some 113) (v := ?_) (a' := ?_) #[true, true, true, true, true, true, true, true, true, true, true, true, true, true, true, true, true, true, false, true, true, true, true, false, false, false, false, false] rfl rfl (any_of HT_.out (by kernel_rfl)) (fun _ _ _ h => h) (Or.inl ⟨by rfl, ?_⟩) ?_ ?_
                     rotate_left
                     ·intro w'
                      go_simp
                      with_reducible rfl
                     rotate_left
                     ·simp only [Act.put, sa_, sz_, ss_, i64_w, i32_w]
                      rfl
                     refine take_ (i := 23) (N := some 114) (v := ?_) (a' := ?_) #[true, true, true, true, true, true, true, true, true, true, true, true, true, true, true, true, true, true, false, true, true, true, true, true, false, false, false, false] rfl rfl (take_ofW HT_.out HW_.out (by kernel_rfl)) (fun _ _ _ h => h) (Or.inl ⟨by rfl, ?_⟩) hHeld ?_ ?_
                     rotate_left
                     ·rintro w' ⟨s0, s1, s2, s3, s4, s5, s6, s7, s8, s9⟩
                      go_simp
                      with_reducible rfl
                     rotate_left
                     ·simp only [Act.put, sa_, sz_, ss_, i64_w, i32_w]
                      rfl
                     refine one_ (i := 18) (N := some 109) #[true, true, true, true, true, true, true, true, true, true, true, true, true, true, true, true, true, true, true, true, true, true, true, true, false, false, false, false] rfl rfl (one_of HT_.out (by kernel_rfl)) (by decide) (fun K hK => ?_)
                     refine goes_ Try.func12 (by kernel_rfl) rfl #[.slice A229_0 (rd_L1 l0_1 x12_3).length c229_0, .slice (some ad227) l2.length c2] (by rfl) rfl rfl gl_ ?_
                     with_reducible refine (standstilllaw07_named.calls k3 _ _ (rd_L1 l0_1 x12_3) _ _ l2 t230 _ ?side1 ?side2 ?side3 ?side4 A68.out).mono ?_
                     (case side1 => exact ck_ (Kd.C_below HR229_0.out HB.out))
                     (case side2 => exact HC229_0.out)
                     (case side3 => exact ck_ (Kd.C_below HR2.out HB.out))
                     (case side4 => exact HC2.out)
                     rintro e w76 ⟨v231, rfl, ho0, hb⟩
                     refine ⟨_, rfl, ?_⟩
                     have n0_ := A_ (Kd.N_elder' (by (with_reducible repeat (first | apply Kd.N_alloc | apply Kd.N_drewN | apply Kd.N_drew)); exact HO_227001.out) (Kd.R_base ho0) hb)
                     have n1_ := A_ (Kd.R_below (rk_ HO_227002.out) hb)
                     have n2_ := A_ (Kd.R_lower ho0 (below_size (bk_ HB.out)))
                     have n3_ := A_ (blk_below (pk_ BK204.out) hb)
                     have n4_ := A_ (blk_below (pk_ BK226.out) hb)
                     have n5_ := A_ (below_step (bk_ HB.out) hb)
                     clear HO_227001 HO_227002 BK204 BK226 HB
                     have HO_227001 := n0_
                     have HO_227002 := n1_
                     have HO232 := n2_
                     have BK204 := n3_
                     have BK226 := n4_
                     have HB := n5_
                     clear n0_ n1_ n2_ n3_ n4_ n5_
                     (try clear hb)
                     (try clear hb2)
                     (try clear hk)
                     (try clear hi)
                     (try clear ho0)
                     have p72 : 0 ≤ ((rd l2 x12_3) : Int) := od_
                     have q72 : ((rd l2 x12_3) : Int) < ((x227001_3.length : Int) : Int) := od_
                     obtain ⟨go72, co72, eo72, gb72, gl72, cl72, HG72⟩ := Kd.N_form HO_227001.out (by omega)
                     (first | cases eo72 | (injection eo72 with ea_ en_ ec_; (first | subst ea_ | (injection ea_ with ea_; subst ea_)); subst ec_; clear en_))
                     have GB72 := Aside0.mk gb72
                     have GG72 := Aside0.mk HG72
                     clear gb72 gl72 HG72
                     obtain ⟨ce72, hcl72, hM72, hcc72, hfr72⟩ := Kd.N_elem HO_227001.out [] ((rd l2 x12_3) : Int) p72 q72
                     obtain ⟨ua72_0, uc72_0, rfl, ul72_0, ge72_0⟩ := Kd.FK_slice_open hM72
                     have hx72_0 := hcc72 0 _ rfl
                     have hf72_0 := hfr72 0
                     (try simp only [show ((Kd.slice 3 (Kd.int .i64))).sz = 1 from rfl, Nat.mul_one, Nat.add_zero] at hx72_0)
                     (try simp only [show ((Kd.slice 3 (Kd.int .i64))).sz = 1 from rfl, Nat.mul_one, Nat.add_zero] at hf72_0)
                     clear hcl72 hcc72 hfr72 hM72
                     replace p72 := eq_true p72
                     replace q72 := eq_true q72
                     have HX77 := A_ (show Kd.N (Kd.slice 3 (Kd.int .i64)) 26 _ w.heap.size (fun k_ => some k_ ≠ (u227002 : Value).ownBlock ∧ some k_ ≠ (v231 : Value).ownBlock ∧ k_ ≠ gb204 ∧ k_ ≠ gb226) (.slice (some ⟨go72, 0, none⟩) x227001_3.length co72) x227001_3 from (Kd.N_mono (HO_227001.out) (fun k_ hk => ⟨hk.1.1, ⟨hk.2, ⟨hk.1.2.1, hk.1.2.2⟩⟩⟩)))
                     replace HX77 := A_ (show Kd.N (Kd.slice 3 (Kd.int .i64)) 26 _ w.heap.size (fun k_ => some k_ ≠ (u227002 : Value).ownBlock ∧ k_ ≠ gb204 ∧ k_ ≠ gb226) (.slice (some ⟨go72, 0, none⟩) x227001_3.length co72) x227001_3 from Kd.N_mono HX77.out (fun k_ hk => ⟨hk.1, ⟨hk.2.2.1, hk.2.2.2⟩⟩))
                     obtain ⟨ce77, hcl77, hM77, hcc77, hfr77⟩ := Kd.N_elem HX77.out [] ((rd l2 x12_3) : Int) (od_) (by have h_ : ((rd l2 x12_3) : Int) < ((x227001_3.length : Int) : Int) := od_; first | exact h_ | (have e_ := (Kd.N_reads' HO_227001.out).1; omega) | simpa using h_)
                     obtain ⟨ua77_0, uc77_0, rfl, ul77_0, ge77_0⟩ := Kd.FK_slice_open hM77
                     obtain ⟨A231_, c231_, e231_⟩ := Kd.R_slice HO232.out
                     have T1_ := Kd.R_types (Kd.R_types (Kd.R_apart' (Kd.R_apart' (HO232.out) (Kd.R_typed HO_227002.out) (by decide)) (Kd.N_typed HO_227001.out) (by decide)) BK204.out (by decide)) BK226.out (by decide)
                     have T5_ := (Kd.R_mono (ok' := (fun k_ => ((fun k_ => some k_ ≠ (u227002 : Value).ownBlock ∧ k_ ≠ gb204 ∧ k_ ≠ gb226)) k_ ∧ k_ ≠ go72)) T1_ (fun k_ hk => ⟨⟨hk.1.1.1.2, ⟨hk.1.2, hk.2⟩⟩, fun e_ => (hk.1.1.2) (by rw [e_]; rfl)⟩))
                     have TF_ : (Kd.slice 3 (Kd.int .i64)).FK w76 (fun x => (some x ≠ u227002.ownBlock ∧ x ≠ gb204 ∧ x ≠ gb226) ∧ x ≠ go72) t230 [v231] := by
                      rw [e231_] at T5_ ⊢
                      exact Kd.FK_slice_mk (Kd.R_reads' T5_).2.1 (Kd.R_F T5_)
                     clear T1_ T5_
                     have HP77 := (Kd.N_seg HX77.out ((rd l2 x12_3) : Int) (od_) (by have h_ : ((rd l2 x12_3) : Int) < ((x227001_3.length : Int) : Int) := od_; first | exact h_ | (have e_ := (Kd.N_reads' HO_227001.out).1; omega) | simpa using h_) (seg := [v231]) (j := 0) hcl77 hcc77 (show 1 ≤ 1 from by decide) (x' := t230) (TF_) (fun _ hk => hk)).1
                     clear TF_
                     (try simp only [show ((Kd.slice 3 (Kd.int .i64))).sz = 1 from rfl, Nat.mul_one, Nat.add_zero] at HP77)
                     rw [← Ny234.out] at HP77
                     rw [e231_] at HP77
                     have HQ77 := Aside0.mk HP77
                     clear hcl77 hcc77 hfr77 hM77 HP77
                     have p74 : 0 ≤ ((rd l2 x12_3) : Int) := od_
                     have q74 : ((rd l2 x12_3) : Int) < ((x227002_3.length : Int) : Int) := od_
                     obtain ⟨go74, co74, eo74, gb74, gl74, cl74, HG74⟩ := Kd.R_form HO_227002.out (by omega)
                     (first | cases eo74 | (injection eo74 with ea_ en_ ec_; (first | subst ea_ | (injection ea_ with ea_; subst ea_)); subst ec_; clear en_))
                     have GB74 := Aside0.mk gb74
                     have GG74 := Aside0.mk HG74
                     clear gb74 gl74 HG74
                     obtain ⟨hx74_0, hf74_0⟩ := Kd.R_celln false (Kd.R_far (p := ⟨go72, ((rd l2 x12_3) : Int).toNat, none⟩) (Kd.R_types HO_227002.out GG72.out (by decide)) (fun _ hk => hk.2) (v231)) ((rd l2 x12_3) : Int) p74 q74
                     rw [e231_] at hx74_0 hf74_0
                     replace p74 := eq_true p74
                     replace q74 := eq_true q74
                     have HP78 := Kd.R_putn (Kd.R_far (p := ⟨go72, ((rd l2 x12_3) : Int).toNat, none⟩) (Kd.R_types HO_227002.out GG72.out (by decide)) (fun _ hk => hk.2) (v231)) ((rd l2 x12_3) : Int) (rdOf false l0_2 x12_3)
                     rw [e231_] at HP78
                     rw [← Ny235.out] at HP78
                     have HQ78 := Aside0.mk HP78
                     clear HP78
                     refine hK.out _ _ ⟨(blk_cell BK226.out 0).trans rfl, (blk_cell BK226.out 1).trans rfl, (blk_cell BK226.out 2).trans rfl, (blk_cell BK204.out 0).trans rfl, (blk_cell BK204.out 1).trans rfl, (blk_cell BK204.out 2).trans rfl, ((HB.out.cell (World.block_lt_of_cell? w _ hw227_0)).trans hw227_0), ((HB.out.cell (World.block_lt_of_cell? w _ hw228_0)).trans hw228_0), ((HB.out.cell (World.block_lt_of_cell? w _ hw229_0)).trans hw229_0), ((HB.out.cell (World.block_lt_of_cell? w _ hw233_0)).trans hw233_0)⟩ (fun hHeld => ?_)
                     clear hK K
                     refine norm_ (a' := ?_) ?_ ?_
                     rotate_left
                     ·show Act.put _ (some 109) _ = _
                      simp only [Act.put, sa_, sz_, ss_, i64_w, i32_w]
                      rfl
                     refine pure_ (i := 24) (N := some 115) (v := ?_) (a' := ?_) #[true, true, true, true, true, true, true, true, true, true, true, true, true, true, true, true, true, true, true, true, true, true, true, true, true, false, false, false] rfl rfl (any_of HT_.out (by kernel_rfl)) (fun _ _ _ h => h) (Or.inl ⟨by rfl, ?_⟩) ?_ ?_
                     rotate_left
                     ·intro w'
                      go_simp
                      with_reducible rfl
                     rotate_left
                     ·simp only [Act.put, sa_, sz_, ss_, i64_w, i32_w]
                      rfl
                     refine one_ (i := 25) (N := none) #[true, true, true, true, true, true, true, true, true, true, true, true, true, true, true, true, true, true, true, true, true, true, true, true, true, true, false, false] rfl rfl (one_of HT_.out (by kernel_rfl)) (by decide) (fun K hK => ?_)
                     refine skip_ (w1 := ?_) (by rfl) rfl ?_ ?_
                     rotate_left
                     ·go_simp
                      rfl
                     refine hK.out _ _ ⟨(by have hs_ := hHeld; obtain ⟨s0_, s1_, s2_, s3_, s4_, s5_, s6_, s7_, s8_, s9_⟩ := hs_; exact (World.cell?_setCell_other _ _ _ _ (by intro e_; have e_ := congrArg Addr.block e_; simp only [add_block] at e_; first | (have g_ := GG72.out; rw [e_] at g_; exact absurd (Option.some.inj (g_.symm.trans BK226.out)) (by simp)) | (have g_ := GG72.out; rw [e_] at g_; exact absurd (Option.some.inj (g_.symm.trans BK204.out)) (by simp)) | (have g_ := GG72.out; rw [← e_] at g_; exact absurd (Option.some.inj (g_.symm.trans BK226.out)) (by simp)) | (exact GG72.out.1.2.2 e_) | (exact GG72.out.1.2.1 e_) | (exact absurd (World.block_lt_of_cell? w _ hw227_0) (by simp only [add_block]; rw [← e_]; exact Nat.not_lt.2 GB72.out)) | (exact absurd (World.block_lt_of_cell? w _ hw228_0) (by simp only [add_block]; rw [← e_]; exact Nat.not_lt.2 GB72.out)) | (exact absurd (World.block_lt_of_cell? w _ hw229_0) (by simp only [add_block]; rw [← e_]; exact Nat.not_lt.2 GB72.out)) | (exact absurd (World.block_lt_of_cell? w _ hw233_0) (by simp only [add_block]; rw [← e_]; exact Nat.not_lt.2 GB72.out)))).trans s0_), (by have hs_ := hHeld; obtain ⟨s0_, s1_, s2_, s3_, s4_, s5_, s6_, s7_, s8_, s9_⟩ := hs_; exact (World.cell?_setCell_other _ _ _ _ (by intro e_; have e_ := congrArg Addr.block e_; simp only [add_block] at e_; first | (have g_ := GG72.out; rw [e_] at g_; exact absurd (Option.some.inj (g_.symm.trans BK226.out)) (by simp)) | (have g_ := GG72.out; rw [e_] at g_; exact absurd (Option.some.inj (g_.symm.trans BK204.out)) (by simp)) | (have g_ := GG72.out; rw [← e_] at g_; exact absurd (Option.some.inj (g_.symm.trans BK226.out)) (by simp)) | (exact GG72.out.1.2.2 e_) | (exact GG72.out.1.2.1 e_) | (exact absurd (World.block_lt_of_cell? w _ hw227_0) (by simp only [add_block]; rw [← e_]; exact Nat.not_lt.2 GB72.out)) | (exact absurd (World.block_lt_of_cell? w _ hw228_0) (by simp only [add_block]; rw [← e_]; exact Nat.not_lt.2 GB72.out)) | (exact absurd (World.block_lt_of_cell? w _ hw229_0) (by simp only [add_block]; rw [← e_]; exact Nat.not_lt.2 GB72.out)) | (exact absurd (World.block_lt_of_cell? w _ hw233_0) (by simp only [add_block]; rw [← e_]; exact Nat.not_lt.2 GB72.out)))).trans s1_), (by have hs_ := hHeld; obtain ⟨s0_, s1_, s2_, s3_, s4_, s5_, s6_, s7_, s8_, s9_⟩ := hs_; exact (World.cell?_setCell_other _ _ _ _ (by intro e_; have e_ := congrArg Addr.block e_; simp only [add_block] at e_; first | (have g_ := GG72.out; rw [e_] at g_; exact absurd (Option.some.inj (g_.symm.trans BK226.out)) (by simp)) | (have g_ := GG72.out; rw [e_] at g_; exact absurd (Option.some.inj (g_.symm.trans BK204.out)) (by simp)) | (have g_ := GG72.out; rw [← e_] at g_; exact absurd (Option.some.inj (g_.symm.trans BK226.out)) (by simp)) | (exact GG72.out.1.2.2 e_) | (exact GG72.out.1.2.1 e_) | (exact absurd (World.block_lt_of_cell? w _ hw227_0) (by simp only [add_block]; rw [← e_]; exact Nat.not_lt.2 GB72.out)) | (exact absurd (World.block_lt_of_cell? w _ hw228_0) (by simp only [add_block]; rw [← e_]; exact Nat.not_lt.2 GB72.out)) | (exact absurd (World.block_lt_of_cell? w _ hw229_0) (by simp only [add_block]; rw [← e_]; exact Nat.not_lt.2 GB72.out)) | (exact absurd (World.block_lt_of_cell? w _ hw233_0) (by simp only [add_block]; rw [← e_]; exact Nat.not_lt.2 GB72.out)))).trans s2_), (by have hs_ := hHeld; obtain ⟨s0_, s1_, s2_, s3_, s4_, s5_, s6_, s7_, s8_, s9_⟩ := hs_; exact (World.cell?_setCell_other _ _ _ _ (by intro e_; have e_ := congrArg Addr.block e_; simp only [add_block] at e_; first | (have g_ := GG72.out; rw [e_] at g_; exact absurd (Option.some.inj (g_.symm.trans BK226.out)) (by simp)) | (have g_ := GG72.out; rw [e_] at g_; exact absurd (Option.some.inj (g_.symm.trans BK204.out)) (by simp)) | (have g_ := GG72.out; rw [← e_] at g_; exact absurd (Option.some.inj (g_.symm.trans BK226.out)) (by simp)) | (exact GG72.out.1.2.2 e_) | (exact GG72.out.1.2.1 e_) | (exact absurd (World.block_lt_of_cell? w _ hw227_0) (by simp only [add_block]; rw [← e_]; exact Nat.not_lt.2 GB72.out)) | (exact absurd (World.block_lt_of_cell? w _ hw228_0) (by simp only [add_block]; rw [← e_]; exact Nat.not_lt.2 GB72.out)) | (exact absurd (World.block_lt_of_cell? w _ hw229_0) (by simp only [add_block]; rw [← e_]; exact Nat.not_lt.2 GB72.out)) | (exact absurd (World.block_lt_of_cell? w _ hw233_0) (by simp only [add_block]; rw [← e_]; exact Nat.not_lt.2 GB72.out)))).trans s3_), (by have hs_ := hHeld; obtain ⟨s0_, s1_, s2_, s3_, s4_, s5_, s6_, s7_, s8_, s9_⟩ := hs_; exact (World.cell?_setCell_other _ _ _ _ (by intro e_; have e_ := congrArg Addr.block e_; simp only [add_block] at e_; first | (have g_ := GG72.out; rw [e_] at g_; exact absurd (Option.some.inj (g_.symm.trans BK226.out)) (by simp)) | (have g_ := GG72.out; rw [e_] at g_; exact absurd (Option.some.inj (g_.symm.trans BK204.out)) (by simp)) | (have g_ := GG72.out; rw [← e_] at g_; exact absurd (Option.some.inj (g_.symm.trans BK226.out)) (by simp)) | (exact GG72.out.1.2.2 e_) | (exact GG72.out.1.2.1 e_) | (exact absurd (World.block_lt_of_cell? w _ hw227_0) (by simp only [add_block]; rw [← e_]; exact Nat.not_lt.2 GB72.out)) | (exact absurd (World.block_lt_of_cell? w _ hw228_0) (by simp only [add_block]; rw [← e_]; exact Nat.not_lt.2 GB72.out)) | (exact absurd (World.block_lt_of_cell? w _ hw229_0) (by simp only [add_block]; rw [← e_]; exact Nat.not_lt.2 GB72.out)) | (exact absurd (World.block_lt_of_cell? w _ hw233_0) (by simp only [add_block]; rw [← e_]; exact Nat.not_lt.2 GB72.out)))).trans s4_), (by have hs_ := hHeld; obtain ⟨s0_, s1_, s2_, s3_, s4_, s5_, s6_, s7_, s8_, s9_⟩ := hs_; exact (World.cell?_setCell_other _ _ _ _ (by intro e_; have e_ := congrArg Addr.block e_; simp only [add_block] at e_; first | (have g_ := GG72.out; rw [e_] at g_; exact absurd (Option.some.inj (g_.symm.trans BK226.out)) (by simp)) | (have g_ := GG72.out; rw [e_] at g_; exact absurd (Option.some.inj (g_.symm.trans BK204.out)) (by simp)) | (have g_ := GG72.out; rw [← e_] at g_; exact absurd (Option.some.inj (g_.symm.trans BK226.out)) (by simp)) | (exact GG72.out.1.2.2 e_) | (exact GG72.out.1.2.1 e_) | (exact absurd (World.block_lt_of_cell? w _ hw227_0) (by simp only [add_block]; rw [← e_]; exact Nat.not_lt.2 GB72.out)) | (exact absurd (World.block_lt_of_cell? w _ hw228_0) (by simp only [add_block]; rw [← e_]; exact Nat.not_lt.2 GB72.out)) | (exact absurd (World.block_lt_of_cell? w _ hw229_0) (by simp only [add_block]; rw [← e_]; exact Nat.not_lt.2 GB72.out)) | (exact absurd (World.block_lt_of_cell? w _ hw233_0) (by simp only [add_block]; rw [← e_]; exact Nat.not_lt.2 GB72.out)))).trans s5_), (by have hs_ := hHeld; obtain ⟨s0_, s1_, s2_, s3_, s4_, s5_, s6_, s7_, s8_, s9_⟩ := hs_; exact (World.cell?_setCell_other _ _ _ _ (by intro e_; have e_ := congrArg Addr.block e_; simp only [add_block] at e_; first | (have g_ := GG72.out; rw [e_] at g_; exact absurd (Option.some.inj (g_.symm.trans BK226.out)) (by simp)) | (have g_ := GG72.out; rw [e_] at g_; exact absurd (Option.some.inj (g_.symm.trans BK204.out)) (by simp)) | (have g_ := GG72.out; rw [← e_] at g_; exact absurd (Option.some.inj (g_.symm.trans BK226.out)) (by simp)) | (exact GG72.out.1.2.2 e_) | (exact GG72.out.1.2.1 e_) | (exact absurd (World.block_lt_of_cell? w _ hw227_0) (by simp only [add_block]; rw [← e_]; exact Nat.not_lt.2 GB72.out)) | (exact absurd (World.block_lt_of_cell? w _ hw228_0) (by simp only [add_block]; rw [← e_]; exact Nat.not_lt.2 GB72.out)) | (exact absurd (World.block_lt_of_cell? w _ hw229_0) (by simp only [add_block]; rw [← e_]; exact Nat.not_lt.2 GB72.out)) | (exact absurd (World.block_lt_of_cell? w _ hw233_0) (by simp only [add_block]; rw [← e_]; exact Nat.not_lt.2 GB72.out)))).trans s6_), (by have hs_ := hHeld; obtain ⟨s0_, s1_, s2_, s3_, s4_, s5_, s6_, s7_, s8_, s9_⟩ := hs_; exact (World.cell?_setCell_other _ _ _ _ (by intro e_; have e_ := congrArg Addr.block e_; simp only [add_block] at e_; first | (have g_ := GG72.out; rw [e_] at g_; exact absurd (Option.some.inj (g_.symm.trans BK226.out)) (by simp)) | (have g_ := GG72.out; rw [e_] at g_; exact absurd (Option.some.inj (g_.symm.trans BK204.out)) (by simp)) | (have g_ := GG72.out; rw [← e_] at g_; exact absurd (Option.some.inj (g_.symm.trans BK226.out)) (by simp)) | (exact GG72.out.1.2.2 e_) | (exact GG72.out.1.2.1 e_) | (exact absurd (World.block_lt_of_cell? w _ hw227_0) (by simp only [add_block]; rw [← e_]; exact Nat.not_lt.2 GB72.out)) | (exact absurd (World.block_lt_of_cell? w _ hw228_0) (by simp only [add_block]; rw [← e_]; exact Nat.not_lt.2 GB72.out)) | (exact absurd (World.block_lt_of_cell? w _ hw229_0) (by simp only [add_block]; rw [← e_]; exact Nat.not_lt.2 GB72.out)) | (exact absurd (World.block_lt_of_cell? w _ hw233_0) (by simp only [add_block]; rw [← e_]; exact Nat.not_lt.2 GB72.out)))).trans s7_), (by have hs_ := hHeld; obtain ⟨s0_, s1_, s2_, s3_, s4_, s5_, s6_, s7_, s8_, s9_⟩ := hs_; exact (World.cell?_setCell_other _ _ _ _ (by intro e_; have e_ := congrArg Addr.block e_; simp only [add_block] at e_; first | (have g_ := GG72.out; rw [e_] at g_; exact absurd (Option.some.inj (g_.symm.trans BK226.out)) (by simp)) | (have g_ := GG72.out; rw [e_] at g_; exact absurd (Option.some.inj (g_.symm.trans BK204.out)) (by simp)) | (have g_ := GG72.out; rw [← e_] at g_; exact absurd (Option.some.inj (g_.symm.trans BK226.out)) (by simp)) | (exact GG72.out.1.2.2 e_) | (exact GG72.out.1.2.1 e_) | (exact absurd (World.block_lt_of_cell? w _ hw227_0) (by simp only [add_block]; rw [← e_]; exact Nat.not_lt.2 GB72.out)) | (exact absurd (World.block_lt_of_cell? w _ hw228_0) (by simp only [add_block]; rw [← e_]; exact Nat.not_lt.2 GB72.out)) | (exact absurd (World.block_lt_of_cell? w _ hw229_0) (by simp only [add_block]; rw [← e_]; exact Nat.not_lt.2 GB72.out)) | (exact absurd (World.block_lt_of_cell? w _ hw233_0) (by simp only [add_block]; rw [← e_]; exact Nat.not_lt.2 GB72.out)))).trans s8_), (by have hs_ := hHeld; obtain ⟨s0_, s1_, s2_, s3_, s4_, s5_, s6_, s7_, s8_, s9_⟩ := hs_; exact (World.cell?_setCell_other _ _ _ _ (by intro e_; have e_ := congrArg Addr.block e_; simp only [add_block] at e_; first | (have g_ := GG72.out; rw [e_] at g_; exact absurd (Option.some.inj (g_.symm.trans BK226.out)) (by simp)) | (have g_ := GG72.out; rw [e_] at g_; exact absurd (Option.some.inj (g_.symm.trans BK204.out)) (by simp)) | (have g_ := GG72.out; rw [← e_] at g_; exact absurd (Option.some.inj (g_.symm.trans BK226.out)) (by simp)) | (exact GG72.out.1.2.2 e_) | (exact GG72.out.1.2.1 e_) | (exact absurd (World.block_lt_of_cell? w _ hw227_0) (by simp only [add_block]; rw [← e_]; exact Nat.not_lt.2 GB72.out)) | (exact absurd (World.block_lt_of_cell? w _ hw228_0) (by simp only [add_block]; rw [← e_]; exact Nat.not_lt.2 GB72.out)) | (exact absurd (World.block_lt_of_cell? w _ hw229_0) (by simp only [add_block]; rw [← e_]; exact Nat.not_lt.2 GB72.out)) | (exact absurd (World.block_lt_of_cell? w _ hw233_0) (by simp only [add_block]; rw [← e_]; exact Nat.not_lt.2 GB72.out)))).trans s9_)⟩ (fun hHeld => ?_)
                     clear hK K
                     refine pure_ (i := 26) (N := some 116) (v := ?_) (a' := ?_) #[true, true, true, true, true, true, true, true, true, true, true, true, true, true, true, true, true, true, true, true, true, true, true, true, true, true, true, false] rfl rfl (any_of HT_.out (by kernel_rfl)) (fun _ _ _ h => h) (Or.inl ⟨by rfl, ?_⟩) ?_ ?_
                     rotate_left
                     ·intro w'
                      go_simp
                      with_reducible rfl
                     rotate_left
                     ·simp only [Act.put, sa_, sz_, ss_, i64_w, i32_w]
                      rfl
                     refine last_ (i := 27) (N := none) #[true, true, true, true, true, true, true, true, true, true, true, true, true, true, true, true, true, true, true, true, true, true, true, true, true, true, true, true] rfl rfl (one_of HT_.out (by kernel_rfl)) (by decide) (fun K hK => ?_)
                     refine skip_ (w1 := ?_) (by rfl) rfl ?_ ?_
                     rotate_left
                     ·go_simp
                      rfl
                     refine hK.out _ _ ?_
                     clear hK K
                     refine done_ (done_of HT_.out (by kernel_rfl)) ?_
                     try go_wp2
                     go_roundg k3
                     case measure => have := HJ4.out; have := HK2.out; have := HK3.out; omega
                     case rel => exact ⟨(wrap64 (x12_3 + 1)), (y234), (y235), (.slice (some ⟨go72, 0, none⟩) x227001_3.length co72), (.slice (some ⟨go74, 0, none⟩) x227002_3.length co74), jr_, H', ⟨by have := HJ4.out; have := HK2.out; have := HK3.out; omega⟩, ⟨by (with_reducible repeat (first | apply Kd.N_alloc | apply Kd.N_drewN | apply Kd.N_drew)); exact Kd.N_mono (Kd.N_far (p := ⟨go74, ((rd l2 x12_3) : Int).toNat, none⟩) (Kd.N_mono HQ77.out (fun k_ hk => (⟨hk, fun e_ => hk.1 (by rw [e_]; rfl)⟩ : _ ∧ k_ ≠ go74))) (fun _ hk => hk.2) (.bool (rdOf false l0_2 x12_3))) (fun _ hk => ⟨hk.1.1, ⟨hk.1.2.1, hk.1.2.2⟩⟩)⟩, ⟨by (with_reducible repeat (first | apply Kd.R_alloc | apply Kd.R_drewN | apply Kd.R_drew)); exact Kd.R_mono HQ78.out (fun _ hk => trivial)⟩, ⟨blk_far (p := ⟨go74, ((rd l2 x12_3) : Int).toNat, none⟩) (blk_far (p := ⟨go72, ((rd l2 x12_3) : Int).toNat, none⟩) BK204.out (by intro e_; have e_ : gb204 = go72 := e_; have g_ := GG72.out; rw [← e_] at g_; exact absurd (Option.some.inj (g_.symm.trans BK204.out)) (by simp)) _) (by intro e_; have e_ : gb204 = go74 := e_; have g_ := GG74.out; rw [← e_] at g_; exact absurd (Option.some.inj (g_.symm.trans BK204.out)) (by simp)) _⟩, ⟨blk_far (p := ⟨go74, ((rd l2 x12_3) : Int).toNat, none⟩) (blk_far (p := ⟨go72, ((rd l2 x12_3) : Int).toNat, none⟩) BK226.out (by intro e_; have e_ : gb226 = go72 := e_; have g_ := GG72.out; rw [← e_] at g_; exact absurd (Option.some.inj (g_.symm.trans BK226.out)) (by simp)) _) (by intro e_; have e_ : gb226 = go74 := e_; have g_ := GG74.out; rw [← e_] at g_; exact absurd (Option.some.inj (g_.symm.trans BK226.out)) (by simp)) _⟩, ⟨by repeat (first | (with_reducible first | exact HB.out | apply below_alloc | apply pw_below_drewN | apply below_drew1 | refine below_set ?_ GB72.out | refine below_set ?_ GB74.out | refine below_set ?_ GE204.out | refine below_set ?_ GE226.out) | exact HB.out)⟩⟩
                    ·rw [if_neg c73] at H
                     exact absurd H (by simp)
                   ·rw [if_neg c71] at H
                    exact absurd H (by simp)
                  ·rw [if_neg c70] at H
                   exact absurd H (by simp)
                 ·rw [if_neg c69] at H
                  exact absurd H (by simp)
                ·rw [if_neg c67] at H
                 exact absurd H (by simp)
               ·rw [if_neg c66] at H
                exact absurd H (by simp)
              ·rw [if_neg c65] at H
               have c65b0 : decide (x12_3 < (l2.length : Int)) = false := decide_eq_false c65
               clear c65
               replace H := Option.bind_eq_some_iff.mp H
               obtain ⟨⟨t236, t239, t240⟩, A790, H⟩ := H
               replace H : ((standstilllaw07_named.f k3 l1 l2).bind fun t241 => ((tag_Run.f k3 a0_0 x227001_3 x227002_3 t241 (wrap64 (a3))).bind fun bt244 => (if t240 = bt244.2.2 then (if t239 = bt244.2.1 then ((standstillref07_Fits.f k3 a0_0 l0_1 l0_2 t236).bind fun t249 => (if t249 = true then ((standstilllaw07_named.f k3 t236 l2).bind fun t250 => ((standstillref07_Same.f k3 t250 bt244.1).bind fun t253 => (if t253 = true then ((standstilllaw07_awake.f k3).bind fun t254 => (some t254)) else (none)))) else (none))) else (none)) else (none)))) = some r := H
               have A79 := Aside0.mk A790
               clear A790
               replace H := Option.bind_eq_some_iff.mp H
               obtain ⟨t241, A800, H⟩ := H
               replace H : ((tag_Run.f k3 a0_0 x227001_3 x227002_3 t241 (wrap64 (a3))).bind fun bt244 => (if t240 = bt244.2.2 then (if t239 = bt244.2.1 then ((standstillref07_Fits.f k3 a0_0 l0_1 l0_2 t236).bind fun t249 => (if t249 = true then ((standstilllaw07_named.f k3 t236 l2).bind fun t250 => ((standstillref07_Same.f k3 t250 bt244.1).bind fun t253 => (if t253 = true then ((standstilllaw07_awake.f k3).bind fun t254 => (some t254)) else (none)))) else (none))) else (none)) else (none))) = some r := H
               have A80 := Aside0.mk A800
               clear A800
               replace H := Option.bind_eq_some_iff.mp H
               obtain ⟨⟨t244, t247, t248⟩, A810, H⟩ := H
               replace H : (if t240 = t248 then (if t239 = t247 then ((standstillref07_Fits.f k3 a0_0 l0_1 l0_2 t236).bind fun t249 => (if t249 = true then ((standstilllaw07_named.f k3 t236 l2).bind fun t250 => ((standstillref07_Same.f k3 t250 t244).bind fun t253 => (if t253 = true then ((standstilllaw07_awake.f k3).bind fun t254 => (some t254)) else (none)))) else (none))) else (none)) else (none)) = some r := H
               have A81 := Aside0.mk A810
               clear A810
               by_cases c82 : t240 = t248
               ·rw [if_pos c82] at H
                have c82b0 : (t240 == t248) = true := beq_iff_eq.mpr c82
                have c82b1 : (t240 != t248) = false := bne_eq_false_iff_eq.mpr c82
                clear c82
                by_cases c83 : t239 = t247
                ·rw [if_pos c83] at H
                 have c83b0 : (t239 == t247) = true := beq_iff_eq.mpr c83
                 have c83b1 : (t239 != t247) = false := bne_eq_false_iff_eq.mpr c83
                 clear c83
                 replace H := Option.bind_eq_some_iff.mp H
                 obtain ⟨t249, A840, H⟩ := H
                 replace H : (if t249 = true then ((standstilllaw07_named.f k3 t236 l2).bind fun t250 => ((standstillref07_Same.f k3 t250 t244).bind fun t253 => (if t253 = true then ((standstilllaw07_awake.f k3).bind fun t254 => (some t254)) else (none)))) else (none)) = some r := H
                 have A84 := Aside0.mk A840
                 clear A840
                 by_cases c85 : t249 = true
                 ·subst c85
                  have H1 : ((standstilllaw07_named.f k3 t236 l2).bind fun t250 => ((standstillref07_Same.f k3 t250 t244).bind fun t253 => (if t253 = true then ((standstilllaw07_awake.f k3).bind fun t254 => (some t254)) else (none)))) = some r := by rw [if_pos rfl] at H; exact H
                  clear H
                  have H := H1
                  clear H1
                  replace H := Option.bind_eq_some_iff.mp H
                  obtain ⟨t250, A860, H⟩ := H
                  replace H : ((standstillref07_Same.f k3 t250 t244).bind fun t253 => (if t253 = true then ((standstilllaw07_awake.f k3).bind fun t254 => (some t254)) else (none))) = some r := H
                  have A86 := Aside0.mk A860
                  clear A860
                  replace H := Option.bind_eq_some_iff.mp H
                  obtain ⟨t253, A870, H⟩ := H
                  replace H : (if t253 = true then ((standstilllaw07_awake.f k3).bind fun t254 => (some t254)) else (none)) = some r := H
                  have A87 := Aside0.mk A870
                  clear A870
                  by_cases c88 : t253 = true
                  ·subst c88
                   have H1 : ((standstilllaw07_awake.f k3).bind fun t254 => (some t254)) = some r := by rw [if_pos rfl] at H; exact H
                   clear H
                   have H := H1
                   clear H1
                   replace H := Option.bind_eq_some_iff.mp H
                   obtain ⟨t254, A890, H⟩ := H
                   replace H : (some t254) = some r := H
                   have A89 := Aside0.mk A890
                   clear A890
                   obtain rfl := Option.some.inj H
                   have hnb90 := NB204_226.out
                   have hnc90 := NB226_204.out
                   have hcz91_0 : wr.cell? ⟨gb204, 0, none⟩ = some (.int .i64 a0_0) := (blk_cell BK204.out 0).trans rfl
                   have hcz91_1 : wr.cell? ⟨gb204, 1, none⟩ = some (.slice A0_1 l0_1.length c0_1) := (blk_cell BK204.out 1).trans rfl
                   have hcz91_2 : wr.cell? ⟨gb204, 2, none⟩ = some (.slice A0_2 l0_2.length c0_2) := (blk_cell BK204.out 2).trans rfl
                   have hfz91_0 := blk_frozen BK204.out 0
                   have hfz91_1 := blk_frozen BK204.out 1
                   have hfz91_2 := blk_frozen BK204.out 2
                   try go_wp2_with (first | ((with_reducible refine gate_callee (f := 13) rfl ?_); refine goesL_ (some 122) rfl rfl Try.func13 (by kernel_rfl) rfl #[.agg #[.int .i64 a0_0, .slice A0_1 l0_1.length c0_1, .slice A0_2 l0_2.length c0_2], .slice A1 l1.length c1, .int .i64 (wrap64 (a3))] rfl gl_ ?_; (with_reducible refine (tag_Run.calls k3 a0_0 _ _ l0_1 _ _ l0_2 _ _ l1 (wrap64 (a3)) t236 t239 t240 _ ?side1 ?side2 ?side3 ?side4 ?side5 ?side6 A79.out).mono ?_); (case side1 => exact ck_ (Kd.C_below HR0_1.out HB.out)); (case side2 => exact HC0_1.out); (case side3 => exact ck_ (Kd.C_below HR0_2.out HB.out)); (case side4 => exact HC0_2.out); (case side5 => exact ck_ (Kd.C_below HR1.out HB.out)); (case side6 => exact HC1.out); rintro e w92 ⟨v237, rfl, ho0, hb⟩; refine ⟨_, rfl, ?_⟩; have n0_ := A_ (Kd.N_elder' (by (with_reducible repeat (first | apply Kd.N_alloc | apply Kd.N_drewN | apply Kd.N_drew)); exact HO_227001.out) (Kd.R_base ho0) hb); have n1_ := A_ (Kd.R_below (rk_ HO_227002.out) hb); have n2_ := A_ (Kd.R_lower ho0 (below_size (bk_ HB.out))); have n3_ := A_ (blk_below (pk_ BK204.out) hb); have n4_ := A_ (blk_below (pk_ BK226.out) hb); have n5_ := A_ (below_step (bk_ HB.out) hb); clear HO_227001 HO_227002 BK204 BK226 HB; have HO_227001 := n0_; have HO_227002 := n1_; have HO238 := n2_; have BK204 := n3_; have BK226 := n4_; have HB := n5_; clear n0_ n1_ n2_ n3_ n4_ n5_; (try clear hb); (try clear hb2); (try clear hk); (try clear hi); (try clear ho0)))
                   have n0_ := A_ (Kd.N_drew HO_227001.out)
                   have n1_ := A_ (Kd.R_drew HO_227002.out)
                   have n2_ := A_ (Kd.R_drew HO238.out)
                   have n3_ := A_ (blk_drew BK204.out)
                   have n4_ := A_ (blk_drew BK226.out)
                   have n5_ := A_ (below_drew1 HB.out)
                   clear HO_227001 HO_227002 HO238 BK204 BK226 HB
                   have HO_227001 := n0_
                   have HO_227002 := n1_
                   have HO238 := n2_
                   have BK204 := n3_
                   have BK226 := n4_
                   have HB := n5_
                   clear n0_ n1_ n2_ n3_ n4_ n5_
                   refine start_ (n := 14) (S := fun w' => w'.cell? ⟨gb226, 0, none⟩ = some (.int .i64 a0_0) ∧ w'.cell? ⟨gb226, 1, none⟩ = some (u227001) ∧ w'.cell? ⟨gb226, 2, none⟩ = some (u227002)) (ds := []) #[false, false, false, false, false, false, false, false, false, false, false, false, false, false] (by kernel_rfl) rfl rfl ⟨(blk_cell BK226.out 0).trans rfl, (blk_cell BK226.out 1).trans rfl, (blk_cell BK226.out 2).trans rfl⟩ (fun hHeld => ?_); refine with_tabW standstilllaw07_TagNames.tab16 standstilllaw07_TagNames.bits16 (fun HT_ HW_ => ?_)
                   generalize w92.drew = w93 at HO_227001 HO_227002 HO238 BK204 BK226 HB hHeld ⊢
                   refine pure_ (i := 1) (N := some 128) (v := ?_) (a' := ?_) #[false, true, false, false, false, false, false, false, false, false, false, false, false, false] rfl rfl (any_of HT_.out (by kernel_rfl)) (fun _ _ _ h => h) (Or.inl ⟨by rfl, ?_⟩) ?_ ?_
                   rotate_left
                   ·intro w'
                    go_simp
                    with_reducible rfl
                   rotate_left
                   ·simp only [Act.put, sa_, sz_, ss_, i64_w, i32_w]
                    rfl
                   refine pure_ (i := 2) (N := some 129) (v := ?_) (a' := ?_) #[false, true, true, false, false, false, false, false, false, false, false, false, false, false] rfl rfl (any_of HT_.out (by kernel_rfl)) (fun _ _ _ h => h) (Or.inl ⟨by rfl, ?_⟩) ?_ ?_
                   rotate_left
                   ·intro w'
                    go_simp
                    with_reducible rfl
                   rotate_left
                   ·simp only [Act.put, sa_, sz_, ss_, i64_w, i32_w]
                    rfl
                   refine pure_ (i := 4) (N := some 131) (v := ?_) (a' := ?_) #[false, true, true, false, true, false, false, false, false, false, false, false, false, false] rfl rfl (any_of HT_.out (by kernel_rfl)) (fun _ _ _ h => h) (Or.inl ⟨by rfl, ?_⟩) ?_ ?_
                   rotate_left
                   ·intro w'
                    go_simp
                    with_reducible rfl
                   rotate_left
                   ·simp only [Act.put, sa_, sz_, ss_, i64_w, i32_w]
                    rfl
                   refine pure_ (i := 5) (N := some 132) (v := ?_) (a' := ?_) #[false, true, true, false, true, true, false, false, false, false, false, false, false, false] rfl rfl (any_of HT_.out (by kernel_rfl)) (fun _ _ _ h => h) (Or.inl ⟨by rfl, ?_⟩) ?_ ?_
                   rotate_left
                   ·intro w'
                    go_simp
                    with_reducible rfl
                   rotate_left
                   ·simp only [Act.put, sa_, sz_, ss_, i64_w, i32_w]
                    rfl
                   refine take_ (i := 0) (N := some 127) (v := ?_) (a' := ?_) #[true, true, true, false, true, true, false, false, false, false, false, false, false, false] rfl rfl (take_ofW HT_.out HW_.out (by kernel_rfl)) (fun _ _ _ h => h) (Or.inl ⟨by rfl, ?_⟩) hHeld ?_ ?_
                   rotate_left
                   ·rintro w' ⟨s0, s1, s2⟩
                    go_simp
                    with_reducible rfl
                   rotate_left
                   ·simp only [Act.put, sa_, sz_, ss_, i64_w, i32_w]
                    rfl
                   refine one_ (i := 3) (N := some 130) #[true, true, true, true, true, true, false, false, false, false, false, false, false, false] rfl rfl (one_of HT_.out (by kernel_rfl)) (by decide) (fun K hK => ?_)
                   refine goes_ Try.func12 (by kernel_rfl) rfl #[.slice A1 l1.length c1, .slice A2 l2.length c2] (by rfl) rfl rfl gl_ ?_
                   with_reducible refine (standstilllaw07_named.calls k3 _ _ l1 _ _ l2 t241 _ ?side1 ?side2 ?side3 ?side4 A80.out).mono ?_
                   (case side1 => exact ck_ (Kd.C_below HR1.out HB.out))
                   (case side2 => exact HC1.out)
                   (case side3 => exact ck_ (Kd.C_below HR2.out HB.out))
                   (case side4 => exact HC2.out)
                   rintro e w94 ⟨v242, rfl, ho0, hb⟩
                   refine ⟨_, rfl, ?_⟩
                   have n0_ := A_ (Kd.N_elder' (by (with_reducible repeat (first | apply Kd.N_alloc | apply Kd.N_drewN | apply Kd.N_drew)); exact HO_227001.out) (Kd.R_base ho0) hb)
                   have n1_ := A_ (Kd.R_below (rk_ HO_227002.out) hb)
                   have n2_ := A_ (Kd.R_elder' (rk_ HO238.out) (Kd.R_base ho0) hb)
                   have n3_ := A_ (Kd.R_lower (Kd.R_new' ho0 (Kd.R_lt (rk_ HO238.out))) (below_size (bk_ HB.out)))
                   have n4_ := A_ (blk_below (pk_ BK204.out) hb)
                   have n5_ := A_ (blk_below (pk_ BK226.out) hb)
                   have n6_ := A_ (below_step (bk_ HB.out) hb)
                   clear HO_227001 HO_227002 HO238 BK204 BK226 HB
                   have HO_227001 := n0_
                   have HO_227002 := n1_
                   have HO238 := n2_
                   have HO243 := n3_
                   have BK204 := n4_
                   have BK226 := n5_
                   have HB := n6_
                   clear n0_ n1_ n2_ n3_ n4_ n5_ n6_
                   (try clear hb)
                   (try clear hb2)
                   (try clear hk)
                   (try clear hi)
                   (try clear ho0)
                   obtain ⟨Ao95, co95, eo95⟩ := Kd.N_slice HO_227001.out
                   (first | subst eo95 | (injection eo95 with f1_ f2_ f3_; have f4_ := f1_.symm; have f5_ := f3_.symm; clear f1_ f2_ f3_; subst f4_; subst f5_))
                   obtain ⟨Ao96, co96, eo96⟩ := Kd.R_slice HO_227002.out
                   (first | subst eo96 | (injection eo96 with f1_ f2_ f3_; have f4_ := f1_.symm; have f5_ := f3_.symm; clear f1_ f2_ f3_; subst f4_; subst f5_))
                   obtain ⟨Ao97, co97, eo97⟩ := Kd.R_slice HO243.out
                   (first | subst eo97 | (injection eo97 with f1_ f2_ f3_; have f4_ := f1_.symm; have f5_ := f3_.symm; clear f1_ f2_ f3_; subst f4_; subst f5_))
                   refine hK.out _ _ ⟨(blk_cell BK226.out 0).trans rfl, (blk_cell BK226.out 1).trans rfl, (blk_cell BK226.out 2).trans rfl⟩ (fun hHeld => ?_)
                   clear hK K
                   refine norm_ (a' := ?_) ?_ ?_
                   rotate_left
                   ·show Act.put _ (some 130) _ = _
                    simp only [Act.put, sa_, sz_, ss_, i64_w, i32_w]
                    rfl
                   refine one_ (i := 6) (N := some 133) #[true, true, true, true, true, true, true, false, false, false, false, false, false, false] rfl rfl (one_of HT_.out (by kernel_rfl)) (by decide) (fun K hK => ?_)
                   refine goes_ Try.func13 (by kernel_rfl) rfl #[.agg #[.int .i64 a0_0, .slice Ao95 x227001_3.length co95, .slice Ao96 x227002_3.length co96], .slice Ao97 t241.length co97, .int .i64 (wrap64 (a3))] (by rfl) rfl rfl gl_ ?_
                   with_reducible refine (tag_Run.calls k3 a0_0 _ _ x227001_3 _ _ x227002_3 _ _ t241 (wrap64 (a3)) t244 t247 t248 _ ?side1 ?side2 ?side3 ?side4 ?side5 ?side6 A81.out).mono ?_
                   (case side1 => repeat (first | exact (Kd.N_reads' HO_227001.out).2.2 | (with_reducible refine Kd.C_alloc ?_ _) | (with_reducible refine Kd.C_drewN ?_ _) | (with_reducible refine Kd.C_drew ?_)))
                   (case side2 => exact (Kd.N_reads' HO_227001.out).2.1)
                   (case side3 => repeat (first | exact (Kd.R_reads' HO_227002.out).2.2 | (with_reducible refine Kd.C_alloc ?_ _) | (with_reducible refine Kd.C_drewN ?_ _) | (with_reducible refine Kd.C_drew ?_)))
                   (case side4 => exact (Kd.R_reads' HO_227002.out).2.1)
                   (case side5 => repeat (first | exact (Kd.R_reads' HO243.out).2.2 | (with_reducible refine Kd.C_alloc ?_ _) | (with_reducible refine Kd.C_drewN ?_ _) | (with_reducible refine Kd.C_drew ?_)))
                   (case side6 => exact (Kd.R_reads' HO243.out).2.1)
                   rintro e w98 ⟨v245, rfl, ho0, hb⟩
                   refine ⟨_, rfl, ?_⟩
                   have n0_ := A_ (Kd.N_elder' (by (with_reducible repeat (first | apply Kd.N_alloc | apply Kd.N_drewN | apply Kd.N_drew)); exact HO_227001.out) (Kd.R_base ho0) hb)
                   have n1_ := A_ (Kd.R_below (rk_ HO_227002.out) hb)
                   have n2_ := A_ (Kd.R_elder' (rk_ HO238.out) (Kd.R_base ho0) hb)
                   have n3_ := A_ (Kd.R_elder' (rk_ HO243.out) (Kd.R_base ho0) hb)
                   have n4_ := A_ (Kd.R_lower (Kd.R_new' (Kd.R_new' ho0 (Kd.R_lt (rk_ HO238.out))) (Kd.R_lt (rk_ HO243.out))) (below_size (bk_ HB.out)))
                   have n5_ := A_ (blk_below (pk_ BK204.out) hb)
                   have n6_ := A_ (blk_below (pk_ BK226.out) hb)
                   have n7_ := A_ (below_step (bk_ HB.out) hb)
                   clear HO_227001 HO_227002 HO238 HO243 BK204 BK226 HB
                   have HO_227001 := n0_
                   have HO_227002 := n1_
                   have HO238 := n2_
                   have HO243 := n3_
                   have HO246 := n4_
                   have BK204 := n5_
                   have BK226 := n6_
                   have HB := n7_
                   clear n0_ n1_ n2_ n3_ n4_ n5_ n6_ n7_
                   (try clear hb)
                   (try clear hb2)
                   (try clear hk)
                   (try clear hi)
                   (try clear ho0)
                   refine hK.out _ _ ⟨(blk_cell BK226.out 0).trans rfl, (blk_cell BK226.out 1).trans rfl, (blk_cell BK226.out 2).trans rfl⟩ (fun hHeld => ?_)
                   clear hK K
                   refine norm_ (a' := ?_) ?_ ?_
                   rotate_left
                   ·show Act.put _ (some 133) _ = _
                    simp only [Act.put, sa_, sz_, ss_, i64_w, i32_w]
                    rfl
                   refine pure_ (i := 7) (N := some 126) (v := ?_) (a' := ?_) #[true, true, true, true, true, true, true, true, false, false, false, false, false, false] rfl rfl (any_of HT_.out (by kernel_rfl)) (fun _ _ _ h => h) (Or.inl ⟨by rfl, ?_⟩) ?_ ?_
                   rotate_left
                   ·intro w'
                    go_simp
                    with_reducible rfl
                   rotate_left
                   ·simp only [Act.put, sa_, sz_, ss_, i64_w, i32_w]
                    rfl
                   refine pure_ (i := 8) (N := some 134) (v := ?_) (a' := ?_) #[true, true, true, true, true, true, true, true, true, false, false, false, false, false] rfl rfl (any_of HT_.out (by kernel_rfl)) (fun _ _ _ h => h) (Or.inl ⟨by rfl, ?_⟩) ?_ ?_
                   rotate_left
                   ·intro w'
                    go_simp
                    with_reducible rfl
                   rotate_left
                   ·simp only [Act.put, sa_, sz_, ss_, i64_w, i32_w]
                    rfl
                   refine pure_ (i := 9) (N := some 135) (v := ?_) (a' := ?_) #[true, true, true, true, true, true, true, true, true, true, false, false, false, false] rfl rfl (any_of HT_.out (by kernel_rfl)) (fun _ _ _ h => h) (Or.inl ⟨by rfl, ?_⟩) ?_ ?_
                   rotate_left
                   ·intro w'
                    go_simp
                    with_reducible rfl
                   rotate_left
                   ·simp only [Act.put, sa_, sz_, ss_, i64_w, i32_w]
                    rfl
                   refine pure_ (i := 10) (N := some 136) (v := ?_) (a' := ?_) #[true, true, true, true, true, true, true, true, true, true, true, false, false, false] rfl rfl (any_of HT_.out (by kernel_rfl)) (fun _ _ _ h => h) (Or.inl ⟨by rfl, ?_⟩) ?_ ?_
                   rotate_left
                   ·intro w'
                    go_simp
                    with_reducible rfl
                   rotate_left
                   ·simp only [Act.put, sa_, sz_, ss_, i64_w, i32_w]
                    rfl
                   refine pure_ (i := 11) (N := some 16) (v := ?_) (a' := ?_) #[true, true, true, true, true, true, true, true, true, true, true, true, false, false] rfl rfl (any_of HT_.out (by kernel_rfl)) (fun _ _ _ h => h) (Or.inl ⟨by rfl, ?_⟩) ?_ ?_
                   rotate_left
                   ·intro w'
                    go_simp
                    with_reducible rfl
                   rotate_left
                   ·simp only [Act.put, sa_, sz_, ss_, i64_w, i32_w]
                    rfl
                   refine pure_ (i := 12) (N := some 17) (v := ?_) (a' := ?_) #[true, true, true, true, true, true, true, true, true, true, true, true, true, false] rfl rfl (any_of HT_.out (by kernel_rfl)) (fun _ _ _ h => h) (Or.inl ⟨by rfl, ?_⟩) ?_ ?_
                   rotate_left
                   ·intro w'
                    go_simp
                    with_reducible rfl
                   rotate_left
                   ·simp only [Act.put, sa_, sz_, ss_, i64_w, i32_w]
                    rfl
                   refine pure_ (i := 13) (N := some 18) (v := ?_) (a' := ?_) #[true, true, true, true, true, true, true, true, true, true, true, true, true, true] rfl rfl (any_of HT_.out (by kernel_rfl)) (fun _ _ _ h => h) (Or.inl ⟨by rfl, ?_⟩) ?_ ?_
                   rotate_left
                   ·intro w'
                    go_simp
                    with_reducible rfl
                   rotate_left
                   ·simp only [Act.put, sa_, sz_, ss_, i64_w, i32_w]
                    rfl
                   refine done_ (done_of HT_.out (by kernel_rfl)) ?_
                   have hcz99_0 : w98.cell? ⟨gb204, 0, none⟩ = some (.int .i64 a0_0) := (blk_cell BK204.out 0).trans rfl
                   have hcz99_1 : w98.cell? ⟨gb204, 1, none⟩ = some (.slice A0_1 l0_1.length c0_1) := (blk_cell BK204.out 1).trans rfl
                   have hcz99_2 : w98.cell? ⟨gb204, 2, none⟩ = some (.slice A0_2 l0_2.length c0_2) := (blk_cell BK204.out 2).trans rfl
                   have hfz99_0 := blk_frozen BK204.out 0
                   have hfz99_1 := blk_frozen BK204.out 1
                   have hfz99_2 := blk_frozen BK204.out 2
                   obtain ⟨Ao100, co100, eo100⟩ := Kd.R_slice HO238.out
                   subst eo100
                   try go_wp2_with (first | (go_at_call 10; (with_reducible refine (standstillref07_Fits.calls k3 a0_0 _ _ l0_1 _ _ l0_2 _ _ t236 true _ ?side1 ?side2 ?side3 ?side4 ?side5 ?side6 A84.out).mono ?_); (case side1 => exact ck_ (Kd.C_below HR0_1.out HB.out)); (case side2 => exact HC0_1.out); (case side3 => exact ck_ (Kd.C_below HR0_2.out HB.out)); (case side4 => exact HC0_2.out); (case side5 => repeat (first | exact (Kd.R_reads' HO238.out).2.2 | (with_reducible refine Kd.C_alloc ?_ _) | (with_reducible refine Kd.C_drewN ?_ _) | (with_reducible refine Kd.C_drew ?_))); (case side6 => exact (Kd.R_reads' HO238.out).2.1); rintro e w101 ⟨rfl, hb⟩; have n0_ := A_ (Kd.N_below (by (with_reducible repeat (first | apply Kd.N_alloc | apply Kd.N_drewN | apply Kd.N_drew)); exact HO_227001.out) hb); have n1_ := A_ (Kd.R_below (rk_ HO_227002.out) hb); have n2_ := A_ (Kd.R_below (rk_ HO238.out) hb); have n3_ := A_ (Kd.R_below (rk_ HO243.out) hb); have n4_ := A_ (Kd.R_below (rk_ HO246.out) hb); have n5_ := A_ (blk_below (pk_ BK204.out) hb); have n6_ := A_ (blk_below (pk_ BK226.out) hb); have n7_ := A_ (below_step (bk_ HB.out) hb); clear HO_227001 HO_227002 HO238 HO243 HO246 BK204 BK226 HB; have HO_227001 := n0_; have HO_227002 := n1_; have HO238 := n2_; have HO243 := n3_; have HO246 := n4_; have BK204 := n5_; have BK226 := n6_; have HB := n7_; clear n0_ n1_ n2_ n3_ n4_ n5_ n6_ n7_; (try clear hb); (try clear hb2); (try clear hk); (try clear hi)) | (go_at_call 12; (with_reducible refine (standstilllaw07_named.calls k3 _ _ t236 _ _ l2 t250 _ ?side1 ?side2 ?side3 ?side4 A86.out).mono ?_); (case side1 => repeat (first | exact (Kd.R_reads' HO238.out).2.2 | (with_reducible refine Kd.C_alloc ?_ _) | (with_reducible refine Kd.C_drewN ?_ _) | (with_reducible refine Kd.C_drew ?_))); (case side2 => exact (Kd.R_reads' HO238.out).2.1); (case side3 => exact ck_ (Kd.C_below HR2.out HB.out)); (case side4 => exact HC2.out); rintro e w102 ⟨v251, rfl, ho0, hb⟩; have n0_ := A_ (Kd.N_elder' (by (with_reducible repeat (first | apply Kd.N_alloc | apply Kd.N_drewN | apply Kd.N_drew)); exact HO_227001.out) (Kd.R_base ho0) hb); have n1_ := A_ (Kd.R_below (rk_ HO_227002.out) hb); have n2_ := A_ (Kd.R_elder' (rk_ HO238.out) (Kd.R_base ho0) hb); have n3_ := A_ (Kd.R_elder' (rk_ HO243.out) (Kd.R_base ho0) hb); have n4_ := A_ (Kd.R_elder' (rk_ HO246.out) (Kd.R_base ho0) hb); have n5_ := A_ (Kd.R_lower (Kd.R_new' (Kd.R_new' (Kd.R_new' ho0 (Kd.R_lt (rk_ HO238.out))) (Kd.R_lt (rk_ HO243.out))) (Kd.R_lt (rk_ HO246.out))) (below_size (bk_ HB.out))); have n6_ := A_ (blk_below (pk_ BK204.out) hb); have n7_ := A_ (blk_below (pk_ BK226.out) hb); have n8_ := A_ (below_step (bk_ HB.out) hb); clear HO_227001 HO_227002 HO238 HO243 HO246 BK204 BK226 HB; have HO_227001 := n0_; have HO_227002 := n1_; have HO238 := n2_; have HO243 := n3_; have HO246 := n4_; have HO252 := n5_; have BK204 := n6_; have BK226 := n7_; have HB := n8_; clear n0_ n1_ n2_ n3_ n4_ n5_ n6_ n7_ n8_; (try clear hb); (try clear hb2); (try clear hk); (try clear hi); (try clear ho0); obtain ⟨Ao103, co103, eo103⟩ := Kd.R_slice HO252.out; subst eo103; obtain ⟨Ao104, co104, eo104⟩ := Kd.R_slice HO246.out; subst eo104) | (go_at_call 14; (with_reducible refine (standstillref07_Same.calls k3 _ _ t250 _ _ t244 true _ ?side1 ?side2 ?side3 ?side4 A87.out).mono ?_); (case side1 => repeat (first | exact (Kd.R_reads' HO252.out).2.2 | (with_reducible refine Kd.C_alloc ?_ _) | (with_reducible refine Kd.C_drewN ?_ _) | (with_reducible refine Kd.C_drew ?_))); (case side2 => exact (Kd.R_reads' HO252.out).2.1); (case side3 => repeat (first | exact (Kd.R_reads' HO246.out).2.2 | (with_reducible refine Kd.C_alloc ?_ _) | (with_reducible refine Kd.C_drewN ?_ _) | (with_reducible refine Kd.C_drew ?_))); (case side4 => exact (Kd.R_reads' HO246.out).2.1); rintro e w' ⟨rfl, ⟨nd, rfl⟩⟩) | (go_at_call 11; (with_reducible refine (standstilllaw07_awake.calls k3  t254 _ A89.out).mono ?_); rintro e w105 ⟨rfl, hb⟩; have n0_ := A_ (Kd.N_below (by (with_reducible repeat (first | apply Kd.N_alloc | apply Kd.N_drewN | apply Kd.N_drew)); exact HO_227001.out) hb); have n1_ := A_ (Kd.R_below (rk_ HO_227002.out) hb); have n2_ := A_ (Kd.R_below (rk_ HO238.out) hb); have n3_ := A_ (Kd.R_below (rk_ HO243.out) hb); have n4_ := A_ (Kd.R_below (rk_ HO246.out) hb); have n5_ := A_ (Kd.R_below (rk_ HO252.out) hb); have n6_ := A_ (blk_below (pk_ BK204.out) hb); have n7_ := A_ (blk_below (pk_ BK226.out) hb); have n8_ := A_ (below_step (bk_ HB.out) hb); clear HO_227001 HO_227002 HO238 HO243 HO246 HO252 BK204 BK226 HB; have HO_227001 := n0_; have HO_227002 := n1_; have HO238 := n2_; have HO243 := n3_; have HO246 := n4_; have HO252 := n5_; have BK204 := n6_; have BK226 := n7_; have HB := n8_; clear n0_ n1_ n2_ n3_ n4_ n5_ n6_ n7_ n8_; (try clear hb); (try clear hb2); (try clear hk); (try clear hi)))
                   go_ret
                   exact ⟨er_, bk_ HB.out⟩
                  ·replace c88 := Bool.eq_false_iff.mpr c88
                   subst c88
                   have H1 : (none) = some r := by rw [if_neg (show ¬ (false = true) by decide)] at H; exact H
                   clear H
                   have H := H1
                   clear H1
                   exact absurd H (by simp)
                 ·replace c85 := Bool.eq_false_iff.mpr c85
                  subst c85
                  have H1 : (none) = some r := by rw [if_neg (show ¬ (false = true) by decide)] at H; exact H
                  clear H
                  have H := H1
                  clear H1
                  exact absurd H (by simp)
                ·rw [if_neg c83] at H
                 exact absurd H (by simp)
               ·rw [if_neg c82] at H
                exact absurd H (by simp)
           ·rw [if_neg c50] at H
            exact absurd H (by simp)
          ·rw [if_neg c49] at H
           exact absurd H (by simp)
         ·rw [if_neg c48] at H
          exact absurd H (by simp)
     ·rw [if_neg c26] at H
      exact absurd H (by simp)
    ·rw [if_neg c25] at H
     exact absurd H (by simp)

/-- THE ONE PURE STATEMENT of standstilllaw07_TagNames. -/
def standstilllaw07_TagNames.Pure : Prop := ∀ (a0_0 : Int) (l0_1 : List (List Int)) (l0_2 : List Bool) (l1 : List Int) (l2 : List Int) (a3 : Int), ((Lit.int .i64 a0_0).wf = true) → (l0_1.length * 24 ≤ 140737488351232 ∧ ∀ y_ ∈ l0_1, (y_.length * 8 ≤ 140737488351232 ∧ ∀ y__ ∈ y_, (Lit.int .i64 y__).wf = true)) → (l0_2.length * 1 ≤ 140737488351232 ∧ ∀ y_ ∈ l0_2, True) → (l1.length * 8 ≤ 140737488351232 ∧ ∀ y_ ∈ l1, (Lit.int .i64 y_).wf = true) → (l2.length * 8 ≤ 140737488351232 ∧ ∀ y_ ∈ l2, (Lit.int .i64 y_).wf = true) → ((Lit.int .u8 a3).wf = true) → ∃ k, standstilllaw07_TagNames.f k a0_0 l0_1 l0_2 l1 l2 a3 = some true

end Go.Proofs.Ytkinnaegedbanaa.PTagNames

