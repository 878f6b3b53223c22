-- out of a turned copy of the print, by a program of this session; Lean checks it
import Derived.Test.YtcdejoaekkcknaaPBlockCrossesx0
import Derived.Test.YtcdejoaekkcknaaPBlockCrossesx1
import Derived.Test.YtcdejoaekkcknaaPBlockCrossesx3
import Derived.Test.YtcdejoaekkcknaaPBlockCrossesx4
import Derived.Test.YtcdejoaekkcknaaPBlockCrossesx7
import Derived.Test.YtcdejoaekkcknaaPBlockCrossesx8
namespace Go.Proofs.Ytcdejoaekkcknaa.PBlockCrosses
open Go.RowKit Go.Proofs.YtcdejoaekkcknaaW.PrintWords Go.Proofs.YtcdejoaekkcknaaW.PrintLast Go.Proofs.YtcdejoaekkcknaaW.PrintMore
attribute [local go_sem] max2_int min2_int max_two min_two max_three min_three max_four min_four   -- for this text's walks alone
set_option linter.unusedVariables false
set_option linter.unusedSimpArgs false

attribute [local go_sem] isSome_put_
/-! ### standstilllaw05_BlockCrosses: function 3 -/
mutual
def standstilllaw05_BlockCrosses.j0 : Nat → Int → Int → List Int → Bool → Int → Int → List (List (S57)) → Option (Bool)
 | 0, _, _, _, _, _, _, _ => none
 | k + 1, x1, x2, x3, x17, x237000, x237001, x237002 => if x17 = true then ((standstilllaw05_awake.f k).bind fun t238 => (some t238)) else ((block_Cross.f k x237000 x237001 x237002 x1 x2 x3).bind fun bt239 => ((standstillref01_Valid.f k x237000 x237001 x237002).bind fun t248 => (if t248 = true then (if x1 < 0 then (standstilllaw05_BlockCrosses.j1 k x1 x2 x3 bt239.2.2.2.2.2 true x237000 x237001 x237002 bt239.1 bt239.2.1 bt239.2.2.1 bt239.2.2.2.1 bt239.2.2.2.2.1) else (if x1 ≥ x237000 then (standstilllaw05_BlockCrosses.j1 k x1 x2 x3 bt239.2.2.2.2.2 true x237000 x237001 x237002 bt239.1 bt239.2.1 bt239.2.2.1 bt239.2.2.2.1 bt239.2.2.2.2.1) else ((standstillref05_Word.f k x237000 x237001 x237002 x3).bind fun t249 => (if t249 = true then (if x2 < 0 then (standstilllaw05_BlockCrosses.j1 k x1 x2 x3 bt239.2.2.2.2.2 true x237000 x237001 x237002 bt239.1 bt239.2.1 bt239.2.2.1 bt239.2.2.2.1 bt239.2.2.2.2.1) else (standstilllaw05_BlockCrosses.j1 k x1 x2 x3 bt239.2.2.2.2.2 (decide (x2 ≥ (x3.length : Int))) x237000 x237001 x237002 bt239.1 bt239.2.1 bt239.2.2.1 bt239.2.2.2.1 bt239.2.2.2.2.1)) else (standstilllaw05_BlockCrosses.j1 k x1 x2 x3 bt239.2.2.2.2.2 true x237000 x237001 x237002 bt239.1 bt239.2.1 bt239.2.2.1 bt239.2.2.2.1 bt239.2.2.2.2.1))))) else (if bt239.2.2.2.2.2 = 1 then ((standstillref05_Same.f k bt239.1 bt239.2.1 bt239.2.2.1 bt239.2.2.2.1 bt239.2.2.2.2.1 0 0 0 0 ([] : List Int)).bind fun t261 => (if t261 = true then ((standstilllaw05_awake.f k).bind fun t262 => (some t262)) else (none))) else (none)))))
def standstilllaw05_BlockCrosses.j1 : Nat → Int → Int → List Int → Int → Bool → Int → Int → List (List (S57)) → Int → Int → Int → Int → List Int → Option (Bool)
 | 0, _, _, _, _, _, _, _, _, _, _, _, _, _ => none
 | k + 1, x1, x2, x3, x10, x41, x237000, x237001, x237002, x248000, x248001, x248002, x248003, x248004 => if x41 = true then (if x10 = 2 then ((standstillref05_Same.f k x248000 x248001 x248002 x248003 x248004 0 0 0 0 ([] : List Int)).bind fun t250 => (if t250 = true then ((standstilllaw05_awake.f k).bind fun t251 => (some t251)) else (none))) else (none)) else (if x10 = 0 then ((standstillref05_Cross.f k x237000 x237001 x237002 x1 x2 x3).bind fun bt252 => ((standstillref05_Same.f k x248000 x248001 x248002 x248003 x248004 bt252.1 bt252.2.1 bt252.2.2.1 bt252.2.2.2.1 bt252.2.2.2.2).bind fun t259 => (if t259 = true then ((standstilllaw05_awake.f k).bind fun t260 => (some t260)) else (none)))) else (none))
end
def standstilllaw05_BlockCrosses.f (k : Nat) (a0_0 : Int) (a0_1 : Int) (l0_2 : List (List (S57))) (a1 : Int) (a2 : Int) (l3 : List Int) : Option (Bool) := (standstilllaw05_wide.f k a0_0 a0_1 l0_2).bind fun t237 => (if t237 = true then (standstilllaw05_BlockCrosses.j0 k a1 a2 l3 true a0_0 a0_1 l0_2) else (standstilllaw05_BlockCrosses.j0 k a1 a2 l3 (decide ((l3.length : Int) > 1000)) a0_0 a0_1 l0_2))
theorem standstilllaw05_BlockCrosses.mono_l : ∀ k, (∀ y0 y1 y2 y3 y4 y5 y6, LeO (standstilllaw05_BlockCrosses.j0 k y0 y1 y2 y3 y4 y5 y6) (standstilllaw05_BlockCrosses.j0 (k + 1) y0 y1 y2 y3 y4 y5 y6)) ∧ (∀ y0 y1 y2 y3 y4 y5 y6 y7 y8 y9 y10 y11 y12, LeO (standstilllaw05_BlockCrosses.j1 k y0 y1 y2 y3 y4 y5 y6 y7 y8 y9 y10 y11 y12) (standstilllaw05_BlockCrosses.j1 (k + 1) y0 y1 y2 y3 y4 y5 y6 y7 y8 y9 y10 y11 y12))
 | 0 => ⟨fun _ _ _ _ _ _ _ r h => by simp [standstilllaw05_BlockCrosses.j0] at h, fun _ _ _ _ _ _ _ _ _ _ _ _ _ r h => by simp [standstilllaw05_BlockCrosses.j1] at h⟩
 | k + 1 => by
  obtain ⟨ih0, ih1⟩ := standstilllaw05_BlockCrosses.mono_l k
  refine ⟨?_, ?_⟩
  ·intro y0 y1 y2 y3 y4 y5 y6
   unfold standstilllaw05_BlockCrosses.j0
   repeat' first
   | (with_reducible exact ih0 _ _ _ _ _ _ _)
   | (with_reducible exact ih1 _ _ _ _ _ _ _ _ _ _ _ _ _)
   | (with_reducible exact block_Cross.mono _ _ _ _ _ _ _)
   | (with_reducible exact standstilllaw05_awake.mono _)
   | (with_reducible exact standstilllaw05_wide.mono _ _ _ _)
   | (with_reducible exact standstillref01_Valid.mono _ _ _ _)
   | (with_reducible exact standstillref05_Cross.mono _ _ _ _ _ _ _)
   | (with_reducible exact standstillref05_Same.mono _ _ _ _ _ _ _ _ _ _ _)
   | (with_reducible exact standstillref05_Word.mono _ _ _ _ _)
   | (with_reducible exact LeO.refl _)
   | (with_reducible exact LeO.none _)
   | (with_reducible refine LeO.ite ?_ ?_)
   | (with_reducible refine LeO.bind ?_ (fun _ => ?_))
   | exact ih0 _ _ _ _ _ _ _
   | exact ih1 _ _ _ _ _ _ _ _ _ _ _ _ _
   | exact block_Cross.mono _ _ _ _ _ _ _
   | exact standstilllaw05_awake.mono _
   | exact standstilllaw05_wide.mono _ _ _ _
   | exact standstillref01_Valid.mono _ _ _ _
   | exact standstillref05_Cross.mono _ _ _ _ _ _ _
   | exact standstillref05_Same.mono _ _ _ _ _ _ _ _ _ _ _
   | exact standstillref05_Word.mono _ _ _ _ _
   | exact LeO.none _
   | refine LeO.ite ?_ ?_
   | refine LeO.bind ?_ (fun _ => ?_)
  ·intro y0 y1 y2 y3 y4 y5 y6 y7 y8 y9 y10 y11 y12
   unfold standstilllaw05_BlockCrosses.j1
   repeat' first
   | (with_reducible exact ih0 _ _ _ _ _ _ _)
   | (with_reducible exact ih1 _ _ _ _ _ _ _ _ _ _ _ _ _)
   | (with_reducible exact block_Cross.mono _ _ _ _ _ _ _)
   | (with_reducible exact standstilllaw05_awake.mono _)
   | (with_reducible exact standstilllaw05_wide.mono _ _ _ _)
   | (with_reducible exact standstillref01_Valid.mono _ _ _ _)
   | (with_reducible exact standstillref05_Cross.mono _ _ _ _ _ _ _)
   | (with_reducible exact standstillref05_Same.mono _ _ _ _ _ _ _ _ _ _ _)
   | (with_reducible exact standstillref05_Word.mono _ _ _ _ _)
   | (with_reducible exact LeO.refl _)
   | (with_reducible exact LeO.none _)
   | (with_reducible refine LeO.ite ?_ ?_)
   | (with_reducible refine LeO.bind ?_ (fun _ => ?_))
   | exact ih0 _ _ _ _ _ _ _
   | exact ih1 _ _ _ _ _ _ _ _ _ _ _ _ _
   | exact block_Cross.mono _ _ _ _ _ _ _
   | exact standstilllaw05_awake.mono _
   | exact standstilllaw05_wide.mono _ _ _ _
   | exact standstillref01_Valid.mono _ _ _ _
   | exact standstillref05_Cross.mono _ _ _ _ _ _ _
   | exact standstillref05_Same.mono _ _ _ _ _ _ _ _ _ _ _
   | exact standstillref05_Word.mono _ _ _ _ _
   | exact LeO.none _
   | refine LeO.ite ?_ ?_
   | refine LeO.bind ?_ (fun _ => ?_)
theorem standstilllaw05_BlockCrosses.mono : ∀ a0 a1 a2 a3 a4 a5 k, LeO (standstilllaw05_BlockCrosses.f k a0 a1 a2 a3 a4 a5) (standstilllaw05_BlockCrosses.f (k + 1) a0 a1 a2 a3 a4 a5) := by
 intro a0 a1 a2 a3 a4 a5 k
 obtain ⟨ih0, ih1⟩ := standstilllaw05_BlockCrosses.mono_l k
 unfold standstilllaw05_BlockCrosses.f
 repeat' first
   | (with_reducible exact ih0 _ _ _ _ _ _ _)
   | (with_reducible exact ih1 _ _ _ _ _ _ _ _ _ _ _ _ _)
   | (with_reducible exact block_Cross.mono _ _ _ _ _ _ _)
   | (with_reducible exact standstilllaw05_awake.mono _)
   | (with_reducible exact standstilllaw05_wide.mono _ _ _ _)
   | (with_reducible exact standstillref01_Valid.mono _ _ _ _)
   | (with_reducible exact standstillref05_Cross.mono _ _ _ _ _ _ _)
   | (with_reducible exact standstillref05_Same.mono _ _ _ _ _ _ _ _ _ _ _)
   | (with_reducible exact standstillref05_Word.mono _ _ _ _ _)
   | (with_reducible exact LeO.refl _)
   | (with_reducible exact LeO.none _)
   | (with_reducible refine LeO.ite ?_ ?_)
   | (with_reducible refine LeO.bind ?_ (fun _ => ?_))
   | exact ih0 _ _ _ _ _ _ _
   | exact ih1 _ _ _ _ _ _ _ _ _ _ _ _ _
   | exact block_Cross.mono _ _ _ _ _ _ _
   | exact standstilllaw05_awake.mono _
   | exact standstilllaw05_wide.mono _ _ _ _
   | exact standstillref01_Valid.mono _ _ _ _
   | exact standstillref05_Cross.mono _ _ _ _ _ _ _
   | exact standstillref05_Same.mono _ _ _ _ _ _ _ _ _ _ _
   | exact standstillref05_Word.mono _ _ _ _ _
   | exact LeO.none _
   | refine LeO.ite ?_ ?_
   | refine LeO.bind ?_ (fun _ => ?_)
def standstilllaw05_BlockCrosses.T8 : Bool × List (List Nat × List Nat) := (true, [([], []), ([0], [0]), ([1], [1]), ([2], [2]), ([2], [2]), ([2], [2]), ([2], [2]), ([2], [2]), ([4, 5, 6, 7, 2, 2], [2, 4, 5, 6, 7]), ([3, 8, 8, 2], [2, 3, 8]), ([2, 9], [2, 9]), ([10, 9], [10]), ([11, 11], [11]), ([11, 12], [11, 12]), ([13, 12, 0, 1, 2, 3, 4, 5, 6, 7, 8, 9, 10, 11, 12, 13], [13])])
def standstilllaw05_BlockCrosses.B8 : List Nat := [0, 1, 3, 7, 7, 7, 7, 7, 247, 511, 1023, 2047, 4095, 8191, 16383]
theorem standstilllaw05_BlockCrosses.tab8 : rtab .any (opsOf Try.f3 8) = standstilllaw05_BlockCrosses.T8 := by kernel_rfl
theorem standstilllaw05_BlockCrosses.bits8 : waitsOk standstilllaw05_BlockCrosses.T8.2 standstilllaw05_BlockCrosses.B8 = true := by kernel_rfl
set_option maxHeartbeats 8000000 in
set_option maxRecDepth 100000 in
theorem standstilllaw05_BlockCrosses.calls (k : Nat) (a0_0 : Int) (a0_1 : Int) (A0_2 : Option Addr) (c0_2 : Nat) (l0_2 : List (List (S57))) (a1 : Int) (a2 : Int) (A3 : Option Addr) (c3 : Nat) (l3 : List Int) (r : Bool) (w : World) (hr0_2 : Kd.C (Kd.slice 57 k57) w A0_2 l0_2.length l0_2) (hc0_2 : l0_2.length ≤ c0_2) (hr3 : Kd.C (Kd.int .i64) w A3 l3.length l3) (hc3 : l3.length ≤ c3) (h : standstilllaw05_BlockCrosses.f k a0_0 a0_1 l0_2 a1 a2 l3 = some r) :
  Calls Try.prog 3 #[.agg #[.int .i64 a0_0, .int .i64 a0_1, .slice A0_2 l0_2.length c0_2], .int .i64 a1, .int .i64 a2, .slice A3 l3.length c3] w fun e w' => e = .returned (.bool r) ∧ Below w.heap.size w w' := by
 have hu24 := Try.underlying24
 have hu29 := Try.underlying29
 have HR0_2 := Aside0.mk hr0_2
 have HC0_2 := Aside0.mk hc0_2
 clear hr0_2 hc0_2
 have HR3 := Aside0.mk hr3
 have HC3 := Aside0.mk hc3
 clear hr3 hc3
 have HB := A_ (Below.refl w.heap.size w)
 have H : ((standstilllaw05_wide.f k a0_0 a0_1 l0_2).bind fun t237 => (if t237 = true then (standstilllaw05_BlockCrosses.j0 k a1 a2 l3 true a0_0 a0_1 l0_2) else (standstilllaw05_BlockCrosses.j0 k a1 a2 l3 (decide ((l3.length : Int) > 1000)) a0_0 a0_1 l0_2))) = some r := h
 clear h
 have HC5 := Aside0.mk H
 clear H
 go_enter Try.func3, Try.ntmps3
 go_upto_region 1 with (first | ((with_reducible refine gate_dst (N := 4) rfl ?_); (try (refine gate_guard (by rfl) ?_; dsimp only)); refine box_event ?hg (N := 4) ?hd (cs := #[.int .i64 a0_0, .int .i64 a0_1, .slice A0_2 l0_2.length c0_2]) (t := 24) ?hr ?_; (case hd => rfl); (case hg => rfl); (case hr => first | (go_simp; done) | (go_simp; rfl)); intro gb236 hg w6 hbox hb; have n0_ := A_ (below_step (bk_ HB.out) hb); have n1_ := A_ (hbox); have n2_ := A_ ((by rw [hg]; exact (below_size (bk_ HB.out)) : w.heap.size ≤ gb236)); have n3_ := A_ ((by rw [hg]; exact (below_size (bk_ HB.out)) : w.heap.size ≤ gb236)); clear HB; have HB := n0_; have BK236 := n1_; have GW236 := n2_; have GE236 := n3_; clear n0_ n1_ n2_ n3_ hb hbox hg))
 (try simp only [Act.put, List.setIfInBounds_toArray, List.set_cons_zero, List.set_cons_succ])
 go_cut [17] (fun v17 wc => ∃ (kq : Nat) (x17_4 : Bool), v17 = .bool x17_4 ∧ Aside0 (standstilllaw05_BlockCrosses.j0 kq a1 a2 l3 x17_4 a0_0 a0_1 l0_2 = some r) ∧ Aside0 (kq ≤ k) ∧ Aside0 (wc.heap[gb236]? = some (.cells #[.int .i64 a0_0, .int .i64 a0_1, (.slice A0_2 l0_2.length c0_2)] 24 (0, 0))) ∧ Aside0 (Below w.heap.size w wc))
 case first =>
  have H := HC5.out
  clear HC5
  replace H := Option.bind_eq_some_iff.mp H
  obtain ⟨t237, A70, H⟩ := H
  replace H : (if t237 = true then (standstilllaw05_BlockCrosses.j0 k a1 a2 l3 true a0_0 a0_1 l0_2) else (standstilllaw05_BlockCrosses.j0 k a1 a2 l3 (decide ((l3.length : Int) > 1000)) a0_0 a0_1 l0_2)) = some r := H
  have A7 := Aside0.mk A70
  clear A70
  by_cases c8 : t237 = true
  ·subst c8
   have H1 : (standstilllaw05_BlockCrosses.j0 k a1 a2 l3 true a0_0 a0_1 l0_2) = some r := by rw [if_pos rfl] at H; exact H
   clear H
   have H := H1
   clear H1
   have H' := Aside0.mk H
   clear H
   have hcz9_0 : w6.cell? ⟨gb236, 0, none⟩ = some (.int .i64 a0_0) := (blk_cell BK236.out 0).trans rfl
   have hcz9_1 : w6.cell? ⟨gb236, 1, none⟩ = some (.int .i64 a0_1) := (blk_cell BK236.out 1).trans rfl
   have hcz9_2 : w6.cell? ⟨gb236, 2, none⟩ = some (.slice A0_2 l0_2.length c0_2) := (blk_cell BK236.out 2).trans rfl
   have hfz9_0 := blk_frozen BK236.out 0
   have hfz9_1 := blk_frozen BK236.out 1
   have hfz9_2 := blk_frozen BK236.out 2
   go_wp2_with (first | ((with_reducible refine gate_callee (f := 7) rfl ?_); refine goesL_ (some 12) rfl rfl Try.func7 (by kernel_rfl) rfl #[.agg #[.int .i64 a0_0, .int .i64 a0_1, .slice A0_2 l0_2.length c0_2]] rfl gl_ ?_; (with_reducible refine (standstilllaw05_wide.calls k a0_0 a0_1 _ _ l0_2 true _ ?side1 ?side2 A7.out).mono ?_); (case side1 => exact ck_ (Kd.C_below HR0_2.out HB.out)); (case side2 => exact HC0_2.out); rintro e w10 ⟨rfl, hb⟩; refine ⟨_, rfl, ?_⟩; have n0_ := A_ (blk_below (pk_ BK236.out) hb); have n1_ := A_ (below_step (bk_ HB.out) hb); clear BK236 HB; have BK236 := n0_; have HB := n1_; clear n0_ n1_; (try clear hb); (try clear hb2); (try clear hk); (try clear hi)))
   go_meet
   case rel => exact ⟨_, (true), jr_, H', ⟨by first | omega | exact Nat.le_refl _⟩, ⟨pk_ BK236.out⟩, ⟨bk_ HB.out⟩⟩
  ·replace c8 := Bool.eq_false_iff.mpr c8
   subst c8
   have H1 : (standstilllaw05_BlockCrosses.j0 k a1 a2 l3 (decide ((l3.length : Int) > 1000)) a0_0 a0_1 l0_2) = some r := by rw [if_neg (show ¬ (false = true) by decide)] at H; exact H
   clear H
   have H := H1
   clear H1
   have H' := Aside0.mk H
   clear H
   have hcz11_0 : w6.cell? ⟨gb236, 0, none⟩ = some (.int .i64 a0_0) := (blk_cell BK236.out 0).trans rfl
   have hcz11_1 : w6.cell? ⟨gb236, 1, none⟩ = some (.int .i64 a0_1) := (blk_cell BK236.out 1).trans rfl
   have hcz11_2 : w6.cell? ⟨gb236, 2, none⟩ = some (.slice A0_2 l0_2.length c0_2) := (blk_cell BK236.out 2).trans rfl
   have hfz11_0 := blk_frozen BK236.out 0
   have hfz11_1 := blk_frozen BK236.out 1
   have hfz11_2 := blk_frozen BK236.out 2
   go_wp2_with (first | ((with_reducible refine gate_callee (f := 7) rfl ?_); refine goesL_ (some 12) rfl rfl Try.func7 (by kernel_rfl) rfl #[.agg #[.int .i64 a0_0, .int .i64 a0_1, .slice A0_2 l0_2.length c0_2]] rfl gl_ ?_; (with_reducible refine (standstilllaw05_wide.calls k a0_0 a0_1 _ _ l0_2 false _ ?side1 ?side2 A7.out).mono ?_); (case side1 => exact ck_ (Kd.C_below HR0_2.out HB.out)); (case side2 => exact HC0_2.out); rintro e w12 ⟨rfl, hb⟩; refine ⟨_, rfl, ?_⟩; have n0_ := A_ (blk_below (pk_ BK236.out) hb); have n1_ := A_ (below_step (bk_ HB.out) hb); clear BK236 HB; have BK236 := n0_; have HB := n1_; clear n0_ n1_; (try clear hb); (try clear hb2); (try clear hk); (try clear hi)))
   go_meet
   case rel => exact ⟨_, (decide ((l3.length : Int) > 1000)), jr_, H', ⟨by first | omega | exact Nat.le_refl _⟩, ⟨pk_ BK236.out⟩, ⟨bk_ HB.out⟩⟩
 case rest =>
  clear HC5
  (try clear c3)
  obtain ⟨kq, x17_4, rfl, HA, HJ4, BK236, HB⟩ := hcut
  cases kq with
  | zero => exact absurd HA.out (by simp [standstilllaw05_BlockCrosses.j0])
  | succ kj4 =>
   have H := HA.out
   clear HA
   simp only [standstilllaw05_BlockCrosses.j0] at H
   by_cases c13 : x17_4 = true
   ·subst c13
    have H1 : ((standstilllaw05_awake.f kj4).bind fun t238 => (some t238)) = some r := by rw [if_pos rfl] at H; exact H
    clear H
    have H := H1
    clear H1
    replace H := Option.bind_eq_some_iff.mp H
    obtain ⟨t238, A140, H⟩ := H
    replace H : (some t238) = some r := H
    have A14 := Aside0.mk A140
    clear A140
    obtain rfl := Option.some.inj H
    go_wp2_with (first | ((with_reducible refine gate_callee (f := 8) rfl ?_); refine goesL_ (some 18) rfl rfl Try.func8 (by kernel_rfl) rfl #[] rfl gl_ ?_; (with_reducible refine (standstilllaw05_awake.calls kj4  t238 _ A14.out).mono ?_); rintro e w15 ⟨rfl, hb⟩; refine ⟨_, rfl, ?_⟩; have n0_ := A_ (blk_below (pk_ BK236.out) hb); have n1_ := A_ (below_step (bk_ HB.out) hb); clear BK236 HB; have BK236 := n0_; have HB := n1_; clear n0_ n1_; (try clear hb); (try clear hb2); (try clear hk); (try clear hi)))
    go_ret
    exact ⟨er_, bk_ HB.out⟩
   ·replace c13 := Bool.eq_false_iff.mpr c13
    subst c13
    have H1 : ((block_Cross.f kj4 a0_0 a0_1 l0_2 a1 a2 l3).bind fun bt239 => ((standstillref01_Valid.f kj4 a0_0 a0_1 l0_2).bind fun t248 => (if t248 = true then (if a1 < 0 then (standstilllaw05_BlockCrosses.j1 kj4 a1 a2 l3 bt239.2.2.2.2.2 true a0_0 a0_1 l0_2 bt239.1 bt239.2.1 bt239.2.2.1 bt239.2.2.2.1 bt239.2.2.2.2.1) else (if a1 ≥ a0_0 then (standstilllaw05_BlockCrosses.j1 kj4 a1 a2 l3 bt239.2.2.2.2.2 true a0_0 a0_1 l0_2 bt239.1 bt239.2.1 bt239.2.2.1 bt239.2.2.2.1 bt239.2.2.2.2.1) else ((standstillref05_Word.f kj4 a0_0 a0_1 l0_2 l3).bind fun t249 => (if t249 = true then (if a2 < 0 then (standstilllaw05_BlockCrosses.j1 kj4 a1 a2 l3 bt239.2.2.2.2.2 true a0_0 a0_1 l0_2 bt239.1 bt239.2.1 bt239.2.2.1 bt239.2.2.2.1 bt239.2.2.2.2.1) else (standstilllaw05_BlockCrosses.j1 kj4 a1 a2 l3 bt239.2.2.2.2.2 (decide (a2 ≥ (l3.length : Int))) a0_0 a0_1 l0_2 bt239.1 bt239.2.1 bt239.2.2.1 bt239.2.2.2.1 bt239.2.2.2.2.1)) else (standstilllaw05_BlockCrosses.j1 kj4 a1 a2 l3 bt239.2.2.2.2.2 true a0_0 a0_1 l0_2 bt239.1 bt239.2.1 bt239.2.2.1 bt239.2.2.2.1 bt239.2.2.2.2.1))))) else (if bt239.2.2.2.2.2 = 1 then ((standstillref05_Same.f kj4 bt239.1 bt239.2.1 bt239.2.2.1 bt239.2.2.2.1 bt239.2.2.2.2.1 0 0 0 0 ([] : List Int)).bind fun t261 => (if t261 = true then ((standstilllaw05_awake.f kj4).bind fun t262 => (some t262)) else (none))) else (none))))) = some r := by rw [if_neg (show ¬ (false = true) by decide)] at H; exact H
    clear H
    have H := H1
    clear H1
    replace H := Option.bind_eq_some_iff.mp H
    obtain ⟨⟨t239, t240, t241, t242, t243, t246⟩, A160, H⟩ := H
    replace H : ((standstillref01_Valid.f kj4 a0_0 a0_1 l0_2).bind fun t248 => (if t248 = true then (if a1 < 0 then (standstilllaw05_BlockCrosses.j1 kj4 a1 a2 l3 t246 true a0_0 a0_1 l0_2 t239 t240 t241 t242 t243) else (if a1 ≥ a0_0 then (standstilllaw05_BlockCrosses.j1 kj4 a1 a2 l3 t246 true a0_0 a0_1 l0_2 t239 t240 t241 t242 t243) else ((standstillref05_Word.f kj4 a0_0 a0_1 l0_2 l3).bind fun t249 => (if t249 = true then (if a2 < 0 then (standstilllaw05_BlockCrosses.j1 kj4 a1 a2 l3 t246 true a0_0 a0_1 l0_2 t239 t240 t241 t242 t243) else (standstilllaw05_BlockCrosses.j1 kj4 a1 a2 l3 t246 (decide (a2 ≥ (l3.length : Int))) a0_0 a0_1 l0_2 t239 t240 t241 t242 t243)) else (standstilllaw05_BlockCrosses.j1 kj4 a1 a2 l3 t246 true a0_0 a0_1 l0_2 t239 t240 t241 t242 t243))))) else (if t246 = 1 then ((standstillref05_Same.f kj4 t239 t240 t241 t242 t243 0 0 0 0 ([] : List Int)).bind fun t261 => (if t261 = true then ((standstilllaw05_awake.f kj4).bind fun t262 => (some t262)) else (none))) else (none)))) = some r := H
    have A16 := Aside0.mk A160
    clear A160
    replace H := Option.bind_eq_some_iff.mp H
    obtain ⟨t248, A170, H⟩ := H
    replace H : (if t248 = true then (if a1 < 0 then (standstilllaw05_BlockCrosses.j1 kj4 a1 a2 l3 t246 true a0_0 a0_1 l0_2 t239 t240 t241 t242 t243) else (if a1 ≥ a0_0 then (standstilllaw05_BlockCrosses.j1 kj4 a1 a2 l3 t246 true a0_0 a0_1 l0_2 t239 t240 t241 t242 t243) else ((standstillref05_Word.f kj4 a0_0 a0_1 l0_2 l3).bind fun t249 => (if t249 = true then (if a2 < 0 then (standstilllaw05_BlockCrosses.j1 kj4 a1 a2 l3 t246 true a0_0 a0_1 l0_2 t239 t240 t241 t242 t243) else (standstilllaw05_BlockCrosses.j1 kj4 a1 a2 l3 t246 (decide (a2 ≥ (l3.length : Int))) a0_0 a0_1 l0_2 t239 t240 t241 t242 t243)) else (standstilllaw05_BlockCrosses.j1 kj4 a1 a2 l3 t246 true a0_0 a0_1 l0_2 t239 t240 t241 t242 t243))))) else (if t246 = 1 then ((standstillref05_Same.f kj4 t239 t240 t241 t242 t243 0 0 0 0 ([] : List Int)).bind fun t261 => (if t261 = true then ((standstilllaw05_awake.f kj4).bind fun t262 => (some t262)) else (none))) else (none))) = some r := H
    have A17 := Aside0.mk A170
    clear A170
    by_cases c18 : t248 = true
    ·subst c18
     have H1 : (if a1 < 0 then (standstilllaw05_BlockCrosses.j1 kj4 a1 a2 l3 t246 true a0_0 a0_1 l0_2 t239 t240 t241 t242 t243) else (if a1 ≥ a0_0 then (standstilllaw05_BlockCrosses.j1 kj4 a1 a2 l3 t246 true a0_0 a0_1 l0_2 t239 t240 t241 t242 t243) else ((standstillref05_Word.f kj4 a0_0 a0_1 l0_2 l3).bind fun t249 => (if t249 = true then (if a2 < 0 then (standstilllaw05_BlockCrosses.j1 kj4 a1 a2 l3 t246 true a0_0 a0_1 l0_2 t239 t240 t241 t242 t243) else (standstilllaw05_BlockCrosses.j1 kj4 a1 a2 l3 t246 (decide (a2 ≥ (l3.length : Int))) a0_0 a0_1 l0_2 t239 t240 t241 t242 t243)) else (standstilllaw05_BlockCrosses.j1 kj4 a1 a2 l3 t246 true a0_0 a0_1 l0_2 t239 t240 t241 t242 t243))))) = some r := by rw [if_pos rfl] at H; exact H
     clear H
     have H := H1
     clear H1
     have HC19 := Aside0.mk H
     clear H
     have hcz20_0 : wc.cell? ⟨gb236, 0, none⟩ = some (.int .i64 a0_0) := (blk_cell BK236.out 0).trans rfl
     have hcz20_1 : wc.cell? ⟨gb236, 1, none⟩ = some (.int .i64 a0_1) := (blk_cell BK236.out 1).trans rfl
     have hcz20_2 : wc.cell? ⟨gb236, 2, none⟩ = some (.slice A0_2 l0_2.length c0_2) := (blk_cell BK236.out 2).trans rfl
     have hfz20_0 := blk_frozen BK236.out 0
     have hfz20_1 := blk_frozen BK236.out 1
     have hfz20_2 := blk_frozen BK236.out 2
     go_upto_region 6 with (first | ((with_reducible refine gate_callee (f := 9) rfl ?_); refine goesL_ (some 24) rfl rfl Try.func9 (by kernel_rfl) rfl #[.agg #[.int .i64 a0_0, .int .i64 a0_1, .slice A0_2 l0_2.length c0_2], .int .i64 a1, .int .i64 a2, .slice A3 l3.length c3] rfl gl_ ?_; (with_reducible refine (block_Cross.calls kj4 a0_0 a0_1 _ _ l0_2 a1 a2 _ _ l3 t239 t240 t241 t242 t243 t246 _ ?side1 ?side2 ?side3 ?side4 A16.out).mono ?_); (case side1 => exact ck_ (Kd.C_below HR0_2.out HB.out)); (case side2 => exact HC0_2.out); (case side3 => exact ck_ (Kd.C_below HR3.out HB.out)); (case side4 => exact HC3.out); rintro e w21 ⟨v244, rfl, ho0, hb⟩; refine ⟨_, rfl, ?_⟩; have n0_ := A_ (Kd.R_lower ho0 (below_size (bk_ HB.out))); have n1_ := A_ (blk_below (pk_ BK236.out) hb); have n2_ := A_ (below_step (bk_ HB.out) hb); clear BK236 HB; have HO245 := n0_; have BK236 := n1_; have HB := n2_; clear n0_ n1_ n2_; (try clear hb); (try clear hb2); (try clear hk); (try clear hi); (try clear ho0)) | ((with_reducible refine gate_dst (N := 9) rfl ?_); (try (refine gate_guard (by rfl) ?_; dsimp only)); refine box_event ?hg (N := 9) ?hd (cs := #[.int .i64 0, .int .i64 0, .int .i64 0, .int .i64 0, .slice none 0 0]) (t := 29) ?hr ?_; (case hd => rfl); (case hg => rfl); (case hr => first | (go_simp; done) | (go_simp; rfl)); intro gb247 hg w22 hbox hb; have n0_ := A_ (Kd.R_below (rk_ HO245.out) hb); have n1_ := A_ (blk_below (pk_ BK236.out) hb); have n2_ := A_ (below_step (bk_ HB.out) hb); have n3_ := A_ (hbox); have n4_ := A_ ((by rw [hg]; exact (below_size (bk_ HB.out)) : w.heap.size ≤ gb247)); have n5_ := A_ ((by rw [hg]; exact (below_size (bk_ HB.out)) : w.heap.size ≤ gb247)); have n6_ := A_ ((by rw [hg]; exact Nat.ne_of_lt (blk_lt (pk_ BK236.out)) : gb236 ≠ gb247)); have n7_ := A_ ((by rw [hg]; exact Nat.ne_of_gt (blk_lt (pk_ BK236.out)) : gb247 ≠ gb236)); clear HO245 BK236 HB; have HO245 := n0_; have BK236 := n1_; have HB := n2_; have BK247 := n3_; have GW247 := n4_; have GE247 := n5_; have NB236_247 := n6_; have NB247_236 := n7_; clear n0_ n1_ n2_ n3_ n4_ n5_ n6_ n7_ hb hbox hg; have hnb23 := NB247_236.out; have hnc23 := NB236_247.out; have hcz24_0 : w22.cell? ⟨gb247, 0, none⟩ = some (.int .i64 0) := (blk_cell BK247.out 0).trans rfl; have hcz24_1 : w22.cell? ⟨gb247, 1, none⟩ = some (.int .i64 0) := (blk_cell BK247.out 1).trans rfl; have hcz24_2 : w22.cell? ⟨gb247, 2, none⟩ = some (.int .i64 0) := (blk_cell BK247.out 2).trans rfl; have hcz24_3 : w22.cell? ⟨gb247, 3, none⟩ = some (.int .i64 0) := (blk_cell BK247.out 3).trans rfl; have hcz24_4 : w22.cell? ⟨gb247, 4, none⟩ = some (.slice none 0 0) := (blk_cell BK247.out 4).trans rfl; have hfz24_0 := blk_frozen BK247.out 0; have hfz24_1 := blk_frozen BK247.out 1; have hfz24_2 := blk_frozen BK247.out 2; have hfz24_3 := blk_frozen BK247.out 3; have hfz24_4 := blk_frozen BK247.out 4; obtain ⟨Ao25, co25, eo25⟩ := Kd.R_slice HO245.out; subst eo25; have hcz26_0 : w22.cell? ⟨gb236, 0, none⟩ = some (.int .i64 a0_0) := (blk_cell BK236.out 0).trans rfl; have hcz26_1 : w22.cell? ⟨gb236, 1, none⟩ = some (.int .i64 a0_1) := (blk_cell BK236.out 1).trans rfl; have hcz26_2 : w22.cell? ⟨gb236, 2, none⟩ = some (.slice A0_2 l0_2.length c0_2) := (blk_cell BK236.out 2).trans rfl; have hfz26_0 := blk_frozen BK236.out 0; have hfz26_1 := blk_frozen BK236.out 1; have hfz26_2 := blk_frozen BK236.out 2) | ((with_reducible refine gate_callee (f := 10) rfl ?_); refine goesL_ (some 29) rfl rfl Try.func10 (by kernel_rfl) rfl #[.agg #[.int .i64 a0_0, .int .i64 a0_1, .slice A0_2 l0_2.length c0_2]] rfl gl_ ?_; (with_reducible refine (standstillref01_Valid.calls kj4 a0_0 a0_1 _ _ l0_2 true _ ?side1 ?side2 A17.out).mono ?_); (case side1 => exact Kd.C_below HR0_2.out (bk_ HB.out)); (case side2 => exact HC0_2.out); rintro e w27 ⟨rfl, hb⟩; refine ⟨_, rfl, ?_⟩; have n0_ := A_ (Kd.R_below (by (with_reducible repeat (first | apply Kd.R_alloc | apply Kd.R_drewN | apply Kd.R_drew)); exact (Kd.R_mono (Kd.R_far (p := ⟨gb247, 4, none⟩) (Kd.R_far (p := ⟨gb247, 3, none⟩) (Kd.R_far (p := ⟨gb247, 2, none⟩) (Kd.R_far (p := ⟨gb247, 1, none⟩) (Kd.R_far (p := ⟨gb247, 0, none⟩) (Kd.R_types HO245.out BK247.out (by decide)) (fun _ hk => hk.2) (.int .i64 t239)) (fun _ hk => hk.2) (.int .i64 t240)) (fun _ hk => hk.2) (.int .i64 t241)) (fun _ hk => hk.2) (.int .i64 t242)) (fun _ hk => hk.2) (.slice Ao25 t243.length co25)) (fun _ h_ => h_.1))) hb); have n1_ := A_ (blk_below (g := gb236) (o := .cells #[.int .i64 a0_0, .int .i64 a0_1, .slice A0_2 l0_2.length c0_2] 24 (0, 0)) (by refine pk_ ?_; refine blk_far ?_ NB236_247.out _; refine pk_ ?_; refine blk_far ?_ NB236_247.out _; refine pk_ ?_; refine blk_far ?_ NB236_247.out _; refine pk_ ?_; refine blk_far ?_ NB236_247.out _; refine pk_ ?_; refine blk_far ?_ NB236_247.out _; exact pk_ BK236.out) hb); have n2_ := A_ (blk_below (g := gb247) (o := .cells #[.int .i64 t239, .int .i64 t240, .int .i64 t241, .int .i64 t242, .slice Ao25 t243.length co25] 29 (0, 0)) (by refine pk_ ?_; refine blk_put (cs := #[.int .i64 t239, .int .i64 t240, .int .i64 t241, .int .i64 t242, .slice none 0 0]) ?_ 4 _ rfl; refine pk_ ?_; refine blk_put (cs := #[.int .i64 t239, .int .i64 t240, .int .i64 t241, .int .i64 0, .slice none 0 0]) ?_ 3 _ rfl; refine pk_ ?_; refine blk_put (cs := #[.int .i64 t239, .int .i64 t240, .int .i64 0, .int .i64 0, .slice none 0 0]) ?_ 2 _ rfl; refine pk_ ?_; refine blk_put (cs := #[.int .i64 t239, .int .i64 0, .int .i64 0, .int .i64 0, .slice none 0 0]) ?_ 1 _ rfl; refine pk_ ?_; refine blk_put (cs := #[.int .i64 0, .int .i64 0, .int .i64 0, .int .i64 0, .slice none 0 0]) ?_ 0 _ rfl; exact pk_ BK247.out) hb); have n3_ := A_ (below_step (bk_ HB.out) hb); clear HO245 BK236 BK247 HB; have HO245 := n0_; have BK236 := n1_; have BK247 := n2_; have HB := n3_; clear n0_ n1_ n2_ n3_; (try clear hb); (try clear hb2); (try clear hk); (try clear hi)))
     (try simp only [Act.put, List.setIfInBounds_toArray, List.set_cons_zero, List.set_cons_succ])
     go_cut [41] (fun v41 wc => ∃ (kq : Nat) (x41_18 : Bool), v41 = .bool x41_18 ∧ Aside0 (standstilllaw05_BlockCrosses.j1 kq a1 a2 l3 t246 x41_18 a0_0 a0_1 l0_2 t239 t240 t241 t242 t243 = some r) ∧ Aside0 (kq ≤ kj4) ∧ Aside0 (Kd.R (Kd.int .i64) 3 wc w.heap.size (fun _ => True) (.slice Ao25 t243.length co25) t243) ∧ Aside0 (wc.heap[gb236]? = some (.cells #[.int .i64 a0_0, .int .i64 a0_1, (.slice A0_2 l0_2.length c0_2)] 24 (0, 0))) ∧ Aside0 (wc.heap[gb247]? = some (.cells #[.int .i64 t239, .int .i64 t240, .int .i64 t241, .int .i64 t242, (.slice Ao25 t243.length co25)] 29 (0, 0))) ∧ Aside0 (Below w.heap.size w wc))
     case first =>
      have H := HC19.out
      clear HC19
      by_cases c28 : a1 < 0
      ·rw [if_pos c28] at H
       have c28b0 : decide (a1 < 0) = true := decide_eq_true c28
       clear c28
       (first | rw [c28b0] | (simp only [i64_w, i32_w]; rw [c28b0]) | skip)
       have H' := Aside0.mk H
       clear H
       go_wp2
       go_meet
       case rel => exact ⟨_, (true), jr_, H', ⟨by have := HJ4.out; first | omega | exact Nat.le_refl _⟩, ⟨rk_ HO245.out⟩, ⟨pk_ BK236.out⟩, ⟨pk_ BK247.out⟩, ⟨bk_ HB.out⟩⟩
      ·rw [if_neg c28] at H
       have c28b0 : decide (a1 < 0) = false := decide_eq_false c28
       clear c28
       (first | rw [c28b0] | (simp only [i64_w, i32_w]; rw [c28b0]) | skip)
       by_cases c29 : a1 ≥ a0_0
       ·rw [if_pos c29] at H
        have c29b0 : decide (a0_0 ≤ a1) = true := decide_eq_true c29
        clear c29
        have H' := Aside0.mk H
        clear H
        have hnb30 := NB236_247.out
        have hnc30 := NB247_236.out
        have hcz31_0 : w27.cell? ⟨gb236, 0, none⟩ = some (.int .i64 a0_0) := (blk_cell BK236.out 0).trans rfl
        have hcz31_1 : w27.cell? ⟨gb236, 1, none⟩ = some (.int .i64 a0_1) := (blk_cell BK236.out 1).trans rfl
        have hcz31_2 : w27.cell? ⟨gb236, 2, none⟩ = some (.slice A0_2 l0_2.length c0_2) := (blk_cell BK236.out 2).trans rfl
        have hfz31_0 := blk_frozen BK236.out 0
        have hfz31_1 := blk_frozen BK236.out 1
        have hfz31_2 := blk_frozen BK236.out 2
        go_wp2
        go_meet
        case rel => exact ⟨_, (true), jr_, H', ⟨by have := HJ4.out; first | omega | exact Nat.le_refl _⟩, ⟨rk_ HO245.out⟩, ⟨pk_ BK236.out⟩, ⟨pk_ BK247.out⟩, ⟨bk_ HB.out⟩⟩
       ·rw [if_neg c29] at H
        have c29b0 : decide (a0_0 ≤ a1) = false := decide_eq_false c29
        clear c29
        replace H := Option.bind_eq_some_iff.mp H
        obtain ⟨t249, A320, H⟩ := H
        replace H : (if t249 = true then (if a2 < 0 then (standstilllaw05_BlockCrosses.j1 kj4 a1 a2 l3 t246 true a0_0 a0_1 l0_2 t239 t240 t241 t242 t243) else (standstilllaw05_BlockCrosses.j1 kj4 a1 a2 l3 t246 (decide (a2 ≥ (l3.length : Int))) a0_0 a0_1 l0_2 t239 t240 t241 t242 t243)) else (standstilllaw05_BlockCrosses.j1 kj4 a1 a2 l3 t246 true a0_0 a0_1 l0_2 t239 t240 t241 t242 t243)) = some r := H
        have A32 := Aside0.mk A320
        clear A320
        by_cases c33 : t249 = true
        ·subst c33
         have H1 : (if a2 < 0 then (standstilllaw05_BlockCrosses.j1 kj4 a1 a2 l3 t246 true a0_0 a0_1 l0_2 t239 t240 t241 t242 t243) else (standstilllaw05_BlockCrosses.j1 kj4 a1 a2 l3 t246 (decide (a2 ≥ (l3.length : Int))) a0_0 a0_1 l0_2 t239 t240 t241 t242 t243)) = some r := by rw [if_pos rfl] at H; exact H
         clear H
         have H := H1
         clear H1
         by_cases c34 : a2 < 0
         ·rw [if_pos c34] at H
          have c34b0 : decide (a2 < 0) = true := decide_eq_true c34
          clear c34
          have H' := Aside0.mk H
          clear H
          have hnb35 := NB236_247.out
          have hnc35 := NB247_236.out
          have hcz36_0 : w27.cell? ⟨gb236, 0, none⟩ = some (.int .i64 a0_0) := (blk_cell BK236.out 0).trans rfl
          have hcz36_1 : w27.cell? ⟨gb236, 1, none⟩ = some (.int .i64 a0_1) := (blk_cell BK236.out 1).trans rfl
          have hcz36_2 : w27.cell? ⟨gb236, 2, none⟩ = some (.slice A0_2 l0_2.length c0_2) := (blk_cell BK236.out 2).trans rfl
          have hfz36_0 := blk_frozen BK236.out 0
          have hfz36_1 := blk_frozen BK236.out 1
          have hfz36_2 := blk_frozen BK236.out 2
          go_wp2_with (first | (go_at_call 12; (with_reducible refine (standstillref05_Word.calls kj4 a0_0 a0_1 _ _ l0_2 _ _ l3 true _ ?side1 ?side2 ?side3 ?side4 A32.out).mono ?_); (case side1 => exact ck_ (Kd.C_below HR0_2.out HB.out)); (case side2 => exact HC0_2.out); (case side3 => exact ck_ (Kd.C_below HR3.out HB.out)); (case side4 => exact HC3.out); rintro e w37 ⟨rfl, hb⟩; have n0_ := A_ (Kd.R_below (rk_ HO245.out) hb); have n1_ := A_ (blk_below (pk_ BK236.out) hb); have n2_ := A_ (blk_below (pk_ BK247.out) hb); have n3_ := A_ (below_step (bk_ HB.out) hb); clear HO245 BK236 BK247 HB; have HO245 := n0_; have BK236 := n1_; have BK247 := n2_; have HB := n3_; clear n0_ n1_ n2_ n3_; (try clear hb); (try clear hb2); (try clear hk); (try clear hi)))
          go_meet
          case rel => exact ⟨_, (true), jr_, H', ⟨by have := HJ4.out; first | omega | exact Nat.le_refl _⟩, ⟨rk_ HO245.out⟩, ⟨pk_ BK236.out⟩, ⟨pk_ BK247.out⟩, ⟨bk_ HB.out⟩⟩
         ·rw [if_neg c34] at H
          have c34b0 : decide (a2 < 0) = false := decide_eq_false c34
          clear c34
          have H' := Aside0.mk H
          clear H
          have hnb38 := NB236_247.out
          have hnc38 := NB247_236.out
          have hcz39_0 : w27.cell? ⟨gb236, 0, none⟩ = some (.int .i64 a0_0) := (blk_cell BK236.out 0).trans rfl
          have hcz39_1 : w27.cell? ⟨gb236, 1, none⟩ = some (.int .i64 a0_1) := (blk_cell BK236.out 1).trans rfl
          have hcz39_2 : w27.cell? ⟨gb236, 2, none⟩ = some (.slice A0_2 l0_2.length c0_2) := (blk_cell BK236.out 2).trans rfl
          have hfz39_0 := blk_frozen BK236.out 0
          have hfz39_1 := blk_frozen BK236.out 1
          have hfz39_2 := blk_frozen BK236.out 2
          go_wp2_with (first | (go_at_call 12; (with_reducible refine (standstillref05_Word.calls kj4 a0_0 a0_1 _ _ l0_2 _ _ l3 true _ ?side1 ?side2 ?side3 ?side4 A32.out).mono ?_); (case side1 => exact ck_ (Kd.C_below HR0_2.out HB.out)); (case side2 => exact HC0_2.out); (case side3 => exact ck_ (Kd.C_below HR3.out HB.out)); (case side4 => exact HC3.out); rintro e w40 ⟨rfl, hb⟩; have n0_ := A_ (Kd.R_below (rk_ HO245.out) hb); have n1_ := A_ (blk_below (pk_ BK236.out) hb); have n2_ := A_ (blk_below (pk_ BK247.out) hb); have n3_ := A_ (below_step (bk_ HB.out) hb); clear HO245 BK236 BK247 HB; have HO245 := n0_; have BK236 := n1_; have BK247 := n2_; have HB := n3_; clear n0_ n1_ n2_ n3_; (try clear hb); (try clear hb2); (try clear hk); (try clear hi)))
          go_meet
          case rel => exact ⟨_, (decide (a2 ≥ (l3.length : Int))), jr_, H', ⟨by have := HJ4.out; first | omega | exact Nat.le_refl _⟩, ⟨rk_ HO245.out⟩, ⟨pk_ BK236.out⟩, ⟨pk_ BK247.out⟩, ⟨bk_ HB.out⟩⟩
        ·replace c33 := Bool.eq_false_iff.mpr c33
         subst c33
         have H1 : (standstilllaw05_BlockCrosses.j1 kj4 a1 a2 l3 t246 true a0_0 a0_1 l0_2 t239 t240 t241 t242 t243) = some r := by rw [if_neg (show ¬ (false = true) by decide)] at H; exact H
         clear H
         have H := H1
         clear H1
         have H' := Aside0.mk H
         clear H
         have hnb41 := NB236_247.out
         have hnc41 := NB247_236.out
         have hcz42_0 : w27.cell? ⟨gb236, 0, none⟩ = some (.int .i64 a0_0) := (blk_cell BK236.out 0).trans rfl
         have hcz42_1 : w27.cell? ⟨gb236, 1, none⟩ = some (.int .i64 a0_1) := (blk_cell BK236.out 1).trans rfl
         have hcz42_2 : w27.cell? ⟨gb236, 2, none⟩ = some (.slice A0_2 l0_2.length c0_2) := (blk_cell BK236.out 2).trans rfl
         have hfz42_0 := blk_frozen BK236.out 0
         have hfz42_1 := blk_frozen BK236.out 1
         have hfz42_2 := blk_frozen BK236.out 2
         go_wp2_with (first | (go_at_call 12; (with_reducible refine (standstillref05_Word.calls kj4 a0_0 a0_1 _ _ l0_2 _ _ l3 false _ ?side1 ?side2 ?side3 ?side4 A32.out).mono ?_); (case side1 => exact ck_ (Kd.C_below HR0_2.out HB.out)); (case side2 => exact HC0_2.out); (case side3 => exact ck_ (Kd.C_below HR3.out HB.out)); (case side4 => exact HC3.out); rintro e w43 ⟨rfl, hb⟩; have n0_ := A_ (Kd.R_below (rk_ HO245.out) hb); have n1_ := A_ (blk_below (pk_ BK236.out) hb); have n2_ := A_ (blk_below (pk_ BK247.out) hb); have n3_ := A_ (below_step (bk_ HB.out) hb); clear HO245 BK236 BK247 HB; have HO245 := n0_; have BK236 := n1_; have BK247 := n2_; have HB := n3_; clear n0_ n1_ n2_ n3_; (try clear hb); (try clear hb2); (try clear hk); (try clear hi)))
         go_meet
         case rel => exact ⟨_, (true), jr_, H', ⟨by have := HJ4.out; first | omega | exact Nat.le_refl _⟩, ⟨rk_ HO245.out⟩, ⟨pk_ BK236.out⟩, ⟨pk_ BK247.out⟩, ⟨bk_ HB.out⟩⟩
     case rest =>
      clear HC19
      (try clear c3); (try clear c13); (try clear c18); (try clear hcz20_0); (try clear hcz20_1); (try clear hcz20_2); (try clear hcz24_0); (try clear hcz24_1); (try clear hcz24_2); (try clear hcz24_3); (try clear hcz24_4); (try clear hcz26_0); (try clear hcz26_1); (try clear hcz26_2); (try clear hfz20_0); (try clear hfz20_1); (try clear hfz20_2); (try clear hfz24_0); (try clear hfz24_1); (try clear hfz24_2); (try clear hfz24_3); (try clear hfz24_4); (try clear hfz26_0); (try clear hfz26_1); (try clear hfz26_2)
      obtain ⟨kq, x41_18, rfl, HA, HJ18, HO_248004, BK236, BK247, HB⟩ := hcut
      cases kq with
      | zero => exact absurd HA.out (by simp [standstilllaw05_BlockCrosses.j1])
      | succ kj18 =>
       have H := HA.out
       clear HA
       simp only [standstilllaw05_BlockCrosses.j1] at H
       by_cases c44 : x41_18 = true
       ·subst c44
        have H1 : (if t246 = 2 then ((standstillref05_Same.f kj18 t239 t240 t241 t242 t243 0 0 0 0 ([] : List Int)).bind fun t250 => (if t250 = true then ((standstilllaw05_awake.f kj18).bind fun t251 => (some t251)) else (none))) else (none)) = some r := by rw [if_pos rfl] at H; exact H
        clear H
        have H := H1
        clear H1
        by_cases c45 : t246 = 2
        ·rw [if_pos c45] at H
         have c45b0 : (t246 == 2) = true := beq_iff_eq.mpr c45
         have c45b1 : (t246 != 2) = false := bne_eq_false_iff_eq.mpr c45
         clear c45
         replace H := Option.bind_eq_some_iff.mp H
         obtain ⟨t250, A460, H⟩ := H
         replace H : (if t250 = true then ((standstilllaw05_awake.f kj18).bind fun t251 => (some t251)) else (none)) = some r := H
         have A46 := Aside0.mk A460
         clear A460
         by_cases c47 : t250 = true
         ·subst c47
          have H1 : ((standstilllaw05_awake.f kj18).bind fun t251 => (some t251)) = some r := by rw [if_pos rfl] at H; exact H
          clear H
          have H := H1
          clear H1
          replace H := Option.bind_eq_some_iff.mp H
          obtain ⟨t251, A480, H⟩ := H
          replace H : (some t251) = some r := H
          have A48 := Aside0.mk A480
          clear A480
          obtain rfl := Option.some.inj H
          have hnb49 := NB247_236.out
          have hnc49 := NB236_247.out
          have hcz50_0 : wc.cell? ⟨gb247, 0, none⟩ = some (.int .i64 t239) := (blk_cell BK247.out 0).trans rfl
          have hcz50_1 : wc.cell? ⟨gb247, 1, none⟩ = some (.int .i64 t240) := (blk_cell BK247.out 1).trans rfl
          have hcz50_2 : wc.cell? ⟨gb247, 2, none⟩ = some (.int .i64 t241) := (blk_cell BK247.out 2).trans rfl
          have hcz50_3 : wc.cell? ⟨gb247, 3, none⟩ = some (.int .i64 t242) := (blk_cell BK247.out 3).trans rfl
          have hcz50_4 : wc.cell? ⟨gb247, 4, none⟩ = some (.slice Ao25 t243.length co25) := (blk_cell BK247.out 4).trans rfl
          have hfz50_0 := blk_frozen BK247.out 0
          have hfz50_1 := blk_frozen BK247.out 1
          have hfz50_2 := blk_frozen BK247.out 2
          have hfz50_3 := blk_frozen BK247.out 3
          have hfz50_4 := blk_frozen BK247.out 4
          go_wp2_with (first | (go_at_call 11; (refine (standstillref05_Same.calls kj18 t239 t240 t241 t242 _ _ t243 0 0 0 0 _ _ ([] : List Int) true _ ?side1 ?side2 ?side3 ?side4 A46.out).mono ?_); (case side1 => repeat (first | exact (Kd.R_reads' HO_248004.out).2.2 | (with_reducible refine Kd.C_alloc ?_ _) | (with_reducible refine Kd.C_drewN ?_ _) | (with_reducible refine Kd.C_drew ?_))); (case side2 => exact (Kd.R_reads' HO_248004.out).2.1); (case side3 => exact Kd.C_nil _ _); (case side4 => exact Nat.le_refl _); rintro e w51 ⟨rfl, hb⟩; have n0_ := A_ (Kd.R_below (rk_ HO_248004.out) hb); have n1_ := A_ (blk_below (pk_ BK236.out) hb); have n2_ := A_ (blk_below (pk_ BK247.out) hb); have n3_ := A_ (below_step (bk_ HB.out) hb); clear HO_248004 BK236 BK247 HB; have HO_248004 := n0_; have BK236 := n1_; have BK247 := n2_; have HB := n3_; clear n0_ n1_ n2_ n3_; (try clear hb); (try clear hb2); (try clear hk); (try clear hi)) | (go_at_call 8; (with_reducible refine (standstilllaw05_awake.calls kj18  t251 _ A48.out).mono ?_); rintro e w52 ⟨rfl, hb⟩; have n0_ := A_ (Kd.R_below (rk_ HO_248004.out) hb); have n1_ := A_ (blk_below (pk_ BK236.out) hb); have n2_ := A_ (blk_below (pk_ BK247.out) hb); have n3_ := A_ (below_step (bk_ HB.out) hb); clear HO_248004 BK236 BK247 HB; have HO_248004 := n0_; have BK236 := n1_; have BK247 := n2_; have HB := n3_; clear n0_ n1_ n2_ n3_; (try clear hb); (try clear hb2); (try clear hk); (try clear hi)))
          go_ret
          exact ⟨er_, bk_ HB.out⟩
         ·replace c47 := Bool.eq_false_iff.mpr c47
          subst c47
          have H1 : (none) = some r := by rw [if_neg (show ¬ (false = true) by decide)] at H; exact H
          clear H
          have H := H1
          clear H1
          exact absurd H (by simp)
        ·rw [if_neg c45] at H
         exact absurd H (by simp)
       ·replace c44 := Bool.eq_false_iff.mpr c44
        subst c44
        have H1 : (if t246 = 0 then ((standstillref05_Cross.f kj18 a0_0 a0_1 l0_2 a1 a2 l3).bind fun bt252 => ((standstillref05_Same.f kj18 t239 t240 t241 t242 t243 bt252.1 bt252.2.1 bt252.2.2.1 bt252.2.2.2.1 bt252.2.2.2.2).bind fun t259 => (if t259 = true then ((standstilllaw05_awake.f kj18).bind fun t260 => (some t260)) else (none)))) else (none)) = some r := by rw [if_neg (show ¬ (false = true) by decide)] at H; exact H
        clear H
        have H := H1
        clear H1
        by_cases c53 : t246 = 0
        ·rw [if_pos c53] at H
         have c53b0 : (t246 == 0) = true := beq_iff_eq.mpr c53
         have c53b1 : (t246 != 0) = false := bne_eq_false_iff_eq.mpr c53
         clear c53
         replace H := Option.bind_eq_some_iff.mp H
         obtain ⟨⟨t252, t253, t254, t255, t256⟩, A540, H⟩ := H
         replace H : ((standstillref05_Same.f kj18 t239 t240 t241 t242 t243 t252 t253 t254 t255 t256).bind fun t259 => (if t259 = true then ((standstilllaw05_awake.f kj18).bind fun t260 => (some t260)) else (none))) = some r := H
         have A54 := Aside0.mk A540
         clear A540
         replace H := Option.bind_eq_some_iff.mp H
         obtain ⟨t259, A550, H⟩ := H
         replace H : (if t259 = true then ((standstilllaw05_awake.f kj18).bind fun t260 => (some t260)) else (none)) = some r := H
         have A55 := Aside0.mk A550
         clear A550
         by_cases c56 : t259 = true
         ·subst c56
          have H1 : ((standstilllaw05_awake.f kj18).bind fun t260 => (some t260)) = some r := by rw [if_pos rfl] at H; exact H
          clear H
          have H := H1
          clear H1
          replace H := Option.bind_eq_some_iff.mp H
          obtain ⟨t260, A570, H⟩ := H
          replace H : (some t260) = some r := H
          have A57 := Aside0.mk A570
          clear A570
          obtain rfl := Option.some.inj H
          try go_wp2
          have n0_ := A_ (Kd.R_drew HO_248004.out)
          have n1_ := A_ (blk_drew BK236.out)
          have n2_ := A_ (blk_drew BK247.out)
          have n3_ := A_ (below_drew1 HB.out)
          clear HO_248004 BK236 BK247 HB
          have HO_248004 := n0_
          have BK236 := n1_
          have BK247 := n2_
          have HB := n3_
          clear n0_ n1_ n2_ n3_
          refine start_ (n := 15) (S := fun w' => w'.cell? ⟨gb247, 0, none⟩ = some (.int .i64 t239) ∧ w'.cell? ⟨gb247, 1, none⟩ = some (.int .i64 t240) ∧ w'.cell? ⟨gb247, 2, none⟩ = some (.int .i64 t241) ∧ w'.cell? ⟨gb247, 3, none⟩ = some (.int .i64 t242) ∧ w'.cell? ⟨gb247, 4, none⟩ = some (.slice Ao25 t243.length co25) ∧ w'.cell? ⟨gb236, 0, none⟩ = some (.int .i64 a0_0) ∧ w'.cell? ⟨gb236, 1, none⟩ = some (.int .i64 a0_1) ∧ w'.cell? ⟨gb236, 2, none⟩ = some (.slice A0_2 l0_2.length c0_2)) (ds := []) #[false, false, false, false, false, false, false, false, false, false, false, false, false, false, false] (by kernel_rfl) rfl rfl ⟨(blk_cell BK247.out 0).trans rfl, (blk_cell BK247.out 1).trans rfl, (blk_cell BK247.out 2).trans rfl, (blk_cell BK247.out 3).trans rfl, (blk_cell BK247.out 4).trans rfl, (blk_cell BK236.out 0).trans rfl, (blk_cell BK236.out 1).trans rfl, (blk_cell BK236.out 2).trans rfl⟩ (fun hHeld => ?_); refine with_tabW standstilllaw05_BlockCrosses.tab8 standstilllaw05_BlockCrosses.bits8 (fun HT_ HW_ => ?_)
          generalize wc.drew = w58 at HO_248004 BK236 BK247 HB hHeld ⊢
          refine pure_ (i := 0) (N := some 76) (v := ?_) (a' := ?_) #[true, false, false, false, false, false, false, false, false, false, false, false, false, false, false] rfl rfl (any_of HT_.out (by kernel_rfl)) (fun _ _ _ h => h) (Or.inl ⟨by rfl, ?_⟩) ?_ ?_
          rotate_left
          ·intro w'
           go_simp
           with_reducible rfl
          rotate_left
          ·simp only [Act.put, sa_, sz_, ss_, i64_w, i32_w]
           rfl
          refine pure_ (i := 1) (N := some 77) (v := ?_) (a' := ?_) #[true, true, false, false, false, false, false, false, false, false, false, false, false, false, false] rfl rfl (any_of HT_.out (by kernel_rfl)) (fun _ _ _ h => h) (Or.inl ⟨by rfl, ?_⟩) ?_ ?_
          rotate_left
          ·intro w'
           go_simp
           with_reducible rfl
          rotate_left
          ·simp only [Act.put, sa_, sz_, ss_, i64_w, i32_w]
           rfl
          refine pure_ (i := 2) (N := some 78) (v := ?_) (a' := ?_) #[true, true, true, false, false, false, false, false, false, false, false, false, false, false, false] rfl rfl (any_of HT_.out (by kernel_rfl)) (fun _ _ _ h => h) (Or.inl ⟨by rfl, ?_⟩) ?_ ?_
          rotate_left
          ·intro w'
           go_simp
           with_reducible rfl
          rotate_left
          ·simp only [Act.put, sa_, sz_, ss_, i64_w, i32_w]
           rfl
          refine pure_ (i := 5) (N := some 81) (v := ?_) (a' := ?_) #[true, true, true, false, false, true, false, false, false, false, false, false, false, false, false] rfl rfl (any_of HT_.out (by kernel_rfl)) (fun _ _ _ h => h) (Or.inl ⟨by rfl, ?_⟩) ?_ ?_
          rotate_left
          ·intro w'
           go_simp
           with_reducible rfl
          rotate_left
          ·simp only [Act.put, sa_, sz_, ss_, i64_w, i32_w]
           rfl
          refine pure_ (i := 6) (N := some 82) (v := ?_) (a' := ?_) #[true, true, true, false, false, true, true, false, false, false, false, false, false, false, false] rfl rfl (any_of HT_.out (by kernel_rfl)) (fun _ _ _ h => h) (Or.inl ⟨by rfl, ?_⟩) ?_ ?_
          rotate_left
          ·intro w'
           go_simp
           with_reducible rfl
          rotate_left
          ·simp only [Act.put, sa_, sz_, ss_, i64_w, i32_w]
           rfl
          refine pure_ (i := 7) (N := some 83) (v := ?_) (a' := ?_) #[true, true, true, false, false, true, true, true, false, false, false, false, false, false, false] rfl rfl (any_of HT_.out (by kernel_rfl)) (fun _ _ _ h => h) (Or.inl ⟨by rfl, ?_⟩) ?_ ?_
          rotate_left
          ·intro w'
           go_simp
           with_reducible rfl
          rotate_left
          ·simp only [Act.put, sa_, sz_, ss_, i64_w, i32_w]
           rfl
          refine take_ (i := 3) (N := some 79) (v := ?_) (a' := ?_) #[true, true, true, true, false, true, true, true, false, false, false, false, false, false, false] rfl rfl (take_ofW HT_.out HW_.out (by kernel_rfl)) (fun _ _ _ h => h) (Or.inl ⟨by rfl, ?_⟩) hHeld ?_ ?_
          rotate_left
          ·rintro w' ⟨s0, s1, s2, s3, s4, s5, s6, s7⟩
           go_simp
           with_reducible rfl
          rotate_left
          ·simp only [Act.put, sa_, sz_, ss_, i64_w, i32_w]
           rfl
          refine take_ (i := 4) (N := some 80) (v := ?_) (a' := ?_) #[true, true, true, true, true, true, true, true, false, false, false, false, false, false, false] rfl rfl (take_ofW HT_.out HW_.out (by kernel_rfl)) (fun _ _ _ h => h) (Or.inl ⟨by rfl, ?_⟩) hHeld ?_ ?_
          rotate_left
          ·rintro w' ⟨s0, s1, s2, s3, s4, s5, s6, s7⟩
           go_simp
           with_reducible rfl
          rotate_left
          ·simp only [Act.put, sa_, sz_, ss_, i64_w, i32_w]
           rfl
          refine one_ (i := 8) (N := some 84) #[true, true, true, true, true, true, true, true, true, false, false, false, false, false, false] rfl rfl (one_of HT_.out (by kernel_rfl)) (by decide) (fun K hK => ?_)
          refine goes_ Try.func13 (by kernel_rfl) rfl #[.agg #[.int .i64 a0_0, .int .i64 a0_1, .slice A0_2 l0_2.length c0_2], .int .i64 a1, .int .i64 a2, .slice A3 l3.length c3] (by rfl) rfl rfl gl_ ?_
          with_reducible refine (standstillref05_Cross.calls kj18 a0_0 a0_1 _ _ l0_2 a1 a2 _ _ l3 t252 t253 t254 t255 t256 _ ?side1 ?side2 ?side3 ?side4 A54.out).mono ?_
          (case side1 => exact ck_ (Kd.C_below HR0_2.out HB.out))
          (case side2 => exact HC0_2.out)
          (case side3 => exact ck_ (Kd.C_below HR3.out HB.out))
          (case side4 => exact HC3.out)
          rintro e w59 ⟨v257, rfl, ho0, hb⟩
          refine ⟨_, rfl, ?_⟩
          have n0_ := A_ (Kd.R_elder' (rk_ HO_248004.out) (Kd.R_base ho0) hb)
          have n1_ := A_ (Kd.R_lower (Kd.R_new' ho0 (Kd.R_lt (rk_ HO_248004.out))) (below_size (bk_ HB.out)))
          have n2_ := A_ (blk_below (pk_ BK236.out) hb)
          have n3_ := A_ (blk_below (pk_ BK247.out) hb)
          have n4_ := A_ (below_step (bk_ HB.out) hb)
          clear HO_248004 BK236 BK247 HB
          have HO_248004 := n0_
          have HO258 := n1_
          have BK236 := n2_
          have BK247 := n3_
          have HB := n4_
          clear n0_ n1_ n2_ n3_ n4_
          (try clear hb)
          (try clear hb2)
          (try clear hk)
          (try clear hi)
          (try clear ho0)
          obtain ⟨Ao60, co60, eo60⟩ := Kd.R_slice HO258.out
          (first | subst eo60 | (injection eo60 with f1_ f2_ f3_; have f4_ := f1_.symm; have f5_ := f3_.symm; clear f1_ f2_ f3_; subst f4_; subst f5_))
          refine hK.out _ _ ⟨(blk_cell BK247.out 0).trans rfl, (blk_cell BK247.out 1).trans rfl, (blk_cell BK247.out 2).trans rfl, (blk_cell BK247.out 3).trans rfl, (blk_cell BK247.out 4).trans rfl, (blk_cell BK236.out 0).trans rfl, (blk_cell BK236.out 1).trans rfl, (blk_cell BK236.out 2).trans rfl⟩ (fun hHeld => ?_)
          clear hK K
          refine norm_ (a' := ?_) ?_ ?_
          rotate_left
          ·show Act.put _ (some 84) _ = _
           simp only [Act.put, sa_, sz_, ss_, i64_w, i32_w]
           rfl
          refine one_ (i := 9) (N := some 85) #[true, true, true, true, true, true, true, true, true, true, false, false, false, false, false] rfl rfl (one_of HT_.out (by kernel_rfl)) (by decide) (fun K hK => ?_)
          refine goes_ Try.func11 (by kernel_rfl) rfl #[.agg #[.int .i64 t239, .int .i64 t240, .int .i64 t241, .int .i64 t242, .slice Ao25 t243.length co25], .agg #[.int .i64 t252, .int .i64 t253, .int .i64 t254, .int .i64 t255, .slice Ao60 t256.length co60]] (by rfl) rfl rfl gl_ ?_
          with_reducible refine (standstillref05_Same.calls kj18 t239 t240 t241 t242 _ _ t243 t252 t253 t254 t255 _ _ t256 true _ ?side1 ?side2 ?side3 ?side4 A55.out).mono ?_
          (case side1 => repeat (first | exact (Kd.R_reads' HO_248004.out).2.2 | (with_reducible refine Kd.C_alloc ?_ _) | (with_reducible refine Kd.C_drewN ?_ _) | (with_reducible refine Kd.C_drew ?_)))
          (case side2 => exact (Kd.R_reads' HO_248004.out).2.1)
          (case side3 => repeat (first | exact (Kd.R_reads' HO258.out).2.2 | (with_reducible refine Kd.C_alloc ?_ _) | (with_reducible refine Kd.C_drewN ?_ _) | (with_reducible refine Kd.C_drew ?_)))
          (case side4 => exact (Kd.R_reads' HO258.out).2.1)
          rintro e w61 ⟨rfl, hb⟩
          refine ⟨_, rfl, ?_⟩
          have n0_ := A_ (Kd.R_below (rk_ HO_248004.out) hb)
          have n1_ := A_ (Kd.R_below (rk_ HO258.out) hb)
          have n2_ := A_ (blk_below (pk_ BK236.out) hb)
          have n3_ := A_ (blk_below (pk_ BK247.out) hb)
          have n4_ := A_ (below_step (bk_ HB.out) hb)
          clear HO_248004 HO258 BK236 BK247 HB
          have HO_248004 := n0_
          have HO258 := n1_
          have BK236 := n2_
          have BK247 := n3_
          have HB := n4_
          clear n0_ n1_ n2_ n3_ n4_
          (try clear hb)
          (try clear hb2)
          (try clear hk)
          (try clear hi)
          refine hK.out _ _ ⟨(blk_cell BK247.out 0).trans rfl, (blk_cell BK247.out 1).trans rfl, (blk_cell BK247.out 2).trans rfl, (blk_cell BK247.out 3).trans rfl, (blk_cell BK247.out 4).trans rfl, (blk_cell BK236.out 0).trans rfl, (blk_cell BK236.out 1).trans rfl, (blk_cell BK236.out 2).trans rfl⟩ (fun hHeld => ?_)
          clear hK K
          refine norm_ (a' := ?_) ?_ ?_
          rotate_left
          ·show Act.put _ (some 85) _ = _
           simp only [Act.put, sa_, sz_, ss_, i64_w, i32_w]
           rfl
          refine pure_ (i := 10) (N := some 86) (v := ?_) (a' := ?_) #[true, true, true, true, true, true, true, true, true, true, true, false, false, false, false] rfl rfl (any_of HT_.out (by kernel_rfl)) (fun _ _ _ h => h) (Or.inl ⟨by rfl, ?_⟩) ?_ ?_
          rotate_left
          ·intro w'
           go_simp
           with_reducible rfl
          rotate_left
          ·simp only [Act.put, sa_, sz_, ss_, i64_w, i32_w]
           rfl
          refine pure_ (i := 11) (N := some 87) (v := ?_) (a' := ?_) #[true, true, true, true, true, true, true, true, true, true, true, true, false, false, false] rfl rfl (any_of HT_.out (by kernel_rfl)) (fun _ _ _ h => h) (Or.inl ⟨by rfl, ?_⟩) ?_ ?_
          rotate_left
          ·intro w'
           go_simp
           with_reducible rfl
          rotate_left
          ·simp only [Act.put, sa_, sz_, ss_, i64_w, i32_w]
           rfl
          refine one_ (i := 12) (N := some 88) #[true, true, true, true, true, true, true, true, true, true, true, true, true, false, false] rfl rfl (one_of HT_.out (by kernel_rfl)) (by decide) (fun K hK => ?_)
          refine goes_ Try.func8 (by kernel_rfl) rfl #[] (by rfl) rfl rfl gl_ ?_
          with_reducible refine (standstilllaw05_awake.calls kj18  t260 _ A57.out).mono ?_
          rintro e w62 ⟨rfl, hb⟩
          refine ⟨_, rfl, ?_⟩
          have n0_ := A_ (Kd.R_below (rk_ HO_248004.out) hb)
          have n1_ := A_ (Kd.R_below (rk_ HO258.out) hb)
          have n2_ := A_ (blk_below (pk_ BK236.out) hb)
          have n3_ := A_ (blk_below (pk_ BK247.out) hb)
          have n4_ := A_ (below_step (bk_ HB.out) hb)
          clear HO_248004 HO258 BK236 BK247 HB
          have HO_248004 := n0_
          have HO258 := n1_
          have BK236 := n2_
          have BK247 := n3_
          have HB := n4_
          clear n0_ n1_ n2_ n3_ n4_
          (try clear hb)
          (try clear hb2)
          (try clear hk)
          (try clear hi)
          refine hK.out _ _ ⟨(blk_cell BK247.out 0).trans rfl, (blk_cell BK247.out 1).trans rfl, (blk_cell BK247.out 2).trans rfl, (blk_cell BK247.out 3).trans rfl, (blk_cell BK247.out 4).trans rfl, (blk_cell BK236.out 0).trans rfl, (blk_cell BK236.out 1).trans rfl, (blk_cell BK236.out 2).trans rfl⟩ (fun hHeld => ?_)
          clear hK K
          refine norm_ (a' := ?_) ?_ ?_
          rotate_left
          ·show Act.put _ (some 88) _ = _
           simp only [Act.put, sa_, sz_, ss_, i64_w, i32_w]
           rfl
          refine pure_ (i := 13) (N := some 89) (v := ?_) (a' := ?_) #[true, true, true, true, true, true, true, true, true, true, true, true, true, true, false] rfl rfl (any_of HT_.out (by kernel_rfl)) (fun _ _ _ h => h) (Or.inl ⟨by rfl, ?_⟩) ?_ ?_
          rotate_left
          ·intro w'
           go_simp
           with_reducible rfl
          rotate_left
          ·simp only [Act.put, sa_, sz_, ss_, i64_w, i32_w]
           rfl
          refine pure_ (i := 14) (N := some 8) (v := ?_) (a' := ?_) #[true, true, true, true, true, true, true, true, true, true, true, true, true, true, true] rfl rfl (any_of HT_.out (by kernel_rfl)) (fun _ _ _ h => h) (Or.inl ⟨by rfl, ?_⟩) ?_ ?_
          rotate_left
          ·intro w'
           go_simp
           with_reducible rfl
          rotate_left
          ·simp only [Act.put, sa_, sz_, ss_, i64_w, i32_w]
           rfl
          refine done_ (done_of HT_.out (by kernel_rfl)) ?_
          try go_wp2
          go_ret
          exact ⟨er_, bk_ HB.out⟩
         ·replace c56 := Bool.eq_false_iff.mpr c56
          subst c56
          have H1 : (none) = some r := by rw [if_neg (show ¬ (false = true) by decide)] at H; exact H
          clear H
          have H := H1
          clear H1
          exact absurd H (by simp)
        ·rw [if_neg c53] at H
         have c53b0 : (t246 == 0) = false := beq_eq_false_iff_ne.mpr c53
         have c53b1 : (t246 != 0) = true := bne_iff_ne.mpr c53
         exact absurd H (by simp)
    ·replace c18 := Bool.eq_false_iff.mpr c18
     subst c18
     have H1 : (if t246 = 1 then ((standstillref05_Same.f kj4 t239 t240 t241 t242 t243 0 0 0 0 ([] : List Int)).bind fun t261 => (if t261 = true then ((standstilllaw05_awake.f kj4).bind fun t262 => (some t262)) else (none))) else (none)) = some r := by rw [if_neg (show ¬ (false = true) by decide)] at H; exact H
     clear H
     have H := H1
     clear H1
     by_cases c63 : t246 = 1
     ·rw [if_pos c63] at H
      have c63b0 : (t246 == 1) = true := beq_iff_eq.mpr c63
      have c63b1 : (t246 != 1) = false := bne_eq_false_iff_eq.mpr c63
      clear c63
      replace H := Option.bind_eq_some_iff.mp H
      obtain ⟨t261, A640, H⟩ := H
      replace H : (if t261 = true then ((standstilllaw05_awake.f kj4).bind fun t262 => (some t262)) else (none)) = some r := H
      have A64 := Aside0.mk A640
      clear A640
      by_cases c65 : t261 = true
      ·subst c65
       have H1 : ((standstilllaw05_awake.f kj4).bind fun t262 => (some t262)) = some r := by rw [if_pos rfl] at H; exact H
       clear H
       have H := H1
       clear H1
       replace H := Option.bind_eq_some_iff.mp H
       obtain ⟨t262, A660, H⟩ := H
       replace H : (some t262) = some r := H
       have A66 := Aside0.mk A660
       clear A660
       obtain rfl := Option.some.inj H
       have hcz67_0 : wc.cell? ⟨gb236, 0, none⟩ = some (.int .i64 a0_0) := (blk_cell BK236.out 0).trans rfl
       have hcz67_1 : wc.cell? ⟨gb236, 1, none⟩ = some (.int .i64 a0_1) := (blk_cell BK236.out 1).trans rfl
       have hcz67_2 : wc.cell? ⟨gb236, 2, none⟩ = some (.slice A0_2 l0_2.length c0_2) := (blk_cell BK236.out 2).trans rfl
       have hfz67_0 := blk_frozen BK236.out 0
       have hfz67_1 := blk_frozen BK236.out 1
       have hfz67_2 := blk_frozen BK236.out 2
       go_wp2_with (first | ((with_reducible refine gate_callee (f := 9) rfl ?_); refine goesL_ (some 24) rfl rfl Try.func9 (by kernel_rfl) rfl #[.agg #[.int .i64 a0_0, .int .i64 a0_1, .slice A0_2 l0_2.length c0_2], .int .i64 a1, .int .i64 a2, .slice A3 l3.length c3] rfl gl_ ?_; (with_reducible refine (block_Cross.calls kj4 a0_0 a0_1 _ _ l0_2 a1 a2 _ _ l3 t239 t240 t241 t242 t243 t246 _ ?side1 ?side2 ?side3 ?side4 A16.out).mono ?_); (case side1 => exact ck_ (Kd.C_below HR0_2.out HB.out)); (case side2 => exact HC0_2.out); (case side3 => exact ck_ (Kd.C_below HR3.out HB.out)); (case side4 => exact HC3.out); rintro e w68 ⟨v244, rfl, ho0, hb⟩; refine ⟨_, rfl, ?_⟩; have n0_ := A_ (Kd.R_lower ho0 (below_size (bk_ HB.out))); have n1_ := A_ (blk_below (pk_ BK236.out) hb); have n2_ := A_ (below_step (bk_ HB.out) hb); clear BK236 HB; have HO245 := n0_; have BK236 := n1_; have HB := n2_; clear n0_ n1_ n2_; (try clear hb); (try clear hb2); (try clear hk); (try clear hi); (try clear ho0)) | ((with_reducible refine gate_dst (N := 9) rfl ?_); (try (refine gate_guard (by rfl) ?_; dsimp only)); refine box_event ?hg (N := 9) ?hd (cs := #[.int .i64 0, .int .i64 0, .int .i64 0, .int .i64 0, .slice none 0 0]) (t := 29) ?hr ?_; (case hd => rfl); (case hg => rfl); (case hr => first | (go_simp; done) | (go_simp; rfl)); intro gb247 hg w69 hbox hb; have n0_ := A_ (Kd.R_below (rk_ HO245.out) hb); have n1_ := A_ (blk_below (pk_ BK236.out) hb); have n2_ := A_ (below_step (bk_ HB.out) hb); have n3_ := A_ (hbox); have n4_ := A_ ((by rw [hg]; exact (below_size (bk_ HB.out)) : w.heap.size ≤ gb247)); have n5_ := A_ ((by rw [hg]; exact (below_size (bk_ HB.out)) : w.heap.size ≤ gb247)); have n6_ := A_ ((by rw [hg]; exact Nat.ne_of_lt (blk_lt (pk_ BK236.out)) : gb236 ≠ gb247)); have n7_ := A_ ((by rw [hg]; exact Nat.ne_of_gt (blk_lt (pk_ BK236.out)) : gb247 ≠ gb236)); clear HO245 BK236 HB; have HO245 := n0_; have BK236 := n1_; have HB := n2_; have BK247 := n3_; have GW247 := n4_; have GE247 := n5_; have NB236_247 := n6_; have NB247_236 := n7_; clear n0_ n1_ n2_ n3_ n4_ n5_ n6_ n7_ hb hbox hg; have hnb70 := NB247_236.out; have hnc70 := NB236_247.out; have hcz71_0 : w69.cell? ⟨gb247, 0, none⟩ = some (.int .i64 0) := (blk_cell BK247.out 0).trans rfl; have hcz71_1 : w69.cell? ⟨gb247, 1, none⟩ = some (.int .i64 0) := (blk_cell BK247.out 1).trans rfl; have hcz71_2 : w69.cell? ⟨gb247, 2, none⟩ = some (.int .i64 0) := (blk_cell BK247.out 2).trans rfl; have hcz71_3 : w69.cell? ⟨gb247, 3, none⟩ = some (.int .i64 0) := (blk_cell BK247.out 3).trans rfl; have hcz71_4 : w69.cell? ⟨gb247, 4, none⟩ = some (.slice none 0 0) := (blk_cell BK247.out 4).trans rfl; have hfz71_0 := blk_frozen BK247.out 0; have hfz71_1 := blk_frozen BK247.out 1; have hfz71_2 := blk_frozen BK247.out 2; have hfz71_3 := blk_frozen BK247.out 3; have hfz71_4 := blk_frozen BK247.out 4; obtain ⟨Ao72, co72, eo72⟩ := Kd.R_slice HO245.out; subst eo72; have hcz73_0 : w69.cell? ⟨gb236, 0, none⟩ = some (.int .i64 a0_0) := (blk_cell BK236.out 0).trans rfl; have hcz73_1 : w69.cell? ⟨gb236, 1, none⟩ = some (.int .i64 a0_1) := (blk_cell BK236.out 1).trans rfl; have hcz73_2 : w69.cell? ⟨gb236, 2, none⟩ = some (.slice A0_2 l0_2.length c0_2) := (blk_cell BK236.out 2).trans rfl; have hfz73_0 := blk_frozen BK236.out 0; have hfz73_1 := blk_frozen BK236.out 1; have hfz73_2 := blk_frozen BK236.out 2) | ((with_reducible refine gate_callee (f := 10) rfl ?_); refine goesL_ (some 29) rfl rfl Try.func10 (by kernel_rfl) rfl #[.agg #[.int .i64 a0_0, .int .i64 a0_1, .slice A0_2 l0_2.length c0_2]] rfl gl_ ?_; (with_reducible refine (standstillref01_Valid.calls kj4 a0_0 a0_1 _ _ l0_2 false _ ?side1 ?side2 A17.out).mono ?_); (case side1 => exact Kd.C_below HR0_2.out (bk_ HB.out)); (case side2 => exact HC0_2.out); rintro e w74 ⟨rfl, hb⟩; refine ⟨_, rfl, ?_⟩; have n0_ := A_ (Kd.R_below (by (with_reducible repeat (first | apply Kd.R_alloc | apply Kd.R_drewN | apply Kd.R_drew)); exact (Kd.R_mono (Kd.R_far (p := ⟨gb247, 4, none⟩) (Kd.R_far (p := ⟨gb247, 3, none⟩) (Kd.R_far (p := ⟨gb247, 2, none⟩) (Kd.R_far (p := ⟨gb247, 1, none⟩) (Kd.R_far (p := ⟨gb247, 0, none⟩) (Kd.R_types HO245.out BK247.out (by decide)) (fun _ hk => hk.2) (.int .i64 t239)) (fun _ hk => hk.2) (.int .i64 t240)) (fun _ hk => hk.2) (.int .i64 t241)) (fun _ hk => hk.2) (.int .i64 t242)) (fun _ hk => hk.2) (.slice Ao72 t243.length co72)) (fun _ h_ => h_.1))) hb); have n1_ := A_ (blk_below (g := gb236) (o := .cells #[.int .i64 a0_0, .int .i64 a0_1, .slice A0_2 l0_2.length c0_2] 24 (0, 0)) (by refine pk_ ?_; refine blk_far ?_ NB236_247.out _; refine pk_ ?_; refine blk_far ?_ NB236_247.out _; refine pk_ ?_; refine blk_far ?_ NB236_247.out _; refine pk_ ?_; refine blk_far ?_ NB236_247.out _; refine pk_ ?_; refine blk_far ?_ NB236_247.out _; exact pk_ BK236.out) hb); have n2_ := A_ (blk_below (g := gb247) (o := .cells #[.int .i64 t239, .int .i64 t240, .int .i64 t241, .int .i64 t242, .slice Ao72 t243.length co72] 29 (0, 0)) (by refine pk_ ?_; refine blk_put (cs := #[.int .i64 t239, .int .i64 t240, .int .i64 t241, .int .i64 t242, .slice none 0 0]) ?_ 4 _ rfl; refine pk_ ?_; refine blk_put (cs := #[.int .i64 t239, .int .i64 t240, .int .i64 t241, .int .i64 0, .slice none 0 0]) ?_ 3 _ rfl; refine pk_ ?_; refine blk_put (cs := #[.int .i64 t239, .int .i64 t240, .int .i64 0, .int .i64 0, .slice none 0 0]) ?_ 2 _ rfl; refine pk_ ?_; refine blk_put (cs := #[.int .i64 t239, .int .i64 0, .int .i64 0, .int .i64 0, .slice none 0 0]) ?_ 1 _ rfl; refine pk_ ?_; refine blk_put (cs := #[.int .i64 0, .int .i64 0, .int .i64 0, .int .i64 0, .slice none 0 0]) ?_ 0 _ rfl; exact pk_ BK247.out) hb); have n3_ := A_ (below_step (bk_ HB.out) hb); clear HO245 BK236 BK247 HB; have HO245 := n0_; have BK236 := n1_; have BK247 := n2_; have HB := n3_; clear n0_ n1_ n2_ n3_; (try clear hb); (try clear hb2); (try clear hk); (try clear hi); have hcz75_0 : w74.cell? ⟨gb247, 0, none⟩ = some (.int .i64 t239) := (blk_cell BK247.out 0).trans rfl; have hcz75_1 : w74.cell? ⟨gb247, 1, none⟩ = some (.int .i64 t240) := (blk_cell BK247.out 1).trans rfl; have hcz75_2 : w74.cell? ⟨gb247, 2, none⟩ = some (.int .i64 t241) := (blk_cell BK247.out 2).trans rfl; have hcz75_3 : w74.cell? ⟨gb247, 3, none⟩ = some (.int .i64 t242) := (blk_cell BK247.out 3).trans rfl; have hcz75_4 : w74.cell? ⟨gb247, 4, none⟩ = some (.slice Ao72 t243.length co72) := (blk_cell BK247.out 4).trans rfl; have hfz75_0 := blk_frozen BK247.out 0; have hfz75_1 := blk_frozen BK247.out 1; have hfz75_2 := blk_frozen BK247.out 2; have hfz75_3 := blk_frozen BK247.out 3; have hfz75_4 := blk_frozen BK247.out 4) | (go_at_call 11; (refine (standstillref05_Same.calls kj4 t239 t240 t241 t242 _ _ t243 0 0 0 0 _ _ ([] : List Int) true _ ?side1 ?side2 ?side3 ?side4 A64.out).mono ?_); (case side1 => repeat (first | exact (Kd.R_reads' HO245.out).2.2 | (with_reducible refine Kd.C_alloc ?_ _) | (with_reducible refine Kd.C_drewN ?_ _) | (with_reducible refine Kd.C_drew ?_))); (case side2 => exact (Kd.R_reads' HO245.out).2.1); (case side3 => exact Kd.C_nil _ _); (case side4 => exact Nat.le_refl _); rintro e w76 ⟨rfl, hb⟩; have n0_ := A_ (Kd.R_below (rk_ HO245.out) hb); have n1_ := A_ (blk_below (pk_ BK236.out) hb); have n2_ := A_ (blk_below (pk_ BK247.out) hb); have n3_ := A_ (below_step (bk_ HB.out) hb); clear HO245 BK236 BK247 HB; have HO245 := n0_; have BK236 := n1_; have BK247 := n2_; have HB := n3_; clear n0_ n1_ n2_ n3_; (try clear hb); (try clear hb2); (try clear hk); (try clear hi)) | (go_at_call 8; (with_reducible refine (standstilllaw05_awake.calls kj4  t262 _ A66.out).mono ?_); rintro e w77 ⟨rfl, hb⟩; have n0_ := A_ (Kd.R_below (rk_ HO245.out) hb); have n1_ := A_ (blk_below (pk_ BK236.out) hb); have n2_ := A_ (blk_below (pk_ BK247.out) hb); have n3_ := A_ (below_step (bk_ HB.out) hb); clear HO245 BK236 BK247 HB; have HO245 := n0_; have BK236 := n1_; have BK247 := n2_; have HB := n3_; clear n0_ n1_ n2_ n3_; (try clear hb); (try clear hb2); (try clear hk); (try clear hi)))
       go_ret
       exact ⟨er_, bk_ HB.out⟩
      ·replace c65 := Bool.eq_false_iff.mpr c65
       subst c65
       have H1 : (none) = some r := by rw [if_neg (show ¬ (false = true) by decide)] at H; exact H
       clear H
       have H := H1
       clear H1
       exact absurd H (by simp)
     ·rw [if_neg c63] at H
      exact absurd H (by simp)

/-- THE ONE PURE STATEMENT of standstilllaw05_BlockCrosses. -/
def standstilllaw05_BlockCrosses.Pure : Prop := ∀ (a0_0 : Int) (a0_1 : Int) (l0_2 : List (List (S57))) (a1 : Int) (a2 : Int) (l3 : List Int), ((Lit.int .i64 a0_0).wf = true) → ((Lit.int .i64 a0_1).wf = true) → (l0_2.length * 24 ≤ 140737488351232 ∧ ∀ y_ ∈ l0_2, (y_.length * 24 ≤ 140737488351232 ∧ ∀ y__ ∈ y_, inv57 y__)) → ((Lit.int .i64 a1).wf = true) → ((Lit.int .i64 a2).wf = true) → (l3.length * 8 ≤ 140737488351232 ∧ ∀ y_ ∈ l3, (Lit.int .i64 y_).wf = true) → ∃ k, standstilllaw05_BlockCrosses.f k a0_0 a0_1 l0_2 a1 a2 l3 = some true

end Go.Proofs.Ytcdejoaekkcknaa.PBlockCrosses
