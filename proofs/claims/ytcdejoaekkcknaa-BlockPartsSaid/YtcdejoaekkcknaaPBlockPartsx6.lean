-- out of a turned copy of the print, by a program of this session; Lean checks it
import Derived.Test.YtcdejoaekkcknaaPBlockPartsx0
import Derived.Test.YtcdejoaekkcknaaPBlockPartsx4
import Derived.Test.YtcdejoaekkcknaaPBlockPartsx5
namespace Go.Proofs.Ytcdejoaekkcknaa.PBlockParts
open Go.RowKit Go.Proofs.YtcdejoaekkcknaaW.PrintWords Go.Proofs.YtcdejoaekkcknaaW.PrintLast Go.Proofs.YtcdejoaekkcknaaW.PrintMore
attribute [local go_sem] max2_int min2_int max_two min_two max_three min_three max_four min_four   -- for this text's walks alone
set_option linter.unusedVariables false
set_option linter.unusedSimpArgs false

attribute [local go_sem] isSome_put_
/-! ### standstillref01_Parse: function 32 -/
mutual
def standstillref01_Parse.j3 : Nat → ByteArray → List (S57) → Int → Int → List (List (S57)) → Option (Int × Int × (List (List (S57))) × Bool)
 | 0, _, _, _, _, _ => none
 | k + 1, x0, x5, x146000, x146001, x146002 => if x146002.length < 5864062014805 then ((some (x146002 ++ [x5] : List (List (S57)))).bind fun y162 => ((standstillref01_Valid.f k x146000 (x5.length : Int) y162).bind fun t165 => (if t165 = true then ((standstillref01_Text.f k x146000 (x5.length : Int) y162).bind fun t166 => (if t166.toList = x0.toList then (some (x146000, (x5.length : Int), y162, true)) else (some (0, 0, ([] : List (List (S57))), false)))) else (some (0, 0, ([] : List (List (S57))), false))))) else (none)
def standstillref01_Parse.l0 : Nat → ByteArray → List (S57) → Int → Int → Int → List (List (S57)) → Option (Int × Int × (List (List (S57))) × Bool)
 | 0, _, _, _, _, _, _ => none
 | k + 1, x0, x5, x6, x146000, x146001, x146002 => if (wrap64 (x6 + 2)) < (x0.size : Int) then (standstillref01_Parse.j1 k x0 x5 x6 (decide ((x0.size : Int) ≤ 200)) x146000 x146001 x146002) else (standstillref01_Parse.j1 k x0 x5 x6 false x146000 x146001 x146002)
def standstillref01_Parse.j1 : Nat → ByteArray → List (S57) → Int → Bool → Int → Int → List (List (S57)) → Option (Int × Int × (List (List (S57))) × Bool)
 | 0, _, _, _, _, _, _, _ => none
 | k + 1, x0, x5, x6, x18, x146000, x146001, x146002 => if x18 = true then (if 0 ≤ x6 then (if x6 < (x0.size : Int) then (if (bt x0 x6) = 95 then (if x146002.length < 5864062014805 then (standstillref01_Parse.j2 k x0 ([] : List (S57)) (wrap64 (x6 + 1)) (wrap64 (x146000 + 1)) x146001 (x146002 ++ [x5])) else (none)) else (standstillref01_Parse.j2 k x0 x5 x6 x146000 x146001 x146002)) else (none)) else (none)) else (standstillref01_Parse.j3 k x0 x5 x146000 x146001 x146002)
def standstillref01_Parse.j2 : Nat → ByteArray → List (S57) → Int → Int → Int → List (List (S57)) → Option (Int × Int × (List (List (S57))) × Bool)
 | 0, _, _, _, _, _, _ => none
 | k + 1, x0, x5, x6, x146000, x146001, x146002 => if (wrap64 (x6 + 2)) ≥ (x0.size : Int) then (standstillref01_Parse.j3 k x0 x5 x146000 x146001 x146002) else (if 0 ≤ x6 then (if x6 < (x0.size : Int) then (if 0 ≤ (wrap64 (x6 + 2)) then (if (wrap64 (x6 + 2)) < (x0.size : Int) then (if 0 ≤ (wrap64 (x6 + 1)) then (if (wrap64 (x6 + 1)) < (x0.size : Int) then (if (bt x0 (wrap64 (x6 + 1))) = 76 then (if (bt x0 (wrap64 (x6 + 2))) = 90 then (if x5.length < 5864062014805 then (standstillref01_Parse.l0 k x0 (x5 ++ [(⟨wrap64 ((wrap64 (bt x0 x6)) - 48), (-1), (-1)⟩ : S57)]) (wrap64 (x6 + 3)) x146000 x146001 x146002) else (none)) else (if x5.length < 5864062014805 then (standstillref01_Parse.l0 k x0 (x5 ++ [(⟨wrap64 ((wrap64 (bt x0 x6)) - 48), (-1), wrap64 ((wrap64 (bt x0 (wrap64 (x6 + 2)))) - 65)⟩ : S57)]) (wrap64 (x6 + 3)) x146000 x146001 x146002) else (none))) else (if (bt x0 (wrap64 (x6 + 2))) = 90 then (if x5.length < 5864062014805 then (standstillref01_Parse.l0 k x0 (x5 ++ [(⟨wrap64 ((wrap64 (bt x0 x6)) - 48), 1, (-1)⟩ : S57)]) (wrap64 (x6 + 3)) x146000 x146001 x146002) else (none)) else (if x5.length < 5864062014805 then (standstillref01_Parse.l0 k x0 (x5 ++ [(⟨wrap64 ((wrap64 (bt x0 x6)) - 48), 1, wrap64 ((wrap64 (bt x0 (wrap64 (x6 + 2)))) - 65)⟩ : S57)]) (wrap64 (x6 + 3)) x146000 x146001 x146002) else (none)))) else (none)) else (none)) else (none)) else (none)) else (none)) else (none))
end
def standstillref01_Parse.f (k : Nat) (a0 : ByteArray) : Option (Int × Int × (List (List (S57))) × Bool) := standstillref01_Parse.l0 k a0 ([] : List (S57)) 0 1 0 ([] : List (List (S57)))
theorem standstillref01_Parse.mono_l : ∀ k, (∀ y0 y1 y2 y3 y4, LeO (standstillref01_Parse.j3 k y0 y1 y2 y3 y4) (standstillref01_Parse.j3 (k + 1) y0 y1 y2 y3 y4)) ∧ (∀ y0 y1 y2 y3 y4 y5, LeO (standstillref01_Parse.l0 k y0 y1 y2 y3 y4 y5) (standstillref01_Parse.l0 (k + 1) y0 y1 y2 y3 y4 y5)) ∧ (∀ y0 y1 y2 y3 y4 y5 y6, LeO (standstillref01_Parse.j1 k y0 y1 y2 y3 y4 y5 y6) (standstillref01_Parse.j1 (k + 1) y0 y1 y2 y3 y4 y5 y6)) ∧ (∀ y0 y1 y2 y3 y4 y5, LeO (standstillref01_Parse.j2 k y0 y1 y2 y3 y4 y5) (standstillref01_Parse.j2 (k + 1) y0 y1 y2 y3 y4 y5))
 | 0 => ⟨fun _ _ _ _ _ r h => by simp [standstillref01_Parse.j3] at h, fun _ _ _ _ _ _ r h => by simp [standstillref01_Parse.l0] at h, fun _ _ _ _ _ _ _ r h => by simp [standstillref01_Parse.j1] at h, fun _ _ _ _ _ _ r h => by simp [standstillref01_Parse.j2] at h⟩
 | k + 1 => by
  obtain ⟨ih0, ih1, ih2, ih3⟩ := standstillref01_Parse.mono_l k
  refine ⟨?_, ?_, ?_, ?_⟩
  ·intro y0 y1 y2 y3 y4
   unfold standstillref01_Parse.j3
   repeat' first
   | (with_reducible exact ih0 _ _ _ _ _)
   | (with_reducible exact ih1 _ _ _ _ _ _)
   | (with_reducible exact ih2 _ _ _ _ _ _ _)
   | (with_reducible exact ih3 _ _ _ _ _ _)
   | (with_reducible exact standstillref01_Text.mono _ _ _ _)
   | (with_reducible exact standstillref01_Valid.mono _ _ _ _)
   | (with_reducible exact LeO.refl _)
   | (with_reducible exact LeO.none _)
   | (with_reducible refine LeO.ite ?_ ?_)
   | (with_reducible refine LeO.bind ?_ (fun _ => ?_))
   | exact ih0 _ _ _ _ _
   | exact ih1 _ _ _ _ _ _
   | exact ih2 _ _ _ _ _ _ _
   | exact ih3 _ _ _ _ _ _
   | exact standstillref01_Text.mono _ _ _ _
   | exact standstillref01_Valid.mono _ _ _ _
   | exact LeO.none _
   | refine LeO.ite ?_ ?_
   | refine LeO.bind ?_ (fun _ => ?_)
  ·intro y0 y1 y2 y3 y4 y5
   unfold standstillref01_Parse.l0
   repeat' first
   | (with_reducible exact ih0 _ _ _ _ _)
   | (with_reducible exact ih1 _ _ _ _ _ _)
   | (with_reducible exact ih2 _ _ _ _ _ _ _)
   | (with_reducible exact ih3 _ _ _ _ _ _)
   | (with_reducible exact standstillref01_Text.mono _ _ _ _)
   | (with_reducible exact standstillref01_Valid.mono _ _ _ _)
   | (with_reducible exact LeO.refl _)
   | (with_reducible exact LeO.none _)
   | (with_reducible refine LeO.ite ?_ ?_)
   | (with_reducible refine LeO.bind ?_ (fun _ => ?_))
   | exact ih0 _ _ _ _ _
   | exact ih1 _ _ _ _ _ _
   | exact ih2 _ _ _ _ _ _ _
   | exact ih3 _ _ _ _ _ _
   | exact standstillref01_Text.mono _ _ _ _
   | exact standstillref01_Valid.mono _ _ _ _
   | exact LeO.none _
   | refine LeO.ite ?_ ?_
   | refine LeO.bind ?_ (fun _ => ?_)
  ·intro y0 y1 y2 y3 y4 y5 y6
   unfold standstillref01_Parse.j1
   repeat' first
   | (with_reducible exact ih0 _ _ _ _ _)
   | (with_reducible exact ih1 _ _ _ _ _ _)
   | (with_reducible exact ih2 _ _ _ _ _ _ _)
   | (with_reducible exact ih3 _ _ _ _ _ _)
   | (with_reducible exact standstillref01_Text.mono _ _ _ _)
   | (with_reducible exact standstillref01_Valid.mono _ _ _ _)
   | (with_reducible exact LeO.refl _)
   | (with_reducible exact LeO.none _)
   | (with_reducible refine LeO.ite ?_ ?_)
   | (with_reducible refine LeO.bind ?_ (fun _ => ?_))
   | exact ih0 _ _ _ _ _
   | exact ih1 _ _ _ _ _ _
   | exact ih2 _ _ _ _ _ _ _
   | exact ih3 _ _ _ _ _ _
   | exact standstillref01_Text.mono _ _ _ _
   | exact standstillref01_Valid.mono _ _ _ _
   | exact LeO.none _
   | refine LeO.ite ?_ ?_
   | refine LeO.bind ?_ (fun _ => ?_)
  ·intro y0 y1 y2 y3 y4 y5
   unfold standstillref01_Parse.j2
   repeat' first
   | (with_reducible exact ih0 _ _ _ _ _)
   | (with_reducible exact ih1 _ _ _ _ _ _)
   | (with_reducible exact ih2 _ _ _ _ _ _ _)
   | (with_reducible exact ih3 _ _ _ _ _ _)
   | (with_reducible exact standstillref01_Text.mono _ _ _ _)
   | (with_reducible exact standstillref01_Valid.mono _ _ _ _)
   | (with_reducible exact LeO.refl _)
   | (with_reducible exact LeO.none _)
   | (with_reducible refine LeO.ite ?_ ?_)
   | (with_reducible refine LeO.bind ?_ (fun _ => ?_))
   | exact ih0 _ _ _ _ _
   | exact ih1 _ _ _ _ _ _
   | exact ih2 _ _ _ _ _ _ _
   | exact ih3 _ _ _ _ _ _
   | exact standstillref01_Text.mono _ _ _ _
   | exact standstillref01_Valid.mono _ _ _ _
   | exact LeO.none _
   | refine LeO.ite ?_ ?_
   | refine LeO.bind ?_ (fun _ => ?_)
theorem standstillref01_Parse.mono : ∀ a0 k, LeO (standstillref01_Parse.f k a0) (standstillref01_Parse.f (k + 1) a0) := by
 intro a0 k
 obtain ⟨ih0, ih1, ih2, ih3⟩ := standstillref01_Parse.mono_l k
 unfold standstillref01_Parse.f
 repeat' first
   | (with_reducible exact ih0 _ _ _ _ _)
   | (with_reducible exact ih1 _ _ _ _ _ _)
   | (with_reducible exact ih2 _ _ _ _ _ _ _)
   | (with_reducible exact ih3 _ _ _ _ _ _)
   | (with_reducible exact standstillref01_Text.mono _ _ _ _)
   | (with_reducible exact standstillref01_Valid.mono _ _ _ _)
   | (with_reducible exact LeO.refl _)
   | (with_reducible exact LeO.none _)
   | (with_reducible refine LeO.ite ?_ ?_)
   | (with_reducible refine LeO.bind ?_ (fun _ => ?_))
   | exact ih0 _ _ _ _ _
   | exact ih1 _ _ _ _ _ _
   | exact ih2 _ _ _ _ _ _ _
   | exact ih3 _ _ _ _ _ _
   | exact standstillref01_Text.mono _ _ _ _
   | exact standstillref01_Valid.mono _ _ _ _
   | exact LeO.none _
   | refine LeO.ite ?_ ?_
   | refine LeO.bind ?_ (fun _ => ?_)
def standstillref01_Parse.T12 : Bool × List (List Nat × List Nat) := (true, [([], []), ([], []), ([0, 1], [0, 1]), ([2], [2]), ([3], [3]), ([], []), ([], []), ([6], [6]), ([5, 7], [5, 7]), ([8], [8]), ([9], [9]), ([4, 10], [4, 10]), ([], []), ([12, 11, 0, 1, 2, 3, 4, 5, 6, 7, 8, 9, 10, 11, 12], [11, 12])])
def standstillref01_Parse.B12 : List Nat := [0, 0, 3, 7, 15, 0, 0, 64, 224, 480, 992, 2047, 0, 8191]
theorem standstillref01_Parse.tab12 : rtab .any (opsOf Try.f32 12) = standstillref01_Parse.T12 := by kernel_rfl
theorem standstillref01_Parse.bits12 : waitsOk standstillref01_Parse.T12.2 standstillref01_Parse.B12 = true := by kernel_rfl
set_option maxHeartbeats 8000000 in
set_option maxRecDepth 100000 in
theorem standstillref01_Parse.calls (k : Nat) (a0 : ByteArray) (r1 : Int) (r2 : Int) (r3 : List (List (S57))) (r4 : Bool) (w : World) (h : standstillref01_Parse.f k a0 = some (r1, r2, r3, r4)) :
  Calls Try.prog 32 #[.string a0] w fun e w' => ∃ v2_ : Value, e = .returned (.tuple #[.agg #[.int .i64 r1, .int .i64 r2, v2_], .bool r4]) ∧ Kd.S (Kd.slice 57 k57) 54 w' w.heap.size (fun _ => True) v2_ r3 ∧ Below w.heap.size w w' := by
 have hu24 := Try.underlying24
 have hu57 := Try.underlying57
 have HB := A_ (Below.refl w.heap.size w)
 have H : (standstillref01_Parse.l0 k a0 ([] : List (S57)) 0 1 0 ([] : List (List (S57)))) = some (r1, r2, r3, r4) := h
 clear h
 have HC2 := Aside0.mk H
 clear H
 go_enter Try.func32, Try.ntmps32
 go_upto_block 0 with (first | ((with_reducible refine gate_dst (N := 2) rfl ?_); (try (refine gate_guard (by rfl) ?_; dsimp only)); refine box_event ?hg (N := 2) ?hd (cs := #[.int .i64 0, .int .i64 0, .slice none 0 0]) (t := 24) ?hr ?_; (case hd => rfl); (case hg => rfl); (case hr => first | (go_simp; done) | (go_simp; rfl)); intro gb144 hg w3 hbox hb; have n0_ := A_ (below_step (bk_ HB.out) hb); have n1_ := A_ (hbox); have n2_ := A_ ((by rw [hg]; exact (below_size (bk_ HB.out)) : w.heap.size ≤ gb144)); have n3_ := A_ ((by rw [hg]; exact (below_size (bk_ HB.out)) : w.heap.size ≤ gb144)); clear HB; have HB := n0_; have BK144 := n1_; have GW144 := n2_; have GE144 := n3_; clear n0_ n1_ n2_ n3_ hb hbox hg) | ((with_reducible refine gate_dst (N := 4) rfl ?_); (try (refine gate_guard (by rfl) ?_; dsimp only)); refine box_event ?hg (N := 4) ?hd (cs := #[.int .i64 0, .int .i64 0, .slice none 0 0]) (t := 24) ?hr ?_; (case hd => rfl); (case hg => rfl); (case hr => first | (go_simp; done) | (go_simp; rfl)); intro gb145 hg w4 hbox hb; have n0_ := A_ (blk_below (pk_ BK144.out) hb); have n1_ := A_ (below_step (bk_ HB.out) hb); have n2_ := A_ (hbox); have n3_ := A_ ((by rw [hg]; exact (below_size (bk_ HB.out)) : w.heap.size ≤ gb145)); have n4_ := A_ ((by rw [hg]; exact (below_size (bk_ HB.out)) : w.heap.size ≤ gb145)); have n5_ := A_ ((by rw [hg]; exact Nat.ne_of_lt (blk_lt (pk_ BK144.out)) : gb144 ≠ gb145)); have n6_ := A_ ((by rw [hg]; exact Nat.ne_of_gt (blk_lt (pk_ BK144.out)) : gb145 ≠ gb144)); clear BK144 HB; have BK144 := n0_; have HB := n1_; have BK145 := n2_; have GW145 := n3_; have GE145 := n4_; have NB144_145 := n5_; have NB145_144 := n6_; clear n0_ n1_ n2_ n3_ n4_ n5_ n6_ hb hbox hg; have hnb5 := NB145_144.out; have hnc5 := NB144_145.out; have hcz6_0 : w4.cell? ⟨gb145, 0, none⟩ = some (.int .i64 0) := (blk_cell BK145.out 0).trans rfl; have hcz6_1 : w4.cell? ⟨gb145, 1, none⟩ = some (.int .i64 0) := (blk_cell BK145.out 1).trans rfl; have hcz6_2 : w4.cell? ⟨gb145, 2, none⟩ = some (.slice none 0 0) := (blk_cell BK145.out 2).trans rfl; have hfz6_0 := blk_frozen BK145.out 0; have hfz6_1 := blk_frozen BK145.out 1; have hfz6_2 := blk_frozen BK145.out 2))
 (try simp only [Act.put, List.setIfInBounds_toArray, List.set_cons_zero, List.set_cons_succ])
 go_cut [5] (fun v5 wc => ∃ (kq : Nat) (x5_1 : List (S57)) (x146000_1 : Int) (x146002_1 : List (List (S57))) (u146002 : Value), Aside0 (standstillref01_Parse.j3 kq a0 x5_1 x146000_1 0 x146002_1 = some (r1, r2, r3, r4)) ∧ Aside0 (kq ≤ k) ∧ Aside0 (Kd.R k57 57 wc w.heap.size (fun _ => True) v5 x5_1) ∧ Aside0 (Kd.S (Kd.slice 57 k57) 54 wc w.heap.size (fun k_ => some k_ ≠ (v5 : Value).ownBlock) u146002 x146002_1) ∧ Aside0 (wc.heap[gb144]? = some (.cells #[.int .i64 0, .int .i64 0, (.slice none 0 0)] 24 (0, 0))) ∧ Aside0 (wc.heap[gb145]? = some (.cells #[.int .i64 x146000_1, .int .i64 0, u146002] 24 (0, 0))) ∧ Aside0 (Below w.heap.size w wc))
 case first => as_aux_lemma =>
  have H := HC2.out
  clear HC2
  have H' := Aside0.mk H
  clear H
  go_wp2
  go_loopg [5, 6] k (fun kq v5 v6 w' => ∃ (x5_1 : List (S57)) (x6_1 : Int) (x146000_1 : Int) (x146002_1 : List (List (S57))) (u146002 : Value), v6 = .int .i64 x6_1 ∧ Aside0 (standstillref01_Parse.l0 kq a0 x5_1 x6_1 x146000_1 0 x146002_1 = some (r1, r2, r3, r4)) ∧ Aside0 (kq ≤ k) ∧ Aside0 (Kd.R k57 57 w' w.heap.size (fun _ => True) v5 x5_1) ∧ Aside0 (Kd.S (Kd.slice 57 k57) 54 w' w.heap.size (fun k_ => some k_ ≠ (v5 : Value).ownBlock) u146002 x146002_1) ∧ Aside0 (w'.heap[gb144]? = some (.cells #[.int .i64 0, .int .i64 0, (.slice none 0 0)] 24 (0, 0))) ∧ Aside0 (w'.heap[gb145]? = some (.cells #[.int .i64 x146000_1, .int .i64 0, u146002] 24 (0, 0))) ∧ Aside0 (Below w.heap.size w w'))
  case atStart => exact ⟨(([] : List (S57))), (0), (1), (([] : List (List (S57)))), (.slice none 0 0), jr_, H', ⟨Nat.le_refl _⟩, ⟨by first | exact Kd.R_nil _ _ _ _ _ | exact Kd.N_nil _ _ _ _ _ | exact Kd.V_nil _ _ _ _ _ | exact Kd.Q_nil _ _ _ _ _ | exact Kd.S_nil _ _ _ _ _⟩, ⟨by first | exact Kd.S_nil _ _ _ _ _ | exact Kd.N_nil _ _ _ _ _ | exact Kd.V_nil _ _ _ _ _ | exact Kd.Q_nil _ _ _ _ _ | exact Kd.R_nil _ _ _ _ _⟩, ⟨by refine pk_ ?_; refine blk_far ?_ NB144_145.out _; refine pk_ ?_; refine blk_far ?_ NB144_145.out _; refine pk_ ?_; refine blk_far ?_ NB144_145.out _; exact pk_ BK144.out⟩, ⟨by refine pk_ ?_; refine blk_put (cs := #[.int .i64 1, .int .i64 0, .slice none 0 0]) ?_ 2 _ rfl; refine pk_ ?_; refine blk_put (cs := #[.int .i64 1, .int .i64 0, .slice none 0 0]) ?_ 1 _ rfl; refine pk_ ?_; refine blk_put (cs := #[.int .i64 0, .int .i64 0, .slice none 0 0]) ?_ 0 _ rfl; exact pk_ BK145.out⟩, ⟨bk_ HB.out⟩⟩
  case round => as_aux_lemma =>
   clear H'
   (try clear hcz6_0); (try clear hcz6_1); (try clear hcz6_2); (try clear hfz6_0); (try clear hfz6_1); (try clear hfz6_2)
   obtain ⟨x5_1, x6_1, x146000_1, x146002_1, u146002, rfl, HA, HK1, HO_5, HO_146002, BK144, BK145, HB⟩ := hrel
   cases gk with
   | zero => exact absurd HA.out (by simp [standstillref01_Parse.l0])
   | succ k1 =>
    have H := HA.out
    clear HA
    simp only [standstillref01_Parse.l0] at H
    have HC7 := Aside0.mk H
    clear H
    go_upto_region 4 with (fail)
    go_cut [18] (fun v18 wc => ∃ (kq : Nat) (x18_6 : Bool), v18 = .bool x18_6 ∧ Aside0 (standstillref01_Parse.j1 kq a0 x5_1 x6_1 x18_6 x146000_1 0 x146002_1 = some (r1, r2, r3, r4)) ∧ Aside0 (kq ≤ k1) ∧ Aside0 (Kd.R k57 57 wc w.heap.size (fun _ => True) u5 x5_1) ∧ Aside0 (Kd.S (Kd.slice 57 k57) 54 wc w.heap.size (fun k_ => some k_ ≠ (u5 : Value).ownBlock) u146002 x146002_1) ∧ Aside0 (wc.heap[gb144]? = some (.cells #[.int .i64 0, .int .i64 0, (.slice none 0 0)] 24 (0, 0))) ∧ Aside0 (wc.heap[gb145]? = some (.cells #[.int .i64 x146000_1, .int .i64 0, u146002] 24 (0, 0))) ∧ Aside0 (Below w.heap.size w wc))
    case first => as_aux_lemma =>
     have H := HC7.out
     clear HC7
     by_cases c8 : (wrap64 (x6_1 + 2)) < (a0.size : Int)
     ·rw [if_pos c8] at H
      have c8b0 : decide ((wrap64 (x6_1 + 2)) < (a0.size : Int)) = true := decide_eq_true c8
      clear c8
      (first | rw [c8b0] | (simp only [i64_w, i32_w]; rw [c8b0]) | skip)
      have H' := Aside0.mk H
      clear H
      go_wp2
      go_meet
      case rel => exact ⟨_, (decide ((a0.size : Int) ≤ 200)), jr_, H', ⟨by have := HK1.out; first | omega | exact Nat.le_refl _⟩, ⟨rk_ HO_5.out⟩, ⟨by (with_reducible repeat (first | apply Kd.S_alloc | apply Kd.S_drewN | apply Kd.S_drew)); exact HO_146002.out⟩, ⟨pk_ BK144.out⟩, ⟨pk_ BK145.out⟩, ⟨bk_ HB.out⟩⟩
     ·rw [if_neg c8] at H
      have c8b0 : decide ((wrap64 (x6_1 + 2)) < (a0.size : Int)) = false := decide_eq_false c8
      clear c8
      (first | rw [c8b0] | (simp only [i64_w, i32_w]; rw [c8b0]) | skip)
      have H' := Aside0.mk H
      clear H
      go_wp2
      go_meet
      case rel => exact ⟨_, (false), jr_, H', ⟨by have := HK1.out; first | omega | exact Nat.le_refl _⟩, ⟨rk_ HO_5.out⟩, ⟨by (with_reducible repeat (first | apply Kd.S_alloc | apply Kd.S_drewN | apply Kd.S_drew)); exact HO_146002.out⟩, ⟨pk_ BK144.out⟩, ⟨pk_ BK145.out⟩, ⟨bk_ HB.out⟩⟩
    case rest => as_aux_lemma =>
     clear HC7
     (try clear hcz6_0); (try clear hcz6_1); (try clear hcz6_2); (try clear hfz6_0); (try clear hfz6_1); (try clear hfz6_2)
     obtain ⟨kq, x18_6, rfl, HA, HJ6, HO_5, HO_146002, BK144, BK145, HB⟩ := hcut
     cases kq with
     | zero => exact absurd HA.out (by simp [standstillref01_Parse.j1])
     | succ kj6 =>
      have H := HA.out
      clear HA
      simp only [standstillref01_Parse.j1] at H
      by_cases c9 : x18_6 = true
      ·subst c9
       have H1 : (if 0 ≤ x6_1 then (if x6_1 < (a0.size : Int) then (if (bt a0 x6_1) = 95 then (if x146002_1.length < 5864062014805 then (standstillref01_Parse.j2 kj6 a0 ([] : List (S57)) (wrap64 (x6_1 + 1)) (wrap64 (x146000_1 + 1)) 0 (x146002_1 ++ [x5_1])) else (none)) else (standstillref01_Parse.j2 kj6 a0 x5_1 x6_1 x146000_1 0 x146002_1)) else (none)) else (none)) = some (r1, r2, r3, r4) := by rw [if_pos rfl] at H; exact H
       clear H
       have H := H1
       clear H1
       by_cases c10 : 0 ≤ x6_1
       ·rw [if_pos c10] at H
        have c10b0 : decide (0 ≤ x6_1) = true := decide_eq_true c10
        clear c10
        by_cases c11 : x6_1 < (a0.size : Int)
        ·rw [if_pos c11] at H
         have c11b0 : decide (x6_1 < (a0.size : Int)) = true := decide_eq_true c11
         clear c11
         have HC13 := Aside0.mk H
         clear H
         have p12 : 0 ≤ (x6_1 : Int) := od_
         have q12 : x6_1 < (a0.size : Int) := od_
         have hx12 := bt_at a0 x6_1
         replace p12 := eq_true p12
         replace q12 := eq_true q12
         go_upto_if 24 with (fail)
         go_cut [5, 6] (fun v5 v6 wc => ∃ (kq : Nat) (x5_12 : List (S57)) (x6_12 : Int) (x146000_12 : Int) (x146002_12 : List (List (S57))) (u146002 : Value), v6 = .int .i64 x6_12 ∧ Aside0 (standstillref01_Parse.j2 kq a0 x5_12 x6_12 x146000_12 0 x146002_12 = some (r1, r2, r3, r4)) ∧ Aside0 (kq ≤ kj6) ∧ Aside0 (Kd.R k57 57 wc w.heap.size (fun _ => True) v5 x5_12) ∧ Aside0 (Kd.S (Kd.slice 57 k57) 54 wc w.heap.size (fun k_ => some k_ ≠ (v5 : Value).ownBlock) u146002 x146002_12) ∧ Aside0 (wc.heap[gb144]? = some (.cells #[.int .i64 0, .int .i64 0, (.slice none 0 0)] 24 (0, 0))) ∧ Aside0 (wc.heap[gb145]? = some (.cells #[.int .i64 x146000_12, .int .i64 0, u146002] 24 (0, 0))) ∧ Aside0 (Below w.heap.size w wc))
         case first => as_aux_lemma =>
          have H := HC13.out
          clear HC13
          by_cases c14 : (bt a0 x6_1) = 95
          ·rw [if_pos c14] at H
           have c14b0 : ((bt a0 x6_1) == 95) = true := beq_iff_eq.mpr c14
           have c14b1 : ((bt a0 x6_1) != 95) = false := bne_eq_false_iff_eq.mpr c14
           clear c14
           (first | rw [c14b0] | (simp only [i64_w, i32_w]; rw [c14b0]) | skip)
           by_cases c15 : x146002_1.length < 5864062014805
           ·rw [if_pos c15] at H
            have LMc15 := Aside0.mk c15
            clear c15
            obtain ⟨y146, hy146⟩ : ∃ y_ : List (List (S57)), y_ = (x146002_1 ++ [x5_1]) := ⟨_, rfl⟩
            replace H : (standstillref01_Parse.j2 kj6 a0 ([] : List (S57)) (wrap64 (x6_1 + 1)) (wrap64 (x146000_1 + 1)) 0 y146) = some (r1, r2, r3, r4) := by first | (rw [hy146]; with_reducible exact H) | (have H2_ := (Option.bind_some _ _).symm.trans H; rw [hy146]; with_reducible exact H2_) | (have H2_ := (Option.bind_some _ _).symm.trans H; with_reducible exact H2_) | with_reducible exact H | (rw [hy146]; exact H) | exact H
            have Ny146 := Aside0.mk hy146
            clear hy146
            have H' := Aside0.mk H
            clear H
            have hnb16 := NB145_144.out
            have hnc16 := NB144_145.out
            have hcz17_0 : wc.cell? ⟨gb145, 0, none⟩ = some (.int .i64 x146000_1) := (blk_cell BK145.out 0).trans rfl
            have hcz17_1 : wc.cell? ⟨gb145, 1, none⟩ = some (.int .i64 0) := (blk_cell BK145.out 1).trans rfl
            have hcz17_2 : wc.cell? ⟨gb145, 2, none⟩ = some (u146002) := (blk_cell BK145.out 2).trans rfl
            have hfz17_0 := blk_frozen BK145.out 0
            have hfz17_1 := blk_frozen BK145.out 1
            have hfz17_2 := blk_frozen BK145.out 2
            obtain ⟨Ao19, co19, eo19⟩ := Kd.R_slice HO_5.out
            subst eo19
            go_wp2_with (first | ((with_reducible refine gate_builtin (b := .append) (xs := #[.tmp 26, .tmp 28]) rfl ?_); (try (refine gate_guard (by rfl) ?_; dsimp only)); at_builtin; refine Kd.S_append (Kd.slice 57 k57) (w0 := w) w.heap.size rfl (.tmp 26) (.tmp 28) 22 54 (.slice none 0 0) 24 rfl Try.underlying22 info54 rfl (by decide) (by omega) u146002 x146002_1 x5_1 [.slice Ao19 x5_1.length co19] (fun _ => True) (fun k_ => some k_ = (.slice Ao19 x5_1.length co19 : Value).ownBlock) rfl rfl ?aP (fun k_ hk_ => ((Kd.R_mono (ok' := fun k_ => ((fun _ => True)) k_ ∧ some k_ ≠ (u146002 : Value).ownBlock) (Kd.R_apart' (HO_5.out) (Kd.S_typed HO_146002.out) (by decide)) (fun k_ hk => ⟨trivial, hk.2⟩))).1 k_ hk_.symm) ?aF ?aO ?aB ?aS ?aL ?_; (case aP => exact Kd.M_row (Kd.R_mono (Kd.R_tight rfl (Kd.R_mono (ok' := fun k_ => ((fun _ => True)) k_ ∧ some k_ ≠ (u146002 : Value).ownBlock) (Kd.R_apart' (HO_5.out) (Kd.S_typed HO_146002.out) (by decide)) (fun k_ hk => ⟨trivial, hk.2⟩))) (fun _ h_ => h_))); (case aB => exact (bk_ HB.out)); (case aF => exact (fun _ _ => trivial)); (case aO => exact (by (with_reducible repeat (first | apply Kd.S_alloc | apply Kd.S_drewN | apply Kd.S_drew)); exact Kd.S_mono HO_146002.out (fun k_ hk => ⟨trivial, fun e_ => hk e_⟩))); (case aS => exact (below_size (bk_ HB.out))); (case aL => have := LMc15.out; omega); intro v147 w18 ho hb hg hat; rw [← Ny146.out] at ho; have n0_ := A_ (blk_grown (pk_ BK144.out) hg (Kd.S_ne HO_146002.out BK144.out (by decide))); have n1_ := A_ (blk_grown (pk_ BK145.out) hg (Kd.S_ne HO_146002.out BK145.out (by decide))); have n2_ := A_ (hb); have n3_ := A_ (ho); clear BK144 BK145 HB HO_146002 HO_5; have BK144 := n0_; have BK145 := n1_; have HB := n2_; have HO148 := n3_; clear n0_ n1_ n2_ n3_ ho hb hg hat; obtain ⟨Ao20, co20, eo20⟩ := Kd.S_slice HO148.out; subst eo20; have hcz21_0 : w18.cell? ⟨gb145, 0, none⟩ = some (.int .i64 x146000_1) := (blk_cell BK145.out 0).trans rfl; have hcz21_1 : w18.cell? ⟨gb145, 1, none⟩ = some (.int .i64 0) := (blk_cell BK145.out 1).trans rfl; have hcz21_2 : w18.cell? ⟨gb145, 2, none⟩ = some (u146002) := (blk_cell BK145.out 2).trans rfl; have hfz21_0 := blk_frozen BK145.out 0; have hfz21_1 := blk_frozen BK145.out 1; have hfz21_2 := blk_frozen BK145.out 2))
            go_meet
            case rel => exact ⟨_, (([] : List (S57))), (wrap64 (x6_1 + 1)), (wrap64 (x146000_1 + 1)), (y146), (.slice Ao20 y146.length co20), jr_, H', ⟨by have := HK1.out; have := HJ6.out; first | omega | exact Nat.le_refl _⟩, ⟨by first | exact Kd.R_nil _ _ _ _ _ | exact Kd.N_nil _ _ _ _ _ | exact Kd.V_nil _ _ _ _ _ | exact Kd.Q_nil _ _ _ _ _ | exact Kd.S_nil _ _ _ _ _⟩, ⟨by (with_reducible repeat (first | apply Kd.S_alloc | apply Kd.S_drewN | apply Kd.S_drew)); exact Kd.S_mono (Kd.S_far (p := ⟨gb145, 0, none⟩) (Kd.S_far (p := ⟨gb145, 2, none⟩) (Kd.S_types HO148.out BK145.out (by decide)) (fun _ hk => hk.2) (.slice Ao20 y146.length co20)) (fun _ hk => hk.2) (.int .i64 (wrap64 (x146000_1 + 1)))) (fun _ hk => (by simp [Value.ownBlock]))⟩, ⟨by refine pk_ ?_; refine blk_far ?_ NB144_145.out _; refine pk_ ?_; refine blk_far ?_ NB144_145.out _; exact pk_ BK144.out⟩, ⟨by refine pk_ ?_; refine blk_put (cs := #[.int .i64 x146000_1, .int .i64 0, .slice Ao20 y146.length co20]) ?_ 0 _ rfl; refine pk_ ?_; refine blk_put (cs := #[.int .i64 x146000_1, .int .i64 0, u146002]) ?_ 2 _ rfl; exact pk_ BK145.out⟩, ⟨bk_ HB.out⟩⟩
           ·rw [if_neg c15] at H
            exact absurd H (by simp)
          ·rw [if_neg c14] at H
           have c14b0 : ((bt a0 x6_1) == 95) = false := beq_eq_false_iff_ne.mpr c14
           have c14b1 : ((bt a0 x6_1) != 95) = true := bne_iff_ne.mpr c14
           (first | rw [c14b0] | (simp only [i64_w, i32_w]; rw [c14b0]) | skip)
           have H' := Aside0.mk H
           clear H
           go_wp2
           go_meet
           case rel => exact ⟨_, (x5_1), (x6_1), (x146000_1), (x146002_1), (u146002), jr_, H', ⟨by have := HK1.out; have := HJ6.out; first | omega | exact Nat.le_refl _⟩, ⟨rk_ HO_5.out⟩, ⟨by (with_reducible repeat (first | apply Kd.S_alloc | apply Kd.S_drewN | apply Kd.S_drew)); exact HO_146002.out⟩, ⟨pk_ BK144.out⟩, ⟨pk_ BK145.out⟩, ⟨bk_ HB.out⟩⟩
         case rest => as_aux_lemma =>
          clear HC13
          (try clear c9); (try clear c10); (try clear c10b0); (try clear c11); (try clear c11b0); (try clear p12); (try clear q12); (try clear hx12); (try clear hcz6_0); (try clear hcz6_1); (try clear hcz6_2); (try clear hfz6_0); (try clear hfz6_1); (try clear hfz6_2); (try clear p12); (try clear q12)
          obtain ⟨kq, x5_12, x6_12, x146000_12, x146002_12, u146002, rfl, HA, HJ12, HO_5, HO_146002, BK144, BK145, HB⟩ := hcut
          cases kq with
          | zero => exact absurd HA.out (by simp [standstillref01_Parse.j2])
          | succ kj12 =>
           have H := HA.out
           clear HA
           simp only [standstillref01_Parse.j2] at H
           by_cases c22 : (wrap64 (x6_12 + 2)) ≥ (a0.size : Int)
           ·rw [if_pos c22] at H
            have c22b0 : decide ((a0.size : Int) ≤ (wrap64 (x6_12 + 2))) = true := decide_eq_true c22
            clear c22
            have H' := Aside0.mk H
            clear H
            go_wp2
            go_meet
            case rel => exact ⟨_, (x5_12), (x146000_12), (x146002_12), (u146002), H', ⟨by have := HK1.out; have := HJ6.out; have := HJ12.out; first | omega | exact Nat.le_refl _⟩, ⟨rk_ HO_5.out⟩, ⟨by (with_reducible repeat (first | apply Kd.S_alloc | apply Kd.S_drewN | apply Kd.S_drew)); exact HO_146002.out⟩, ⟨pk_ BK144.out⟩, ⟨pk_ BK145.out⟩, ⟨bk_ HB.out⟩⟩
           ·rw [if_neg c22] at H
            have c22b0 : decide ((a0.size : Int) ≤ (wrap64 (x6_12 + 2))) = false := decide_eq_false c22
            clear c22
            by_cases c23 : 0 ≤ x6_12
            ·rw [if_pos c23] at H
             have c23b0 : decide (0 ≤ x6_12) = true := decide_eq_true c23
             clear c23
             by_cases c24 : x6_12 < (a0.size : Int)
             ·rw [if_pos c24] at H
              have c24b0 : decide (x6_12 < (a0.size : Int)) = true := decide_eq_true c24
              clear c24
              obtain ⟨ji26, hji26⟩ : ∃ j_ : Int, (wrap64 (x6_12 + 2)) = j_ := ⟨_, rfl⟩
              replace H : (if 0 ≤ (ji26) then (if (ji26) < (a0.size : Int) then (if 0 ≤ (wrap64 (x6_12 + 1)) then (if (wrap64 (x6_12 + 1)) < (a0.size : Int) then (if (bt a0 (wrap64 (x6_12 + 1))) = 76 then (if (bt a0 (ji26)) = 90 then (if x5_12.length < 5864062014805 then (standstillref01_Parse.l0 kj12 a0 (x5_12 ++ [(⟨wrap64 ((wrap64 (bt a0 x6_12)) - 48), (-1), (-1)⟩ : S57)]) (wrap64 (x6_12 + 3)) x146000_12 0 x146002_12) else (none)) else (if x5_12.length < 5864062014805 then (standstillref01_Parse.l0 kj12 a0 (x5_12 ++ [(⟨wrap64 ((wrap64 (bt a0 x6_12)) - 48), (-1), wrap64 ((wrap64 (bt a0 (ji26))) - 65)⟩ : S57)]) (wrap64 (x6_12 + 3)) x146000_12 0 x146002_12) else (none))) else (if (bt a0 (ji26)) = 90 then (if x5_12.length < 5864062014805 then (standstillref01_Parse.l0 kj12 a0 (x5_12 ++ [(⟨wrap64 ((wrap64 (bt a0 x6_12)) - 48), 1, (-1)⟩ : S57)]) (wrap64 (x6_12 + 3)) x146000_12 0 x146002_12) else (none)) else (if x5_12.length < 5864062014805 then (standstillref01_Parse.l0 kj12 a0 (x5_12 ++ [(⟨wrap64 ((wrap64 (bt a0 x6_12)) - 48), 1, wrap64 ((wrap64 (bt a0 (ji26))) - 65)⟩ : S57)]) (wrap64 (x6_12 + 3)) x146000_12 0 x146002_12) else (none)))) else (none)) else (none)) else (none)) else (none)) = some (r1, r2, r3, r4) := by first | (rw [hji26] at H; exact H) | (simp only [hji26] at H ⊢; exact H)
              (try rw [hji26] at c22b0)
              have hji26w : (IntKind.i64.wrap (x6_12 + 2)) = ji26 := (i64_w _).trans hji26
              by_cases c27 : 0 ≤ (ji26)
              ·rw [if_pos c27] at H
               have c27b0 : decide (0 ≤ (ji26)) = true := decide_eq_true c27
               clear c27
               by_cases c28 : (ji26) < (a0.size : Int)
               ·rw [if_pos c28] at H
                have c28b0 : decide ((ji26) < (a0.size : Int)) = true := decide_eq_true c28
                clear c28
                obtain ⟨ji30, hji30⟩ : ∃ j_ : Int, (wrap64 (x6_12 + 1)) = j_ := ⟨_, rfl⟩
                replace H : (if 0 ≤ (ji30) then (if (ji30) < (a0.size : Int) then (if (bt a0 (ji30)) = 76 then (if (bt a0 (ji26)) = 90 then (if x5_12.length < 5864062014805 then (standstillref01_Parse.l0 kj12 a0 (x5_12 ++ [(⟨wrap64 ((wrap64 (bt a0 x6_12)) - 48), (-1), (-1)⟩ : S57)]) (wrap64 (x6_12 + 3)) x146000_12 0 x146002_12) else (none)) else (if x5_12.length < 5864062014805 then (standstillref01_Parse.l0 kj12 a0 (x5_12 ++ [(⟨wrap64 ((wrap64 (bt a0 x6_12)) - 48), (-1), wrap64 ((wrap64 (bt a0 (ji26))) - 65)⟩ : S57)]) (wrap64 (x6_12 + 3)) x146000_12 0 x146002_12) else (none))) else (if (bt a0 (ji26)) = 90 then (if x5_12.length < 5864062014805 then (standstillref01_Parse.l0 kj12 a0 (x5_12 ++ [(⟨wrap64 ((wrap64 (bt a0 x6_12)) - 48), 1, (-1)⟩ : S57)]) (wrap64 (x6_12 + 3)) x146000_12 0 x146002_12) else (none)) else (if x5_12.length < 5864062014805 then (standstillref01_Parse.l0 kj12 a0 (x5_12 ++ [(⟨wrap64 ((wrap64 (bt a0 x6_12)) - 48), 1, wrap64 ((wrap64 (bt a0 (ji26))) - 65)⟩ : S57)]) (wrap64 (x6_12 + 3)) x146000_12 0 x146002_12) else (none)))) else (none)) else (none)) = some (r1, r2, r3, r4) := by first | (rw [hji30] at H; exact H) | (simp only [hji30] at H ⊢; exact H)
                have hji30w : (IntKind.i64.wrap (x6_12 + 1)) = ji30 := (i64_w _).trans hji30
                by_cases c31 : 0 ≤ (ji30)
                ·rw [if_pos c31] at H
                 have c31b0 : decide (0 ≤ (ji30)) = true := decide_eq_true c31
                 clear c31
                 by_cases c32 : (ji30) < (a0.size : Int)
                 ·rw [if_pos c32] at H
                  have c32b0 : decide ((ji30) < (a0.size : Int)) = true := decide_eq_true c32
                  clear c32
                  by_cases c34 : (bt a0 (ji30)) = 76
                  ·rw [if_pos c34] at H
                   have c34b0 : ((bt a0 (ji30)) == 76) = true := beq_iff_eq.mpr c34
                   have c34b1 : ((bt a0 (ji30)) != 76) = false := bne_eq_false_iff_eq.mpr c34
                   clear c34
                   by_cases c36 : (bt a0 (ji26)) = 90
                   ·rw [if_pos c36] at H
                    have c36b0 : ((bt a0 (ji26)) == 90) = true := beq_iff_eq.mpr c36
                    have c36b1 : ((bt a0 (ji26)) != 90) = false := bne_eq_false_iff_eq.mpr c36
                    clear c36
                    by_cases c37 : x5_12.length < 5864062014805
                    ·rw [if_pos c37] at H
                     have LMc37 := Aside0.mk c37
                     clear c37
                     obtain ⟨y150, hy150⟩ : ∃ y_ : List (S57), y_ = (x5_12 ++ [(⟨wrap64 ((wrap64 (bt a0 x6_12)) - 48), (-1), (-1)⟩ : S57)]) := ⟨_, rfl⟩
                     replace H : (standstillref01_Parse.l0 kj12 a0 y150 (wrap64 (x6_12 + 3)) x146000_12 0 x146002_12) = some (r1, r2, r3, r4) := by first | (rw [hy150]; with_reducible exact H) | (have H2_ := (Option.bind_some _ _).symm.trans H; rw [hy150]; with_reducible exact H2_) | (have H2_ := (Option.bind_some _ _).symm.trans H; with_reducible exact H2_) | with_reducible exact H | (rw [hy150]; exact H) | exact H
                     have Ny150 := Aside0.mk hy150
                     clear hy150
                     have H' := Aside0.mk H
                     clear H
                     try go_wp2
                     have n0_ := A_ (Kd.R_drew HO_5.out)
                     have n1_ := A_ (Kd.S_drew HO_146002.out)
                     have n2_ := A_ (blk_drew BK144.out)
                     have n3_ := A_ (blk_drew BK145.out)
                     have n4_ := A_ (below_drew1 HB.out)
                     clear HO_5 HO_146002 BK144 BK145 HB
                     have HO_5 := n0_
                     have HO_146002 := n1_
                     have BK144 := n2_
                     have BK145 := n3_
                     have HB := n4_
                     clear n0_ n1_ n2_ n3_ n4_
                     have p25 : 0 ≤ (x6_12 : Int) := od_
                     have q25 : x6_12 < (a0.size : Int) := od_
                     have hx25 := bt_at a0 x6_12
                     replace p25 := eq_true p25
                     replace q25 := eq_true q25
                     have p29 : 0 ≤ ((ji26) : Int) := od_
                     have q29 : (ji26) < (a0.size : Int) := od_
                     have hx29 := bt_at a0 (ji26)
                     replace p29 := eq_true p29
                     replace q29 := eq_true q29
                     refine start_ (n := 14) (S := fun w' => True) (ds := []) #[false, false, false, false, false, false, false, false, false, false, false, false, false, false] (by kernel_rfl) rfl rfl trivial (fun hHeld => ?_); refine with_tabW standstillref01_Parse.tab12 standstillref01_Parse.bits12 (fun HT_ HW_ => ?_)
                     generalize wc.drew = w38 at HO_5 HO_146002 BK144 BK145 HB hHeld ⊢
                     refine pure_ (i := 0) (N := some 42) (v := ?_) (a' := ?_) #[true, false, false, false, false, false, false, false, false, false, false, false, false, false] rfl rfl (any_of HT_.out (by kernel_rfl)) (fun _ _ _ h => h) (Or.inl ⟨by rfl, ?_⟩) ?_ ?_
                     rotate_left
                     ·intro w'
                      go_simp
                      with_reducible rfl
                     rotate_left
                     ·simp only [Act.put, sa_, sz_, ss_, i64_w, i32_w]
                      rfl
                     refine pure_ (i := 1) (N := some 43) (v := ?_) (a' := ?_) #[true, true, false, false, false, false, false, false, false, false, false, false, false, false] rfl rfl (any_of HT_.out (by kernel_rfl)) (fun _ _ _ h => h) (Or.inl ⟨by rfl, ?_⟩) ?_ ?_
                     rotate_left
                     ·intro w'
                      go_simp
                      with_reducible rfl
                     rotate_left
                     ·simp only [Act.put, sa_, sz_, ss_, i64_w, i32_w]
                      rfl
                     refine pure_ (i := 5) (N := some 47) (v := ?_) (a' := ?_) #[true, true, false, false, false, true, false, false, false, false, false, false, false, false] rfl rfl (any_of HT_.out (by kernel_rfl)) (fun _ _ _ h => h) (Or.inl ⟨by rfl, ?_⟩) ?_ ?_
                     rotate_left
                     ·intro w'
                      go_simp
                      with_reducible rfl
                     rotate_left
                     ·simp only [Act.put, sa_, sz_, ss_, i64_w, i32_w]
                      rfl
                     refine pure_ (i := 6) (N := some 48) (v := ?_) (a' := ?_) #[true, true, false, false, false, true, true, false, false, false, false, false, false, false] rfl rfl (any_of HT_.out (by kernel_rfl)) (fun _ _ _ h => h) (Or.inl ⟨by rfl, ?_⟩) ?_ ?_
                     rotate_left
                     ·intro w'
                      go_simp
                      with_reducible rfl
                     rotate_left
                     ·simp only [Act.put, sa_, sz_, ss_, i64_w, i32_w]
                      rfl
                     refine pure_ (i := 7) (N := some 49) (v := ?_) (a' := ?_) #[true, true, false, false, false, true, true, true, false, false, false, false, false, false] rfl rfl (any_of HT_.out (by kernel_rfl)) (fun _ _ _ h => h) (Or.inl ⟨by rfl, ?_⟩) ?_ ?_
                     rotate_left
                     ·intro w'
                      go_simp
                      with_reducible rfl
                     rotate_left
                     ·simp only [Act.put, sa_, sz_, ss_, i64_w, i32_w]
                      rfl
                     refine take_ (i := 2) (N := some 44) (v := ?_) (a' := ?_) #[true, true, true, false, false, true, true, true, false, false, false, false, false, false] rfl rfl (take_ofW HT_.out HW_.out (by kernel_rfl)) (fun _ _ _ h => h) (Or.inl ⟨by rfl, ?_⟩) hHeld ?_ ?_
                     rotate_left
                     ·intro w' _
                      go_simp
                      with_reducible rfl
                     rotate_left
                     ·simp only [Act.put, sa_, sz_, ss_, i64_w, i32_w]
                      rfl
                     refine pure_ (i := 3) (N := some 45) (v := ?_) (a' := ?_) #[true, true, true, true, false, true, true, true, false, false, false, false, false, false] rfl rfl (any_of HT_.out (by kernel_rfl)) (fun _ _ _ h => h) (Or.inl ⟨by rfl, ?_⟩) ?_ ?_
                     rotate_left
                     ·intro w'
                      go_simp
                      with_reducible rfl
                     rotate_left
                     ·simp only [Act.put, sa_, sz_, ss_, i64_w, i32_w]
                      rfl
                     refine pure_ (i := 4) (N := some 46) (v := ?_) (a' := ?_) #[true, true, true, true, true, true, true, true, false, false, false, false, false, false] rfl rfl (any_of HT_.out (by kernel_rfl)) (fun _ _ _ h => h) (Or.inl ⟨by rfl, ?_⟩) ?_ ?_
                     rotate_left
                     ·intro w'
                      go_simp
                      with_reducible rfl
                     rotate_left
                     ·simp only [Act.put, sa_, sz_, ss_, i64_w, i32_w]
                      rfl
                     refine take_ (i := 8) (N := some 50) (v := ?_) (a' := ?_) #[true, true, true, true, true, true, true, true, true, false, false, false, false, false] rfl rfl (take_ofW HT_.out HW_.out (by kernel_rfl)) (fun _ _ _ h => h) (Or.inl ⟨by rfl, ?_⟩) hHeld ?_ ?_
                     rotate_left
                     ·intro w' _
                      go_simp
                      with_reducible rfl
                     rotate_left
                     ·simp only [Act.put, sa_, sz_, ss_, i64_w, i32_w]
                      rfl
                     refine pure_ (i := 9) (N := some 51) (v := ?_) (a' := ?_) #[true, true, true, true, true, true, true, true, true, true, false, false, false, false] rfl rfl (any_of HT_.out (by kernel_rfl)) (fun _ _ _ h => h) (Or.inl ⟨by rfl, ?_⟩) ?_ ?_
                     rotate_left
                     ·intro w'
                      go_simp
                      with_reducible rfl
                     rotate_left
                     ·simp only [Act.put, sa_, sz_, ss_, i64_w, i32_w]
                      rfl
                     refine pure_ (i := 10) (N := some 52) (v := ?_) (a' := ?_) #[true, true, true, true, true, true, true, true, true, true, true, false, false, false] rfl rfl (any_of HT_.out (by kernel_rfl)) (fun _ _ _ h => h) (Or.inl ⟨by rfl, ?_⟩) ?_ ?_
                     rotate_left
                     ·intro w'
                      go_simp
                      with_reducible rfl
                     rotate_left
                     ·simp only [Act.put, sa_, sz_, ss_, i64_w, i32_w]
                      rfl
                     refine pure_ (i := 11) (N := some 53) (v := ?_) (a' := ?_) #[true, true, true, true, true, true, true, true, true, true, true, true, false, false] rfl rfl (any_of HT_.out (by kernel_rfl)) (fun _ _ _ h => h) (Or.inl ⟨by rfl, ?_⟩) ?_ ?_
                     rotate_left
                     ·intro w'
                      go_simp
                      with_reducible rfl
                     rotate_left
                     ·simp only [Act.put, sa_, sz_, ss_, i64_w, i32_w]
                      rfl
                     refine one_ (i := 12) (N := some 7) #[true, true, true, true, true, true, true, true, true, true, true, true, true, false] rfl rfl (one_of HT_.out (by kernel_rfl)) (by decide) (fun K hK => ?_)
                     refine box_step ?hg (N := 7) ?hd (cs := #[.int .i64 0, .int .i64 0, .int .i64 0]) (t := 57) ?hr ?_; (case hd => rfl); (case hg => rfl); (case hr => first | (go_simp; done) | (go_simp; rfl))
                     intro gb149 hg w39 hbox hb
                     have n0_ := A_ (Kd.R_below (Kd.R_elderB (rk_ HO_5.out) gb149 (Nat.le_of_eq hg.symm)) hb)
                     have n1_ := A_ (Kd.S_below (Kd.S_elderB (by (with_reducible repeat (first | apply Kd.S_alloc | apply Kd.S_drewN | apply Kd.S_drew)); exact HO_146002.out) gb149 (Nat.le_of_eq hg.symm)) hb)
                     have n2_ := A_ (blk_below (pk_ BK144.out) hb)
                     have n3_ := A_ (blk_below (pk_ BK145.out) hb)
                     have n4_ := A_ (below_step (bk_ HB.out) hb)
                     have n5_ := A_ (hbox)
                     have n6_ := A_ ((by rw [hg]; exact (below_size (bk_ HB.out)) : w.heap.size ≤ gb149))
                     have n7_ := A_ ((by rw [hg]; exact (below_size (bk_ HB.out)) : w.heap.size ≤ gb149))
                     have n8_ := A_ ((by rw [hg]; exact Nat.ne_of_lt (blk_lt (pk_ BK144.out)) : gb144 ≠ gb149))
                     have n9_ := A_ ((by rw [hg]; exact Nat.ne_of_gt (blk_lt (pk_ BK144.out)) : gb149 ≠ gb144))
                     have n10_ := A_ ((by rw [hg]; exact Nat.ne_of_lt (blk_lt (pk_ BK145.out)) : gb145 ≠ gb149))
                     have n11_ := A_ ((by rw [hg]; exact Nat.ne_of_gt (blk_lt (pk_ BK145.out)) : gb149 ≠ gb145))
                     clear HO_5 HO_146002 BK144 BK145 HB
                     have HO_5 := n0_
                     have HO_146002 := n1_
                     have BK144 := n2_
                     have BK145 := n3_
                     have HB := n4_
                     have BK149 := n5_
                     have GW149 := n6_
                     have GE149 := n7_
                     have NB144_149 := n8_
                     have NB149_144 := n9_
                     have NB145_149 := n10_
                     have NB149_145 := n11_
                     clear n0_ n1_ n2_ n3_ n4_ n5_ n6_ n7_ n8_ n9_ n10_ n11_ hb hbox hg
                     refine hK.out _ _ trivial (fun hHeld => ?_)
                     clear hK K
                     refine norm_ (a' := ?_) ?_ ?_
                     rotate_left
                     ·show Act.put _ (some 7) _ = _
                      simp only [Act.put, sa_, sz_, ss_, i64_w, i32_w]
                      rfl
                     refine one_ (i := 13) (N := none) #[true, true, true, true, true, true, true, true, true, true, true, true, true, true] rfl rfl (one_of HT_.out (by kernel_rfl)) (by decide) (fun K hK => ?_)
                     have hs40 : w39.cell? ⟨gb149, 0, none⟩ = some (.int .i64 0) := (blk_cell BK149.out 0).trans rfl
                     have hfs40 := blk_frozen BK149.out 0
                     have hns40_0 := NB144_149.out
                     have hns40_1 := NB145_149.out
                     have hms40_0 := NB149_144.out
                     have hms40_1 := NB149_145.out
                     have hs41 : w39.cell? ⟨gb149, 1, none⟩ = some (.int .i64 0) := (blk_cell BK149.out 1).trans rfl
                     have hfs41 := blk_frozen BK149.out 1
                     have hns41_0 := NB144_149.out
                     have hns41_1 := NB145_149.out
                     have hms41_0 := NB149_144.out
                     have hms41_1 := NB149_145.out
                     have hs42 : w39.cell? ⟨gb149, 2, none⟩ = some (.int .i64 0) := (blk_cell BK149.out 2).trans rfl
                     have hfs42 := blk_frozen BK149.out 2
                     have hns42_0 := NB144_149.out
                     have hns42_1 := NB145_149.out
                     have hms42_0 := NB149_144.out
                     have hms42_1 := NB149_145.out
                     refine skip_ (w1 := ?_) (by rfl) rfl ?_ ?_
                     rotate_left
                     ·go_simp
                      rfl
                     refine hK.out _ _ trivial (fun hHeld => ?_)
                     clear hK K
                     refine done_ (done_of HT_.out (by kernel_rfl)) ?_
                     have p33 : 0 ≤ ((ji30) : Int) := od_
                     have q33 : (ji30) < (a0.size : Int) := od_
                     have hx33 := bt_at a0 (ji30)
                     replace p33 := eq_true p33
                     replace q33 := eq_true q33
                     have hnb43 := NB149_144.out
                     have hnc43 := NB144_149.out
                     have hnb44 := NB149_145.out
                     have hnc44 := NB145_149.out
                     have hcz45_0 : w39.cell? ⟨gb149, 0, none⟩ = some (.int .i64 0) := (blk_cell BK149.out 0).trans rfl
                     have hcz45_1 : w39.cell? ⟨gb149, 1, none⟩ = some (.int .i64 0) := (blk_cell BK149.out 1).trans rfl
                     have hcz45_2 : w39.cell? ⟨gb149, 2, none⟩ = some (.int .i64 0) := (blk_cell BK149.out 2).trans rfl
                     have hfz45_0 := blk_frozen BK149.out 0
                     have hfz45_1 := blk_frozen BK149.out 1
                     have hfz45_2 := blk_frozen BK149.out 2
                     have p35 : 0 ≤ ((ji26) : Int) := od_
                     have q35 : (ji26) < (a0.size : Int) := od_
                     have hx35 := bt_at a0 (ji26)
                     replace p35 := eq_true p35
                     replace q35 := eq_true q35
                     try go_wp2_with (first | ((with_reducible refine gate_builtin (b := .append) (xs := #[.tmp 66, .tmp 68]) rfl ?_); (try (refine gate_guard (by rfl) ?_; dsimp only)); at_builtin; refine Kd.R_append k57 (w0 := w) w.heap.size rfl (.tmp 66) (.tmp 68) 54 57 (.agg #[(.int .i64 0), (.int .i64 0), (.int .i64 0)]) 24 rfl Try.underlying54 info57 rfl (by decide) (by omega) u5 x5_12 (⟨wrap64 ((wrap64 (bt a0 x6_12)) - 48), (-1), (-1)⟩ : S57) [.int .i64 (wrap64 ((wrap64 (bt a0 x6_12)) - 48)), .int .i64 (-1), .int .i64 (-1)] (fun k_ => k_ ≠ gb149) (fun _ => False) rfl (by first | (go_simp; done) | (go_simp; rfl)) ?aP (fun _ hk => hk.elim) ?aF ?aO ?aB ?aS ?aL ?_; (case aP => exact k57_mkM _ _ _ (⟨wrap64 ((wrap64 (bt a0 x6_12)) - 48), (-1), (-1)⟩ : S57)); (case aB => exact (bk_ HB.out)); (case aF => exact (fun k_ hk => Kd.freshB (g := gb149) (o := .cells #[.int .i64 (wrap64 ((wrap64 (bt a0 x6_12)) - 48)), .int .i64 (-1), .int .i64 (-1)] 57 (0, 0)) (by refine pk_ ?_; refine blk_put (cs := #[.int .i64 (wrap64 ((wrap64 (bt a0 x6_12)) - 48)), .int .i64 (-1), .int .i64 (wrap64 ((wrap64 (bt a0 (ji26))) - 65))]) ?_ 2 _ rfl; refine pk_ ?_; refine blk_put (cs := #[.int .i64 (wrap64 ((wrap64 (bt a0 x6_12)) - 48)), .int .i64 1, .int .i64 (wrap64 ((wrap64 (bt a0 (ji26))) - 65))]) ?_ 1 _ rfl; refine pk_ ?_; refine blk_put (cs := #[.int .i64 (wrap64 ((wrap64 (bt a0 x6_12)) - 48)), .int .i64 1, .int .i64 0]) ?_ 2 _ rfl; refine pk_ ?_; refine blk_put (cs := #[.int .i64 (wrap64 ((wrap64 (bt a0 x6_12)) - 48)), .int .i64 0, .int .i64 0]) ?_ 1 _ rfl; refine pk_ ?_; refine blk_put (cs := #[.int .i64 0, .int .i64 0, .int .i64 0]) ?_ 0 _ rfl; exact pk_ BK149.out) k_ hk)); (case aO => exact (by (with_reducible repeat (first | apply Kd.R_alloc | apply Kd.R_drewN | apply Kd.R_drew)); exact Kd.R_mono (Kd.R_far (p := ⟨gb149, 2, none⟩) (Kd.R_far (p := ⟨gb149, 1, none⟩) (Kd.R_far (p := ⟨gb149, 2, none⟩) (Kd.R_far (p := ⟨gb149, 1, none⟩) (Kd.R_far (p := ⟨gb149, 0, none⟩) (Kd.R_mono HO_5.out (fun k_ hk => (⟨hk, hk.2⟩ : _ ∧ k_ ≠ gb149))) (fun _ hk => hk.2) (.int .i64 (wrap64 ((wrap64 (bt a0 x6_12)) - 48)))) (fun _ hk => hk.2) (.int .i64 1)) (fun _ hk => hk.2) (.int .i64 (wrap64 ((wrap64 (bt a0 (ji26))) - 65)))) (fun _ hk => hk.2) (.int .i64 (-1))) (fun _ hk => hk.2) (.int .i64 (-1))) (fun _ hk => hk.1.2))); (case aS => exact (below_size (bk_ HB.out))); (case aL => have := LMc37.out; omega); intro v151 w46 ho hb hg hat; rw [← Ny150.out] at ho; have n0_ := A_ (Kd.S_after (ok := (fun k_ => k_ ≠ gb149)) (by (with_reducible repeat (first | apply Kd.S_alloc | apply Kd.S_drewN | apply Kd.S_drew)); exact Kd.S_mono (Kd.S_far (p := ⟨gb149, 2, none⟩) (Kd.S_far (p := ⟨gb149, 1, none⟩) (Kd.S_far (p := ⟨gb149, 2, none⟩) (Kd.S_far (p := ⟨gb149, 1, none⟩) (Kd.S_far (p := ⟨gb149, 0, none⟩) (Kd.S_mono HO_146002.out (fun k_ hk => (⟨hk, hk.2⟩ : _ ∧ k_ ≠ gb149))) (fun _ hk => hk.2) (.int .i64 (wrap64 ((wrap64 (bt a0 x6_12)) - 48)))) (fun _ hk => hk.2) (.int .i64 1)) (fun _ hk => hk.2) (.int .i64 (wrap64 ((wrap64 (bt a0 (ji26))) - 65)))) (fun _ hk => hk.2) (.int .i64 (-1))) (fun _ hk => hk.2) (.int .i64 (-1))) (fun _ hk => ⟨hk.1.2, hk.1.1⟩)) hg hat); have n1_ := A_ (blk_grown (g := gb144) (o := .cells #[.int .i64 0, .int .i64 0, .slice none 0 0] 24 (0, 0)) (by refine pk_ ?_; refine blk_far ?_ NB144_149.out _; refine pk_ ?_; refine blk_far ?_ NB144_149.out _; refine pk_ ?_; refine blk_far ?_ NB144_149.out _; refine pk_ ?_; refine blk_far ?_ NB144_149.out _; refine pk_ ?_; refine blk_far ?_ NB144_149.out _; exact pk_ BK144.out) hg (Kd.R_ne HO_5.out BK144.out (by decide))); have n2_ := A_ (blk_grown (g := gb145) (o := .cells #[.int .i64 x146000_12, .int .i64 0, u146002] 24 (0, 0)) (by refine pk_ ?_; refine blk_far ?_ NB145_149.out _; refine pk_ ?_; refine blk_far ?_ NB145_149.out _; refine pk_ ?_; refine blk_far ?_ NB145_149.out _; refine pk_ ?_; refine blk_far ?_ NB145_149.out _; refine pk_ ?_; refine blk_far ?_ NB145_149.out _; exact pk_ BK145.out) hg (Kd.R_ne HO_5.out BK145.out (by decide))); have n3_ := A_ (blk_grown (g := gb149) (o := .cells #[.int .i64 (wrap64 ((wrap64 (bt a0 x6_12)) - 48)), .int .i64 (-1), .int .i64 (-1)] 57 (0, 0)) (by refine pk_ ?_; refine blk_put (cs := #[.int .i64 (wrap64 ((wrap64 (bt a0 x6_12)) - 48)), .int .i64 (-1), .int .i64 (wrap64 ((wrap64 (bt a0 (ji26))) - 65))]) ?_ 2 _ rfl; refine pk_ ?_; refine blk_put (cs := #[.int .i64 (wrap64 ((wrap64 (bt a0 x6_12)) - 48)), .int .i64 1, .int .i64 (wrap64 ((wrap64 (bt a0 (ji26))) - 65))]) ?_ 1 _ rfl; refine pk_ ?_; refine blk_put (cs := #[.int .i64 (wrap64 ((wrap64 (bt a0 x6_12)) - 48)), .int .i64 1, .int .i64 0]) ?_ 2 _ rfl; refine pk_ ?_; refine blk_put (cs := #[.int .i64 (wrap64 ((wrap64 (bt a0 x6_12)) - 48)), .int .i64 0, .int .i64 0]) ?_ 1 _ rfl; refine pk_ ?_; refine blk_put (cs := #[.int .i64 0, .int .i64 0, .int .i64 0]) ?_ 0 _ rfl; exact pk_ BK149.out) hg (Kd.R_away HO_5.out (fun _ hk => hk.2))); have n4_ := A_ (hb); have n5_ := A_ (ho); clear HO_146002 BK144 BK145 BK149 HB HO_5; have HO_146002 := n0_; have BK144 := n1_; have BK145 := n2_; have BK149 := n3_; have HB := n4_; have HO152 := n5_; clear n0_ n1_ n2_ n3_ n4_ n5_ ho hb hg hat))
                     go_roundg kj12
                     case measure => have := HK1.out; have := HJ6.out; have := HJ12.out; omega
                     case rel => exact ⟨(y150), (wrap64 (x6_12 + 3)), (x146000_12), (x146002_12), (u146002), jr_, H', ⟨by have := HK1.out; have := HJ6.out; have := HJ12.out; omega⟩, ⟨by (with_reducible repeat (first | apply Kd.R_alloc | apply Kd.R_drewN | apply Kd.R_drew)); exact Kd.R_mono HO152.out (fun _ hk => trivial)⟩, ⟨by (with_reducible repeat (first | apply Kd.S_alloc | apply Kd.S_drewN | apply Kd.S_drew)); exact Kd.S_mono HO_146002.out (fun _ hk => hk.2)⟩, ⟨pk_ BK144.out⟩, ⟨pk_ BK145.out⟩, ⟨bk_ HB.out⟩⟩
                    ·rw [if_neg c37] at H
                     exact absurd H (by simp)
                   ·rw [if_neg c36] at H
                    have c36b0 : ((bt a0 (ji26)) == 90) = false := beq_eq_false_iff_ne.mpr c36
                    have c36b1 : ((bt a0 (ji26)) != 90) = true := bne_iff_ne.mpr c36
                    by_cases c47 : x5_12.length < 5864062014805
                    ·rw [if_pos c47] at H
                     have LMc47 := Aside0.mk c47
                     clear c47
                     obtain ⟨y153, hy153⟩ : ∃ y_ : List (S57), y_ = (x5_12 ++ [(⟨wrap64 ((wrap64 (bt a0 x6_12)) - 48), (-1), wrap64 ((wrap64 (bt a0 (ji26))) - 65)⟩ : S57)]) := ⟨_, rfl⟩
                     replace H : (standstillref01_Parse.l0 kj12 a0 y153 (wrap64 (x6_12 + 3)) x146000_12 0 x146002_12) = some (r1, r2, r3, r4) := by first | (rw [hy153]; with_reducible exact H) | (have H2_ := (Option.bind_some _ _).symm.trans H; rw [hy153]; with_reducible exact H2_) | (have H2_ := (Option.bind_some _ _).symm.trans H; with_reducible exact H2_) | with_reducible exact H | (rw [hy153]; exact H) | exact H
                     have Ny153 := Aside0.mk hy153
                     clear hy153
                     have H' := Aside0.mk H
                     clear H
                     try go_wp2
                     have n0_ := A_ (Kd.R_drew HO_5.out)
                     have n1_ := A_ (Kd.S_drew HO_146002.out)
                     have n2_ := A_ (blk_drew BK144.out)
                     have n3_ := A_ (blk_drew BK145.out)
                     have n4_ := A_ (below_drew1 HB.out)
                     clear HO_5 HO_146002 BK144 BK145 HB
                     have HO_5 := n0_
                     have HO_146002 := n1_
                     have BK144 := n2_
                     have BK145 := n3_
                     have HB := n4_
                     clear n0_ n1_ n2_ n3_ n4_
                     have p25 : 0 ≤ (x6_12 : Int) := od_
                     have q25 : x6_12 < (a0.size : Int) := od_
                     have hx25 := bt_at a0 x6_12
                     replace p25 := eq_true p25
                     replace q25 := eq_true q25
                     have p29 : 0 ≤ ((ji26) : Int) := od_
                     have q29 : (ji26) < (a0.size : Int) := od_
                     have hx29 := bt_at a0 (ji26)
                     replace p29 := eq_true p29
                     replace q29 := eq_true q29
                     refine start_ (n := 14) (S := fun w' => True) (ds := []) #[false, false, false, false, false, false, false, false, false, false, false, false, false, false] (by kernel_rfl) rfl rfl trivial (fun hHeld => ?_); refine with_tabW standstillref01_Parse.tab12 standstillref01_Parse.bits12 (fun HT_ HW_ => ?_)
                     generalize wc.drew = w48 at HO_5 HO_146002 BK144 BK145 HB hHeld ⊢
                     refine pure_ (i := 0) (N := some 42) (v := ?_) (a' := ?_) #[true, false, false, false, false, false, false, false, false, false, false, false, false, false] rfl rfl (any_of HT_.out (by kernel_rfl)) (fun _ _ _ h => h) (Or.inl ⟨by rfl, ?_⟩) ?_ ?_
                     rotate_left
                     ·intro w'
                      go_simp
                      with_reducible rfl
                     rotate_left
                     ·simp only [Act.put, sa_, sz_, ss_, i64_w, i32_w]
                      rfl
                     refine pure_ (i := 1) (N := some 43) (v := ?_) (a' := ?_) #[true, true, false, false, false, false, false, false, false, false, false, false, false, false] rfl rfl (any_of HT_.out (by kernel_rfl)) (fun _ _ _ h => h) (Or.inl ⟨by rfl, ?_⟩) ?_ ?_
                     rotate_left
                     ·intro w'
                      go_simp
                      with_reducible rfl
                     rotate_left
                     ·simp only [Act.put, sa_, sz_, ss_, i64_w, i32_w]
                      rfl
                     refine pure_ (i := 5) (N := some 47) (v := ?_) (a' := ?_) #[true, true, false, false, false, true, false, false, false, false, false, false, false, false] rfl rfl (any_of HT_.out (by kernel_rfl)) (fun _ _ _ h => h) (Or.inl ⟨by rfl, ?_⟩) ?_ ?_
                     rotate_left
                     ·intro w'
                      go_simp
                      with_reducible rfl
                     rotate_left
                     ·simp only [Act.put, sa_, sz_, ss_, i64_w, i32_w]
                      rfl
                     refine pure_ (i := 6) (N := some 48) (v := ?_) (a' := ?_) #[true, true, false, false, false, true, true, false, false, false, false, false, false, false] rfl rfl (any_of HT_.out (by kernel_rfl)) (fun _ _ _ h => h) (Or.inl ⟨by rfl, ?_⟩) ?_ ?_
                     rotate_left
                     ·intro w'
                      go_simp
                      with_reducible rfl
                     rotate_left
                     ·simp only [Act.put, sa_, sz_, ss_, i64_w, i32_w]
                      rfl
                     refine pure_ (i := 7) (N := some 49) (v := ?_) (a' := ?_) #[true, true, false, false, false, true, true, true, false, false, false, false, false, false] rfl rfl (any_of HT_.out (by kernel_rfl)) (fun _ _ _ h => h) (Or.inl ⟨by rfl, ?_⟩) ?_ ?_
                     rotate_left
                     ·intro w'
                      go_simp
                      with_reducible rfl
                     rotate_left
                     ·simp only [Act.put, sa_, sz_, ss_, i64_w, i32_w]
                      rfl
                     refine take_ (i := 2) (N := some 44) (v := ?_) (a' := ?_) #[true, true, true, false, false, true, true, true, false, false, false, false, false, false] rfl rfl (take_ofW HT_.out HW_.out (by kernel_rfl)) (fun _ _ _ h => h) (Or.inl ⟨by rfl, ?_⟩) hHeld ?_ ?_
                     rotate_left
                     ·intro w' _
                      go_simp
                      with_reducible rfl
                     rotate_left
                     ·simp only [Act.put, sa_, sz_, ss_, i64_w, i32_w]
                      rfl
                     refine pure_ (i := 3) (N := some 45) (v := ?_) (a' := ?_) #[true, true, true, true, false, true, true, true, false, false, false, false, false, false] rfl rfl (any_of HT_.out (by kernel_rfl)) (fun _ _ _ h => h) (Or.inl ⟨by rfl, ?_⟩) ?_ ?_
                     rotate_left
                     ·intro w'
                      go_simp
                      with_reducible rfl
                     rotate_left
                     ·simp only [Act.put, sa_, sz_, ss_, i64_w, i32_w]
                      rfl
                     refine pure_ (i := 4) (N := some 46) (v := ?_) (a' := ?_) #[true, true, true, true, true, true, true, true, false, false, false, false, false, false] rfl rfl (any_of HT_.out (by kernel_rfl)) (fun _ _ _ h => h) (Or.inl ⟨by rfl, ?_⟩) ?_ ?_
                     rotate_left
                     ·intro w'
                      go_simp
                      with_reducible rfl
                     rotate_left
                     ·simp only [Act.put, sa_, sz_, ss_, i64_w, i32_w]
                      rfl
                     refine take_ (i := 8) (N := some 50) (v := ?_) (a' := ?_) #[true, true, true, true, true, true, true, true, true, false, false, false, false, false] rfl rfl (take_ofW HT_.out HW_.out (by kernel_rfl)) (fun _ _ _ h => h) (Or.inl ⟨by rfl, ?_⟩) hHeld ?_ ?_
                     rotate_left
                     ·intro w' _
                      go_simp
                      with_reducible rfl
                     rotate_left
                     ·simp only [Act.put, sa_, sz_, ss_, i64_w, i32_w]
                      rfl
                     refine pure_ (i := 9) (N := some 51) (v := ?_) (a' := ?_) #[true, true, true, true, true, true, true, true, true, true, false, false, false, false] rfl rfl (any_of HT_.out (by kernel_rfl)) (fun _ _ _ h => h) (Or.inl ⟨by rfl, ?_⟩) ?_ ?_
                     rotate_left
                     ·intro w'
                      go_simp
                      with_reducible rfl
                     rotate_left
                     ·simp only [Act.put, sa_, sz_, ss_, i64_w, i32_w]
                      rfl
                     refine pure_ (i := 10) (N := some 52) (v := ?_) (a' := ?_) #[true, true, true, true, true, true, true, true, true, true, true, false, false, false] rfl rfl (any_of HT_.out (by kernel_rfl)) (fun _ _ _ h => h) (Or.inl ⟨by rfl, ?_⟩) ?_ ?_
                     rotate_left
                     ·intro w'
                      go_simp
                      with_reducible rfl
                     rotate_left
                     ·simp only [Act.put, sa_, sz_, ss_, i64_w, i32_w]
                      rfl
                     refine pure_ (i := 11) (N := some 53) (v := ?_) (a' := ?_) #[true, true, true, true, true, true, true, true, true, true, true, true, false, false] rfl rfl (any_of HT_.out (by kernel_rfl)) (fun _ _ _ h => h) (Or.inl ⟨by rfl, ?_⟩) ?_ ?_
                     rotate_left
                     ·intro w'
                      go_simp
                      with_reducible rfl
                     rotate_left
                     ·simp only [Act.put, sa_, sz_, ss_, i64_w, i32_w]
                      rfl
                     refine one_ (i := 12) (N := some 7) #[true, true, true, true, true, true, true, true, true, true, true, true, true, false] rfl rfl (one_of HT_.out (by kernel_rfl)) (by decide) (fun K hK => ?_)
                     refine box_step ?hg (N := 7) ?hd (cs := #[.int .i64 0, .int .i64 0, .int .i64 0]) (t := 57) ?hr ?_; (case hd => rfl); (case hg => rfl); (case hr => first | (go_simp; done) | (go_simp; rfl))
                     intro gb149 hg w49 hbox hb
                     have n0_ := A_ (Kd.R_below (Kd.R_elderB (rk_ HO_5.out) gb149 (Nat.le_of_eq hg.symm)) hb)
                     have n1_ := A_ (Kd.S_below (Kd.S_elderB (by (with_reducible repeat (first | apply Kd.S_alloc | apply Kd.S_drewN | apply Kd.S_drew)); exact HO_146002.out) gb149 (Nat.le_of_eq hg.symm)) hb)
                     have n2_ := A_ (blk_below (pk_ BK144.out) hb)
                     have n3_ := A_ (blk_below (pk_ BK145.out) hb)
                     have n4_ := A_ (below_step (bk_ HB.out) hb)
                     have n5_ := A_ (hbox)
                     have n6_ := A_ ((by rw [hg]; exact (below_size (bk_ HB.out)) : w.heap.size ≤ gb149))
                     have n7_ := A_ ((by rw [hg]; exact (below_size (bk_ HB.out)) : w.heap.size ≤ gb149))
                     have n8_ := A_ ((by rw [hg]; exact Nat.ne_of_lt (blk_lt (pk_ BK144.out)) : gb144 ≠ gb149))
                     have n9_ := A_ ((by rw [hg]; exact Nat.ne_of_gt (blk_lt (pk_ BK144.out)) : gb149 ≠ gb144))
                     have n10_ := A_ ((by rw [hg]; exact Nat.ne_of_lt (blk_lt (pk_ BK145.out)) : gb145 ≠ gb149))
                     have n11_ := A_ ((by rw [hg]; exact Nat.ne_of_gt (blk_lt (pk_ BK145.out)) : gb149 ≠ gb145))
                     clear HO_5 HO_146002 BK144 BK145 HB
                     have HO_5 := n0_
                     have HO_146002 := n1_
                     have BK144 := n2_
                     have BK145 := n3_
                     have HB := n4_
                     have BK149 := n5_
                     have GW149 := n6_
                     have GE149 := n7_
                     have NB144_149 := n8_
                     have NB149_144 := n9_
                     have NB145_149 := n10_
                     have NB149_145 := n11_
                     clear n0_ n1_ n2_ n3_ n4_ n5_ n6_ n7_ n8_ n9_ n10_ n11_ hb hbox hg
                     refine hK.out _ _ trivial (fun hHeld => ?_)
                     clear hK K
                     refine norm_ (a' := ?_) ?_ ?_
                     rotate_left
                     ·show Act.put _ (some 7) _ = _
                      simp only [Act.put, sa_, sz_, ss_, i64_w, i32_w]
                      rfl
                     refine one_ (i := 13) (N := none) #[true, true, true, true, true, true, true, true, true, true, true, true, true, true] rfl rfl (one_of HT_.out (by kernel_rfl)) (by decide) (fun K hK => ?_)
                     have hs50 : w49.cell? ⟨gb149, 0, none⟩ = some (.int .i64 0) := (blk_cell BK149.out 0).trans rfl
                     have hfs50 := blk_frozen BK149.out 0
                     have hns50_0 := NB144_149.out
                     have hns50_1 := NB145_149.out
                     have hms50_0 := NB149_144.out
                     have hms50_1 := NB149_145.out
                     have hs51 : w49.cell? ⟨gb149, 1, none⟩ = some (.int .i64 0) := (blk_cell BK149.out 1).trans rfl
                     have hfs51 := blk_frozen BK149.out 1
                     have hns51_0 := NB144_149.out
                     have hns51_1 := NB145_149.out
                     have hms51_0 := NB149_144.out
                     have hms51_1 := NB149_145.out
                     have hs52 : w49.cell? ⟨gb149, 2, none⟩ = some (.int .i64 0) := (blk_cell BK149.out 2).trans rfl
                     have hfs52 := blk_frozen BK149.out 2
                     have hns52_0 := NB144_149.out
                     have hns52_1 := NB145_149.out
                     have hms52_0 := NB149_144.out
                     have hms52_1 := NB149_145.out
                     refine skip_ (w1 := ?_) (by rfl) rfl ?_ ?_
                     rotate_left
                     ·go_simp
                      rfl
                     refine hK.out _ _ trivial (fun hHeld => ?_)
                     clear hK K
                     refine done_ (done_of HT_.out (by kernel_rfl)) ?_
                     have p33 : 0 ≤ ((ji30) : Int) := od_
                     have q33 : (ji30) < (a0.size : Int) := od_
                     have hx33 := bt_at a0 (ji30)
                     replace p33 := eq_true p33
                     replace q33 := eq_true q33
                     have hnb53 := NB149_144.out
                     have hnc53 := NB144_149.out
                     have hnb54 := NB149_145.out
                     have hnc54 := NB145_149.out
                     have hcz55_0 : w49.cell? ⟨gb149, 0, none⟩ = some (.int .i64 0) := (blk_cell BK149.out 0).trans rfl
                     have hcz55_1 : w49.cell? ⟨gb149, 1, none⟩ = some (.int .i64 0) := (blk_cell BK149.out 1).trans rfl
                     have hcz55_2 : w49.cell? ⟨gb149, 2, none⟩ = some (.int .i64 0) := (blk_cell BK149.out 2).trans rfl
                     have hfz55_0 := blk_frozen BK149.out 0
                     have hfz55_1 := blk_frozen BK149.out 1
                     have hfz55_2 := blk_frozen BK149.out 2
                     have p35 : 0 ≤ ((ji26) : Int) := od_
                     have q35 : (ji26) < (a0.size : Int) := od_
                     have hx35 := bt_at a0 (ji26)
                     replace p35 := eq_true p35
                     replace q35 := eq_true q35
                     try go_wp2_with (first | ((with_reducible refine gate_builtin (b := .append) (xs := #[.tmp 66, .tmp 68]) rfl ?_); (try (refine gate_guard (by rfl) ?_; dsimp only)); at_builtin; refine Kd.R_append k57 (w0 := w) w.heap.size rfl (.tmp 66) (.tmp 68) 54 57 (.agg #[(.int .i64 0), (.int .i64 0), (.int .i64 0)]) 24 rfl Try.underlying54 info57 rfl (by decide) (by omega) u5 x5_12 (⟨wrap64 ((wrap64 (bt a0 x6_12)) - 48), (-1), wrap64 ((wrap64 (bt a0 (ji26))) - 65)⟩ : S57) [.int .i64 (wrap64 ((wrap64 (bt a0 x6_12)) - 48)), .int .i64 (-1), .int .i64 (wrap64 ((wrap64 (bt a0 (ji26))) - 65))] (fun k_ => k_ ≠ gb149) (fun _ => False) rfl (by first | (go_simp; done) | (go_simp; rfl)) ?aP (fun _ hk => hk.elim) ?aF ?aO ?aB ?aS ?aL ?_; (case aP => exact k57_mkM _ _ _ (⟨wrap64 ((wrap64 (bt a0 x6_12)) - 48), (-1), wrap64 ((wrap64 (bt a0 (ji26))) - 65)⟩ : S57)); (case aB => exact (bk_ HB.out)); (case aF => exact (fun k_ hk => Kd.freshB (g := gb149) (o := .cells #[.int .i64 (wrap64 ((wrap64 (bt a0 x6_12)) - 48)), .int .i64 (-1), .int .i64 (wrap64 ((wrap64 (bt a0 (ji26))) - 65))] 57 (0, 0)) (by refine pk_ ?_; refine blk_put (cs := #[.int .i64 (wrap64 ((wrap64 (bt a0 x6_12)) - 48)), .int .i64 1, .int .i64 (wrap64 ((wrap64 (bt a0 (ji26))) - 65))]) ?_ 1 _ rfl; refine pk_ ?_; refine blk_put (cs := #[.int .i64 (wrap64 ((wrap64 (bt a0 x6_12)) - 48)), .int .i64 1, .int .i64 0]) ?_ 2 _ rfl; refine pk_ ?_; refine blk_put (cs := #[.int .i64 (wrap64 ((wrap64 (bt a0 x6_12)) - 48)), .int .i64 0, .int .i64 0]) ?_ 1 _ rfl; refine pk_ ?_; refine blk_put (cs := #[.int .i64 0, .int .i64 0, .int .i64 0]) ?_ 0 _ rfl; exact pk_ BK149.out) k_ hk)); (case aO => exact (by (with_reducible repeat (first | apply Kd.R_alloc | apply Kd.R_drewN | apply Kd.R_drew)); exact Kd.R_mono (Kd.R_far (p := ⟨gb149, 1, none⟩) (Kd.R_far (p := ⟨gb149, 2, none⟩) (Kd.R_far (p := ⟨gb149, 1, none⟩) (Kd.R_far (p := ⟨gb149, 0, none⟩) (Kd.R_mono HO_5.out (fun k_ hk => (⟨hk, hk.2⟩ : _ ∧ k_ ≠ gb149))) (fun _ hk => hk.2) (.int .i64 (wrap64 ((wrap64 (bt a0 x6_12)) - 48)))) (fun _ hk => hk.2) (.int .i64 1)) (fun _ hk => hk.2) (.int .i64 (wrap64 ((wrap64 (bt a0 (ji26))) - 65)))) (fun _ hk => hk.2) (.int .i64 (-1))) (fun _ hk => hk.1.2))); (case aS => exact (below_size (bk_ HB.out))); (case aL => have := LMc47.out; omega); intro v154 w56 ho hb hg hat; rw [← Ny153.out] at ho; have n0_ := A_ (Kd.S_after (ok := (fun k_ => k_ ≠ gb149)) (by (with_reducible repeat (first | apply Kd.S_alloc | apply Kd.S_drewN | apply Kd.S_drew)); exact Kd.S_mono (Kd.S_far (p := ⟨gb149, 1, none⟩) (Kd.S_far (p := ⟨gb149, 2, none⟩) (Kd.S_far (p := ⟨gb149, 1, none⟩) (Kd.S_far (p := ⟨gb149, 0, none⟩) (Kd.S_mono HO_146002.out (fun k_ hk => (⟨hk, hk.2⟩ : _ ∧ k_ ≠ gb149))) (fun _ hk => hk.2) (.int .i64 (wrap64 ((wrap64 (bt a0 x6_12)) - 48)))) (fun _ hk => hk.2) (.int .i64 1)) (fun _ hk => hk.2) (.int .i64 (wrap64 ((wrap64 (bt a0 (ji26))) - 65)))) (fun _ hk => hk.2) (.int .i64 (-1))) (fun _ hk => ⟨hk.1.2, hk.1.1⟩)) hg hat); have n1_ := A_ (blk_grown (g := gb144) (o := .cells #[.int .i64 0, .int .i64 0, .slice none 0 0] 24 (0, 0)) (by refine pk_ ?_; refine blk_far ?_ NB144_149.out _; refine pk_ ?_; refine blk_far ?_ NB144_149.out _; refine pk_ ?_; refine blk_far ?_ NB144_149.out _; refine pk_ ?_; refine blk_far ?_ NB144_149.out _; exact pk_ BK144.out) hg (Kd.R_ne HO_5.out BK144.out (by decide))); have n2_ := A_ (blk_grown (g := gb145) (o := .cells #[.int .i64 x146000_12, .int .i64 0, u146002] 24 (0, 0)) (by refine pk_ ?_; refine blk_far ?_ NB145_149.out _; refine pk_ ?_; refine blk_far ?_ NB145_149.out _; refine pk_ ?_; refine blk_far ?_ NB145_149.out _; refine pk_ ?_; refine blk_far ?_ NB145_149.out _; exact pk_ BK145.out) hg (Kd.R_ne HO_5.out BK145.out (by decide))); have n3_ := A_ (blk_grown (g := gb149) (o := .cells #[.int .i64 (wrap64 ((wrap64 (bt a0 x6_12)) - 48)), .int .i64 (-1), .int .i64 (wrap64 ((wrap64 (bt a0 (ji26))) - 65))] 57 (0, 0)) (by refine pk_ ?_; refine blk_put (cs := #[.int .i64 (wrap64 ((wrap64 (bt a0 x6_12)) - 48)), .int .i64 1, .int .i64 (wrap64 ((wrap64 (bt a0 (ji26))) - 65))]) ?_ 1 _ rfl; refine pk_ ?_; refine blk_put (cs := #[.int .i64 (wrap64 ((wrap64 (bt a0 x6_12)) - 48)), .int .i64 1, .int .i64 0]) ?_ 2 _ rfl; refine pk_ ?_; refine blk_put (cs := #[.int .i64 (wrap64 ((wrap64 (bt a0 x6_12)) - 48)), .int .i64 0, .int .i64 0]) ?_ 1 _ rfl; refine pk_ ?_; refine blk_put (cs := #[.int .i64 0, .int .i64 0, .int .i64 0]) ?_ 0 _ rfl; exact pk_ BK149.out) hg (Kd.R_away HO_5.out (fun _ hk => hk.2))); have n4_ := A_ (hb); have n5_ := A_ (ho); clear HO_146002 BK144 BK145 BK149 HB HO_5; have HO_146002 := n0_; have BK144 := n1_; have BK145 := n2_; have BK149 := n3_; have HB := n4_; have HO155 := n5_; clear n0_ n1_ n2_ n3_ n4_ n5_ ho hb hg hat))
                     go_roundg kj12
                     case measure => have := HK1.out; have := HJ6.out; have := HJ12.out; omega
                     case rel => exact ⟨(y153), (wrap64 (x6_12 + 3)), (x146000_12), (x146002_12), (u146002), jr_, H', ⟨by have := HK1.out; have := HJ6.out; have := HJ12.out; omega⟩, ⟨by (with_reducible repeat (first | apply Kd.R_alloc | apply Kd.R_drewN | apply Kd.R_drew)); exact Kd.R_mono HO155.out (fun _ hk => trivial)⟩, ⟨by (with_reducible repeat (first | apply Kd.S_alloc | apply Kd.S_drewN | apply Kd.S_drew)); exact Kd.S_mono HO_146002.out (fun _ hk => hk.2)⟩, ⟨pk_ BK144.out⟩, ⟨pk_ BK145.out⟩, ⟨bk_ HB.out⟩⟩
                    ·rw [if_neg c47] at H
                     exact absurd H (by simp)
                  ·rw [if_neg c34] at H
                   have c34b0 : ((bt a0 (ji30)) == 76) = false := beq_eq_false_iff_ne.mpr c34
                   have c34b1 : ((bt a0 (ji30)) != 76) = true := bne_iff_ne.mpr c34
                   by_cases c58 : (bt a0 (ji26)) = 90
                   ·rw [if_pos c58] at H
                    have c58b0 : ((bt a0 (ji26)) == 90) = true := beq_iff_eq.mpr c58
                    have c58b1 : ((bt a0 (ji26)) != 90) = false := bne_eq_false_iff_eq.mpr c58
                    clear c58
                    by_cases c59 : x5_12.length < 5864062014805
                    ·rw [if_pos c59] at H
                     have LMc59 := Aside0.mk c59
                     clear c59
                     obtain ⟨y156, hy156⟩ : ∃ y_ : List (S57), y_ = (x5_12 ++ [(⟨wrap64 ((wrap64 (bt a0 x6_12)) - 48), 1, (-1)⟩ : S57)]) := ⟨_, rfl⟩
                     replace H : (standstillref01_Parse.l0 kj12 a0 y156 (wrap64 (x6_12 + 3)) x146000_12 0 x146002_12) = some (r1, r2, r3, r4) := by first | (rw [hy156]; with_reducible exact H) | (have H2_ := (Option.bind_some _ _).symm.trans H; rw [hy156]; with_reducible exact H2_) | (have H2_ := (Option.bind_some _ _).symm.trans H; with_reducible exact H2_) | with_reducible exact H | (rw [hy156]; exact H) | exact H
                     have Ny156 := Aside0.mk hy156
                     clear hy156
                     have H' := Aside0.mk H
                     clear H
                     try go_wp2
                     have n0_ := A_ (Kd.R_drew HO_5.out)
                     have n1_ := A_ (Kd.S_drew HO_146002.out)
                     have n2_ := A_ (blk_drew BK144.out)
                     have n3_ := A_ (blk_drew BK145.out)
                     have n4_ := A_ (below_drew1 HB.out)
                     clear HO_5 HO_146002 BK144 BK145 HB
                     have HO_5 := n0_
                     have HO_146002 := n1_
                     have BK144 := n2_
                     have BK145 := n3_
                     have HB := n4_
                     clear n0_ n1_ n2_ n3_ n4_
                     have p25 : 0 ≤ (x6_12 : Int) := od_
                     have q25 : x6_12 < (a0.size : Int) := od_
                     have hx25 := bt_at a0 x6_12
                     replace p25 := eq_true p25
                     replace q25 := eq_true q25
                     have p29 : 0 ≤ ((ji26) : Int) := od_
                     have q29 : (ji26) < (a0.size : Int) := od_
                     have hx29 := bt_at a0 (ji26)
                     replace p29 := eq_true p29
                     replace q29 := eq_true q29
                     refine start_ (n := 14) (S := fun w' => True) (ds := []) #[false, false, false, false, false, false, false, false, false, false, false, false, false, false] (by kernel_rfl) rfl rfl trivial (fun hHeld => ?_); refine with_tabW standstillref01_Parse.tab12 standstillref01_Parse.bits12 (fun HT_ HW_ => ?_)
                     generalize wc.drew = w60 at HO_5 HO_146002 BK144 BK145 HB hHeld ⊢
                     refine pure_ (i := 0) (N := some 42) (v := ?_) (a' := ?_) #[true, false, false, false, false, false, false, false, false, false, false, false, false, false] rfl rfl (any_of HT_.out (by kernel_rfl)) (fun _ _ _ h => h) (Or.inl ⟨by rfl, ?_⟩) ?_ ?_
                     rotate_left
                     ·intro w'
                      go_simp
                      with_reducible rfl
                     rotate_left
                     ·simp only [Act.put, sa_, sz_, ss_, i64_w, i32_w]
                      rfl
                     refine pure_ (i := 1) (N := some 43) (v := ?_) (a' := ?_) #[true, true, false, false, false, false, false, false, false, false, false, false, false, false] rfl rfl (any_of HT_.out (by kernel_rfl)) (fun _ _ _ h => h) (Or.inl ⟨by rfl, ?_⟩) ?_ ?_
                     rotate_left
                     ·intro w'
                      go_simp
                      with_reducible rfl
                     rotate_left
                     ·simp only [Act.put, sa_, sz_, ss_, i64_w, i32_w]
                      rfl
                     refine pure_ (i := 5) (N := some 47) (v := ?_) (a' := ?_) #[true, true, false, false, false, true, false, false, false, false, false, false, false, false] rfl rfl (any_of HT_.out (by kernel_rfl)) (fun _ _ _ h => h) (Or.inl ⟨by rfl, ?_⟩) ?_ ?_
                     rotate_left
                     ·intro w'
                      go_simp
                      with_reducible rfl
                     rotate_left
                     ·simp only [Act.put, sa_, sz_, ss_, i64_w, i32_w]
                      rfl
                     refine pure_ (i := 6) (N := some 48) (v := ?_) (a' := ?_) #[true, true, false, false, false, true, true, false, false, false, false, false, false, false] rfl rfl (any_of HT_.out (by kernel_rfl)) (fun _ _ _ h => h) (Or.inl ⟨by rfl, ?_⟩) ?_ ?_
                     rotate_left
                     ·intro w'
                      go_simp
                      with_reducible rfl
                     rotate_left
                     ·simp only [Act.put, sa_, sz_, ss_, i64_w, i32_w]
                      rfl
                     refine pure_ (i := 7) (N := some 49) (v := ?_) (a' := ?_) #[true, true, false, false, false, true, true, true, false, false, false, false, false, false] rfl rfl (any_of HT_.out (by kernel_rfl)) (fun _ _ _ h => h) (Or.inl ⟨by rfl, ?_⟩) ?_ ?_
                     rotate_left
                     ·intro w'
                      go_simp
                      with_reducible rfl
                     rotate_left
                     ·simp only [Act.put, sa_, sz_, ss_, i64_w, i32_w]
                      rfl
                     refine take_ (i := 2) (N := some 44) (v := ?_) (a' := ?_) #[true, true, true, false, false, true, true, true, false, false, false, false, false, false] rfl rfl (take_ofW HT_.out HW_.out (by kernel_rfl)) (fun _ _ _ h => h) (Or.inl ⟨by rfl, ?_⟩) hHeld ?_ ?_
                     rotate_left
                     ·intro w' _
                      go_simp
                      with_reducible rfl
                     rotate_left
                     ·simp only [Act.put, sa_, sz_, ss_, i64_w, i32_w]
                      rfl
                     refine pure_ (i := 3) (N := some 45) (v := ?_) (a' := ?_) #[true, true, true, true, false, true, true, true, false, false, false, false, false, false] rfl rfl (any_of HT_.out (by kernel_rfl)) (fun _ _ _ h => h) (Or.inl ⟨by rfl, ?_⟩) ?_ ?_
                     rotate_left
                     ·intro w'
                      go_simp
                      with_reducible rfl
                     rotate_left
                     ·simp only [Act.put, sa_, sz_, ss_, i64_w, i32_w]
                      rfl
                     refine pure_ (i := 4) (N := some 46) (v := ?_) (a' := ?_) #[true, true, true, true, true, true, true, true, false, false, false, false, false, false] rfl rfl (any_of HT_.out (by kernel_rfl)) (fun _ _ _ h => h) (Or.inl ⟨by rfl, ?_⟩) ?_ ?_
                     rotate_left
                     ·intro w'
                      go_simp
                      with_reducible rfl
                     rotate_left
                     ·simp only [Act.put, sa_, sz_, ss_, i64_w, i32_w]
                      rfl
                     refine take_ (i := 8) (N := some 50) (v := ?_) (a' := ?_) #[true, true, true, true, true, true, true, true, true, false, false, false, false, false] rfl rfl (take_ofW HT_.out HW_.out (by kernel_rfl)) (fun _ _ _ h => h) (Or.inl ⟨by rfl, ?_⟩) hHeld ?_ ?_
                     rotate_left
                     ·intro w' _
                      go_simp
                      with_reducible rfl
                     rotate_left
                     ·simp only [Act.put, sa_, sz_, ss_, i64_w, i32_w]
                      rfl
                     refine pure_ (i := 9) (N := some 51) (v := ?_) (a' := ?_) #[true, true, true, true, true, true, true, true, true, true, false, false, false, false] rfl rfl (any_of HT_.out (by kernel_rfl)) (fun _ _ _ h => h) (Or.inl ⟨by rfl, ?_⟩) ?_ ?_
                     rotate_left
                     ·intro w'
                      go_simp
                      with_reducible rfl
                     rotate_left
                     ·simp only [Act.put, sa_, sz_, ss_, i64_w, i32_w]
                      rfl
                     refine pure_ (i := 10) (N := some 52) (v := ?_) (a' := ?_) #[true, true, true, true, true, true, true, true, true, true, true, false, false, false] rfl rfl (any_of HT_.out (by kernel_rfl)) (fun _ _ _ h => h) (Or.inl ⟨by rfl, ?_⟩) ?_ ?_
                     rotate_left
                     ·intro w'
                      go_simp
                      with_reducible rfl
                     rotate_left
                     ·simp only [Act.put, sa_, sz_, ss_, i64_w, i32_w]
                      rfl
                     refine pure_ (i := 11) (N := some 53) (v := ?_) (a' := ?_) #[true, true, true, true, true, true, true, true, true, true, true, true, false, false] rfl rfl (any_of HT_.out (by kernel_rfl)) (fun _ _ _ h => h) (Or.inl ⟨by rfl, ?_⟩) ?_ ?_
                     rotate_left
                     ·intro w'
                      go_simp
                      with_reducible rfl
                     rotate_left
                     ·simp only [Act.put, sa_, sz_, ss_, i64_w, i32_w]
                      rfl
                     refine one_ (i := 12) (N := some 7) #[true, true, true, true, true, true, true, true, true, true, true, true, true, false] rfl rfl (one_of HT_.out (by kernel_rfl)) (by decide) (fun K hK => ?_)
                     refine box_step ?hg (N := 7) ?hd (cs := #[.int .i64 0, .int .i64 0, .int .i64 0]) (t := 57) ?hr ?_; (case hd => rfl); (case hg => rfl); (case hr => first | (go_simp; done) | (go_simp; rfl))
                     intro gb149 hg w61 hbox hb
                     have n0_ := A_ (Kd.R_below (Kd.R_elderB (rk_ HO_5.out) gb149 (Nat.le_of_eq hg.symm)) hb)
                     have n1_ := A_ (Kd.S_below (Kd.S_elderB (by (with_reducible repeat (first | apply Kd.S_alloc | apply Kd.S_drewN | apply Kd.S_drew)); exact HO_146002.out) gb149 (Nat.le_of_eq hg.symm)) hb)
                     have n2_ := A_ (blk_below (pk_ BK144.out) hb)
                     have n3_ := A_ (blk_below (pk_ BK145.out) hb)
                     have n4_ := A_ (below_step (bk_ HB.out) hb)
                     have n5_ := A_ (hbox)
                     have n6_ := A_ ((by rw [hg]; exact (below_size (bk_ HB.out)) : w.heap.size ≤ gb149))
                     have n7_ := A_ ((by rw [hg]; exact (below_size (bk_ HB.out)) : w.heap.size ≤ gb149))
                     have n8_ := A_ ((by rw [hg]; exact Nat.ne_of_lt (blk_lt (pk_ BK144.out)) : gb144 ≠ gb149))
                     have n9_ := A_ ((by rw [hg]; exact Nat.ne_of_gt (blk_lt (pk_ BK144.out)) : gb149 ≠ gb144))
                     have n10_ := A_ ((by rw [hg]; exact Nat.ne_of_lt (blk_lt (pk_ BK145.out)) : gb145 ≠ gb149))
                     have n11_ := A_ ((by rw [hg]; exact Nat.ne_of_gt (blk_lt (pk_ BK145.out)) : gb149 ≠ gb145))
                     clear HO_5 HO_146002 BK144 BK145 HB
                     have HO_5 := n0_
                     have HO_146002 := n1_
                     have BK144 := n2_
                     have BK145 := n3_
                     have HB := n4_
                     have BK149 := n5_
                     have GW149 := n6_
                     have GE149 := n7_
                     have NB144_149 := n8_
                     have NB149_144 := n9_
                     have NB145_149 := n10_
                     have NB149_145 := n11_
                     clear n0_ n1_ n2_ n3_ n4_ n5_ n6_ n7_ n8_ n9_ n10_ n11_ hb hbox hg
                     refine hK.out _ _ trivial (fun hHeld => ?_)
                     clear hK K
                     refine norm_ (a' := ?_) ?_ ?_
                     rotate_left
                     ·show Act.put _ (some 7) _ = _
                      simp only [Act.put, sa_, sz_, ss_, i64_w, i32_w]
                      rfl
                     refine one_ (i := 13) (N := none) #[true, true, true, true, true, true, true, true, true, true, true, true, true, true] rfl rfl (one_of HT_.out (by kernel_rfl)) (by decide) (fun K hK => ?_)
                     have hs62 : w61.cell? ⟨gb149, 0, none⟩ = some (.int .i64 0) := (blk_cell BK149.out 0).trans rfl
                     have hfs62 := blk_frozen BK149.out 0
                     have hns62_0 := NB144_149.out
                     have hns62_1 := NB145_149.out
                     have hms62_0 := NB149_144.out
                     have hms62_1 := NB149_145.out
                     have hs63 : w61.cell? ⟨gb149, 1, none⟩ = some (.int .i64 0) := (blk_cell BK149.out 1).trans rfl
                     have hfs63 := blk_frozen BK149.out 1
                     have hns63_0 := NB144_149.out
                     have hns63_1 := NB145_149.out
                     have hms63_0 := NB149_144.out
                     have hms63_1 := NB149_145.out
                     have hs64 : w61.cell? ⟨gb149, 2, none⟩ = some (.int .i64 0) := (blk_cell BK149.out 2).trans rfl
                     have hfs64 := blk_frozen BK149.out 2
                     have hns64_0 := NB144_149.out
                     have hns64_1 := NB145_149.out
                     have hms64_0 := NB149_144.out
                     have hms64_1 := NB149_145.out
                     refine skip_ (w1 := ?_) (by rfl) rfl ?_ ?_
                     rotate_left
                     ·go_simp
                      rfl
                     refine hK.out _ _ trivial (fun hHeld => ?_)
                     clear hK K
                     refine done_ (done_of HT_.out (by kernel_rfl)) ?_
                     have p33 : 0 ≤ ((ji30) : Int) := od_
                     have q33 : (ji30) < (a0.size : Int) := od_
                     have hx33 := bt_at a0 (ji30)
                     replace p33 := eq_true p33
                     replace q33 := eq_true q33
                     have p57 : 0 ≤ ((ji26) : Int) := od_
                     have q57 : (ji26) < (a0.size : Int) := od_
                     have hx57 := bt_at a0 (ji26)
                     replace p57 := eq_true p57
                     replace q57 := eq_true q57
                     have hnb65 := NB149_144.out
                     have hnc65 := NB144_149.out
                     have hnb66 := NB149_145.out
                     have hnc66 := NB145_149.out
                     have hcz67_0 : w61.cell? ⟨gb149, 0, none⟩ = some (.int .i64 0) := (blk_cell BK149.out 0).trans rfl
                     have hcz67_1 : w61.cell? ⟨gb149, 1, none⟩ = some (.int .i64 0) := (blk_cell BK149.out 1).trans rfl
                     have hcz67_2 : w61.cell? ⟨gb149, 2, none⟩ = some (.int .i64 0) := (blk_cell BK149.out 2).trans rfl
                     have hfz67_0 := blk_frozen BK149.out 0
                     have hfz67_1 := blk_frozen BK149.out 1
                     have hfz67_2 := blk_frozen BK149.out 2
                     try go_wp2_with (first | ((with_reducible refine gate_builtin (b := .append) (xs := #[.tmp 66, .tmp 68]) rfl ?_); (try (refine gate_guard (by rfl) ?_; dsimp only)); at_builtin; refine Kd.R_append k57 (w0 := w) w.heap.size rfl (.tmp 66) (.tmp 68) 54 57 (.agg #[(.int .i64 0), (.int .i64 0), (.int .i64 0)]) 24 rfl Try.underlying54 info57 rfl (by decide) (by omega) u5 x5_12 (⟨wrap64 ((wrap64 (bt a0 x6_12)) - 48), 1, (-1)⟩ : S57) [.int .i64 (wrap64 ((wrap64 (bt a0 x6_12)) - 48)), .int .i64 1, .int .i64 (-1)] (fun k_ => k_ ≠ gb149) (fun _ => False) rfl (by first | (go_simp; done) | (go_simp; rfl)) ?aP (fun _ hk => hk.elim) ?aF ?aO ?aB ?aS ?aL ?_; (case aP => exact k57_mkM _ _ _ (⟨wrap64 ((wrap64 (bt a0 x6_12)) - 48), 1, (-1)⟩ : S57)); (case aB => exact (bk_ HB.out)); (case aF => exact (fun k_ hk => Kd.freshB (g := gb149) (o := .cells #[.int .i64 (wrap64 ((wrap64 (bt a0 x6_12)) - 48)), .int .i64 1, .int .i64 (-1)] 57 (0, 0)) (by refine pk_ ?_; refine blk_put (cs := #[.int .i64 (wrap64 ((wrap64 (bt a0 x6_12)) - 48)), .int .i64 1, .int .i64 (wrap64 ((wrap64 (bt a0 (ji26))) - 65))]) ?_ 2 _ rfl; refine pk_ ?_; refine blk_put (cs := #[.int .i64 (wrap64 ((wrap64 (bt a0 x6_12)) - 48)), .int .i64 1, .int .i64 0]) ?_ 2 _ rfl; refine pk_ ?_; refine blk_put (cs := #[.int .i64 (wrap64 ((wrap64 (bt a0 x6_12)) - 48)), .int .i64 0, .int .i64 0]) ?_ 1 _ rfl; refine pk_ ?_; refine blk_put (cs := #[.int .i64 0, .int .i64 0, .int .i64 0]) ?_ 0 _ rfl; exact pk_ BK149.out) k_ hk)); (case aO => exact (by (with_reducible repeat (first | apply Kd.R_alloc | apply Kd.R_drewN | apply Kd.R_drew)); exact Kd.R_mono (Kd.R_far (p := ⟨gb149, 2, none⟩) (Kd.R_far (p := ⟨gb149, 2, none⟩) (Kd.R_far (p := ⟨gb149, 1, none⟩) (Kd.R_far (p := ⟨gb149, 0, none⟩) (Kd.R_mono HO_5.out (fun k_ hk => (⟨hk, hk.2⟩ : _ ∧ k_ ≠ gb149))) (fun _ hk => hk.2) (.int .i64 (wrap64 ((wrap64 (bt a0 x6_12)) - 48)))) (fun _ hk => hk.2) (.int .i64 1)) (fun _ hk => hk.2) (.int .i64 (wrap64 ((wrap64 (bt a0 (ji26))) - 65)))) (fun _ hk => hk.2) (.int .i64 (-1))) (fun _ hk => hk.1.2))); (case aS => exact (below_size (bk_ HB.out))); (case aL => have := LMc59.out; omega); intro v157 w68 ho hb hg hat; rw [← Ny156.out] at ho; have n0_ := A_ (Kd.S_after (ok := (fun k_ => k_ ≠ gb149)) (by (with_reducible repeat (first | apply Kd.S_alloc | apply Kd.S_drewN | apply Kd.S_drew)); exact Kd.S_mono (Kd.S_far (p := ⟨gb149, 2, none⟩) (Kd.S_far (p := ⟨gb149, 2, none⟩) (Kd.S_far (p := ⟨gb149, 1, none⟩) (Kd.S_far (p := ⟨gb149, 0, none⟩) (Kd.S_mono HO_146002.out (fun k_ hk => (⟨hk, hk.2⟩ : _ ∧ k_ ≠ gb149))) (fun _ hk => hk.2) (.int .i64 (wrap64 ((wrap64 (bt a0 x6_12)) - 48)))) (fun _ hk => hk.2) (.int .i64 1)) (fun _ hk => hk.2) (.int .i64 (wrap64 ((wrap64 (bt a0 (ji26))) - 65)))) (fun _ hk => hk.2) (.int .i64 (-1))) (fun _ hk => ⟨hk.1.2, hk.1.1⟩)) hg hat); have n1_ := A_ (blk_grown (g := gb144) (o := .cells #[.int .i64 0, .int .i64 0, .slice none 0 0] 24 (0, 0)) (by refine pk_ ?_; refine blk_far ?_ NB144_149.out _; refine pk_ ?_; refine blk_far ?_ NB144_149.out _; refine pk_ ?_; refine blk_far ?_ NB144_149.out _; refine pk_ ?_; refine blk_far ?_ NB144_149.out _; exact pk_ BK144.out) hg (Kd.R_ne HO_5.out BK144.out (by decide))); have n2_ := A_ (blk_grown (g := gb145) (o := .cells #[.int .i64 x146000_12, .int .i64 0, u146002] 24 (0, 0)) (by refine pk_ ?_; refine blk_far ?_ NB145_149.out _; refine pk_ ?_; refine blk_far ?_ NB145_149.out _; refine pk_ ?_; refine blk_far ?_ NB145_149.out _; refine pk_ ?_; refine blk_far ?_ NB145_149.out _; exact pk_ BK145.out) hg (Kd.R_ne HO_5.out BK145.out (by decide))); have n3_ := A_ (blk_grown (g := gb149) (o := .cells #[.int .i64 (wrap64 ((wrap64 (bt a0 x6_12)) - 48)), .int .i64 1, .int .i64 (-1)] 57 (0, 0)) (by refine pk_ ?_; refine blk_put (cs := #[.int .i64 (wrap64 ((wrap64 (bt a0 x6_12)) - 48)), .int .i64 1, .int .i64 (wrap64 ((wrap64 (bt a0 (ji26))) - 65))]) ?_ 2 _ rfl; refine pk_ ?_; refine blk_put (cs := #[.int .i64 (wrap64 ((wrap64 (bt a0 x6_12)) - 48)), .int .i64 1, .int .i64 0]) ?_ 2 _ rfl; refine pk_ ?_; refine blk_put (cs := #[.int .i64 (wrap64 ((wrap64 (bt a0 x6_12)) - 48)), .int .i64 0, .int .i64 0]) ?_ 1 _ rfl; refine pk_ ?_; refine blk_put (cs := #[.int .i64 0, .int .i64 0, .int .i64 0]) ?_ 0 _ rfl; exact pk_ BK149.out) hg (Kd.R_away HO_5.out (fun _ hk => hk.2))); have n4_ := A_ (hb); have n5_ := A_ (ho); clear HO_146002 BK144 BK145 BK149 HB HO_5; have HO_146002 := n0_; have BK144 := n1_; have BK145 := n2_; have BK149 := n3_; have HB := n4_; have HO158 := n5_; clear n0_ n1_ n2_ n3_ n4_ n5_ ho hb hg hat))
                     go_roundg kj12
                     case measure => have := HK1.out; have := HJ6.out; have := HJ12.out; omega
                     case rel => exact ⟨(y156), (wrap64 (x6_12 + 3)), (x146000_12), (x146002_12), (u146002), jr_, H', ⟨by have := HK1.out; have := HJ6.out; have := HJ12.out; omega⟩, ⟨by (with_reducible repeat (first | apply Kd.R_alloc | apply Kd.R_drewN | apply Kd.R_drew)); exact Kd.R_mono HO158.out (fun _ hk => trivial)⟩, ⟨by (with_reducible repeat (first | apply Kd.S_alloc | apply Kd.S_drewN | apply Kd.S_drew)); exact Kd.S_mono HO_146002.out (fun _ hk => hk.2)⟩, ⟨pk_ BK144.out⟩, ⟨pk_ BK145.out⟩, ⟨bk_ HB.out⟩⟩
                    ·rw [if_neg c59] at H
                     exact absurd H (by simp)
                   ·rw [if_neg c58] at H
                    have c58b0 : ((bt a0 (ji26)) == 90) = false := beq_eq_false_iff_ne.mpr c58
                    have c58b1 : ((bt a0 (ji26)) != 90) = true := bne_iff_ne.mpr c58
                    by_cases c69 : x5_12.length < 5864062014805
                    ·rw [if_pos c69] at H
                     have LMc69 := Aside0.mk c69
                     clear c69
                     obtain ⟨y159, hy159⟩ : ∃ y_ : List (S57), y_ = (x5_12 ++ [(⟨wrap64 ((wrap64 (bt a0 x6_12)) - 48), 1, wrap64 ((wrap64 (bt a0 (ji26))) - 65)⟩ : S57)]) := ⟨_, rfl⟩
                     replace H : (standstillref01_Parse.l0 kj12 a0 y159 (wrap64 (x6_12 + 3)) x146000_12 0 x146002_12) = some (r1, r2, r3, r4) := by first | (rw [hy159]; with_reducible exact H) | (have H2_ := (Option.bind_some _ _).symm.trans H; rw [hy159]; with_reducible exact H2_) | (have H2_ := (Option.bind_some _ _).symm.trans H; with_reducible exact H2_) | with_reducible exact H | (rw [hy159]; exact H) | exact H
                     have Ny159 := Aside0.mk hy159
                     clear hy159
                     have H' := Aside0.mk H
                     clear H
                     try go_wp2
                     have n0_ := A_ (Kd.R_drew HO_5.out)
                     have n1_ := A_ (Kd.S_drew HO_146002.out)
                     have n2_ := A_ (blk_drew BK144.out)
                     have n3_ := A_ (blk_drew BK145.out)
                     have n4_ := A_ (below_drew1 HB.out)
                     clear HO_5 HO_146002 BK144 BK145 HB
                     have HO_5 := n0_
                     have HO_146002 := n1_
                     have BK144 := n2_
                     have BK145 := n3_
                     have HB := n4_
                     clear n0_ n1_ n2_ n3_ n4_
                     have p25 : 0 ≤ (x6_12 : Int) := od_
                     have q25 : x6_12 < (a0.size : Int) := od_
                     have hx25 := bt_at a0 x6_12
                     replace p25 := eq_true p25
                     replace q25 := eq_true q25
                     have p29 : 0 ≤ ((ji26) : Int) := od_
                     have q29 : (ji26) < (a0.size : Int) := od_
                     have hx29 := bt_at a0 (ji26)
                     replace p29 := eq_true p29
                     replace q29 := eq_true q29
                     refine start_ (n := 14) (S := fun w' => True) (ds := []) #[false, false, false, false, false, false, false, false, false, false, false, false, false, false] (by kernel_rfl) rfl rfl trivial (fun hHeld => ?_); refine with_tabW standstillref01_Parse.tab12 standstillref01_Parse.bits12 (fun HT_ HW_ => ?_)
                     generalize wc.drew = w70 at HO_5 HO_146002 BK144 BK145 HB hHeld ⊢
                     refine pure_ (i := 0) (N := some 42) (v := ?_) (a' := ?_) #[true, false, false, false, false, false, false, false, false, false, false, false, false, false] rfl rfl (any_of HT_.out (by kernel_rfl)) (fun _ _ _ h => h) (Or.inl ⟨by rfl, ?_⟩) ?_ ?_
                     rotate_left
                     ·intro w'
                      go_simp
                      with_reducible rfl
                     rotate_left
                     ·simp only [Act.put, sa_, sz_, ss_, i64_w, i32_w]
                      rfl
                     refine pure_ (i := 1) (N := some 43) (v := ?_) (a' := ?_) #[true, true, false, false, false, false, false, false, false, false, false, false, false, false] rfl rfl (any_of HT_.out (by kernel_rfl)) (fun _ _ _ h => h) (Or.inl ⟨by rfl, ?_⟩) ?_ ?_
                     rotate_left
                     ·intro w'
                      go_simp
                      with_reducible rfl
                     rotate_left
                     ·simp only [Act.put, sa_, sz_, ss_, i64_w, i32_w]
                      rfl
                     refine pure_ (i := 5) (N := some 47) (v := ?_) (a' := ?_) #[true, true, false, false, false, true, false, false, false, false, false, false, false, false] rfl rfl (any_of HT_.out (by kernel_rfl)) (fun _ _ _ h => h) (Or.inl ⟨by rfl, ?_⟩) ?_ ?_
                     rotate_left
                     ·intro w'
                      go_simp
                      with_reducible rfl
                     rotate_left
                     ·simp only [Act.put, sa_, sz_, ss_, i64_w, i32_w]
                      rfl
                     refine pure_ (i := 6) (N := some 48) (v := ?_) (a' := ?_) #[true, true, false, false, false, true, true, false, false, false, false, false, false, false] rfl rfl (any_of HT_.out (by kernel_rfl)) (fun _ _ _ h => h) (Or.inl ⟨by rfl, ?_⟩) ?_ ?_
                     rotate_left
                     ·intro w'
                      go_simp
                      with_reducible rfl
                     rotate_left
                     ·simp only [Act.put, sa_, sz_, ss_, i64_w, i32_w]
                      rfl
                     refine pure_ (i := 7) (N := some 49) (v := ?_) (a' := ?_) #[true, true, false, false, false, true, true, true, false, false, false, false, false, false] rfl rfl (any_of HT_.out (by kernel_rfl)) (fun _ _ _ h => h) (Or.inl ⟨by rfl, ?_⟩) ?_ ?_
                     rotate_left
                     ·intro w'
                      go_simp
                      with_reducible rfl
                     rotate_left
                     ·simp only [Act.put, sa_, sz_, ss_, i64_w, i32_w]
                      rfl
                     refine take_ (i := 2) (N := some 44) (v := ?_) (a' := ?_) #[true, true, true, false, false, true, true, true, false, false, false, false, false, false] rfl rfl (take_ofW HT_.out HW_.out (by kernel_rfl)) (fun _ _ _ h => h) (Or.inl ⟨by rfl, ?_⟩) hHeld ?_ ?_
                     rotate_left
                     ·intro w' _
                      go_simp
                      with_reducible rfl
                     rotate_left
                     ·simp only [Act.put, sa_, sz_, ss_, i64_w, i32_w]
                      rfl
                     refine pure_ (i := 3) (N := some 45) (v := ?_) (a' := ?_) #[true, true, true, true, false, true, true, true, false, false, false, false, false, false] rfl rfl (any_of HT_.out (by kernel_rfl)) (fun _ _ _ h => h) (Or.inl ⟨by rfl, ?_⟩) ?_ ?_
                     rotate_left
                     ·intro w'
                      go_simp
                      with_reducible rfl
                     rotate_left
                     ·simp only [Act.put, sa_, sz_, ss_, i64_w, i32_w]
                      rfl
                     refine pure_ (i := 4) (N := some 46) (v := ?_) (a' := ?_) #[true, true, true, true, true, true, true, true, false, false, false, false, false, false] rfl rfl (any_of HT_.out (by kernel_rfl)) (fun _ _ _ h => h) (Or.inl ⟨by rfl, ?_⟩) ?_ ?_
                     rotate_left
                     ·intro w'
                      go_simp
                      with_reducible rfl
                     rotate_left
                     ·simp only [Act.put, sa_, sz_, ss_, i64_w, i32_w]
                      rfl
                     refine take_ (i := 8) (N := some 50) (v := ?_) (a' := ?_) #[true, true, true, true, true, true, true, true, true, false, false, false, false, false] rfl rfl (take_ofW HT_.out HW_.out (by kernel_rfl)) (fun _ _ _ h => h) (Or.inl ⟨by rfl, ?_⟩) hHeld ?_ ?_
                     rotate_left
                     ·intro w' _
                      go_simp
                      with_reducible rfl
                     rotate_left
                     ·simp only [Act.put, sa_, sz_, ss_, i64_w, i32_w]
                      rfl
                     refine pure_ (i := 9) (N := some 51) (v := ?_) (a' := ?_) #[true, true, true, true, true, true, true, true, true, true, false, false, false, false] rfl rfl (any_of HT_.out (by kernel_rfl)) (fun _ _ _ h => h) (Or.inl ⟨by rfl, ?_⟩) ?_ ?_
                     rotate_left
                     ·intro w'
                      go_simp
                      with_reducible rfl
                     rotate_left
                     ·simp only [Act.put, sa_, sz_, ss_, i64_w, i32_w]
                      rfl
                     refine pure_ (i := 10) (N := some 52) (v := ?_) (a' := ?_) #[true, true, true, true, true, true, true, true, true, true, true, false, false, false] rfl rfl (any_of HT_.out (by kernel_rfl)) (fun _ _ _ h => h) (Or.inl ⟨by rfl, ?_⟩) ?_ ?_
                     rotate_left
                     ·intro w'
                      go_simp
                      with_reducible rfl
                     rotate_left
                     ·simp only [Act.put, sa_, sz_, ss_, i64_w, i32_w]
                      rfl
                     refine pure_ (i := 11) (N := some 53) (v := ?_) (a' := ?_) #[true, true, true, true, true, true, true, true, true, true, true, true, false, false] rfl rfl (any_of HT_.out (by kernel_rfl)) (fun _ _ _ h => h) (Or.inl ⟨by rfl, ?_⟩) ?_ ?_
                     rotate_left
                     ·intro w'
                      go_simp
                      with_reducible rfl
                     rotate_left
                     ·simp only [Act.put, sa_, sz_, ss_, i64_w, i32_w]
                      rfl
                     refine one_ (i := 12) (N := some 7) #[true, true, true, true, true, true, true, true, true, true, true, true, true, false] rfl rfl (one_of HT_.out (by kernel_rfl)) (by decide) (fun K hK => ?_)
                     refine box_step ?hg (N := 7) ?hd (cs := #[.int .i64 0, .int .i64 0, .int .i64 0]) (t := 57) ?hr ?_; (case hd => rfl); (case hg => rfl); (case hr => first | (go_simp; done) | (go_simp; rfl))
                     intro gb149 hg w71 hbox hb
                     have n0_ := A_ (Kd.R_below (Kd.R_elderB (rk_ HO_5.out) gb149 (Nat.le_of_eq hg.symm)) hb)
                     have n1_ := A_ (Kd.S_below (Kd.S_elderB (by (with_reducible repeat (first | apply Kd.S_alloc | apply Kd.S_drewN | apply Kd.S_drew)); exact HO_146002.out) gb149 (Nat.le_of_eq hg.symm)) hb)
                     have n2_ := A_ (blk_below (pk_ BK144.out) hb)
                     have n3_ := A_ (blk_below (pk_ BK145.out) hb)
                     have n4_ := A_ (below_step (bk_ HB.out) hb)
                     have n5_ := A_ (hbox)
                     have n6_ := A_ ((by rw [hg]; exact (below_size (bk_ HB.out)) : w.heap.size ≤ gb149))
                     have n7_ := A_ ((by rw [hg]; exact (below_size (bk_ HB.out)) : w.heap.size ≤ gb149))
                     have n8_ := A_ ((by rw [hg]; exact Nat.ne_of_lt (blk_lt (pk_ BK144.out)) : gb144 ≠ gb149))
                     have n9_ := A_ ((by rw [hg]; exact Nat.ne_of_gt (blk_lt (pk_ BK144.out)) : gb149 ≠ gb144))
                     have n10_ := A_ ((by rw [hg]; exact Nat.ne_of_lt (blk_lt (pk_ BK145.out)) : gb145 ≠ gb149))
                     have n11_ := A_ ((by rw [hg]; exact Nat.ne_of_gt (blk_lt (pk_ BK145.out)) : gb149 ≠ gb145))
                     clear HO_5 HO_146002 BK144 BK145 HB
                     have HO_5 := n0_
                     have HO_146002 := n1_
                     have BK144 := n2_
                     have BK145 := n3_
                     have HB := n4_
                     have BK149 := n5_
                     have GW149 := n6_
                     have GE149 := n7_
                     have NB144_149 := n8_
                     have NB149_144 := n9_
                     have NB145_149 := n10_
                     have NB149_145 := n11_
                     clear n0_ n1_ n2_ n3_ n4_ n5_ n6_ n7_ n8_ n9_ n10_ n11_ hb hbox hg
                     refine hK.out _ _ trivial (fun hHeld => ?_)
                     clear hK K
                     refine norm_ (a' := ?_) ?_ ?_
                     rotate_left
                     ·show Act.put _ (some 7) _ = _
                      simp only [Act.put, sa_, sz_, ss_, i64_w, i32_w]
                      rfl
                     refine one_ (i := 13) (N := none) #[true, true, true, true, true, true, true, true, true, true, true, true, true, true] rfl rfl (one_of HT_.out (by kernel_rfl)) (by decide) (fun K hK => ?_)
                     have hs72 : w71.cell? ⟨gb149, 0, none⟩ = some (.int .i64 0) := (blk_cell BK149.out 0).trans rfl
                     have hfs72 := blk_frozen BK149.out 0
                     have hns72_0 := NB144_149.out
                     have hns72_1 := NB145_149.out
                     have hms72_0 := NB149_144.out
                     have hms72_1 := NB149_145.out
                     have hs73 : w71.cell? ⟨gb149, 1, none⟩ = some (.int .i64 0) := (blk_cell BK149.out 1).trans rfl
                     have hfs73 := blk_frozen BK149.out 1
                     have hns73_0 := NB144_149.out
                     have hns73_1 := NB145_149.out
                     have hms73_0 := NB149_144.out
                     have hms73_1 := NB149_145.out
                     have hs74 : w71.cell? ⟨gb149, 2, none⟩ = some (.int .i64 0) := (blk_cell BK149.out 2).trans rfl
                     have hfs74 := blk_frozen BK149.out 2
                     have hns74_0 := NB144_149.out
                     have hns74_1 := NB145_149.out
                     have hms74_0 := NB149_144.out
                     have hms74_1 := NB149_145.out
                     refine skip_ (w1 := ?_) (by rfl) rfl ?_ ?_
                     rotate_left
                     ·go_simp
                      rfl
                     refine hK.out _ _ trivial (fun hHeld => ?_)
                     clear hK K
                     refine done_ (done_of HT_.out (by kernel_rfl)) ?_
                     have p33 : 0 ≤ ((ji30) : Int) := od_
                     have q33 : (ji30) < (a0.size : Int) := od_
                     have hx33 := bt_at a0 (ji30)
                     replace p33 := eq_true p33
                     replace q33 := eq_true q33
                     have p57 : 0 ≤ ((ji26) : Int) := od_
                     have q57 : (ji26) < (a0.size : Int) := od_
                     have hx57 := bt_at a0 (ji26)
                     replace p57 := eq_true p57
                     replace q57 := eq_true q57
                     have hnb75 := NB149_144.out
                     have hnc75 := NB144_149.out
                     have hnb76 := NB149_145.out
                     have hnc76 := NB145_149.out
                     have hcz77_0 : w71.cell? ⟨gb149, 0, none⟩ = some (.int .i64 0) := (blk_cell BK149.out 0).trans rfl
                     have hcz77_1 : w71.cell? ⟨gb149, 1, none⟩ = some (.int .i64 0) := (blk_cell BK149.out 1).trans rfl
                     have hcz77_2 : w71.cell? ⟨gb149, 2, none⟩ = some (.int .i64 0) := (blk_cell BK149.out 2).trans rfl
                     have hfz77_0 := blk_frozen BK149.out 0
                     have hfz77_1 := blk_frozen BK149.out 1
                     have hfz77_2 := blk_frozen BK149.out 2
                     try go_wp2_with (first | ((with_reducible refine gate_builtin (b := .append) (xs := #[.tmp 66, .tmp 68]) rfl ?_); (try (refine gate_guard (by rfl) ?_; dsimp only)); at_builtin; refine Kd.R_append k57 (w0 := w) w.heap.size rfl (.tmp 66) (.tmp 68) 54 57 (.agg #[(.int .i64 0), (.int .i64 0), (.int .i64 0)]) 24 rfl Try.underlying54 info57 rfl (by decide) (by omega) u5 x5_12 (⟨wrap64 ((wrap64 (bt a0 x6_12)) - 48), 1, wrap64 ((wrap64 (bt a0 (ji26))) - 65)⟩ : S57) [.int .i64 (wrap64 ((wrap64 (bt a0 x6_12)) - 48)), .int .i64 1, .int .i64 (wrap64 ((wrap64 (bt a0 (ji26))) - 65))] (fun k_ => k_ ≠ gb149) (fun _ => False) rfl (by first | (go_simp; done) | (go_simp; rfl)) ?aP (fun _ hk => hk.elim) ?aF ?aO ?aB ?aS ?aL ?_; (case aP => exact k57_mkM _ _ _ (⟨wrap64 ((wrap64 (bt a0 x6_12)) - 48), 1, wrap64 ((wrap64 (bt a0 (ji26))) - 65)⟩ : S57)); (case aB => exact (bk_ HB.out)); (case aF => exact (fun k_ hk => Kd.freshB (g := gb149) (o := .cells #[.int .i64 (wrap64 ((wrap64 (bt a0 x6_12)) - 48)), .int .i64 1, .int .i64 (wrap64 ((wrap64 (bt a0 (ji26))) - 65))] 57 (0, 0)) (by refine pk_ ?_; refine blk_put (cs := #[.int .i64 (wrap64 ((wrap64 (bt a0 x6_12)) - 48)), .int .i64 1, .int .i64 0]) ?_ 2 _ rfl; refine pk_ ?_; refine blk_put (cs := #[.int .i64 (wrap64 ((wrap64 (bt a0 x6_12)) - 48)), .int .i64 0, .int .i64 0]) ?_ 1 _ rfl; refine pk_ ?_; refine blk_put (cs := #[.int .i64 0, .int .i64 0, .int .i64 0]) ?_ 0 _ rfl; exact pk_ BK149.out) k_ hk)); (case aO => exact (by (with_reducible repeat (first | apply Kd.R_alloc | apply Kd.R_drewN | apply Kd.R_drew)); exact Kd.R_mono (Kd.R_far (p := ⟨gb149, 2, none⟩) (Kd.R_far (p := ⟨gb149, 1, none⟩) (Kd.R_far (p := ⟨gb149, 0, none⟩) (Kd.R_mono HO_5.out (fun k_ hk => (⟨hk, hk.2⟩ : _ ∧ k_ ≠ gb149))) (fun _ hk => hk.2) (.int .i64 (wrap64 ((wrap64 (bt a0 x6_12)) - 48)))) (fun _ hk => hk.2) (.int .i64 1)) (fun _ hk => hk.2) (.int .i64 (wrap64 ((wrap64 (bt a0 (ji26))) - 65)))) (fun _ hk => hk.1.2))); (case aS => exact (below_size (bk_ HB.out))); (case aL => have := LMc69.out; omega); intro v160 w78 ho hb hg hat; rw [← Ny159.out] at ho; have n0_ := A_ (Kd.S_after (ok := (fun k_ => k_ ≠ gb149)) (by (with_reducible repeat (first | apply Kd.S_alloc | apply Kd.S_drewN | apply Kd.S_drew)); exact Kd.S_mono (Kd.S_far (p := ⟨gb149, 2, none⟩) (Kd.S_far (p := ⟨gb149, 1, none⟩) (Kd.S_far (p := ⟨gb149, 0, none⟩) (Kd.S_mono HO_146002.out (fun k_ hk => (⟨hk, hk.2⟩ : _ ∧ k_ ≠ gb149))) (fun _ hk => hk.2) (.int .i64 (wrap64 ((wrap64 (bt a0 x6_12)) - 48)))) (fun _ hk => hk.2) (.int .i64 1)) (fun _ hk => hk.2) (.int .i64 (wrap64 ((wrap64 (bt a0 (ji26))) - 65)))) (fun _ hk => ⟨hk.1.2, hk.1.1⟩)) hg hat); have n1_ := A_ (blk_grown (g := gb144) (o := .cells #[.int .i64 0, .int .i64 0, .slice none 0 0] 24 (0, 0)) (by refine pk_ ?_; refine blk_far ?_ NB144_149.out _; refine pk_ ?_; refine blk_far ?_ NB144_149.out _; refine pk_ ?_; refine blk_far ?_ NB144_149.out _; exact pk_ BK144.out) hg (Kd.R_ne HO_5.out BK144.out (by decide))); have n2_ := A_ (blk_grown (g := gb145) (o := .cells #[.int .i64 x146000_12, .int .i64 0, u146002] 24 (0, 0)) (by refine pk_ ?_; refine blk_far ?_ NB145_149.out _; refine pk_ ?_; refine blk_far ?_ NB145_149.out _; refine pk_ ?_; refine blk_far ?_ NB145_149.out _; exact pk_ BK145.out) hg (Kd.R_ne HO_5.out BK145.out (by decide))); have n3_ := A_ (blk_grown (g := gb149) (o := .cells #[.int .i64 (wrap64 ((wrap64 (bt a0 x6_12)) - 48)), .int .i64 1, .int .i64 (wrap64 ((wrap64 (bt a0 (ji26))) - 65))] 57 (0, 0)) (by refine pk_ ?_; refine blk_put (cs := #[.int .i64 (wrap64 ((wrap64 (bt a0 x6_12)) - 48)), .int .i64 1, .int .i64 0]) ?_ 2 _ rfl; refine pk_ ?_; refine blk_put (cs := #[.int .i64 (wrap64 ((wrap64 (bt a0 x6_12)) - 48)), .int .i64 0, .int .i64 0]) ?_ 1 _ rfl; refine pk_ ?_; refine blk_put (cs := #[.int .i64 0, .int .i64 0, .int .i64 0]) ?_ 0 _ rfl; exact pk_ BK149.out) hg (Kd.R_away HO_5.out (fun _ hk => hk.2))); have n4_ := A_ (hb); have n5_ := A_ (ho); clear HO_146002 BK144 BK145 BK149 HB HO_5; have HO_146002 := n0_; have BK144 := n1_; have BK145 := n2_; have BK149 := n3_; have HB := n4_; have HO161 := n5_; clear n0_ n1_ n2_ n3_ n4_ n5_ ho hb hg hat))
                     go_roundg kj12
                     case measure => have := HK1.out; have := HJ6.out; have := HJ12.out; omega
                     case rel => exact ⟨(y159), (wrap64 (x6_12 + 3)), (x146000_12), (x146002_12), (u146002), jr_, H', ⟨by have := HK1.out; have := HJ6.out; have := HJ12.out; omega⟩, ⟨by (with_reducible repeat (first | apply Kd.R_alloc | apply Kd.R_drewN | apply Kd.R_drew)); exact Kd.R_mono HO161.out (fun _ hk => trivial)⟩, ⟨by (with_reducible repeat (first | apply Kd.S_alloc | apply Kd.S_drewN | apply Kd.S_drew)); exact Kd.S_mono HO_146002.out (fun _ hk => hk.2)⟩, ⟨pk_ BK144.out⟩, ⟨pk_ BK145.out⟩, ⟨bk_ HB.out⟩⟩
                    ·rw [if_neg c69] at H
                     exact absurd H (by simp)
                 ·rw [if_neg c32] at H
                  exact absurd H (by simp)
                ·rw [if_neg c31] at H
                 exact absurd H (by simp)
               ·rw [if_neg c28] at H
                exact absurd H (by simp)
              ·rw [if_neg c27] at H
               exact absurd H (by simp)
             ·rw [if_neg c24] at H
              exact absurd H (by simp)
            ·rw [if_neg c23] at H
             exact absurd H (by simp)
        ·rw [if_neg c11] at H
         exact absurd H (by simp)
       ·rw [if_neg c10] at H
        exact absurd H (by simp)
      ·replace c9 := Bool.eq_false_iff.mpr c9
       subst c9
       have H1 : (standstillref01_Parse.j3 kj6 a0 x5_1 x146000_1 0 x146002_1) = some (r1, r2, r3, r4) := by rw [if_neg (show ¬ (false = true) by decide)] at H; exact H
       clear H
       have H := H1
       clear H1
       have H' := Aside0.mk H
       clear H
       go_wp2
       go_meet
       case rel => exact ⟨_, (x5_1), (x146000_1), (x146002_1), (u146002), H', ⟨by have := HK1.out; have := HJ6.out; first | omega | exact Nat.le_refl _⟩, ⟨rk_ HO_5.out⟩, ⟨by (with_reducible repeat (first | apply Kd.S_alloc | apply Kd.S_drewN | apply Kd.S_drew)); exact HO_146002.out⟩, ⟨pk_ BK144.out⟩, ⟨pk_ BK145.out⟩, ⟨bk_ HB.out⟩⟩
 case rest => as_aux_lemma =>
  clear HC2
  obtain ⟨kq, x5_1, x146000_1, x146002_1, u146002, HA, HJ1, HO_5, HO_146002, BK144, BK145, HB⟩ := hcut
  cases kq with
  | zero => exact absurd HA.out (by simp [standstillref01_Parse.j3])
  | succ kj1 =>
   have H := HA.out
   clear HA
   simp only [standstillref01_Parse.j3] at H
   by_cases c79 : x146002_1.length < 5864062014805
   ·rw [if_pos c79] at H
    have LMc79 := Aside0.mk c79
    clear c79
    obtain ⟨y162, hy162⟩ : ∃ y_ : List (List (S57)), y_ = (x146002_1 ++ [x5_1]) := ⟨_, rfl⟩
    replace H : ((standstillref01_Valid.f kj1 x146000_1 (x5_1.length : Int) y162).bind fun t165 => (if t165 = true then ((standstillref01_Text.f kj1 x146000_1 (x5_1.length : Int) y162).bind fun t166 => (if t166.toList = a0.toList then (some (x146000_1, (x5_1.length : Int), y162, true)) else (some (0, 0, ([] : List (List (S57))), false)))) else (some (0, 0, ([] : List (List (S57))), false)))) = some (r1, r2, r3, r4) := by first | (rw [hy162]; with_reducible exact H) | (have H2_ := (Option.bind_some _ _).symm.trans H; rw [hy162]; with_reducible exact H2_) | (have H2_ := (Option.bind_some _ _).symm.trans H; with_reducible exact H2_) | with_reducible exact H | (rw [hy162]; exact H) | exact H
    have Ny162 := Aside0.mk hy162
    clear hy162
    replace H := Option.bind_eq_some_iff.mp H
    obtain ⟨t165, A800, H⟩ := H
    replace H : (if t165 = true then ((standstillref01_Text.f kj1 x146000_1 (x5_1.length : Int) y162).bind fun t166 => (if t166.toList = a0.toList then (some (x146000_1, (x5_1.length : Int), y162, true)) else (some (0, 0, ([] : List (List (S57))), false)))) else (some (0, 0, ([] : List (List (S57))), false))) = some (r1, r2, r3, r4) := H
    have A80 := Aside0.mk A800
    clear A800
    by_cases c81 : t165 = true
    ·subst c81
     have H1 : ((standstillref01_Text.f kj1 x146000_1 (x5_1.length : Int) y162).bind fun t166 => (if t166.toList = a0.toList then (some (x146000_1, (x5_1.length : Int), y162, true)) else (some (0, 0, ([] : List (List (S57))), false)))) = some (r1, r2, r3, r4) := by rw [if_pos rfl] at H; exact H
     clear H
     have H := H1
     clear H1
     replace H := Option.bind_eq_some_iff.mp H
     obtain ⟨t166, A820, H⟩ := H
     replace H : (if t166.toList = a0.toList then (some (x146000_1, (x5_1.length : Int), y162, true)) else (some (0, 0, ([] : List (List (S57))), false))) = some (r1, r2, r3, r4) := H
     have A82 := Aside0.mk A820
     clear A820
     by_cases c83 : t166.toList = a0.toList
     ·rw [if_pos c83] at H
      have c83b0 : (t166.toList == a0.toList) = true := beq_iff_eq.mpr c83
      have c83b1 : (t166.toList != a0.toList) = false := bne_eq_false_iff_eq.mpr c83
      clear c83
      simp only [Option.some.injEq, Prod.mk.injEq] at H
      obtain ⟨rfl, rfl, rfl, rfl⟩ := H
      have hnb84 := NB145_144.out
      have hnc84 := NB144_145.out
      have hcz85_0 : wc.cell? ⟨gb145, 0, none⟩ = some (.int .i64 x146000_1) := (blk_cell BK145.out 0).trans rfl
      have hcz85_1 : wc.cell? ⟨gb145, 1, none⟩ = some (.int .i64 0) := (blk_cell BK145.out 1).trans rfl
      have hcz85_2 : wc.cell? ⟨gb145, 2, none⟩ = some (u146002) := (blk_cell BK145.out 2).trans rfl
      have hfz85_0 := blk_frozen BK145.out 0
      have hfz85_1 := blk_frozen BK145.out 1
      have hfz85_2 := blk_frozen BK145.out 2
      obtain ⟨Ao87, co87, eo87⟩ := Kd.R_slice HO_5.out
      subst eo87
      go_wp2_with (first | ((with_reducible refine gate_builtin (b := .append) (xs := #[.tmp 71, .tmp 73]) rfl ?_); (try (refine gate_guard (by rfl) ?_; dsimp only)); at_builtin; refine Kd.S_append (Kd.slice 57 k57) (w0 := w) w.heap.size rfl (.tmp 71) (.tmp 73) 22 54 (.slice none 0 0) 24 rfl Try.underlying22 info54 rfl (by decide) (by omega) u146002 x146002_1 x5_1 [.slice Ao87 x5_1.length co87] (fun _ => True) (fun k_ => some k_ = (.slice Ao87 x5_1.length co87 : Value).ownBlock) rfl rfl ?aP (fun k_ hk_ => ((Kd.R_mono (ok' := fun k_ => ((fun _ => True)) k_ ∧ some k_ ≠ (u146002 : Value).ownBlock) (Kd.R_apart' (HO_5.out) (Kd.S_typed HO_146002.out) (by decide)) (fun k_ hk => ⟨trivial, hk.2⟩))).1 k_ hk_.symm) ?aF ?aO ?aB ?aS ?aL ?_; (case aP => exact Kd.M_row (Kd.R_mono (Kd.R_tight rfl (Kd.R_mono (ok' := fun k_ => ((fun _ => True)) k_ ∧ some k_ ≠ (u146002 : Value).ownBlock) (Kd.R_apart' (HO_5.out) (Kd.S_typed HO_146002.out) (by decide)) (fun k_ hk => ⟨trivial, hk.2⟩))) (fun _ h_ => h_))); (case aB => exact (bk_ HB.out)); (case aF => exact (fun _ _ => trivial)); (case aO => exact (by (with_reducible repeat (first | apply Kd.S_alloc | apply Kd.S_drewN | apply Kd.S_drew)); exact Kd.S_mono HO_146002.out (fun k_ hk => ⟨trivial, fun e_ => hk e_⟩))); (case aS => exact (below_size (bk_ HB.out))); (case aL => have := LMc79.out; omega); intro v163 w86 ho hb hg hat; rw [← Ny162.out] at ho; have n0_ := A_ (blk_grown (pk_ BK144.out) hg (Kd.S_ne HO_146002.out BK144.out (by decide))); have n1_ := A_ (blk_grown (pk_ BK145.out) hg (Kd.S_ne HO_146002.out BK145.out (by decide))); have n2_ := A_ (hb); have n3_ := A_ (ho); clear BK144 BK145 HB HO_146002 HO_5; have BK144 := n0_; have BK145 := n1_; have HB := n2_; have HO164 := n3_; clear n0_ n1_ n2_ n3_ ho hb hg hat; obtain ⟨Ao88, co88, eo88⟩ := Kd.S_slice HO164.out; subst eo88; have hcz89_0 : w86.cell? ⟨gb145, 0, none⟩ = some (.int .i64 x146000_1) := (blk_cell BK145.out 0).trans rfl; have hcz89_1 : w86.cell? ⟨gb145, 1, none⟩ = some (.int .i64 0) := (blk_cell BK145.out 1).trans rfl; have hcz89_2 : w86.cell? ⟨gb145, 2, none⟩ = some (u146002) := (blk_cell BK145.out 2).trans rfl; have hfz89_0 := blk_frozen BK145.out 0; have hfz89_1 := blk_frozen BK145.out 1; have hfz89_2 := blk_frozen BK145.out 2) | ((with_reducible refine gate_callee (f := 10) rfl ?_); refine goesL_ (some 80) rfl rfl Try.func10 (by kernel_rfl) rfl #[.agg #[.int .i64 x146000_1, .int .i64 (x5_1.length : Int), .slice Ao88 y162.length co88]] rfl gl_ ?_; (with_reducible refine (standstillref01_Valid.calls kj1 x146000_1 (x5_1.length : Int) _ _ y162 true _ ?side1 ?side2 A80.out).mono ?_); (case side1 => refine (Kd.S_reads' (e := 54) (base := w.heap.size) (ok := fun k_ => True) (n := y162.length) (c := co88) ?_).2.2; exact (by (with_reducible repeat (first | apply Kd.S_alloc | apply Kd.S_drewN | apply Kd.S_drew)); exact (Kd.S_mono (Kd.S_far (p := ⟨gb145, 1, none⟩) (Kd.S_far (p := ⟨gb145, 2, none⟩) (Kd.S_types HO164.out BK145.out (by decide)) (fun _ hk => hk.2) (.slice Ao88 y162.length co88)) (fun _ hk => hk.2) (.int .i64 (x5_1.length : Int))) (fun _ h_ => h_.1)))); (case side2 => exact (Kd.S_reads' HO164.out).2.1); rintro e w90 ⟨rfl, hb⟩; refine ⟨_, rfl, ?_⟩; have n0_ := A_ (Kd.S_below (by (with_reducible repeat (first | apply Kd.S_alloc | apply Kd.S_drewN | apply Kd.S_drew)); exact (Kd.S_mono (Kd.S_far (p := ⟨gb145, 1, none⟩) (Kd.S_far (p := ⟨gb145, 2, none⟩) (Kd.S_types HO164.out BK145.out (by decide)) (fun _ hk => hk.2) (.slice Ao88 y162.length co88)) (fun _ hk => hk.2) (.int .i64 (x5_1.length : Int))) (fun _ h_ => h_.1))) hb); have n1_ := A_ (blk_below (g := gb144) (o := .cells #[.int .i64 0, .int .i64 0, .slice none 0 0] 24 (0, 0)) (by refine pk_ ?_; refine blk_far ?_ NB144_145.out _; refine pk_ ?_; refine blk_far ?_ NB144_145.out _; exact pk_ BK144.out) hb); have n2_ := A_ (blk_below (g := gb145) (o := .cells #[.int .i64 x146000_1, .int .i64 (x5_1.length : Int), .slice Ao88 y162.length co88] 24 (0, 0)) (by refine pk_ ?_; refine blk_put (cs := #[.int .i64 x146000_1, .int .i64 0, .slice Ao88 y162.length co88]) ?_ 1 _ rfl; refine pk_ ?_; refine blk_put (cs := #[.int .i64 x146000_1, .int .i64 0, u146002]) ?_ 2 _ rfl; exact pk_ BK145.out) hb); have n3_ := A_ (below_step (bk_ HB.out) hb); clear HO164 BK144 BK145 HB; have HO164 := n0_; have BK144 := n1_; have BK145 := n2_; have HB := n3_; clear n0_ n1_ n2_ n3_; (try clear hb); (try clear hb2); (try clear hk); (try clear hi); have hcz91_0 : w90.cell? ⟨gb145, 0, none⟩ = some (.int .i64 x146000_1) := (blk_cell BK145.out 0).trans rfl; have hcz91_1 : w90.cell? ⟨gb145, 1, none⟩ = some (.int .i64 (x5_1.length : Int)) := (blk_cell BK145.out 1).trans rfl; have hcz91_2 : w90.cell? ⟨gb145, 2, none⟩ = some (.slice Ao88 y162.length co88) := (blk_cell BK145.out 2).trans rfl; have hfz91_0 := blk_frozen BK145.out 0; have hfz91_1 := blk_frozen BK145.out 1; have hfz91_2 := blk_frozen BK145.out 2) | (go_at_call 34; (with_reducible refine (standstillref01_Text.calls kj1 x146000_1 (x5_1.length : Int) _ _ y162 t166 _ ?side1 ?side2 A82.out).mono ?_); (case side1 => repeat (first | exact (Kd.S_reads' HO164.out).2.2 | (with_reducible refine Kd.C_alloc ?_ _) | (with_reducible refine Kd.C_drewN ?_ _) | (with_reducible refine Kd.C_drew ?_))); (case side2 => exact (Kd.S_reads' HO164.out).2.1); rintro e w92 ⟨rfl, hb⟩; have n0_ := A_ (Kd.S_below (by (with_reducible repeat (first | apply Kd.S_alloc | apply Kd.S_drewN | apply Kd.S_drew)); exact HO164.out) hb); have n1_ := A_ (blk_below (pk_ BK144.out) hb); have n2_ := A_ (blk_below (pk_ BK145.out) hb); have n3_ := A_ (below_step (bk_ HB.out) hb); clear HO164 BK144 BK145 HB; have HO164 := n0_; have BK144 := n1_; have BK145 := n2_; have HB := n3_; clear n0_ n1_ n2_ n3_; (try clear hb); (try clear hb2); (try clear hk); (try clear hi); have hcz93_0 : w92.cell? ⟨gb145, 0, none⟩ = some (.int .i64 x146000_1) := (blk_cell BK145.out 0).trans rfl; have hcz93_1 : w92.cell? ⟨gb145, 1, none⟩ = some (.int .i64 (x5_1.length : Int)) := (blk_cell BK145.out 1).trans rfl; have hcz93_2 : w92.cell? ⟨gb145, 2, none⟩ = some (.slice Ao88 y162.length co88) := (blk_cell BK145.out 2).trans rfl; have hfz93_0 := blk_frozen BK145.out 0; have hfz93_1 := blk_frozen BK145.out 1; have hfz93_2 := blk_frozen BK145.out 2; have hcz94_0 : w92.cell? ⟨gb144, 0, none⟩ = some (.int .i64 0) := (blk_cell BK144.out 0).trans rfl; have hcz94_1 : w92.cell? ⟨gb144, 1, none⟩ = some (.int .i64 0) := (blk_cell BK144.out 1).trans rfl; have hcz94_2 : w92.cell? ⟨gb144, 2, none⟩ = some (.slice none 0 0) := (blk_cell BK144.out 2).trans rfl; have hfz94_0 := blk_frozen BK144.out 0; have hfz94_1 := blk_frozen BK144.out 1; have hfz94_2 := blk_frozen BK144.out 2))
      refine bodyPost_ret (results_ct rfl _ _ gb144 24 #[.int .i64 x146000_1, .int .i64 (x5_1.length : Int), .slice Ao88 y162.length co88] (0, 0) _ rfl (by refine pk_ ?_; refine blk_put (cs := #[.int .i64 x146000_1, .int .i64 (x5_1.length : Int), .slice none 0 0]) ?_ 2 _ rfl; refine pk_ ?_; refine blk_put (cs := #[.int .i64 x146000_1, .int .i64 0, .slice none 0 0]) ?_ 1 _ rfl; refine pk_ ?_; refine blk_put (cs := #[.int .i64 0, .int .i64 0, .slice none 0 0]) ?_ 0 _ rfl; exact pk_ BK144.out) Try.underlying24 rfl (by kernel_rfl)) rfl ?_
      exact ⟨_, er_, by (with_reducible repeat (first | apply Kd.S_alloc | apply Kd.S_drewN | apply Kd.S_drew)); exact Kd.S_mono (Kd.S_far (p := ⟨gb144, 2, none⟩) (Kd.S_far (p := ⟨gb144, 1, none⟩) (Kd.S_far (p := ⟨gb144, 0, none⟩) (Kd.S_types HO164.out BK144.out (by decide)) (fun _ hk => hk.2) (.int .i64 x146000_1)) (fun _ hk => hk.2) (.int .i64 (x5_1.length : Int))) (fun _ hk => hk.2) (.slice Ao88 y162.length co88)) (fun _ hk => trivial), bk_ HB.out⟩
     ·rw [if_neg c83] at H
      have c83b0 : (t166.toList == a0.toList) = false := beq_eq_false_iff_ne.mpr c83
      have c83b1 : (t166.toList != a0.toList) = true := bne_iff_ne.mpr c83
      simp only [Option.some.injEq, Prod.mk.injEq] at H
      obtain ⟨rfl, rfl, rfl, rfl⟩ := H
      have hnb95 := NB145_144.out
      have hnc95 := NB144_145.out
      have hcz96_0 : wc.cell? ⟨gb145, 0, none⟩ = some (.int .i64 x146000_1) := (blk_cell BK145.out 0).trans rfl
      have hcz96_1 : wc.cell? ⟨gb145, 1, none⟩ = some (.int .i64 0) := (blk_cell BK145.out 1).trans rfl
      have hcz96_2 : wc.cell? ⟨gb145, 2, none⟩ = some (u146002) := (blk_cell BK145.out 2).trans rfl
      have hfz96_0 := blk_frozen BK145.out 0
      have hfz96_1 := blk_frozen BK145.out 1
      have hfz96_2 := blk_frozen BK145.out 2
      obtain ⟨Ao98, co98, eo98⟩ := Kd.R_slice HO_5.out
      subst eo98
      go_wp2_with (first | ((with_reducible refine gate_builtin (b := .append) (xs := #[.tmp 71, .tmp 73]) rfl ?_); (try (refine gate_guard (by rfl) ?_; dsimp only)); at_builtin; refine Kd.S_append (Kd.slice 57 k57) (w0 := w) w.heap.size rfl (.tmp 71) (.tmp 73) 22 54 (.slice none 0 0) 24 rfl Try.underlying22 info54 rfl (by decide) (by omega) u146002 x146002_1 x5_1 [.slice Ao98 x5_1.length co98] (fun _ => True) (fun k_ => some k_ = (.slice Ao98 x5_1.length co98 : Value).ownBlock) rfl rfl ?aP (fun k_ hk_ => ((Kd.R_mono (ok' := fun k_ => ((fun _ => True)) k_ ∧ some k_ ≠ (u146002 : Value).ownBlock) (Kd.R_apart' (HO_5.out) (Kd.S_typed HO_146002.out) (by decide)) (fun k_ hk => ⟨trivial, hk.2⟩))).1 k_ hk_.symm) ?aF ?aO ?aB ?aS ?aL ?_; (case aP => exact Kd.M_row (Kd.R_mono (Kd.R_tight rfl (Kd.R_mono (ok' := fun k_ => ((fun _ => True)) k_ ∧ some k_ ≠ (u146002 : Value).ownBlock) (Kd.R_apart' (HO_5.out) (Kd.S_typed HO_146002.out) (by decide)) (fun k_ hk => ⟨trivial, hk.2⟩))) (fun _ h_ => h_))); (case aB => exact (bk_ HB.out)); (case aF => exact (fun _ _ => trivial)); (case aO => exact (by (with_reducible repeat (first | apply Kd.S_alloc | apply Kd.S_drewN | apply Kd.S_drew)); exact Kd.S_mono HO_146002.out (fun k_ hk => ⟨trivial, fun e_ => hk e_⟩))); (case aS => exact (below_size (bk_ HB.out))); (case aL => have := LMc79.out; omega); intro v163 w97 ho hb hg hat; rw [← Ny162.out] at ho; have n0_ := A_ (blk_grown (pk_ BK144.out) hg (Kd.S_ne HO_146002.out BK144.out (by decide))); have n1_ := A_ (blk_grown (pk_ BK145.out) hg (Kd.S_ne HO_146002.out BK145.out (by decide))); have n2_ := A_ (hb); have n3_ := A_ (ho); clear BK144 BK145 HB HO_146002 HO_5; have BK144 := n0_; have BK145 := n1_; have HB := n2_; have HO164 := n3_; clear n0_ n1_ n2_ n3_ ho hb hg hat; obtain ⟨Ao99, co99, eo99⟩ := Kd.S_slice HO164.out; subst eo99; have hcz100_0 : w97.cell? ⟨gb145, 0, none⟩ = some (.int .i64 x146000_1) := (blk_cell BK145.out 0).trans rfl; have hcz100_1 : w97.cell? ⟨gb145, 1, none⟩ = some (.int .i64 0) := (blk_cell BK145.out 1).trans rfl; have hcz100_2 : w97.cell? ⟨gb145, 2, none⟩ = some (u146002) := (blk_cell BK145.out 2).trans rfl; have hfz100_0 := blk_frozen BK145.out 0; have hfz100_1 := blk_frozen BK145.out 1; have hfz100_2 := blk_frozen BK145.out 2) | ((with_reducible refine gate_callee (f := 10) rfl ?_); refine goesL_ (some 80) rfl rfl Try.func10 (by kernel_rfl) rfl #[.agg #[.int .i64 x146000_1, .int .i64 (x5_1.length : Int), .slice Ao99 y162.length co99]] rfl gl_ ?_; (with_reducible refine (standstillref01_Valid.calls kj1 x146000_1 (x5_1.length : Int) _ _ y162 true _ ?side1 ?side2 A80.out).mono ?_); (case side1 => refine (Kd.S_reads' (e := 54) (base := w.heap.size) (ok := fun k_ => True) (n := y162.length) (c := co99) ?_).2.2; exact (by (with_reducible repeat (first | apply Kd.S_alloc | apply Kd.S_drewN | apply Kd.S_drew)); exact (Kd.S_mono (Kd.S_far (p := ⟨gb145, 1, none⟩) (Kd.S_far (p := ⟨gb145, 2, none⟩) (Kd.S_types HO164.out BK145.out (by decide)) (fun _ hk => hk.2) (.slice Ao99 y162.length co99)) (fun _ hk => hk.2) (.int .i64 (x5_1.length : Int))) (fun _ h_ => h_.1)))); (case side2 => exact (Kd.S_reads' HO164.out).2.1); rintro e w101 ⟨rfl, hb⟩; refine ⟨_, rfl, ?_⟩; have n0_ := A_ (Kd.S_below (by (with_reducible repeat (first | apply Kd.S_alloc | apply Kd.S_drewN | apply Kd.S_drew)); exact (Kd.S_mono (Kd.S_far (p := ⟨gb145, 1, none⟩) (Kd.S_far (p := ⟨gb145, 2, none⟩) (Kd.S_types HO164.out BK145.out (by decide)) (fun _ hk => hk.2) (.slice Ao99 y162.length co99)) (fun _ hk => hk.2) (.int .i64 (x5_1.length : Int))) (fun _ h_ => h_.1))) hb); have n1_ := A_ (blk_below (g := gb144) (o := .cells #[.int .i64 0, .int .i64 0, .slice none 0 0] 24 (0, 0)) (by refine pk_ ?_; refine blk_far ?_ NB144_145.out _; refine pk_ ?_; refine blk_far ?_ NB144_145.out _; exact pk_ BK144.out) hb); have n2_ := A_ (blk_below (g := gb145) (o := .cells #[.int .i64 x146000_1, .int .i64 (x5_1.length : Int), .slice Ao99 y162.length co99] 24 (0, 0)) (by refine pk_ ?_; refine blk_put (cs := #[.int .i64 x146000_1, .int .i64 0, .slice Ao99 y162.length co99]) ?_ 1 _ rfl; refine pk_ ?_; refine blk_put (cs := #[.int .i64 x146000_1, .int .i64 0, u146002]) ?_ 2 _ rfl; exact pk_ BK145.out) hb); have n3_ := A_ (below_step (bk_ HB.out) hb); clear HO164 BK144 BK145 HB; have HO164 := n0_; have BK144 := n1_; have BK145 := n2_; have HB := n3_; clear n0_ n1_ n2_ n3_; (try clear hb); (try clear hb2); (try clear hk); (try clear hi); have hcz102_0 : w101.cell? ⟨gb145, 0, none⟩ = some (.int .i64 x146000_1) := (blk_cell BK145.out 0).trans rfl; have hcz102_1 : w101.cell? ⟨gb145, 1, none⟩ = some (.int .i64 (x5_1.length : Int)) := (blk_cell BK145.out 1).trans rfl; have hcz102_2 : w101.cell? ⟨gb145, 2, none⟩ = some (.slice Ao99 y162.length co99) := (blk_cell BK145.out 2).trans rfl; have hfz102_0 := blk_frozen BK145.out 0; have hfz102_1 := blk_frozen BK145.out 1; have hfz102_2 := blk_frozen BK145.out 2) | (go_at_call 34; (with_reducible refine (standstillref01_Text.calls kj1 x146000_1 (x5_1.length : Int) _ _ y162 t166 _ ?side1 ?side2 A82.out).mono ?_); (case side1 => repeat (first | exact (Kd.S_reads' HO164.out).2.2 | (with_reducible refine Kd.C_alloc ?_ _) | (with_reducible refine Kd.C_drewN ?_ _) | (with_reducible refine Kd.C_drew ?_))); (case side2 => exact (Kd.S_reads' HO164.out).2.1); rintro e w103 ⟨rfl, hb⟩; have n0_ := A_ (Kd.S_below (by (with_reducible repeat (first | apply Kd.S_alloc | apply Kd.S_drewN | apply Kd.S_drew)); exact HO164.out) hb); have n1_ := A_ (blk_below (pk_ BK144.out) hb); have n2_ := A_ (blk_below (pk_ BK145.out) hb); have n3_ := A_ (below_step (bk_ HB.out) hb); clear HO164 BK144 BK145 HB; have HO164 := n0_; have BK144 := n1_; have BK145 := n2_; have HB := n3_; clear n0_ n1_ n2_ n3_; (try clear hb); (try clear hb2); (try clear hk); (try clear hi); have hcz104_0 : w103.cell? ⟨gb144, 0, none⟩ = some (.int .i64 0) := (blk_cell BK144.out 0).trans rfl; have hcz104_1 : w103.cell? ⟨gb144, 1, none⟩ = some (.int .i64 0) := (blk_cell BK144.out 1).trans rfl; have hcz104_2 : w103.cell? ⟨gb144, 2, none⟩ = some (.slice none 0 0) := (blk_cell BK144.out 2).trans rfl; have hfz104_0 := blk_frozen BK144.out 0; have hfz104_1 := blk_frozen BK144.out 1; have hfz104_2 := blk_frozen BK144.out 2))
      refine bodyPost_ret (results_ct rfl _ _ gb144 24 #[.int .i64 0, .int .i64 0, .slice none 0 0] (0, 0) _ rfl (by refine pk_ ?_; refine blk_put (cs := #[.int .i64 0, .int .i64 0, .slice none 0 0]) ?_ 2 _ rfl; refine pk_ ?_; refine blk_put (cs := #[.int .i64 0, .int .i64 0, .slice none 0 0]) ?_ 1 _ rfl; refine pk_ ?_; refine blk_put (cs := #[.int .i64 0, .int .i64 0, .slice none 0 0]) ?_ 0 _ rfl; exact pk_ BK144.out) Try.underlying24 rfl (by kernel_rfl)) rfl ?_
      exact ⟨_, er_, by first | exact Kd.S_nil _ _ _ _ _ | exact Kd.N_nil _ _ _ _ _ | exact Kd.V_nil _ _ _ _ _ | exact Kd.Q_nil _ _ _ _ _ | exact Kd.R_nil _ _ _ _ _, bk_ HB.out⟩
    ·replace c81 := Bool.eq_false_iff.mpr c81
     subst c81
     have H1 : (some (0, 0, ([] : List (List (S57))), false)) = some (r1, r2, r3, r4) := by rw [if_neg (show ¬ (false = true) by decide)] at H; exact H
     clear H
     have H := H1
     clear H1
     simp only [Option.some.injEq, Prod.mk.injEq] at H
     obtain ⟨rfl, rfl, rfl, rfl⟩ := H
     have hnb105 := NB145_144.out
     have hnc105 := NB144_145.out
     have hcz106_0 : wc.cell? ⟨gb145, 0, none⟩ = some (.int .i64 x146000_1) := (blk_cell BK145.out 0).trans rfl
     have hcz106_1 : wc.cell? ⟨gb145, 1, none⟩ = some (.int .i64 0) := (blk_cell BK145.out 1).trans rfl
     have hcz106_2 : wc.cell? ⟨gb145, 2, none⟩ = some (u146002) := (blk_cell BK145.out 2).trans rfl
     have hfz106_0 := blk_frozen BK145.out 0
     have hfz106_1 := blk_frozen BK145.out 1
     have hfz106_2 := blk_frozen BK145.out 2
     obtain ⟨Ao108, co108, eo108⟩ := Kd.R_slice HO_5.out
     subst eo108
     go_wp2_with (first | ((with_reducible refine gate_builtin (b := .append) (xs := #[.tmp 71, .tmp 73]) rfl ?_); (try (refine gate_guard (by rfl) ?_; dsimp only)); at_builtin; refine Kd.S_append (Kd.slice 57 k57) (w0 := w) w.heap.size rfl (.tmp 71) (.tmp 73) 22 54 (.slice none 0 0) 24 rfl Try.underlying22 info54 rfl (by decide) (by omega) u146002 x146002_1 x5_1 [.slice Ao108 x5_1.length co108] (fun _ => True) (fun k_ => some k_ = (.slice Ao108 x5_1.length co108 : Value).ownBlock) rfl rfl ?aP (fun k_ hk_ => ((Kd.R_mono (ok' := fun k_ => ((fun _ => True)) k_ ∧ some k_ ≠ (u146002 : Value).ownBlock) (Kd.R_apart' (HO_5.out) (Kd.S_typed HO_146002.out) (by decide)) (fun k_ hk => ⟨trivial, hk.2⟩))).1 k_ hk_.symm) ?aF ?aO ?aB ?aS ?aL ?_; (case aP => exact Kd.M_row (Kd.R_mono (Kd.R_tight rfl (Kd.R_mono (ok' := fun k_ => ((fun _ => True)) k_ ∧ some k_ ≠ (u146002 : Value).ownBlock) (Kd.R_apart' (HO_5.out) (Kd.S_typed HO_146002.out) (by decide)) (fun k_ hk => ⟨trivial, hk.2⟩))) (fun _ h_ => h_))); (case aB => exact (bk_ HB.out)); (case aF => exact (fun _ _ => trivial)); (case aO => exact (by (with_reducible repeat (first | apply Kd.S_alloc | apply Kd.S_drewN | apply Kd.S_drew)); exact Kd.S_mono HO_146002.out (fun k_ hk => ⟨trivial, fun e_ => hk e_⟩))); (case aS => exact (below_size (bk_ HB.out))); (case aL => have := LMc79.out; omega); intro v163 w107 ho hb hg hat; rw [← Ny162.out] at ho; have n0_ := A_ (blk_grown (pk_ BK144.out) hg (Kd.S_ne HO_146002.out BK144.out (by decide))); have n1_ := A_ (blk_grown (pk_ BK145.out) hg (Kd.S_ne HO_146002.out BK145.out (by decide))); have n2_ := A_ (hb); have n3_ := A_ (ho); clear BK144 BK145 HB HO_146002 HO_5; have BK144 := n0_; have BK145 := n1_; have HB := n2_; have HO164 := n3_; clear n0_ n1_ n2_ n3_ ho hb hg hat; obtain ⟨Ao109, co109, eo109⟩ := Kd.S_slice HO164.out; subst eo109; have hcz110_0 : w107.cell? ⟨gb145, 0, none⟩ = some (.int .i64 x146000_1) := (blk_cell BK145.out 0).trans rfl; have hcz110_1 : w107.cell? ⟨gb145, 1, none⟩ = some (.int .i64 0) := (blk_cell BK145.out 1).trans rfl; have hcz110_2 : w107.cell? ⟨gb145, 2, none⟩ = some (u146002) := (blk_cell BK145.out 2).trans rfl; have hfz110_0 := blk_frozen BK145.out 0; have hfz110_1 := blk_frozen BK145.out 1; have hfz110_2 := blk_frozen BK145.out 2) | ((with_reducible refine gate_callee (f := 10) rfl ?_); refine goesL_ (some 80) rfl rfl Try.func10 (by kernel_rfl) rfl #[.agg #[.int .i64 x146000_1, .int .i64 (x5_1.length : Int), .slice Ao109 y162.length co109]] rfl gl_ ?_; (with_reducible refine (standstillref01_Valid.calls kj1 x146000_1 (x5_1.length : Int) _ _ y162 false _ ?side1 ?side2 A80.out).mono ?_); (case side1 => refine (Kd.S_reads' (e := 54) (base := w.heap.size) (ok := fun k_ => True) (n := y162.length) (c := co109) ?_).2.2; exact (by (with_reducible repeat (first | apply Kd.S_alloc | apply Kd.S_drewN | apply Kd.S_drew)); exact (Kd.S_mono (Kd.S_far (p := ⟨gb145, 1, none⟩) (Kd.S_far (p := ⟨gb145, 2, none⟩) (Kd.S_types HO164.out BK145.out (by decide)) (fun _ hk => hk.2) (.slice Ao109 y162.length co109)) (fun _ hk => hk.2) (.int .i64 (x5_1.length : Int))) (fun _ h_ => h_.1)))); (case side2 => exact (Kd.S_reads' HO164.out).2.1); rintro e w111 ⟨rfl, hb⟩; refine ⟨_, rfl, ?_⟩; have n0_ := A_ (Kd.S_below (by (with_reducible repeat (first | apply Kd.S_alloc | apply Kd.S_drewN | apply Kd.S_drew)); exact (Kd.S_mono (Kd.S_far (p := ⟨gb145, 1, none⟩) (Kd.S_far (p := ⟨gb145, 2, none⟩) (Kd.S_types HO164.out BK145.out (by decide)) (fun _ hk => hk.2) (.slice Ao109 y162.length co109)) (fun _ hk => hk.2) (.int .i64 (x5_1.length : Int))) (fun _ h_ => h_.1))) hb); have n1_ := A_ (blk_below (g := gb144) (o := .cells #[.int .i64 0, .int .i64 0, .slice none 0 0] 24 (0, 0)) (by refine pk_ ?_; refine blk_far ?_ NB144_145.out _; refine pk_ ?_; refine blk_far ?_ NB144_145.out _; exact pk_ BK144.out) hb); have n2_ := A_ (blk_below (g := gb145) (o := .cells #[.int .i64 x146000_1, .int .i64 (x5_1.length : Int), .slice Ao109 y162.length co109] 24 (0, 0)) (by refine pk_ ?_; refine blk_put (cs := #[.int .i64 x146000_1, .int .i64 0, .slice Ao109 y162.length co109]) ?_ 1 _ rfl; refine pk_ ?_; refine blk_put (cs := #[.int .i64 x146000_1, .int .i64 0, u146002]) ?_ 2 _ rfl; exact pk_ BK145.out) hb); have n3_ := A_ (below_step (bk_ HB.out) hb); clear HO164 BK144 BK145 HB; have HO164 := n0_; have BK144 := n1_; have BK145 := n2_; have HB := n3_; clear n0_ n1_ n2_ n3_; (try clear hb); (try clear hb2); (try clear hk); (try clear hi); have hcz112_0 : w111.cell? ⟨gb144, 0, none⟩ = some (.int .i64 0) := (blk_cell BK144.out 0).trans rfl; have hcz112_1 : w111.cell? ⟨gb144, 1, none⟩ = some (.int .i64 0) := (blk_cell BK144.out 1).trans rfl; have hcz112_2 : w111.cell? ⟨gb144, 2, none⟩ = some (.slice none 0 0) := (blk_cell BK144.out 2).trans rfl; have hfz112_0 := blk_frozen BK144.out 0; have hfz112_1 := blk_frozen BK144.out 1; have hfz112_2 := blk_frozen BK144.out 2))
     refine bodyPost_ret (results_ct rfl _ _ gb144 24 #[.int .i64 0, .int .i64 0, .slice none 0 0] (0, 0) _ rfl (by refine pk_ ?_; refine blk_put (cs := #[.int .i64 0, .int .i64 0, .slice none 0 0]) ?_ 2 _ rfl; refine pk_ ?_; refine blk_put (cs := #[.int .i64 0, .int .i64 0, .slice none 0 0]) ?_ 1 _ rfl; refine pk_ ?_; refine blk_put (cs := #[.int .i64 0, .int .i64 0, .slice none 0 0]) ?_ 0 _ rfl; exact pk_ BK144.out) Try.underlying24 rfl (by kernel_rfl)) rfl ?_
     exact ⟨_, er_, by first | exact Kd.S_nil _ _ _ _ _ | exact Kd.N_nil _ _ _ _ _ | exact Kd.V_nil _ _ _ _ _ | exact Kd.Q_nil _ _ _ _ _ | exact Kd.R_nil _ _ _ _ _, bk_ HB.out⟩
   ·rw [if_neg c79] at H
    exact absurd H (by simp)

end Go.Proofs.Ytcdejoaekkcknaa.PBlockParts
