-- out of a turned copy of the print, by a program of this session; Lean checks it
import Derived.Test.YtdkcociababjdaaPLeapLongx0
import Derived.Test.YtdkcociababjdaaPLeapLongx2
import Derived.Test.YtdkcociababjdaaPLeapLongx8
namespace Go.Proofs.Ytdkcociababjdaa.PLeapLong
open Go.RowKit Go.Proofs.YtdkcociababjdaaW.PrintWords Go.Proofs.YtdkcociababjdaaW.PrintLast Go.Proofs.YtdkcociababjdaaW.PrintMore
attribute [local go_sem] max2_int min2_int max_two min_two max_three min_three max_four min_four   -- for this text's walks alone
set_option linter.unusedVariables false
set_option linter.unusedSimpArgs false

attribute [local go_sem] isSome_put_
/-! ### standstillref01_Parse: function 54 -/
mutual
def standstillref01_Parse.j3 : Nat → ByteArray → List (S37) → Int → Int → List (List (S37)) → Option (Int × Int × (List (List (S37))) × Bool)
 | 0, _, _, _, _, _ => none
 | k + 1, x0, x5, x182000, x182001, x182002 => if x182002.length < 5864062014805 then ((some (x182002 ++ [x5] : List (List (S37)))).bind fun y198 => ((standstillref01_Valid.f k x182000 (x5.length : Int) y198).bind fun t201 => (if t201 = true then ((standstillref01_Text.f k x182000 (x5.length : Int) y198).bind fun t202 => (if t202.toList = x0.toList then (some (x182000, (x5.length : Int), y198, true)) else (some (0, 0, ([] : List (List (S37))), false)))) else (some (0, 0, ([] : List (List (S37))), false))))) else (none)
def standstillref01_Parse.l0 : Nat → ByteArray → List (S37) → Int → Int → Int → List (List (S37)) → Option (Int × Int × (List (List (S37))) × Bool)
 | 0, _, _, _, _, _, _ => none
 | k + 1, x0, x5, x6, x182000, x182001, x182002 => if (wrap64 (x6 + 2)) < (x0.size : Int) then (standstillref01_Parse.j1 k x0 x5 x6 (decide ((x0.size : Int) ≤ 200)) x182000 x182001 x182002) else (standstillref01_Parse.j1 k x0 x5 x6 false x182000 x182001 x182002)
def standstillref01_Parse.j1 : Nat → ByteArray → List (S37) → Int → Bool → Int → Int → List (List (S37)) → Option (Int × Int × (List (List (S37))) × Bool)
 | 0, _, _, _, _, _, _, _ => none
 | k + 1, x0, x5, x6, x18, x182000, x182001, x182002 => if x18 = true then (if 0 ≤ x6 then (if x6 < (x0.size : Int) then (if (bt x0 x6) = 95 then (if x182002.length < 5864062014805 then (standstillref01_Parse.j2 k x0 ([] : List (S37)) (wrap64 (x6 + 1)) (wrap64 (x182000 + 1)) x182001 (x182002 ++ [x5])) else (none)) else (standstillref01_Parse.j2 k x0 x5 x6 x182000 x182001 x182002)) else (none)) else (none)) else (standstillref01_Parse.j3 k x0 x5 x182000 x182001 x182002)
def standstillref01_Parse.j2 : Nat → ByteArray → List (S37) → Int → Int → Int → List (List (S37)) → Option (Int × Int × (List (List (S37))) × Bool)
 | 0, _, _, _, _, _, _ => none
 | k + 1, x0, x5, x6, x182000, x182001, x182002 => if (wrap64 (x6 + 2)) ≥ (x0.size : Int) then (standstillref01_Parse.j3 k x0 x5 x182000 x182001 x182002) else (if 0 ≤ x6 then (if x6 < (x0.size : Int) then (if 0 ≤ (wrap64 (x6 + 2)) then (if (wrap64 (x6 + 2)) < (x0.size : Int) then (if 0 ≤ (wrap64 (x6 + 1)) then (if (wrap64 (x6 + 1)) < (x0.size : Int) then (if (bt x0 (wrap64 (x6 + 1))) = 76 then (if (bt x0 (wrap64 (x6 + 2))) = 90 then (if x5.length < 5864062014805 then (standstillref01_Parse.l0 k x0 (x5 ++ [(⟨wrap64 ((wrap64 (bt x0 x6)) - 48), (-1), (-1)⟩ : S37)]) (wrap64 (x6 + 3)) x182000 x182001 x182002) else (none)) else (if x5.length < 5864062014805 then (standstillref01_Parse.l0 k x0 (x5 ++ [(⟨wrap64 ((wrap64 (bt x0 x6)) - 48), (-1), wrap64 ((wrap64 (bt x0 (wrap64 (x6 + 2)))) - 65)⟩ : S37)]) (wrap64 (x6 + 3)) x182000 x182001 x182002) else (none))) else (if (bt x0 (wrap64 (x6 + 2))) = 90 then (if x5.length < 5864062014805 then (standstillref01_Parse.l0 k x0 (x5 ++ [(⟨wrap64 ((wrap64 (bt x0 x6)) - 48), 1, (-1)⟩ : S37)]) (wrap64 (x6 + 3)) x182000 x182001 x182002) else (none)) else (if x5.length < 5864062014805 then (standstillref01_Parse.l0 k x0 (x5 ++ [(⟨wrap64 ((wrap64 (bt x0 x6)) - 48), 1, wrap64 ((wrap64 (bt x0 (wrap64 (x6 + 2)))) - 65)⟩ : S37)]) (wrap64 (x6 + 3)) x182000 x182001 x182002) else (none)))) else (none)) else (none)) else (none)) else (none)) else (none)) else (none))
end
def standstillref01_Parse.f (k : Nat) (a0 : ByteArray) : Option (Int × Int × (List (List (S37))) × Bool) := standstillref01_Parse.l0 k a0 ([] : List (S37)) 0 1 0 ([] : List (List (S37)))
theorem standstillref01_Parse.mono_l : ∀ k, (∀ y0 y1 y2 y3 y4, LeO (standstillref01_Parse.j3 k y0 y1 y2 y3 y4) (standstillref01_Parse.j3 (k + 1) y0 y1 y2 y3 y4)) ∧ (∀ y0 y1 y2 y3 y4 y5, LeO (standstillref01_Parse.l0 k y0 y1 y2 y3 y4 y5) (standstillref01_Parse.l0 (k + 1) y0 y1 y2 y3 y4 y5)) ∧ (∀ y0 y1 y2 y3 y4 y5 y6, LeO (standstillref01_Parse.j1 k y0 y1 y2 y3 y4 y5 y6) (standstillref01_Parse.j1 (k + 1) y0 y1 y2 y3 y4 y5 y6)) ∧ (∀ y0 y1 y2 y3 y4 y5, LeO (standstillref01_Parse.j2 k y0 y1 y2 y3 y4 y5) (standstillref01_Parse.j2 (k + 1) y0 y1 y2 y3 y4 y5))
 | 0 => ⟨fun _ _ _ _ _ r h => by simp [standstillref01_Parse.j3] at h, fun _ _ _ _ _ _ r h => by simp [standstillref01_Parse.l0] at h, fun _ _ _ _ _ _ _ r h => by simp [standstillref01_Parse.j1] at h, fun _ _ _ _ _ _ r h => by simp [standstillref01_Parse.j2] at h⟩
 | k + 1 => by
  obtain ⟨ih0, ih1, ih2, ih3⟩ := standstillref01_Parse.mono_l k
  refine ⟨?_, ?_, ?_, ?_⟩
  ·intro y0 y1 y2 y3 y4
   unfold standstillref01_Parse.j3
   repeat' first
   | (with_reducible exact ih0 _ _ _ _ _)
   | (with_reducible exact ih1 _ _ _ _ _ _)
   | (with_reducible exact ih2 _ _ _ _ _ _ _)
   | (with_reducible exact ih3 _ _ _ _ _ _)
   | (with_reducible exact standstillref01_Text.mono _ _ _ _)
   | (with_reducible exact standstillref01_Valid.mono _ _ _ _)
   | (with_reducible exact LeO.refl _)
   | (with_reducible exact LeO.none _)
   | (with_reducible refine LeO.ite ?_ ?_)
   | (with_reducible refine LeO.bind ?_ (fun _ => ?_))
   | exact ih0 _ _ _ _ _
   | exact ih1 _ _ _ _ _ _
   | exact ih2 _ _ _ _ _ _ _
   | exact ih3 _ _ _ _ _ _
   | exact standstillref01_Text.mono _ _ _ _
   | exact standstillref01_Valid.mono _ _ _ _
   | exact LeO.none _
   | refine LeO.ite ?_ ?_
   | refine LeO.bind ?_ (fun _ => ?_)
  ·intro y0 y1 y2 y3 y4 y5
   unfold standstillref01_Parse.l0
   repeat' first
   | (with_reducible exact ih0 _ _ _ _ _)
   | (with_reducible exact ih1 _ _ _ _ _ _)
   | (with_reducible exact ih2 _ _ _ _ _ _ _)
   | (with_reducible exact ih3 _ _ _ _ _ _)
   | (with_reducible exact standstillref01_Text.mono _ _ _ _)
   | (with_reducible exact standstillref01_Valid.mono _ _ _ _)
   | (with_reducible exact LeO.refl _)
   | (with_reducible exact LeO.none _)
   | (with_reducible refine LeO.ite ?_ ?_)
   | (with_reducible refine LeO.bind ?_ (fun _ => ?_))
   | exact ih0 _ _ _ _ _
   | exact ih1 _ _ _ _ _ _
   | exact ih2 _ _ _ _ _ _ _
   | exact ih3 _ _ _ _ _ _
   | exact standstillref01_Text.mono _ _ _ _
   | exact standstillref01_Valid.mono _ _ _ _
   | exact LeO.none _
   | refine LeO.ite ?_ ?_
   | refine LeO.bind ?_ (fun _ => ?_)
  ·intro y0 y1 y2 y3 y4 y5 y6
   unfold standstillref01_Parse.j1
   repeat' first
   | (with_reducible exact ih0 _ _ _ _ _)
   | (with_reducible exact ih1 _ _ _ _ _ _)
   | (with_reducible exact ih2 _ _ _ _ _ _ _)
   | (with_reducible exact ih3 _ _ _ _ _ _)
   | (with_reducible exact standstillref01_Text.mono _ _ _ _)
   | (with_reducible exact standstillref01_Valid.mono _ _ _ _)
   | (with_reducible exact LeO.refl _)
   | (with_reducible exact LeO.none _)
   | (with_reducible refine LeO.ite ?_ ?_)
   | (with_reducible refine LeO.bind ?_ (fun _ => ?_))
   | exact ih0 _ _ _ _ _
   | exact ih1 _ _ _ _ _ _
   | exact ih2 _ _ _ _ _ _ _
   | exact ih3 _ _ _ _ _ _
   | exact standstillref01_Text.mono _ _ _ _
   | exact standstillref01_Valid.mono _ _ _ _
   | exact LeO.none _
   | refine LeO.ite ?_ ?_
   | refine LeO.bind ?_ (fun _ => ?_)
  ·intro y0 y1 y2 y3 y4 y5
   unfold standstillref01_Parse.j2
   repeat' first
   | (with_reducible exact ih0 _ _ _ _ _)
   | (with_reducible exact ih1 _ _ _ _ _ _)
   | (with_reducible exact ih2 _ _ _ _ _ _ _)
   | (with_reducible exact ih3 _ _ _ _ _ _)
   | (with_reducible exact standstillref01_Text.mono _ _ _ _)
   | (with_reducible exact standstillref01_Valid.mono _ _ _ _)
   | (with_reducible exact LeO.refl _)
   | (with_reducible exact LeO.none _)
   | (with_reducible refine LeO.ite ?_ ?_)
   | (with_reducible refine LeO.bind ?_ (fun _ => ?_))
   | exact ih0 _ _ _ _ _
   | exact ih1 _ _ _ _ _ _
   | exact ih2 _ _ _ _ _ _ _
   | exact ih3 _ _ _ _ _ _
   | exact standstillref01_Text.mono _ _ _ _
   | exact standstillref01_Valid.mono _ _ _ _
   | exact LeO.none _
   | refine LeO.ite ?_ ?_
   | refine LeO.bind ?_ (fun _ => ?_)
theorem standstillref01_Parse.mono : ∀ a0 k, LeO (standstillref01_Parse.f k a0) (standstillref01_Parse.f (k + 1) a0) := by
 intro a0 k
 obtain ⟨ih0, ih1, ih2, ih3⟩ := standstillref01_Parse.mono_l k
 unfold standstillref01_Parse.f
 repeat' first
   | (with_reducible exact ih0 _ _ _ _ _)
   | (with_reducible exact ih1 _ _ _ _ _ _)
   | (with_reducible exact ih2 _ _ _ _ _ _ _)
   | (with_reducible exact ih3 _ _ _ _ _ _)
   | (with_reducible exact standstillref01_Text.mono _ _ _ _)
   | (with_reducible exact standstillref01_Valid.mono _ _ _ _)
   | (with_reducible exact LeO.refl _)
   | (with_reducible exact LeO.none _)
   | (with_reducible refine LeO.ite ?_ ?_)
   | (with_reducible refine LeO.bind ?_ (fun _ => ?_))
   | exact ih0 _ _ _ _ _
   | exact ih1 _ _ _ _ _ _
   | exact ih2 _ _ _ _ _ _ _
   | exact ih3 _ _ _ _ _ _
   | exact standstillref01_Text.mono _ _ _ _
   | exact standstillref01_Valid.mono _ _ _ _
   | exact LeO.none _
   | refine LeO.ite ?_ ?_
   | refine LeO.bind ?_ (fun _ => ?_)
def standstillref01_Parse.T12 : Bool × List (List Nat × List Nat) := (true, [([], []), ([], []), ([0, 1], [0, 1]), ([2], [2]), ([3], [3]), ([], []), ([], []), ([6], [6]), ([5, 7], [5, 7]), ([8], [8]), ([9], [9]), ([4, 10], [4, 10]), ([], []), ([12, 11, 0, 1, 2, 3, 4, 5, 6, 7, 8, 9, 10, 11, 12], [11, 12])])
def standstillref01_Parse.B12 : List Nat := [0, 0, 3, 7, 15, 0, 0, 64, 224, 480, 992, 2047, 0, 8191]
theorem standstillref01_Parse.tab12 : rtab .any (opsOf Try.f54 12) = standstillref01_Parse.T12 := by kernel_rfl
theorem standstillref01_Parse.bits12 : waitsOk standstillref01_Parse.T12.2 standstillref01_Parse.B12 = true := by kernel_rfl
set_option maxHeartbeats 8000000 in
set_option maxRecDepth 100000 in
theorem standstillref01_Parse.calls (k : Nat) (a0 : ByteArray) (r1 : Int) (r2 : Int) (r3 : List (List (S37))) (r4 : Bool) (w : World) (h : standstillref01_Parse.f k a0 = some (r1, r2, r3, r4)) :
  Calls Try.prog 54 #[.string a0] w fun e w' => ∃ v2_ : Value, e = .returned (.tuple #[.agg #[.int .i64 r1, .int .i64 r2, v2_], .bool r4]) ∧ Kd.S (Kd.slice 37 k37) 38 w' w.heap.size (fun _ => True) v2_ r3 ∧ Below w.heap.size w w' := by
 have hu24 := Try.underlying24
 have hu37 := Try.underlying37
 have HB := A_ (Below.refl w.heap.size w)
 have H : (standstillref01_Parse.l0 k a0 ([] : List (S37)) 0 1 0 ([] : List (List (S37)))) = some (r1, r2, r3, r4) := h
 clear h
 have HC2 := Aside0.mk H
 clear H
 go_enter Try.func54, Try.ntmps54
 go_upto_block 0 with (first | ((with_reducible refine gate_dst (N := 2) rfl ?_); (try (refine gate_guard (by rfl) ?_; dsimp only)); refine box_event ?hg (N := 2) ?hd (cs := #[.int .i64 0, .int .i64 0, .slice none 0 0]) (t := 24) ?hr ?_; (case hd => rfl); (case hg => rfl); (case hr => first | (go_simp; done) | (go_simp; rfl)); intro gb180 hg w3 hbox hb; have n0_ := A_ (below_step (bk_ HB.out) hb); have n1_ := A_ (hbox); have n2_ := A_ (bz_ hg (bk_ HB.out)); have n3_ := A_ (bz_ hg (bk_ HB.out)); clear HB; have HB := n0_; have BK180 := n1_; have GW180 := n2_; have GE180 := n3_; clear n0_ n1_ n2_ n3_ hb hbox hg) | ((with_reducible refine gate_dst (N := 4) rfl ?_); (try (refine gate_guard (by rfl) ?_; dsimp only)); refine box_event ?hg (N := 4) ?hd (cs := #[.int .i64 0, .int .i64 0, .slice none 0 0]) (t := 24) ?hr ?_; (case hd => rfl); (case hg => rfl); (case hr => first | (go_simp; done) | (go_simp; rfl)); intro gb181 hg w4 hbox hb; have n0_ := A_ (blk_below (pk_ BK180.out) hb); have n1_ := A_ (below_step (bk_ HB.out) hb); have n2_ := A_ (hbox); have n3_ := A_ (bz_ hg (bk_ HB.out)); have n4_ := A_ (bz_ hg (bk_ HB.out)); have n5_ := A_ (nl_ hg (pk_ BK180.out)); have n6_ := A_ (ng_ hg (pk_ BK180.out)); clear BK180 HB; have BK180 := n0_; have HB := n1_; have BK181 := n2_; have GW181 := n3_; have GE181 := n4_; have NB180_181 := n5_; have NB181_180 := n6_; clear n0_ n1_ n2_ n3_ n4_ n5_ n6_ hb hbox hg; have hnb5 := NB181_180.out; have hnc5 := NB180_181.out; obtain ⟨hcz6_0, hcz6_1, hcz6_2⟩ := bc3_ BK181.out; have hfz6_0 := blk_frozen BK181.out 0; have hfz6_1 := blk_frozen BK181.out 1; have hfz6_2 := blk_frozen BK181.out 2))
 (try simp only [Act.put, List.setIfInBounds_toArray, List.set_cons_zero, List.set_cons_succ])
 go_cut [5] (fun v5 wc => ∃ (kq : Nat) (x5_1 : List (S37)) (x182000_1 : Int) (x182002_1 : List (List (S37))) (u182002 : Value), Aside0 (standstillref01_Parse.j3 kq a0 x5_1 x182000_1 0 x182002_1 = some (r1, r2, r3, r4)) ∧ Aside0 (kq ≤ k) ∧ Aside0 (Kd.R k37 37 wc w.heap.size (fun _ => True) v5 x5_1) ∧ Aside0 (Kd.S (Kd.slice 37 k37) 38 wc w.heap.size (fun k_ => some k_ ≠ (v5 : Value).ownBlock) u182002 x182002_1) ∧ Aside0 (wc.heap[gb180]? = some (.cells #[.int .i64 0, .int .i64 0, (.slice none 0 0)] 24 (0, 0))) ∧ Aside0 (wc.heap[gb181]? = some (.cells #[.int .i64 x182000_1, .int .i64 0, u182002] 24 (0, 0))) ∧ Aside0 (Below w.heap.size w wc))
 case first => as_aux_lemma =>
  have H := HC2.out
  clear HC2
  have H' := Aside0.mk H
  clear H
  go_wp2
  go_loopg [5, 6] k (fun kq v5 v6 w' => ∃ (x5_1 : List (S37)) (x6_1 : Int) (x182000_1 : Int) (x182002_1 : List (List (S37))) (u182002 : Value), v6 = .int .i64 x6_1 ∧ Aside0 (standstillref01_Parse.l0 kq a0 x5_1 x6_1 x182000_1 0 x182002_1 = some (r1, r2, r3, r4)) ∧ Aside0 (kq ≤ k) ∧ Aside0 (Kd.R k37 37 w' w.heap.size (fun _ => True) v5 x5_1) ∧ Aside0 (Kd.S (Kd.slice 37 k37) 38 w' w.heap.size (fun k_ => some k_ ≠ (v5 : Value).ownBlock) u182002 x182002_1) ∧ Aside0 (w'.heap[gb180]? = some (.cells #[.int .i64 0, .int .i64 0, (.slice none 0 0)] 24 (0, 0))) ∧ Aside0 (w'.heap[gb181]? = some (.cells #[.int .i64 x182000_1, .int .i64 0, u182002] 24 (0, 0))) ∧ Aside0 (Below w.heap.size w w'))
  case atStart => exact ⟨(([] : List (S37))), (0), (1), (([] : List (List (S37)))), (.slice none 0 0), jr_, H', ⟨Nat.le_refl _⟩, ⟨by first | exact Kd.R_nil _ _ _ _ _ | exact Kd.N_nil _ _ _ _ _ | exact Kd.V_nil _ _ _ _ _ | exact Kd.Q_nil _ _ _ _ _ | exact Kd.S_nil _ _ _ _ _⟩, ⟨by first | exact Kd.S_nil _ _ _ _ _ | exact Kd.N_nil _ _ _ _ _ | exact Kd.V_nil _ _ _ _ _ | exact Kd.Q_nil _ _ _ _ _ | exact Kd.R_nil _ _ _ _ _⟩, ⟨by (iterate 3 (refine pk_ ?_; refine blk_far ?_ NB180_181.out _)); exact pk_ BK180.out⟩, ⟨by refine pk_ ?_; refine blk_put (cs := #[.int .i64 1, .int .i64 0, .slice none 0 0]) ?_ 2 _ rfl; refine pk_ ?_; refine blk_put (cs := #[.int .i64 1, .int .i64 0, .slice none 0 0]) ?_ 1 _ rfl; refine pk_ ?_; refine blk_put (cs := #[.int .i64 0, .int .i64 0, .slice none 0 0]) ?_ 0 _ rfl; exact pk_ BK181.out⟩, ⟨bk_ HB.out⟩⟩
  case round => as_aux_lemma =>
   clear H'
   (try clear hcz6_0); (try clear hcz6_1); (try clear hcz6_2); (try clear hfz6_0); (try clear hfz6_1); (try clear hfz6_2)
   obtain ⟨x5_1, x6_1, x182000_1, x182002_1, u182002, rfl, HA, HK1, HO_5, HO_182002, BK180, BK181, HB⟩ := hrel
   cases gk with
   | zero => exact absurd HA.out (by simp [standstillref01_Parse.l0])
   | succ k1 =>
    have H := HA.out
    clear HA
    simp only [standstillref01_Parse.l0] at H
    have HC7 := Aside0.mk H
    clear H
    go_upto_region 4 with (fail)
    go_cut [18] (fun v18 wc => ∃ (kq : Nat) (x18_6 : Bool), v18 = .bool x18_6 ∧ Aside0 (standstillref01_Parse.j1 kq a0 x5_1 x6_1 x18_6 x182000_1 0 x182002_1 = some (r1, r2, r3, r4)) ∧ Aside0 (kq ≤ k1) ∧ Aside0 (Kd.R k37 37 wc w.heap.size (fun _ => True) u5 x5_1) ∧ Aside0 (Kd.S (Kd.slice 37 k37) 38 wc w.heap.size (fun k_ => some k_ ≠ (u5 : Value).ownBlock) u182002 x182002_1) ∧ Aside0 (wc.heap[gb180]? = some (.cells #[.int .i64 0, .int .i64 0, (.slice none 0 0)] 24 (0, 0))) ∧ Aside0 (wc.heap[gb181]? = some (.cells #[.int .i64 x182000_1, .int .i64 0, u182002] 24 (0, 0))) ∧ Aside0 (Below w.heap.size w wc))
    case first => as_aux_lemma =>
     have H := HC7.out
     clear HC7
     by_cases c8 : (wrap64 (x6_1 + 2)) < (a0.size : Int)
     ·rw [if_pos c8] at H
      have c8b0 : decide ((wrap64 (x6_1 + 2)) < (a0.size : Int)) = true := decide_eq_true c8
      clear c8
      (first | rw [c8b0] | (simp only [i64_w, i32_w]; rw [c8b0]) | skip)
      have H' := Aside0.mk H
      clear H
      go_wp2
      go_meet
      case rel => exact ⟨_, (decide ((a0.size : Int) ≤ 200)), jr_, H', ⟨by have := HK1.out; first | omega | exact Nat.le_refl _⟩, ⟨rk_ HO_5.out⟩, ⟨by (with_reducible repeat (first | apply Kd.S_alloc | apply Kd.S_drewN | apply Kd.S_drew)); exact HO_182002.out⟩, ⟨pk_ BK180.out⟩, ⟨pk_ BK181.out⟩, ⟨bk_ HB.out⟩⟩
     ·rw [if_neg c8] at H
      have c8b0 : decide ((wrap64 (x6_1 + 2)) < (a0.size : Int)) = false := decide_eq_false c8
      clear c8
      (first | rw [c8b0] | (simp only [i64_w, i32_w]; rw [c8b0]) | skip)
      have H' := Aside0.mk H
      clear H
      go_wp2
      go_meet
      case rel => exact ⟨_, (false), jr_, H', ⟨by have := HK1.out; first | omega | exact Nat.le_refl _⟩, ⟨rk_ HO_5.out⟩, ⟨by (with_reducible repeat (first | apply Kd.S_alloc | apply Kd.S_drewN | apply Kd.S_drew)); exact HO_182002.out⟩, ⟨pk_ BK180.out⟩, ⟨pk_ BK181.out⟩, ⟨bk_ HB.out⟩⟩
    case rest => as_aux_lemma =>
     clear HC7
     (try clear hcz6_0); (try clear hcz6_1); (try clear hcz6_2); (try clear hfz6_0); (try clear hfz6_1); (try clear hfz6_2)
     obtain ⟨kq, x18_6, rfl, HA, HJ6, HO_5, HO_182002, BK180, BK181, HB⟩ := hcut
     cases kq with
     | zero => exact absurd HA.out (by simp [standstillref01_Parse.j1])
     | succ kj6 =>
      have H := HA.out
      clear HA
      simp only [standstillref01_Parse.j1] at H
      by_cases c9 : x18_6 = true
      ·subst c9
       have H1 : (if 0 ≤ x6_1 then (if x6_1 < (a0.size : Int) then (if (bt a0 x6_1) = 95 then (if x182002_1.length < 5864062014805 then (standstillref01_Parse.j2 kj6 a0 ([] : List (S37)) (wrap64 (x6_1 + 1)) (wrap64 (x182000_1 + 1)) 0 (x182002_1 ++ [x5_1])) else (none)) else (standstillref01_Parse.j2 kj6 a0 x5_1 x6_1 x182000_1 0 x182002_1)) else (none)) else (none)) = some (r1, r2, r3, r4) := by rw [if_pos rfl] at H; exact H
       clear H
       have H := H1
       clear H1
       by_cases c10 : 0 ≤ x6_1
       ·rw [if_pos c10] at H
        have c10b0 : decide (0 ≤ x6_1) = true := decide_eq_true c10
        clear c10
        by_cases c11 : x6_1 < (a0.size : Int)
        ·rw [if_pos c11] at H
         have c11b0 : decide (x6_1 < (a0.size : Int)) = true := decide_eq_true c11
         clear c11
         have HC13 := Aside0.mk H
         clear H
         have p12 : 0 ≤ (x6_1 : Int) := od_
         have q12 : x6_1 < (a0.size : Int) := od_
         have hx12 := bt_at a0 x6_1
         replace p12 := eq_true p12
         replace q12 := eq_true q12
         go_upto_if 24 with (fail)
         go_cut [5, 6] (fun v5 v6 wc => ∃ (kq : Nat) (x5_12 : List (S37)) (x6_12 : Int) (x182000_12 : Int) (x182002_12 : List (List (S37))) (u182002 : Value), v6 = .int .i64 x6_12 ∧ Aside0 (standstillref01_Parse.j2 kq a0 x5_12 x6_12 x182000_12 0 x182002_12 = some (r1, r2, r3, r4)) ∧ Aside0 (kq ≤ kj6) ∧ Aside0 (Kd.R k37 37 wc w.heap.size (fun _ => True) v5 x5_12) ∧ Aside0 (Kd.S (Kd.slice 37 k37) 38 wc w.heap.size (fun k_ => some k_ ≠ (v5 : Value).ownBlock) u182002 x182002_12) ∧ Aside0 (wc.heap[gb180]? = some (.cells #[.int .i64 0, .int .i64 0, (.slice none 0 0)] 24 (0, 0))) ∧ Aside0 (wc.heap[gb181]? = some (.cells #[.int .i64 x182000_12, .int .i64 0, u182002] 24 (0, 0))) ∧ Aside0 (Below w.heap.size w wc))
         case first => as_aux_lemma =>
          have H := HC13.out
          clear HC13
          by_cases c14 : (bt a0 x6_1) = 95
          ·rw [if_pos c14] at H
           have c14b0 : ((bt a0 x6_1) == 95) = true := beq_iff_eq.mpr c14
           have c14b1 : ((bt a0 x6_1) != 95) = false := bne_eq_false_iff_eq.mpr c14
           clear c14
           (first | rw [c14b0] | (simp only [i64_w, i32_w]; rw [c14b0]) | skip)
           by_cases c15 : x182002_1.length < 5864062014805
           ·rw [if_pos c15] at H
            have LMc15 := Aside0.mk c15
            clear c15
            obtain ⟨y182, hy182⟩ : ∃ y_ : List (List (S37)), y_ = (x182002_1 ++ [x5_1]) := ⟨_, rfl⟩
            replace H : (standstillref01_Parse.j2 kj6 a0 ([] : List (S37)) (wrap64 (x6_1 + 1)) (wrap64 (x182000_1 + 1)) 0 y182) = some (r1, r2, r3, r4) := by first | (rw [hy182]; with_reducible exact H) | (have H2_ := (Option.bind_some _ _).symm.trans H; rw [hy182]; with_reducible exact H2_) | (have H2_ := (Option.bind_some _ _).symm.trans H; with_reducible exact H2_) | with_reducible exact H | (rw [hy182]; exact H) | exact H
            have Ny182 := Aside0.mk hy182
            clear hy182
            have H' := Aside0.mk H
            clear H
            have hnb16 := NB181_180.out
            have hnc16 := NB180_181.out
            obtain ⟨hcz17_0, hcz17_1, hcz17_2⟩ := bc3_ BK181.out
            have hfz17_0 := blk_frozen BK181.out 0
            have hfz17_1 := blk_frozen BK181.out 1
            have hfz17_2 := blk_frozen BK181.out 2
            obtain ⟨Ao19, co19, eo19⟩ := Kd.R_slice HO_5.out
            subst eo19
            go_wp2_with (first | ((with_reducible refine gate_builtin (b := .append) (xs := #[.tmp 26, .tmp 28]) rfl ?_); (try (refine gate_guard (by rfl) ?_; dsimp only)); at_builtin; refine Kd.S_append (Kd.slice 37 k37) (w0 := w) w.heap.size rfl (.tmp 26) (.tmp 28) 22 38 (.slice none 0 0) 24 rfl Try.underlying22 info38 rfl (by decide) (by omega) u182002 x182002_1 x5_1 [.slice Ao19 x5_1.length co19] (fun _ => True) (fun k_ => some k_ = (.slice Ao19 x5_1.length co19 : Value).ownBlock) rfl rfl ?aP (fun k_ hk_ => ((Kd.R_mono (ok' := fun k_ => ((fun _ => True)) k_ ∧ some k_ ≠ (u182002 : Value).ownBlock) (Kd.R_apart' (HO_5.out) (Kd.S_typed HO_182002.out) (by decide)) (fun k_ hk => ⟨trivial, hk.2⟩))).1 k_ hk_.symm) ?aF ?aO ?aB ?aS ?aL ?_; (case aP => exact Kd.M_row (Kd.R_mono (Kd.R_tight rfl (Kd.R_mono (ok' := fun k_ => ((fun _ => True)) k_ ∧ some k_ ≠ (u182002 : Value).ownBlock) (Kd.R_apart' (HO_5.out) (Kd.S_typed HO_182002.out) (by decide)) (fun k_ hk => ⟨trivial, hk.2⟩))) (fun _ h_ => h_))); (case aB => exact (bk_ HB.out)); (case aF => exact (fun _ _ => trivial)); (case aO => exact (by (with_reducible repeat (first | apply Kd.S_alloc | apply Kd.S_drewN | apply Kd.S_drew)); exact Kd.S_mono HO_182002.out (fun k_ hk => ⟨trivial, fun e_ => hk e_⟩))); (case aS => exact (below_size (bk_ HB.out))); (case aL => have := LMc15.out; omega); intro v183 w18 ho hb hg hat; rw [← Ny182.out] at ho; have n0_ := A_ (blk_grown (pk_ BK180.out) hg (Kd.S_ne HO_182002.out BK180.out (by decide))); have n1_ := A_ (blk_grown (pk_ BK181.out) hg (Kd.S_ne HO_182002.out BK181.out (by decide))); have n2_ := A_ (hb); have n3_ := A_ (ho); clear BK180 BK181 HB HO_182002 HO_5; have BK180 := n0_; have BK181 := n1_; have HB := n2_; have HO184 := n3_; clear n0_ n1_ n2_ n3_ ho hb hg hat; obtain ⟨Ao20, co20, eo20⟩ := Kd.S_slice HO184.out; subst eo20; obtain ⟨hcz21_0, hcz21_1, hcz21_2⟩ := bc3_ BK181.out; have hfz21_0 := blk_frozen BK181.out 0; have hfz21_1 := blk_frozen BK181.out 1; have hfz21_2 := blk_frozen BK181.out 2))
            go_meet
            case rel => exact ⟨_, (([] : List (S37))), (wrap64 (x6_1 + 1)), (wrap64 (x182000_1 + 1)), (y182), (.slice Ao20 y182.length co20), jr_, H', ⟨by have := HK1.out; have := HJ6.out; first | omega | exact Nat.le_refl _⟩, ⟨by first | exact Kd.R_nil _ _ _ _ _ | exact Kd.N_nil _ _ _ _ _ | exact Kd.V_nil _ _ _ _ _ | exact Kd.Q_nil _ _ _ _ _ | exact Kd.S_nil _ _ _ _ _⟩, ⟨by (with_reducible repeat (first | apply Kd.S_alloc | apply Kd.S_drewN | apply Kd.S_drew)); exact Kd.S_mono (Kd.S_far (p := ⟨gb181, 0, none⟩) (Kd.S_far (p := ⟨gb181, 2, none⟩) (Kd.S_types HO184.out BK181.out (by decide)) (fun _ hk => hk.2) (.slice Ao20 y182.length co20)) (fun _ hk => hk.2) (.int .i64 (wrap64 (x182000_1 + 1)))) (fun _ hk => (by simp [Value.ownBlock]))⟩, ⟨by (iterate 2 (refine pk_ ?_; refine blk_far ?_ NB180_181.out _)); exact pk_ BK180.out⟩, ⟨by refine pk_ ?_; refine blk_put (cs := #[.int .i64 x182000_1, .int .i64 0, .slice Ao20 y182.length co20]) ?_ 0 _ rfl; refine pk_ ?_; refine blk_put (cs := #[.int .i64 x182000_1, .int .i64 0, u182002]) ?_ 2 _ rfl; exact pk_ BK181.out⟩, ⟨bk_ HB.out⟩⟩
           ·rw [if_neg c15] at H
            exact absurd H (by simp)
          ·rw [if_neg c14] at H
           have c14b0 : ((bt a0 x6_1) == 95) = false := beq_eq_false_iff_ne.mpr c14
           have c14b1 : ((bt a0 x6_1) != 95) = true := bne_iff_ne.mpr c14
           (first | rw [c14b0] | (simp only [i64_w, i32_w]; rw [c14b0]) | skip)
           have H' := Aside0.mk H
           clear H
           go_wp2
           go_meet
           case rel => exact ⟨_, (x5_1), (x6_1), (x182000_1), (x182002_1), (u182002), jr_, H', ⟨by have := HK1.out; have := HJ6.out; first | omega | exact Nat.le_refl _⟩, ⟨rk_ HO_5.out⟩, ⟨by (with_reducible repeat (first | apply Kd.S_alloc | apply Kd.S_drewN | apply Kd.S_drew)); exact HO_182002.out⟩, ⟨pk_ BK180.out⟩, ⟨pk_ BK181.out⟩, ⟨bk_ HB.out⟩⟩
         case rest => as_aux_lemma =>
          clear HC13
          (try clear c9); (try clear c10); (try clear c10b0); (try clear c11); (try clear c11b0); (try clear p12); (try clear q12); (try clear hx12); (try clear hcz6_0); (try clear hcz6_1); (try clear hcz6_2); (try clear hfz6_0); (try clear hfz6_1); (try clear hfz6_2); (try clear p12); (try clear q12)
          obtain ⟨kq, x5_12, x6_12, x182000_12, x182002_12, u182002, rfl, HA, HJ12, HO_5, HO_182002, BK180, BK181, HB⟩ := hcut
          cases kq with
          | zero => exact absurd HA.out (by simp [standstillref01_Parse.j2])
          | succ kj12 =>
           have H := HA.out
           clear HA
           simp only [standstillref01_Parse.j2] at H
           by_cases c22 : (wrap64 (x6_12 + 2)) ≥ (a0.size : Int)
           ·rw [if_pos c22] at H
            have c22b0 : decide ((a0.size : Int) ≤ (wrap64 (x6_12 + 2))) = true := decide_eq_true c22
            clear c22
            have H' := Aside0.mk H
            clear H
            go_wp2
            go_meet
            case rel => exact ⟨_, (x5_12), (x182000_12), (x182002_12), (u182002), H', ⟨by have := HK1.out; have := HJ6.out; have := HJ12.out; first | omega | exact Nat.le_refl _⟩, ⟨rk_ HO_5.out⟩, ⟨by (with_reducible repeat (first | apply Kd.S_alloc | apply Kd.S_drewN | apply Kd.S_drew)); exact HO_182002.out⟩, ⟨pk_ BK180.out⟩, ⟨pk_ BK181.out⟩, ⟨bk_ HB.out⟩⟩
           ·rw [if_neg c22] at H
            have c22b0 : decide ((a0.size : Int) ≤ (wrap64 (x6_12 + 2))) = false := decide_eq_false c22
            clear c22
            by_cases c23 : 0 ≤ x6_12
            ·rw [if_pos c23] at H
             have c23b0 : decide (0 ≤ x6_12) = true := decide_eq_true c23
             clear c23
             by_cases c24 : x6_12 < (a0.size : Int)
             ·rw [if_pos c24] at H
              have c24b0 : decide (x6_12 < (a0.size : Int)) = true := decide_eq_true c24
              clear c24
              obtain ⟨ji26, hji26⟩ : ∃ j_ : Int, (wrap64 (x6_12 + 2)) = j_ := ⟨_, rfl⟩
              replace H : (if 0 ≤ (ji26) then (if (ji26) < (a0.size : Int) then (if 0 ≤ (wrap64 (x6_12 + 1)) then (if (wrap64 (x6_12 + 1)) < (a0.size : Int) then (if (bt a0 (wrap64 (x6_12 + 1))) = 76 then (if (bt a0 (ji26)) = 90 then (if x5_12.length < 5864062014805 then (standstillref01_Parse.l0 kj12 a0 (x5_12 ++ [(⟨wrap64 ((wrap64 (bt a0 x6_12)) - 48), (-1), (-1)⟩ : S37)]) (wrap64 (x6_12 + 3)) x182000_12 0 x182002_12) else (none)) else (if x5_12.length < 5864062014805 then (standstillref01_Parse.l0 kj12 a0 (x5_12 ++ [(⟨wrap64 ((wrap64 (bt a0 x6_12)) - 48), (-1), wrap64 ((wrap64 (bt a0 (ji26))) - 65)⟩ : S37)]) (wrap64 (x6_12 + 3)) x182000_12 0 x182002_12) else (none))) else (if (bt a0 (ji26)) = 90 then (if x5_12.length < 5864062014805 then (standstillref01_Parse.l0 kj12 a0 (x5_12 ++ [(⟨wrap64 ((wrap64 (bt a0 x6_12)) - 48), 1, (-1)⟩ : S37)]) (wrap64 (x6_12 + 3)) x182000_12 0 x182002_12) else (none)) else (if x5_12.length < 5864062014805 then (standstillref01_Parse.l0 kj12 a0 (x5_12 ++ [(⟨wrap64 ((wrap64 (bt a0 x6_12)) - 48), 1, wrap64 ((wrap64 (bt a0 (ji26))) - 65)⟩ : S37)]) (wrap64 (x6_12 + 3)) x182000_12 0 x182002_12) else (none)))) else (none)) else (none)) else (none)) else (none)) = some (r1, r2, r3, r4) := by first | (rw [hji26] at H; exact H) | (simp only [hji26] at H ⊢; exact H)
              (try rw [hji26] at c22b0)
              have hji26w : (IntKind.i64.wrap (x6_12 + 2)) = ji26 := (i64_w _).trans hji26
              by_cases c27 : 0 ≤ (ji26)
              ·rw [if_pos c27] at H
               have c27b0 : decide (0 ≤ (ji26)) = true := decide_eq_true c27
               clear c27
               by_cases c28 : (ji26) < (a0.size : Int)
               ·rw [if_pos c28] at H
                have c28b0 : decide ((ji26) < (a0.size : Int)) = true := decide_eq_true c28
                clear c28
                obtain ⟨ji30, hji30⟩ : ∃ j_ : Int, (wrap64 (x6_12 + 1)) = j_ := ⟨_, rfl⟩
                replace H : (if 0 ≤ (ji30) then (if (ji30) < (a0.size : Int) then (if (bt a0 (ji30)) = 76 then (if (bt a0 (ji26)) = 90 then (if x5_12.length < 5864062014805 then (standstillref01_Parse.l0 kj12 a0 (x5_12 ++ [(⟨wrap64 ((wrap64 (bt a0 x6_12)) - 48), (-1), (-1)⟩ : S37)]) (wrap64 (x6_12 + 3)) x182000_12 0 x182002_12) else (none)) else (if x5_12.length < 5864062014805 then (standstillref01_Parse.l0 kj12 a0 (x5_12 ++ [(⟨wrap64 ((wrap64 (bt a0 x6_12)) - 48), (-1), wrap64 ((wrap64 (bt a0 (ji26))) - 65)⟩ : S37)]) (wrap64 (x6_12 + 3)) x182000_12 0 x182002_12) else (none))) else (if (bt a0 (ji26)) = 90 then (if x5_12.length < 5864062014805 then (standstillref01_Parse.l0 kj12 a0 (x5_12 ++ [(⟨wrap64 ((wrap64 (bt a0 x6_12)) - 48), 1, (-1)⟩ : S37)]) (wrap64 (x6_12 + 3)) x182000_12 0 x182002_12) else (none)) else (if x5_12.length < 5864062014805 then (standstillref01_Parse.l0 kj12 a0 (x5_12 ++ [(⟨wrap64 ((wrap64 (bt a0 x6_12)) - 48), 1, wrap64 ((wrap64 (bt a0 (ji26))) - 65)⟩ : S37)]) (wrap64 (x6_12 + 3)) x182000_12 0 x182002_12) else (none)))) else (none)) else (none)) = some (r1, r2, r3, r4) := by first | (rw [hji30] at H; exact H) | (simp only [hji30] at H ⊢; exact H)
                have hji30w : (IntKind.i64.wrap (x6_12 + 1)) = ji30 := (i64_w _).trans hji30
                by_cases c31 : 0 ≤ (ji30)
                ·rw [if_pos c31] at H
                 have c31b0 : decide (0 ≤ (ji30)) = true := decide_eq_true c31
                 clear c31
                 by_cases c32 : (ji30) < (a0.size : Int)
                 ·rw [if_pos c32] at H
                  have c32b0 : decide ((ji30) < (a0.size : Int)) = true := decide_eq_true c32
                  clear c32
                  by_cases c34 : (bt a0 (ji30)) = 76
                  ·rw [if_pos c34] at H
                   have c34b0 : ((bt a0 (ji30)) == 76) = true := beq_iff_eq.mpr c34
                   have c34b1 : ((bt a0 (ji30)) != 76) = false := bne_eq_false_iff_eq.mpr c34
                   clear c34
                   by_cases c36 : (bt a0 (ji26)) = 90
                   ·rw [if_pos c36] at H
                    have c36b0 : ((bt a0 (ji26)) == 90) = true := beq_iff_eq.mpr c36
                    have c36b1 : ((bt a0 (ji26)) != 90) = false := bne_eq_false_iff_eq.mpr c36
                    clear c36
                    by_cases c37 : x5_12.length < 5864062014805
                    ·rw [if_pos c37] at H
                     have LMc37 := Aside0.mk c37
                     clear c37
                     obtain ⟨y186, hy186⟩ : ∃ y_ : List (S37), y_ = (x5_12 ++ [(⟨wrap64 ((wrap64 (bt a0 x6_12)) - 48), (-1), (-1)⟩ : S37)]) := ⟨_, rfl⟩
                     replace H : (standstillref01_Parse.l0 kj12 a0 y186 (wrap64 (x6_12 + 3)) x182000_12 0 x182002_12) = some (r1, r2, r3, r4) := by first | (rw [hy186]; with_reducible exact H) | (have H2_ := (Option.bind_some _ _).symm.trans H; rw [hy186]; with_reducible exact H2_) | (have H2_ := (Option.bind_some _ _).symm.trans H; with_reducible exact H2_) | with_reducible exact H | (rw [hy186]; exact H) | exact H
                     have Ny186 := Aside0.mk hy186
                     clear hy186
                     have H' := Aside0.mk H
                     clear H
                     try go_wp2
                     have n0_ := A_ (Kd.R_drew HO_5.out)
                     have n1_ := A_ (Kd.S_drew HO_182002.out)
                     have n2_ := A_ (blk_drew BK180.out)
                     have n3_ := A_ (blk_drew BK181.out)
                     have n4_ := A_ (below_drew1 HB.out)
                     clear HO_5 HO_182002 BK180 BK181 HB
                     have HO_5 := n0_
                     have HO_182002 := n1_
                     have BK180 := n2_
                     have BK181 := n3_
                     have HB := n4_
                     clear n0_ n1_ n2_ n3_ n4_
                     have p25 : 0 ≤ (x6_12 : Int) := od_
                     have q25 : x6_12 < (a0.size : Int) := od_
                     have hx25 := bt_at a0 x6_12
                     replace p25 := eq_true p25
                     replace q25 := eq_true q25
                     have p29 : 0 ≤ ((ji26) : Int) := od_
                     have q29 : (ji26) < (a0.size : Int) := od_
                     have hx29 := bt_at a0 (ji26)
                     replace p29 := eq_true p29
                     replace q29 := eq_true q29
                     refine start_ (n := 14) (S := fun w' => True) (ds := []) #[false, false, false, false, false, false, false, false, false, false, false, false, false, false] (by kernel_rfl) rfl rfl trivial (fun hHeld => ?_); refine with_tabW standstillref01_Parse.tab12 standstillref01_Parse.bits12 (fun HT_ HW_ => ?_)
                     generalize wc.drew = w38 at HO_5 HO_182002 BK180 BK181 HB hHeld ⊢
                     refine pure_ (i := 0) (N := some 42) (v := ?_) (a' := ?_) #[true, false, false, false, false, false, false, false, false, false, false, false, false, false] rfl rfl (any_of HT_.out (by kernel_rfl)) (fun _ _ _ h => h) (Or.inl ⟨by rfl, ?_⟩) ?_ ?_
                     rotate_left
                     ·intro w'
                      go_simp
                      with_reducible rfl
                     rotate_left
                     ·simp only [Act.put, sa_, sz_, ss_, i64_w, i32_w]
                      rfl
                     refine pure_ (i := 1) (N := some 43) (v := ?_) (a' := ?_) #[true, true, false, false, false, false, false, false, false, false, false, false, false, false] rfl rfl (any_of HT_.out (by kernel_rfl)) (fun _ _ _ h => h) (Or.inl ⟨by rfl, ?_⟩) ?_ ?_
                     rotate_left
                     ·intro w'
                      go_simp
                      with_reducible rfl
                     rotate_left
                     ·simp only [Act.put, sa_, sz_, ss_, i64_w, i32_w]
                      rfl
                     refine pure_ (i := 5) (N := some 47) (v := ?_) (a' := ?_) #[true, true, false, false, false, true, false, false, false, false, false, false, false, false] rfl rfl (any_of HT_.out (by kernel_rfl)) (fun _ _ _ h => h) (Or.inl ⟨by rfl, ?_⟩) ?_ ?_
                     rotate_left
                     ·intro w'
                      go_simp
                      with_reducible rfl
                     rotate_left
                     ·simp only [Act.put, sa_, sz_, ss_, i64_w, i32_w]
                      rfl
                     refine pure_ (i := 6) (N := some 48) (v := ?_) (a' := ?_) #[true, true, false, false, false, true, true, false, false, false, false, false, false, false] rfl rfl (any_of HT_.out (by kernel_rfl)) (fun _ _ _ h => h) (Or.inl ⟨by rfl, ?_⟩) ?_ ?_
                     rotate_left
                     ·intro w'
                      go_simp
                      with_reducible rfl
                     rotate_left
                     ·simp only [Act.put, sa_, sz_, ss_, i64_w, i32_w]
                      rfl
                     refine pure_ (i := 7) (N := some 49) (v := ?_) (a' := ?_) #[true, true, false, false, false, true, true, true, false, false, false, false, false, false] rfl rfl (any_of HT_.out (by kernel_rfl)) (fun _ _ _ h => h) (Or.inl ⟨by rfl, ?_⟩) ?_ ?_
                     rotate_left
                     ·intro w'
                      go_simp
                      with_reducible rfl
                     rotate_left
                     ·simp only [Act.put, sa_, sz_, ss_, i64_w, i32_w]
                      rfl
                     refine take_ (i := 2) (N := some 44) (v := ?_) (a' := ?_) #[true, true, true, false, false, true, true, true, false, false, false, false, false, false] rfl rfl (take_ofW HT_.out HW_.out (by kernel_rfl)) (fun _ _ _ h => h) (Or.inl ⟨by rfl, ?_⟩) hHeld ?_ ?_
                     rotate_left
                     ·intro w' _
                      go_simp
                      with_reducible rfl
                     rotate_left
                     ·simp only [Act.put, sa_, sz_, ss_, i64_w, i32_w]
                      rfl
                     refine pure_ (i := 3) (N := some 45) (v := ?_) (a' := ?_) #[true, true, true, true, false, true, true, true, false, false, false, false, false, false] rfl rfl (any_of HT_.out (by kernel_rfl)) (fun _ _ _ h => h) (Or.inl ⟨by rfl, ?_⟩) ?_ ?_
                     rotate_left
                     ·intro w'
                      go_simp
                      with_reducible rfl
                     rotate_left
                     ·simp only [Act.put, sa_, sz_, ss_, i64_w, i32_w]
                      rfl
                     refine pure_ (i := 4) (N := some 46) (v := ?_) (a' := ?_) #[true, true, true, true, true, true, true, true, false, false, false, false, false, false] rfl rfl (any_of HT_.out (by kernel_rfl)) (fun _ _ _ h => h) (Or.inl ⟨by rfl, ?_⟩) ?_ ?_
                     rotate_left
                     ·intro w'
                      go_simp
                      with_reducible rfl
                     rotate_left
                     ·simp only [Act.put, sa_, sz_, ss_, i64_w, i32_w]
                      rfl
                     refine take_ (i := 8) (N := some 50) (v := ?_) (a' := ?_) #[true, true, true, true, true, true, true, true, true, false, false, false, false, false] rfl rfl (take_ofW HT_.out HW_.out (by kernel_rfl)) (fun _ _ _ h => h) (Or.inl ⟨by rfl, ?_⟩) hHeld ?_ ?_
                     rotate_left
                     ·intro w' _
                      go_simp
                      with_reducible rfl
                     rotate_left
                     ·simp only [Act.put, sa_, sz_, ss_, i64_w, i32_w]
                      rfl
                     refine pure_ (i := 9) (N := some 51) (v := ?_) (a' := ?_) #[true, true, true, true, true, true, true, true, true, true, false, false, false, false] rfl rfl (any_of HT_.out (by kernel_rfl)) (fun _ _ _ h => h) (Or.inl ⟨by rfl, ?_⟩) ?_ ?_
                     rotate_left
                     ·intro w'
                      go_simp
                      with_reducible rfl
                     rotate_left
                     ·simp only [Act.put, sa_, sz_, ss_, i64_w, i32_w]
                      rfl
                     refine pure_ (i := 10) (N := some 52) (v := ?_) (a' := ?_) #[true, true, true, true, true, true, true, true, true, true, true, false, false, false] rfl rfl (any_of HT_.out (by kernel_rfl)) (fun _ _ _ h => h) (Or.inl ⟨by rfl, ?_⟩) ?_ ?_
                     rotate_left
                     ·intro w'
                      go_simp
                      with_reducible rfl
                     rotate_left
                     ·simp only [Act.put, sa_, sz_, ss_, i64_w, i32_w]
                      rfl
                     refine pure_ (i := 11) (N := some 53) (v := ?_) (a' := ?_) #[true, true, true, true, true, true, true, true, true, true, true, true, false, false] rfl rfl (any_of HT_.out (by kernel_rfl)) (fun _ _ _ h => h) (Or.inl ⟨by rfl, ?_⟩) ?_ ?_
                     rotate_left
                     ·intro w'
                      go_simp
                      with_reducible rfl
                     rotate_left
                     ·simp only [Act.put, sa_, sz_, ss_, i64_w, i32_w]
                      rfl
                     refine one_ (i := 12) (N := some 7) #[true, true, true, true, true, true, true, true, true, true, true, true, true, false] rfl rfl (one_of HT_.out (by kernel_rfl)) (by decide) (fun K hK => ?_)
                     refine box_step ?hg (N := 7) ?hd (cs := #[.int .i64 0, .int .i64 0, .int .i64 0]) (t := 37) ?hr ?_; (case hd => rfl); (case hg => rfl); (case hr => first | (go_simp; done) | (go_simp; rfl))
                     intro gb185 hg w39 hbox hb
                     have n0_ := A_ (Kd.R_below (Kd.R_elderB (rk_ HO_5.out) gb185 (Nat.le_of_eq hg.symm)) hb)
                     have n1_ := A_ (Kd.S_below (Kd.S_elderB (by (with_reducible repeat (first | apply Kd.S_alloc | apply Kd.S_drewN | apply Kd.S_drew)); exact HO_182002.out) gb185 (Nat.le_of_eq hg.symm)) hb)
                     have n2_ := A_ (blk_below (pk_ BK180.out) hb)
                     have n3_ := A_ (blk_below (pk_ BK181.out) hb)
                     have n4_ := A_ (below_step (bk_ HB.out) hb)
                     have n5_ := A_ (hbox)
                     have n6_ := A_ (bz_ hg (bk_ HB.out))
                     have n7_ := A_ (bz_ hg (bk_ HB.out))
                     have n8_ := A_ (nl_ hg (pk_ BK180.out))
                     have n9_ := A_ (ng_ hg (pk_ BK180.out))
                     have n10_ := A_ (nl_ hg (pk_ BK181.out))
                     have n11_ := A_ (ng_ hg (pk_ BK181.out))
                     clear HO_5 HO_182002 BK180 BK181 HB
                     have HO_5 := n0_
                     have HO_182002 := n1_
                     have BK180 := n2_
                     have BK181 := n3_
                     have HB := n4_
                     have BK185 := n5_
                     have GW185 := n6_
                     have GE185 := n7_
                     have NB180_185 := n8_
                     have NB185_180 := n9_
                     have NB181_185 := n10_
                     have NB185_181 := n11_
                     clear n0_ n1_ n2_ n3_ n4_ n5_ n6_ n7_ n8_ n9_ n10_ n11_ hb hbox hg
                     refine hK.out _ _ trivial (fun hHeld => ?_)
                     clear hK K
                     refine norm_ (a' := ?_) ?_ ?_
                     rotate_left
                     ·show Act.put _ (some 7) _ = _
                      simp only [Act.put, sa_, sz_, ss_, i64_w, i32_w]
                      rfl
                     refine one_ (i := 13) (N := none) #[true, true, true, true, true, true, true, true, true, true, true, true, true, true] rfl rfl (one_of HT_.out (by kernel_rfl)) (by decide) (fun K hK => ?_)
                     have hs40 : w39.cell? ⟨gb185, 0, none⟩ = some (.int .i64 0) := (blk_cell BK185.out 0).trans rfl
                     have hfs40 := blk_frozen BK185.out 0
                     have hns40_0 := NB180_185.out
                     have hns40_1 := NB181_185.out
                     have hms40_0 := NB185_180.out
                     have hms40_1 := NB185_181.out
                     have hs41 : w39.cell? ⟨gb185, 1, none⟩ = some (.int .i64 0) := (blk_cell BK185.out 1).trans rfl
                     have hfs41 := blk_frozen BK185.out 1
                     have hns41_0 := NB180_185.out
                     have hns41_1 := NB181_185.out
                     have hms41_0 := NB185_180.out
                     have hms41_1 := NB185_181.out
                     have hs42 : w39.cell? ⟨gb185, 2, none⟩ = some (.int .i64 0) := (blk_cell BK185.out 2).trans rfl
                     have hfs42 := blk_frozen BK185.out 2
                     have hns42_0 := NB180_185.out
                     have hns42_1 := NB181_185.out
                     have hms42_0 := NB185_180.out
                     have hms42_1 := NB185_181.out
                     refine skip_ (w1 := ?_) (by rfl) rfl ?_ ?_
                     rotate_left
                     ·go_simp
                      rfl
                     refine hK.out _ _ trivial (fun hHeld => ?_)
                     clear hK K
                     refine done_ (done_of HT_.out (by kernel_rfl)) ?_
                     have p33 : 0 ≤ ((ji30) : Int) := od_
                     have q33 : (ji30) < (a0.size : Int) := od_
                     have hx33 := bt_at a0 (ji30)
                     replace p33 := eq_true p33
                     replace q33 := eq_true q33
                     have hnb43 := NB185_180.out
                     have hnc43 := NB180_185.out
                     have hnb44 := NB185_181.out
                     have hnc44 := NB181_185.out
                     obtain ⟨hcz45_0, hcz45_1, hcz45_2⟩ := bc3_ BK185.out
                     have hfz45_0 := blk_frozen BK185.out 0
                     have hfz45_1 := blk_frozen BK185.out 1
                     have hfz45_2 := blk_frozen BK185.out 2
                     have p35 : 0 ≤ ((ji26) : Int) := od_
                     have q35 : (ji26) < (a0.size : Int) := od_
                     have hx35 := bt_at a0 (ji26)
                     replace p35 := eq_true p35
                     replace q35 := eq_true q35
                     try go_wp2_with (first | ((with_reducible refine gate_builtin (b := .append) (xs := #[.tmp 66, .tmp 68]) rfl ?_); (try (refine gate_guard (by rfl) ?_; dsimp only)); at_builtin; refine Kd.R_append k37 (w0 := w) w.heap.size rfl (.tmp 66) (.tmp 68) 38 37 (.agg #[(.int .i64 0), (.int .i64 0), (.int .i64 0)]) 24 rfl Try.underlying38 info37 rfl (by decide) (by omega) u5 x5_12 (⟨wrap64 ((wrap64 (bt a0 x6_12)) - 48), (-1), (-1)⟩ : S37) [.int .i64 (wrap64 ((wrap64 (bt a0 x6_12)) - 48)), .int .i64 (-1), .int .i64 (-1)] (fun k_ => k_ ≠ gb185) (fun _ => False) rfl (by first | (go_simp; done) | (go_simp; rfl)) ?aP (fun _ hk => hk.elim) ?aF ?aO ?aB ?aS ?aL ?_; (case aP => exact k37_mkM _ _ _ (⟨wrap64 ((wrap64 (bt a0 x6_12)) - 48), (-1), (-1)⟩ : S37)); (case aB => exact (bk_ HB.out)); (case aF => exact (fun k_ hk => Kd.freshB (g := gb185) (o := .cells #[.int .i64 (wrap64 ((wrap64 (bt a0 x6_12)) - 48)), .int .i64 (-1), .int .i64 (-1)] 37 (0, 0)) (by refine pk_ ?_; refine blk_put (cs := #[.int .i64 (wrap64 ((wrap64 (bt a0 x6_12)) - 48)), .int .i64 (-1), .int .i64 (wrap64 ((wrap64 (bt a0 (ji26))) - 65))]) ?_ 2 _ rfl; refine pk_ ?_; refine blk_put (cs := #[.int .i64 (wrap64 ((wrap64 (bt a0 x6_12)) - 48)), .int .i64 1, .int .i64 (wrap64 ((wrap64 (bt a0 (ji26))) - 65))]) ?_ 1 _ rfl; refine pk_ ?_; refine blk_put (cs := #[.int .i64 (wrap64 ((wrap64 (bt a0 x6_12)) - 48)), .int .i64 1, .int .i64 0]) ?_ 2 _ rfl; refine pk_ ?_; refine blk_put (cs := #[.int .i64 (wrap64 ((wrap64 (bt a0 x6_12)) - 48)), .int .i64 0, .int .i64 0]) ?_ 1 _ rfl; refine pk_ ?_; refine blk_put (cs := #[.int .i64 0, .int .i64 0, .int .i64 0]) ?_ 0 _ rfl; exact pk_ BK185.out) k_ hk)); (case aO => exact (by (with_reducible repeat (first | apply Kd.R_alloc | apply Kd.R_drewN | apply Kd.R_drew)); exact Kd.R_mono (rf5_ (Kd.R_mono HO_5.out (fun k_ hk => (⟨hk, hk.2⟩ : _ ∧ k_ ≠ gb185)))) (fun _ hk => hk.1.2))); (case aS => exact (below_size (bk_ HB.out))); (case aL => have := LMc37.out; omega); intro v187 w46 ho hb hg hat; rw [← Ny186.out] at ho; have n0_ := A_ (Kd.S_after (ok := (fun k_ => k_ ≠ gb185)) (by (with_reducible repeat (first | apply Kd.S_alloc | apply Kd.S_drewN | apply Kd.S_drew)); exact Kd.S_mono (Kd.S_far (p := ⟨gb185, 2, none⟩) (Kd.S_far (p := ⟨gb185, 1, none⟩) (Kd.S_far (p := ⟨gb185, 2, none⟩) (Kd.S_far (p := ⟨gb185, 1, none⟩) (Kd.S_far (p := ⟨gb185, 0, none⟩) (Kd.S_mono HO_182002.out (fun k_ hk => (⟨hk, hk.2⟩ : _ ∧ k_ ≠ gb185))) (fun _ hk => hk.2) (.int .i64 (wrap64 ((wrap64 (bt a0 x6_12)) - 48)))) (fun _ hk => hk.2) (.int .i64 1)) (fun _ hk => hk.2) (.int .i64 (wrap64 ((wrap64 (bt a0 (ji26))) - 65)))) (fun _ hk => hk.2) (.int .i64 (-1))) (fun _ hk => hk.2) (.int .i64 (-1))) (fun _ hk => ⟨hk.1.2, hk.1.1⟩)) hg hat); have n1_ := A_ (blk_grown (g := gb180) (o := .cells #[.int .i64 0, .int .i64 0, .slice none 0 0] 24 (0, 0)) (by (iterate 5 (refine pk_ ?_; refine blk_far ?_ NB180_185.out _)); exact pk_ BK180.out) hg (Kd.R_ne HO_5.out BK180.out (by decide))); have n2_ := A_ (blk_grown (g := gb181) (o := .cells #[.int .i64 x182000_12, .int .i64 0, u182002] 24 (0, 0)) (by (iterate 5 (refine pk_ ?_; refine blk_far ?_ NB181_185.out _)); exact pk_ BK181.out) hg (Kd.R_ne HO_5.out BK181.out (by decide))); have n3_ := A_ (blk_grown (g := gb185) (o := .cells #[.int .i64 (wrap64 ((wrap64 (bt a0 x6_12)) - 48)), .int .i64 (-1), .int .i64 (-1)] 37 (0, 0)) (by refine pk_ ?_; refine blk_put (cs := #[.int .i64 (wrap64 ((wrap64 (bt a0 x6_12)) - 48)), .int .i64 (-1), .int .i64 (wrap64 ((wrap64 (bt a0 (ji26))) - 65))]) ?_ 2 _ rfl; refine pk_ ?_; refine blk_put (cs := #[.int .i64 (wrap64 ((wrap64 (bt a0 x6_12)) - 48)), .int .i64 1, .int .i64 (wrap64 ((wrap64 (bt a0 (ji26))) - 65))]) ?_ 1 _ rfl; refine pk_ ?_; refine blk_put (cs := #[.int .i64 (wrap64 ((wrap64 (bt a0 x6_12)) - 48)), .int .i64 1, .int .i64 0]) ?_ 2 _ rfl; refine pk_ ?_; refine blk_put (cs := #[.int .i64 (wrap64 ((wrap64 (bt a0 x6_12)) - 48)), .int .i64 0, .int .i64 0]) ?_ 1 _ rfl; refine pk_ ?_; refine blk_put (cs := #[.int .i64 0, .int .i64 0, .int .i64 0]) ?_ 0 _ rfl; exact pk_ BK185.out) hg (Kd.R_away HO_5.out (fun _ hk => hk.2))); have n4_ := A_ (hb); have n5_ := A_ (ho); clear HO_182002 BK180 BK181 BK185 HB HO_5; have HO_182002 := n0_; have BK180 := n1_; have BK181 := n2_; have BK185 := n3_; have HB := n4_; have HO188 := n5_; clear n0_ n1_ n2_ n3_ n4_ n5_ ho hb hg hat))
                     go_roundg kj12
                     case measure => have := HK1.out; have := HJ6.out; have := HJ12.out; omega
                     case rel => exact ⟨(y186), (wrap64 (x6_12 + 3)), (x182000_12), (x182002_12), (u182002), jr_, H', ⟨by have := HK1.out; have := HJ6.out; have := HJ12.out; omega⟩, ⟨by (with_reducible repeat (first | apply Kd.R_alloc | apply Kd.R_drewN | apply Kd.R_drew)); exact Kd.R_mono HO188.out (fun _ hk => trivial)⟩, ⟨by (with_reducible repeat (first | apply Kd.S_alloc | apply Kd.S_drewN | apply Kd.S_drew)); exact Kd.S_mono HO_182002.out (fun _ hk => hk.2)⟩, ⟨pk_ BK180.out⟩, ⟨pk_ BK181.out⟩, ⟨bk_ HB.out⟩⟩
                    ·rw [if_neg c37] at H
                     exact absurd H (by simp)
                   ·rw [if_neg c36] at H
                    have c36b0 : ((bt a0 (ji26)) == 90) = false := beq_eq_false_iff_ne.mpr c36
                    have c36b1 : ((bt a0 (ji26)) != 90) = true := bne_iff_ne.mpr c36
                    by_cases c47 : x5_12.length < 5864062014805
                    ·rw [if_pos c47] at H
                     have LMc47 := Aside0.mk c47
                     clear c47
                     obtain ⟨y189, hy189⟩ : ∃ y_ : List (S37), y_ = (x5_12 ++ [(⟨wrap64 ((wrap64 (bt a0 x6_12)) - 48), (-1), wrap64 ((wrap64 (bt a0 (ji26))) - 65)⟩ : S37)]) := ⟨_, rfl⟩
                     replace H : (standstillref01_Parse.l0 kj12 a0 y189 (wrap64 (x6_12 + 3)) x182000_12 0 x182002_12) = some (r1, r2, r3, r4) := by first | (rw [hy189]; with_reducible exact H) | (have H2_ := (Option.bind_some _ _).symm.trans H; rw [hy189]; with_reducible exact H2_) | (have H2_ := (Option.bind_some _ _).symm.trans H; with_reducible exact H2_) | with_reducible exact H | (rw [hy189]; exact H) | exact H
                     have Ny189 := Aside0.mk hy189
                     clear hy189
                     have H' := Aside0.mk H
                     clear H
                     try go_wp2
                     have n0_ := A_ (Kd.R_drew HO_5.out)
                     have n1_ := A_ (Kd.S_drew HO_182002.out)
                     have n2_ := A_ (blk_drew BK180.out)
                     have n3_ := A_ (blk_drew BK181.out)
                     have n4_ := A_ (below_drew1 HB.out)
                     clear HO_5 HO_182002 BK180 BK181 HB
                     have HO_5 := n0_
                     have HO_182002 := n1_
                     have BK180 := n2_
                     have BK181 := n3_
                     have HB := n4_
                     clear n0_ n1_ n2_ n3_ n4_
                     have p25 : 0 ≤ (x6_12 : Int) := od_
                     have q25 : x6_12 < (a0.size : Int) := od_
                     have hx25 := bt_at a0 x6_12
                     replace p25 := eq_true p25
                     replace q25 := eq_true q25
                     have p29 : 0 ≤ ((ji26) : Int) := od_
                     have q29 : (ji26) < (a0.size : Int) := od_
                     have hx29 := bt_at a0 (ji26)
                     replace p29 := eq_true p29
                     replace q29 := eq_true q29
                     refine start_ (n := 14) (S := fun w' => True) (ds := []) #[false, false, false, false, false, false, false, false, false, false, false, false, false, false] (by kernel_rfl) rfl rfl trivial (fun hHeld => ?_); refine with_tabW standstillref01_Parse.tab12 standstillref01_Parse.bits12 (fun HT_ HW_ => ?_)
                     generalize wc.drew = w48 at HO_5 HO_182002 BK180 BK181 HB hHeld ⊢
                     refine pure_ (i := 0) (N := some 42) (v := ?_) (a' := ?_) #[true, false, false, false, false, false, false, false, false, false, false, false, false, false] rfl rfl (any_of HT_.out (by kernel_rfl)) (fun _ _ _ h => h) (Or.inl ⟨by rfl, ?_⟩) ?_ ?_
                     rotate_left
                     ·intro w'
                      go_simp
                      with_reducible rfl
                     rotate_left
                     ·simp only [Act.put, sa_, sz_, ss_, i64_w, i32_w]
                      rfl
                     refine pure_ (i := 1) (N := some 43) (v := ?_) (a' := ?_) #[true, true, false, false, false, false, false, false, false, false, false, false, false, false] rfl rfl (any_of HT_.out (by kernel_rfl)) (fun _ _ _ h => h) (Or.inl ⟨by rfl, ?_⟩) ?_ ?_
                     rotate_left
                     ·intro w'
                      go_simp
                      with_reducible rfl
                     rotate_left
                     ·simp only [Act.put, sa_, sz_, ss_, i64_w, i32_w]
                      rfl
                     refine pure_ (i := 5) (N := some 47) (v := ?_) (a' := ?_) #[true, true, false, false, false, true, false, false, false, false, false, false, false, false] rfl rfl (any_of HT_.out (by kernel_rfl)) (fun _ _ _ h => h) (Or.inl ⟨by rfl, ?_⟩) ?_ ?_
                     rotate_left
                     ·intro w'
                      go_simp
                      with_reducible rfl
                     rotate_left
                     ·simp only [Act.put, sa_, sz_, ss_, i64_w, i32_w]
                      rfl
                     refine pure_ (i := 6) (N := some 48) (v := ?_) (a' := ?_) #[true, true, false, false, false, true, true, false, false, false, false, false, false, false] rfl rfl (any_of HT_.out (by kernel_rfl)) (fun _ _ _ h => h) (Or.inl ⟨by rfl, ?_⟩) ?_ ?_
                     rotate_left
                     ·intro w'
                      go_simp
                      with_reducible rfl
                     rotate_left
                     ·simp only [Act.put, sa_, sz_, ss_, i64_w, i32_w]
                      rfl
                     refine pure_ (i := 7) (N := some 49) (v := ?_) (a' := ?_) #[true, true, false, false, false, true, true, true, false, false, false, false, false, false] rfl rfl (any_of HT_.out (by kernel_rfl)) (fun _ _ _ h => h) (Or.inl ⟨by rfl, ?_⟩) ?_ ?_
                     rotate_left
                     ·intro w'
                      go_simp
                      with_reducible rfl
                     rotate_left
                     ·simp only [Act.put, sa_, sz_, ss_, i64_w, i32_w]
                      rfl
                     refine take_ (i := 2) (N := some 44) (v := ?_) (a' := ?_) #[true, true, true, false, false, true, true, true, false, false, false, false, false, false] rfl rfl (take_ofW HT_.out HW_.out (by kernel_rfl)) (fun _ _ _ h => h) (Or.inl ⟨by rfl, ?_⟩) hHeld ?_ ?_
                     rotate_left
                     ·intro w' _
                      go_simp
                      with_reducible rfl
                     rotate_left
                     ·simp only [Act.put, sa_, sz_, ss_, i64_w, i32_w]
                      rfl
                     refine pure_ (i := 3) (N := some 45) (v := ?_) (a' := ?_) #[true, true, true, true, false, true, true, true, false, false, false, false, false, false] rfl rfl (any_of HT_.out (by kernel_rfl)) (fun _ _ _ h => h) (Or.inl ⟨by rfl, ?_⟩) ?_ ?_
                     rotate_left
                     ·intro w'
                      go_simp
                      with_reducible rfl
                     rotate_left
                     ·simp only [Act.put, sa_, sz_, ss_, i64_w, i32_w]
                      rfl
                     refine pure_ (i := 4) (N := some 46) (v := ?_) (a' := ?_) #[true, true, true, true, true, true, true, true, false, false, false, false, false, false] rfl rfl (any_of HT_.out (by kernel_rfl)) (fun _ _ _ h => h) (Or.inl ⟨by rfl, ?_⟩) ?_ ?_
                     rotate_left
                     ·intro w'
                      go_simp
                      with_reducible rfl
                     rotate_left
                     ·simp only [Act.put, sa_, sz_, ss_, i64_w, i32_w]
                      rfl
                     refine take_ (i := 8) (N := some 50) (v := ?_) (a' := ?_) #[true, true, true, true, true, true, true, true, true, false, false, false, false, false] rfl rfl (take_ofW HT_.out HW_.out (by kernel_rfl)) (fun _ _ _ h => h) (Or.inl ⟨by rfl, ?_⟩) hHeld ?_ ?_
                     rotate_left
                     ·intro w' _
                      go_simp
                      with_reducible rfl
                     rotate_left
                     ·simp only [Act.put, sa_, sz_, ss_, i64_w, i32_w]
                      rfl
                     refine pure_ (i := 9) (N := some 51) (v := ?_) (a' := ?_) #[true, true, true, true, true, true, true, true, true, true, false, false, false, false] rfl rfl (any_of HT_.out (by kernel_rfl)) (fun _ _ _ h => h) (Or.inl ⟨by rfl, ?_⟩) ?_ ?_
                     rotate_left
                     ·intro w'
                      go_simp
                      with_reducible rfl
                     rotate_left
                     ·simp only [Act.put, sa_, sz_, ss_, i64_w, i32_w]
                      rfl
                     refine pure_ (i := 10) (N := some 52) (v := ?_) (a' := ?_) #[true, true, true, true, true, true, true, true, true, true, true, false, false, false] rfl rfl (any_of HT_.out (by kernel_rfl)) (fun _ _ _ h => h) (Or.inl ⟨by rfl, ?_⟩) ?_ ?_
                     rotate_left
                     ·intro w'
                      go_simp
                      with_reducible rfl
                     rotate_left
                     ·simp only [Act.put, sa_, sz_, ss_, i64_w, i32_w]
                      rfl
                     refine pure_ (i := 11) (N := some 53) (v := ?_) (a' := ?_) #[true, true, true, true, true, true, true, true, true, true, true, true, false, false] rfl rfl (any_of HT_.out (by kernel_rfl)) (fun _ _ _ h => h) (Or.inl ⟨by rfl, ?_⟩) ?_ ?_
                     rotate_left
                     ·intro w'
                      go_simp
                      with_reducible rfl
                     rotate_left
                     ·simp only [Act.put, sa_, sz_, ss_, i64_w, i32_w]
                      rfl
                     refine one_ (i := 12) (N := some 7) #[true, true, true, true, true, true, true, true, true, true, true, true, true, false] rfl rfl (one_of HT_.out (by kernel_rfl)) (by decide) (fun K hK => ?_)
                     refine box_step ?hg (N := 7) ?hd (cs := #[.int .i64 0, .int .i64 0, .int .i64 0]) (t := 37) ?hr ?_; (case hd => rfl); (case hg => rfl); (case hr => first | (go_simp; done) | (go_simp; rfl))
                     intro gb185 hg w49 hbox hb
                     have n0_ := A_ (Kd.R_below (Kd.R_elderB (rk_ HO_5.out) gb185 (Nat.le_of_eq hg.symm)) hb)
                     have n1_ := A_ (Kd.S_below (Kd.S_elderB (by (with_reducible repeat (first | apply Kd.S_alloc | apply Kd.S_drewN | apply Kd.S_drew)); exact HO_182002.out) gb185 (Nat.le_of_eq hg.symm)) hb)
                     have n2_ := A_ (blk_below (pk_ BK180.out) hb)
                     have n3_ := A_ (blk_below (pk_ BK181.out) hb)
                     have n4_ := A_ (below_step (bk_ HB.out) hb)
                     have n5_ := A_ (hbox)
                     have n6_ := A_ (bz_ hg (bk_ HB.out))
                     have n7_ := A_ (bz_ hg (bk_ HB.out))
                     have n8_ := A_ (nl_ hg (pk_ BK180.out))
                     have n9_ := A_ (ng_ hg (pk_ BK180.out))
                     have n10_ := A_ (nl_ hg (pk_ BK181.out))
                     have n11_ := A_ (ng_ hg (pk_ BK181.out))
                     clear HO_5 HO_182002 BK180 BK181 HB
                     have HO_5 := n0_
                     have HO_182002 := n1_
                     have BK180 := n2_
                     have BK181 := n3_
                     have HB := n4_
                     have BK185 := n5_
                     have GW185 := n6_
                     have GE185 := n7_
                     have NB180_185 := n8_
                     have NB185_180 := n9_
                     have NB181_185 := n10_
                     have NB185_181 := n11_
                     clear n0_ n1_ n2_ n3_ n4_ n5_ n6_ n7_ n8_ n9_ n10_ n11_ hb hbox hg
                     refine hK.out _ _ trivial (fun hHeld => ?_)
                     clear hK K
                     refine norm_ (a' := ?_) ?_ ?_
                     rotate_left
                     ·show Act.put _ (some 7) _ = _
                      simp only [Act.put, sa_, sz_, ss_, i64_w, i32_w]
                      rfl
                     refine one_ (i := 13) (N := none) #[true, true, true, true, true, true, true, true, true, true, true, true, true, true] rfl rfl (one_of HT_.out (by kernel_rfl)) (by decide) (fun K hK => ?_)
                     have hs50 : w49.cell? ⟨gb185, 0, none⟩ = some (.int .i64 0) := (blk_cell BK185.out 0).trans rfl
                     have hfs50 := blk_frozen BK185.out 0
                     have hns50_0 := NB180_185.out
                     have hns50_1 := NB181_185.out
                     have hms50_0 := NB185_180.out
                     have hms50_1 := NB185_181.out
                     have hs51 : w49.cell? ⟨gb185, 1, none⟩ = some (.int .i64 0) := (blk_cell BK185.out 1).trans rfl
                     have hfs51 := blk_frozen BK185.out 1
                     have hns51_0 := NB180_185.out
                     have hns51_1 := NB181_185.out
                     have hms51_0 := NB185_180.out
                     have hms51_1 := NB185_181.out
                     have hs52 : w49.cell? ⟨gb185, 2, none⟩ = some (.int .i64 0) := (blk_cell BK185.out 2).trans rfl
                     have hfs52 := blk_frozen BK185.out 2
                     have hns52_0 := NB180_185.out
                     have hns52_1 := NB181_185.out
                     have hms52_0 := NB185_180.out
                     have hms52_1 := NB185_181.out
                     refine skip_ (w1 := ?_) (by rfl) rfl ?_ ?_
                     rotate_left
                     ·go_simp
                      rfl
                     refine hK.out _ _ trivial (fun hHeld => ?_)
                     clear hK K
                     refine done_ (done_of HT_.out (by kernel_rfl)) ?_
                     have p33 : 0 ≤ ((ji30) : Int) := od_
                     have q33 : (ji30) < (a0.size : Int) := od_
                     have hx33 := bt_at a0 (ji30)
                     replace p33 := eq_true p33
                     replace q33 := eq_true q33
                     have hnb53 := NB185_180.out
                     have hnc53 := NB180_185.out
                     have hnb54 := NB185_181.out
                     have hnc54 := NB181_185.out
                     obtain ⟨hcz55_0, hcz55_1, hcz55_2⟩ := bc3_ BK185.out
                     have hfz55_0 := blk_frozen BK185.out 0
                     have hfz55_1 := blk_frozen BK185.out 1
                     have hfz55_2 := blk_frozen BK185.out 2
                     have p35 : 0 ≤ ((ji26) : Int) := od_
                     have q35 : (ji26) < (a0.size : Int) := od_
                     have hx35 := bt_at a0 (ji26)
                     replace p35 := eq_true p35
                     replace q35 := eq_true q35
                     try go_wp2_with (first | ((with_reducible refine gate_builtin (b := .append) (xs := #[.tmp 66, .tmp 68]) rfl ?_); (try (refine gate_guard (by rfl) ?_; dsimp only)); at_builtin; refine Kd.R_append k37 (w0 := w) w.heap.size rfl (.tmp 66) (.tmp 68) 38 37 (.agg #[(.int .i64 0), (.int .i64 0), (.int .i64 0)]) 24 rfl Try.underlying38 info37 rfl (by decide) (by omega) u5 x5_12 (⟨wrap64 ((wrap64 (bt a0 x6_12)) - 48), (-1), wrap64 ((wrap64 (bt a0 (ji26))) - 65)⟩ : S37) [.int .i64 (wrap64 ((wrap64 (bt a0 x6_12)) - 48)), .int .i64 (-1), .int .i64 (wrap64 ((wrap64 (bt a0 (ji26))) - 65))] (fun k_ => k_ ≠ gb185) (fun _ => False) rfl (by first | (go_simp; done) | (go_simp; rfl)) ?aP (fun _ hk => hk.elim) ?aF ?aO ?aB ?aS ?aL ?_; (case aP => exact k37_mkM _ _ _ (⟨wrap64 ((wrap64 (bt a0 x6_12)) - 48), (-1), wrap64 ((wrap64 (bt a0 (ji26))) - 65)⟩ : S37)); (case aB => exact (bk_ HB.out)); (case aF => exact (fun k_ hk => Kd.freshB (g := gb185) (o := .cells #[.int .i64 (wrap64 ((wrap64 (bt a0 x6_12)) - 48)), .int .i64 (-1), .int .i64 (wrap64 ((wrap64 (bt a0 (ji26))) - 65))] 37 (0, 0)) (by refine pk_ ?_; refine blk_put (cs := #[.int .i64 (wrap64 ((wrap64 (bt a0 x6_12)) - 48)), .int .i64 1, .int .i64 (wrap64 ((wrap64 (bt a0 (ji26))) - 65))]) ?_ 1 _ rfl; refine pk_ ?_; refine blk_put (cs := #[.int .i64 (wrap64 ((wrap64 (bt a0 x6_12)) - 48)), .int .i64 1, .int .i64 0]) ?_ 2 _ rfl; refine pk_ ?_; refine blk_put (cs := #[.int .i64 (wrap64 ((wrap64 (bt a0 x6_12)) - 48)), .int .i64 0, .int .i64 0]) ?_ 1 _ rfl; refine pk_ ?_; refine blk_put (cs := #[.int .i64 0, .int .i64 0, .int .i64 0]) ?_ 0 _ rfl; exact pk_ BK185.out) k_ hk)); (case aO => exact (by (with_reducible repeat (first | apply Kd.R_alloc | apply Kd.R_drewN | apply Kd.R_drew)); exact Kd.R_mono (rf4_ (Kd.R_mono HO_5.out (fun k_ hk => (⟨hk, hk.2⟩ : _ ∧ k_ ≠ gb185)))) (fun _ hk => hk.1.2))); (case aS => exact (below_size (bk_ HB.out))); (case aL => have := LMc47.out; omega); intro v190 w56 ho hb hg hat; rw [← Ny189.out] at ho; have n0_ := A_ (Kd.S_after (ok := (fun k_ => k_ ≠ gb185)) (by (with_reducible repeat (first | apply Kd.S_alloc | apply Kd.S_drewN | apply Kd.S_drew)); exact Kd.S_mono (Kd.S_far (p := ⟨gb185, 1, none⟩) (Kd.S_far (p := ⟨gb185, 2, none⟩) (Kd.S_far (p := ⟨gb185, 1, none⟩) (Kd.S_far (p := ⟨gb185, 0, none⟩) (Kd.S_mono HO_182002.out (fun k_ hk => (⟨hk, hk.2⟩ : _ ∧ k_ ≠ gb185))) (fun _ hk => hk.2) (.int .i64 (wrap64 ((wrap64 (bt a0 x6_12)) - 48)))) (fun _ hk => hk.2) (.int .i64 1)) (fun _ hk => hk.2) (.int .i64 (wrap64 ((wrap64 (bt a0 (ji26))) - 65)))) (fun _ hk => hk.2) (.int .i64 (-1))) (fun _ hk => ⟨hk.1.2, hk.1.1⟩)) hg hat); have n1_ := A_ (blk_grown (g := gb180) (o := .cells #[.int .i64 0, .int .i64 0, .slice none 0 0] 24 (0, 0)) (by (iterate 4 (refine pk_ ?_; refine blk_far ?_ NB180_185.out _)); exact pk_ BK180.out) hg (Kd.R_ne HO_5.out BK180.out (by decide))); have n2_ := A_ (blk_grown (g := gb181) (o := .cells #[.int .i64 x182000_12, .int .i64 0, u182002] 24 (0, 0)) (by (iterate 4 (refine pk_ ?_; refine blk_far ?_ NB181_185.out _)); exact pk_ BK181.out) hg (Kd.R_ne HO_5.out BK181.out (by decide))); have n3_ := A_ (blk_grown (g := gb185) (o := .cells #[.int .i64 (wrap64 ((wrap64 (bt a0 x6_12)) - 48)), .int .i64 (-1), .int .i64 (wrap64 ((wrap64 (bt a0 (ji26))) - 65))] 37 (0, 0)) (by refine pk_ ?_; refine blk_put (cs := #[.int .i64 (wrap64 ((wrap64 (bt a0 x6_12)) - 48)), .int .i64 1, .int .i64 (wrap64 ((wrap64 (bt a0 (ji26))) - 65))]) ?_ 1 _ rfl; refine pk_ ?_; refine blk_put (cs := #[.int .i64 (wrap64 ((wrap64 (bt a0 x6_12)) - 48)), .int .i64 1, .int .i64 0]) ?_ 2 _ rfl; refine pk_ ?_; refine blk_put (cs := #[.int .i64 (wrap64 ((wrap64 (bt a0 x6_12)) - 48)), .int .i64 0, .int .i64 0]) ?_ 1 _ rfl; refine pk_ ?_; refine blk_put (cs := #[.int .i64 0, .int .i64 0, .int .i64 0]) ?_ 0 _ rfl; exact pk_ BK185.out) hg (Kd.R_away HO_5.out (fun _ hk => hk.2))); have n4_ := A_ (hb); have n5_ := A_ (ho); clear HO_182002 BK180 BK181 BK185 HB HO_5; have HO_182002 := n0_; have BK180 := n1_; have BK181 := n2_; have BK185 := n3_; have HB := n4_; have HO191 := n5_; clear n0_ n1_ n2_ n3_ n4_ n5_ ho hb hg hat))
                     go_roundg kj12
                     case measure => have := HK1.out; have := HJ6.out; have := HJ12.out; omega
                     case rel => exact ⟨(y189), (wrap64 (x6_12 + 3)), (x182000_12), (x182002_12), (u182002), jr_, H', ⟨by have := HK1.out; have := HJ6.out; have := HJ12.out; omega⟩, ⟨by (with_reducible repeat (first | apply Kd.R_alloc | apply Kd.R_drewN | apply Kd.R_drew)); exact Kd.R_mono HO191.out (fun _ hk => trivial)⟩, ⟨by (with_reducible repeat (first | apply Kd.S_alloc | apply Kd.S_drewN | apply Kd.S_drew)); exact Kd.S_mono HO_182002.out (fun _ hk => hk.2)⟩, ⟨pk_ BK180.out⟩, ⟨pk_ BK181.out⟩, ⟨bk_ HB.out⟩⟩
                    ·rw [if_neg c47] at H
                     exact absurd H (by simp)
                  ·rw [if_neg c34] at H
                   have c34b0 : ((bt a0 (ji30)) == 76) = false := beq_eq_false_iff_ne.mpr c34
                   have c34b1 : ((bt a0 (ji30)) != 76) = true := bne_iff_ne.mpr c34
                   by_cases c58 : (bt a0 (ji26)) = 90
                   ·rw [if_pos c58] at H
                    have c58b0 : ((bt a0 (ji26)) == 90) = true := beq_iff_eq.mpr c58
                    have c58b1 : ((bt a0 (ji26)) != 90) = false := bne_eq_false_iff_eq.mpr c58
                    clear c58
                    by_cases c59 : x5_12.length < 5864062014805
                    ·rw [if_pos c59] at H
                     have LMc59 := Aside0.mk c59
                     clear c59
                     obtain ⟨y192, hy192⟩ : ∃ y_ : List (S37), y_ = (x5_12 ++ [(⟨wrap64 ((wrap64 (bt a0 x6_12)) - 48), 1, (-1)⟩ : S37)]) := ⟨_, rfl⟩
                     replace H : (standstillref01_Parse.l0 kj12 a0 y192 (wrap64 (x6_12 + 3)) x182000_12 0 x182002_12) = some (r1, r2, r3, r4) := by first | (rw [hy192]; with_reducible exact H) | (have H2_ := (Option.bind_some _ _).symm.trans H; rw [hy192]; with_reducible exact H2_) | (have H2_ := (Option.bind_some _ _).symm.trans H; with_reducible exact H2_) | with_reducible exact H | (rw [hy192]; exact H) | exact H
                     have Ny192 := Aside0.mk hy192
                     clear hy192
                     have H' := Aside0.mk H
                     clear H
                     try go_wp2
                     have n0_ := A_ (Kd.R_drew HO_5.out)
                     have n1_ := A_ (Kd.S_drew HO_182002.out)
                     have n2_ := A_ (blk_drew BK180.out)
                     have n3_ := A_ (blk_drew BK181.out)
                     have n4_ := A_ (below_drew1 HB.out)
                     clear HO_5 HO_182002 BK180 BK181 HB
                     have HO_5 := n0_
                     have HO_182002 := n1_
                     have BK180 := n2_
                     have BK181 := n3_
                     have HB := n4_
                     clear n0_ n1_ n2_ n3_ n4_
                     have p25 : 0 ≤ (x6_12 : Int) := od_
                     have q25 : x6_12 < (a0.size : Int) := od_
                     have hx25 := bt_at a0 x6_12
                     replace p25 := eq_true p25
                     replace q25 := eq_true q25
                     have p29 : 0 ≤ ((ji26) : Int) := od_
                     have q29 : (ji26) < (a0.size : Int) := od_
                     have hx29 := bt_at a0 (ji26)
                     replace p29 := eq_true p29
                     replace q29 := eq_true q29
                     refine start_ (n := 14) (S := fun w' => True) (ds := []) #[false, false, false, false, false, false, false, false, false, false, false, false, false, false] (by kernel_rfl) rfl rfl trivial (fun hHeld => ?_); refine with_tabW standstillref01_Parse.tab12 standstillref01_Parse.bits12 (fun HT_ HW_ => ?_)
                     generalize wc.drew = w60 at HO_5 HO_182002 BK180 BK181 HB hHeld ⊢
                     refine pure_ (i := 0) (N := some 42) (v := ?_) (a' := ?_) #[true, false, false, false, false, false, false, false, false, false, false, false, false, false] rfl rfl (any_of HT_.out (by kernel_rfl)) (fun _ _ _ h => h) (Or.inl ⟨by rfl, ?_⟩) ?_ ?_
                     rotate_left
                     ·intro w'
                      go_simp
                      with_reducible rfl
                     rotate_left
                     ·simp only [Act.put, sa_, sz_, ss_, i64_w, i32_w]
                      rfl
                     refine pure_ (i := 1) (N := some 43) (v := ?_) (a' := ?_) #[true, true, false, false, false, false, false, false, false, false, false, false, false, false] rfl rfl (any_of HT_.out (by kernel_rfl)) (fun _ _ _ h => h) (Or.inl ⟨by rfl, ?_⟩) ?_ ?_
                     rotate_left
                     ·intro w'
                      go_simp
                      with_reducible rfl
                     rotate_left
                     ·simp only [Act.put, sa_, sz_, ss_, i64_w, i32_w]
                      rfl
                     refine pure_ (i := 5) (N := some 47) (v := ?_) (a' := ?_) #[true, true, false, false, false, true, false, false, false, false, false, false, false, false] rfl rfl (any_of HT_.out (by kernel_rfl)) (fun _ _ _ h => h) (Or.inl ⟨by rfl, ?_⟩) ?_ ?_
                     rotate_left
                     ·intro w'
                      go_simp
                      with_reducible rfl
                     rotate_left
                     ·simp only [Act.put, sa_, sz_, ss_, i64_w, i32_w]
                      rfl
                     refine pure_ (i := 6) (N := some 48) (v := ?_) (a' := ?_) #[true, true, false, false, false, true, true, false, false, false, false, false, false, false] rfl rfl (any_of HT_.out (by kernel_rfl)) (fun _ _ _ h => h) (Or.inl ⟨by rfl, ?_⟩) ?_ ?_
                     rotate_left
                     ·intro w'
                      go_simp
                      with_reducible rfl
                     rotate_left
                     ·simp only [Act.put, sa_, sz_, ss_, i64_w, i32_w]
                      rfl
                     refine pure_ (i := 7) (N := some 49) (v := ?_) (a' := ?_) #[true, true, false, false, false, true, true, true, false, false, false, false, false, false] rfl rfl (any_of HT_.out (by kernel_rfl)) (fun _ _ _ h => h) (Or.inl ⟨by rfl, ?_⟩) ?_ ?_
                     rotate_left
                     ·intro w'
                      go_simp
                      with_reducible rfl
                     rotate_left
                     ·simp only [Act.put, sa_, sz_, ss_, i64_w, i32_w]
                      rfl
                     refine take_ (i := 2) (N := some 44) (v := ?_) (a' := ?_) #[true, true, true, false, false, true, true, true, false, false, false, false, false, false] rfl rfl (take_ofW HT_.out HW_.out (by kernel_rfl)) (fun _ _ _ h => h) (Or.inl ⟨by rfl, ?_⟩) hHeld ?_ ?_
                     rotate_left
                     ·intro w' _
                      go_simp
                      with_reducible rfl
                     rotate_left
                     ·simp only [Act.put, sa_, sz_, ss_, i64_w, i32_w]
                      rfl
                     refine pure_ (i := 3) (N := some 45) (v := ?_) (a' := ?_) #[true, true, true, true, false, true, true, true, false, false, false, false, false, false] rfl rfl (any_of HT_.out (by kernel_rfl)) (fun _ _ _ h => h) (Or.inl ⟨by rfl, ?_⟩) ?_ ?_
                     rotate_left
                     ·intro w'
                      go_simp
                      with_reducible rfl
                     rotate_left
                     ·simp only [Act.put, sa_, sz_, ss_, i64_w, i32_w]
                      rfl
                     refine pure_ (i := 4) (N := some 46) (v := ?_) (a' := ?_) #[true, true, true, true, true, true, true, true, false, false, false, false, false, false] rfl rfl (any_of HT_.out (by kernel_rfl)) (fun _ _ _ h => h) (Or.inl ⟨by rfl, ?_⟩) ?_ ?_
                     rotate_left
                     ·intro w'
                      go_simp
                      with_reducible rfl
                     rotate_left
                     ·simp only [Act.put, sa_, sz_, ss_, i64_w, i32_w]
                      rfl
                     refine take_ (i := 8) (N := some 50) (v := ?_) (a' := ?_) #[true, true, true, true, true, true, true, true, true, false, false, false, false, false] rfl rfl (take_ofW HT_.out HW_.out (by kernel_rfl)) (fun _ _ _ h => h) (Or.inl ⟨by rfl, ?_⟩) hHeld ?_ ?_
                     rotate_left
                     ·intro w' _
                      go_simp
                      with_reducible rfl
                     rotate_left
                     ·simp only [Act.put, sa_, sz_, ss_, i64_w, i32_w]
                      rfl
                     refine pure_ (i := 9) (N := some 51) (v := ?_) (a' := ?_) #[true, true, true, true, true, true, true, true, true, true, false, false, false, false] rfl rfl (any_of HT_.out (by kernel_rfl)) (fun _ _ _ h => h) (Or.inl ⟨by rfl, ?_⟩) ?_ ?_
                     rotate_left
                     ·intro w'
                      go_simp
                      with_reducible rfl
                     rotate_left
                     ·simp only [Act.put, sa_, sz_, ss_, i64_w, i32_w]
                      rfl
                     refine pure_ (i := 10) (N := some 52) (v := ?_) (a' := ?_) #[true, true, true, true, true, true, true, true, true, true, true, false, false, false] rfl rfl (any_of HT_.out (by kernel_rfl)) (fun _ _ _ h => h) (Or.inl ⟨by rfl, ?_⟩) ?_ ?_
                     rotate_left
                     ·intro w'
                      go_simp
                      with_reducible rfl
                     rotate_left
                     ·simp only [Act.put, sa_, sz_, ss_, i64_w, i32_w]
                      rfl
                     refine pure_ (i := 11) (N := some 53) (v := ?_) (a' := ?_) #[true, true, true, true, true, true, true, true, true, true, true, true, false, false] rfl rfl (any_of HT_.out (by kernel_rfl)) (fun _ _ _ h => h) (Or.inl ⟨by rfl, ?_⟩) ?_ ?_
                     rotate_left
                     ·intro w'
                      go_simp
                      with_reducible rfl
                     rotate_left
                     ·simp only [Act.put, sa_, sz_, ss_, i64_w, i32_w]
                      rfl
                     refine one_ (i := 12) (N := some 7) #[true, true, true, true, true, true, true, true, true, true, true, true, true, false] rfl rfl (one_of HT_.out (by kernel_rfl)) (by decide) (fun K hK => ?_)
                     refine box_step ?hg (N := 7) ?hd (cs := #[.int .i64 0, .int .i64 0, .int .i64 0]) (t := 37) ?hr ?_; (case hd => rfl); (case hg => rfl); (case hr => first | (go_simp; done) | (go_simp; rfl))
                     intro gb185 hg w61 hbox hb
                     have n0_ := A_ (Kd.R_below (Kd.R_elderB (rk_ HO_5.out) gb185 (Nat.le_of_eq hg.symm)) hb)
                     have n1_ := A_ (Kd.S_below (Kd.S_elderB (by (with_reducible repeat (first | apply Kd.S_alloc | apply Kd.S_drewN | apply Kd.S_drew)); exact HO_182002.out) gb185 (Nat.le_of_eq hg.symm)) hb)
                     have n2_ := A_ (blk_below (pk_ BK180.out) hb)
                     have n3_ := A_ (blk_below (pk_ BK181.out) hb)
                     have n4_ := A_ (below_step (bk_ HB.out) hb)
                     have n5_ := A_ (hbox)
                     have n6_ := A_ (bz_ hg (bk_ HB.out))
                     have n7_ := A_ (bz_ hg (bk_ HB.out))
                     have n8_ := A_ (nl_ hg (pk_ BK180.out))
                     have n9_ := A_ (ng_ hg (pk_ BK180.out))
                     have n10_ := A_ (nl_ hg (pk_ BK181.out))
                     have n11_ := A_ (ng_ hg (pk_ BK181.out))
                     clear HO_5 HO_182002 BK180 BK181 HB
                     have HO_5 := n0_
                     have HO_182002 := n1_
                     have BK180 := n2_
                     have BK181 := n3_
                     have HB := n4_
                     have BK185 := n5_
                     have GW185 := n6_
                     have GE185 := n7_
                     have NB180_185 := n8_
                     have NB185_180 := n9_
                     have NB181_185 := n10_
                     have NB185_181 := n11_
                     clear n0_ n1_ n2_ n3_ n4_ n5_ n6_ n7_ n8_ n9_ n10_ n11_ hb hbox hg
                     refine hK.out _ _ trivial (fun hHeld => ?_)
                     clear hK K
                     refine norm_ (a' := ?_) ?_ ?_
                     rotate_left
                     ·show Act.put _ (some 7) _ = _
                      simp only [Act.put, sa_, sz_, ss_, i64_w, i32_w]
                      rfl
                     refine one_ (i := 13) (N := none) #[true, true, true, true, true, true, true, true, true, true, true, true, true, true] rfl rfl (one_of HT_.out (by kernel_rfl)) (by decide) (fun K hK => ?_)
                     have hs62 : w61.cell? ⟨gb185, 0, none⟩ = some (.int .i64 0) := (blk_cell BK185.out 0).trans rfl
                     have hfs62 := blk_frozen BK185.out 0
                     have hns62_0 := NB180_185.out
                     have hns62_1 := NB181_185.out
                     have hms62_0 := NB185_180.out
                     have hms62_1 := NB185_181.out
                     have hs63 : w61.cell? ⟨gb185, 1, none⟩ = some (.int .i64 0) := (blk_cell BK185.out 1).trans rfl
                     have hfs63 := blk_frozen BK185.out 1
                     have hns63_0 := NB180_185.out
                     have hns63_1 := NB181_185.out
                     have hms63_0 := NB185_180.out
                     have hms63_1 := NB185_181.out
                     have hs64 : w61.cell? ⟨gb185, 2, none⟩ = some (.int .i64 0) := (blk_cell BK185.out 2).trans rfl
                     have hfs64 := blk_frozen BK185.out 2
                     have hns64_0 := NB180_185.out
                     have hns64_1 := NB181_185.out
                     have hms64_0 := NB185_180.out
                     have hms64_1 := NB185_181.out
                     refine skip_ (w1 := ?_) (by rfl) rfl ?_ ?_
                     rotate_left
                     ·go_simp
                      rfl
                     refine hK.out _ _ trivial (fun hHeld => ?_)
                     clear hK K
                     refine done_ (done_of HT_.out (by kernel_rfl)) ?_
                     have p33 : 0 ≤ ((ji30) : Int) := od_
                     have q33 : (ji30) < (a0.size : Int) := od_
                     have hx33 := bt_at a0 (ji30)
                     replace p33 := eq_true p33
                     replace q33 := eq_true q33
                     have p57 : 0 ≤ ((ji26) : Int) := od_
                     have q57 : (ji26) < (a0.size : Int) := od_
                     have hx57 := bt_at a0 (ji26)
                     replace p57 := eq_true p57
                     replace q57 := eq_true q57
                     have hnb65 := NB185_180.out
                     have hnc65 := NB180_185.out
                     have hnb66 := NB185_181.out
                     have hnc66 := NB181_185.out
                     obtain ⟨hcz67_0, hcz67_1, hcz67_2⟩ := bc3_ BK185.out
                     have hfz67_0 := blk_frozen BK185.out 0
                     have hfz67_1 := blk_frozen BK185.out 1
                     have hfz67_2 := blk_frozen BK185.out 2
                     try go_wp2_with (first | ((with_reducible refine gate_builtin (b := .append) (xs := #[.tmp 66, .tmp 68]) rfl ?_); (try (refine gate_guard (by rfl) ?_; dsimp only)); at_builtin; refine Kd.R_append k37 (w0 := w) w.heap.size rfl (.tmp 66) (.tmp 68) 38 37 (.agg #[(.int .i64 0), (.int .i64 0), (.int .i64 0)]) 24 rfl Try.underlying38 info37 rfl (by decide) (by omega) u5 x5_12 (⟨wrap64 ((wrap64 (bt a0 x6_12)) - 48), 1, (-1)⟩ : S37) [.int .i64 (wrap64 ((wrap64 (bt a0 x6_12)) - 48)), .int .i64 1, .int .i64 (-1)] (fun k_ => k_ ≠ gb185) (fun _ => False) rfl (by first | (go_simp; done) | (go_simp; rfl)) ?aP (fun _ hk => hk.elim) ?aF ?aO ?aB ?aS ?aL ?_; (case aP => exact k37_mkM _ _ _ (⟨wrap64 ((wrap64 (bt a0 x6_12)) - 48), 1, (-1)⟩ : S37)); (case aB => exact (bk_ HB.out)); (case aF => exact (fun k_ hk => Kd.freshB (g := gb185) (o := .cells #[.int .i64 (wrap64 ((wrap64 (bt a0 x6_12)) - 48)), .int .i64 1, .int .i64 (-1)] 37 (0, 0)) (by refine pk_ ?_; refine blk_put (cs := #[.int .i64 (wrap64 ((wrap64 (bt a0 x6_12)) - 48)), .int .i64 1, .int .i64 (wrap64 ((wrap64 (bt a0 (ji26))) - 65))]) ?_ 2 _ rfl; refine pk_ ?_; refine blk_put (cs := #[.int .i64 (wrap64 ((wrap64 (bt a0 x6_12)) - 48)), .int .i64 1, .int .i64 0]) ?_ 2 _ rfl; refine pk_ ?_; refine blk_put (cs := #[.int .i64 (wrap64 ((wrap64 (bt a0 x6_12)) - 48)), .int .i64 0, .int .i64 0]) ?_ 1 _ rfl; refine pk_ ?_; refine blk_put (cs := #[.int .i64 0, .int .i64 0, .int .i64 0]) ?_ 0 _ rfl; exact pk_ BK185.out) k_ hk)); (case aO => exact (by (with_reducible repeat (first | apply Kd.R_alloc | apply Kd.R_drewN | apply Kd.R_drew)); exact Kd.R_mono (rf4_ (Kd.R_mono HO_5.out (fun k_ hk => (⟨hk, hk.2⟩ : _ ∧ k_ ≠ gb185)))) (fun _ hk => hk.1.2))); (case aS => exact (below_size (bk_ HB.out))); (case aL => have := LMc59.out; omega); intro v193 w68 ho hb hg hat; rw [← Ny192.out] at ho; have n0_ := A_ (Kd.S_after (ok := (fun k_ => k_ ≠ gb185)) (by (with_reducible repeat (first | apply Kd.S_alloc | apply Kd.S_drewN | apply Kd.S_drew)); exact Kd.S_mono (Kd.S_far (p := ⟨gb185, 2, none⟩) (Kd.S_far (p := ⟨gb185, 2, none⟩) (Kd.S_far (p := ⟨gb185, 1, none⟩) (Kd.S_far (p := ⟨gb185, 0, none⟩) (Kd.S_mono HO_182002.out (fun k_ hk => (⟨hk, hk.2⟩ : _ ∧ k_ ≠ gb185))) (fun _ hk => hk.2) (.int .i64 (wrap64 ((wrap64 (bt a0 x6_12)) - 48)))) (fun _ hk => hk.2) (.int .i64 1)) (fun _ hk => hk.2) (.int .i64 (wrap64 ((wrap64 (bt a0 (ji26))) - 65)))) (fun _ hk => hk.2) (.int .i64 (-1))) (fun _ hk => ⟨hk.1.2, hk.1.1⟩)) hg hat); have n1_ := A_ (blk_grown (g := gb180) (o := .cells #[.int .i64 0, .int .i64 0, .slice none 0 0] 24 (0, 0)) (by (iterate 4 (refine pk_ ?_; refine blk_far ?_ NB180_185.out _)); exact pk_ BK180.out) hg (Kd.R_ne HO_5.out BK180.out (by decide))); have n2_ := A_ (blk_grown (g := gb181) (o := .cells #[.int .i64 x182000_12, .int .i64 0, u182002] 24 (0, 0)) (by (iterate 4 (refine pk_ ?_; refine blk_far ?_ NB181_185.out _)); exact pk_ BK181.out) hg (Kd.R_ne HO_5.out BK181.out (by decide))); have n3_ := A_ (blk_grown (g := gb185) (o := .cells #[.int .i64 (wrap64 ((wrap64 (bt a0 x6_12)) - 48)), .int .i64 1, .int .i64 (-1)] 37 (0, 0)) (by refine pk_ ?_; refine blk_put (cs := #[.int .i64 (wrap64 ((wrap64 (bt a0 x6_12)) - 48)), .int .i64 1, .int .i64 (wrap64 ((wrap64 (bt a0 (ji26))) - 65))]) ?_ 2 _ rfl; refine pk_ ?_; refine blk_put (cs := #[.int .i64 (wrap64 ((wrap64 (bt a0 x6_12)) - 48)), .int .i64 1, .int .i64 0]) ?_ 2 _ rfl; refine pk_ ?_; refine blk_put (cs := #[.int .i64 (wrap64 ((wrap64 (bt a0 x6_12)) - 48)), .int .i64 0, .int .i64 0]) ?_ 1 _ rfl; refine pk_ ?_; refine blk_put (cs := #[.int .i64 0, .int .i64 0, .int .i64 0]) ?_ 0 _ rfl; exact pk_ BK185.out) hg (Kd.R_away HO_5.out (fun _ hk => hk.2))); have n4_ := A_ (hb); have n5_ := A_ (ho); clear HO_182002 BK180 BK181 BK185 HB HO_5; have HO_182002 := n0_; have BK180 := n1_; have BK181 := n2_; have BK185 := n3_; have HB := n4_; have HO194 := n5_; clear n0_ n1_ n2_ n3_ n4_ n5_ ho hb hg hat))
                     go_roundg kj12
                     case measure => have := HK1.out; have := HJ6.out; have := HJ12.out; omega
                     case rel => exact ⟨(y192), (wrap64 (x6_12 + 3)), (x182000_12), (x182002_12), (u182002), jr_, H', ⟨by have := HK1.out; have := HJ6.out; have := HJ12.out; omega⟩, ⟨by (with_reducible repeat (first | apply Kd.R_alloc | apply Kd.R_drewN | apply Kd.R_drew)); exact Kd.R_mono HO194.out (fun _ hk => trivial)⟩, ⟨by (with_reducible repeat (first | apply Kd.S_alloc | apply Kd.S_drewN | apply Kd.S_drew)); exact Kd.S_mono HO_182002.out (fun _ hk => hk.2)⟩, ⟨pk_ BK180.out⟩, ⟨pk_ BK181.out⟩, ⟨bk_ HB.out⟩⟩
                    ·rw [if_neg c59] at H
                     exact absurd H (by simp)
                   ·rw [if_neg c58] at H
                    have c58b0 : ((bt a0 (ji26)) == 90) = false := beq_eq_false_iff_ne.mpr c58
                    have c58b1 : ((bt a0 (ji26)) != 90) = true := bne_iff_ne.mpr c58
                    by_cases c69 : x5_12.length < 5864062014805
                    ·rw [if_pos c69] at H
                     have LMc69 := Aside0.mk c69
                     clear c69
                     obtain ⟨y195, hy195⟩ : ∃ y_ : List (S37), y_ = (x5_12 ++ [(⟨wrap64 ((wrap64 (bt a0 x6_12)) - 48), 1, wrap64 ((wrap64 (bt a0 (ji26))) - 65)⟩ : S37)]) := ⟨_, rfl⟩
                     replace H : (standstillref01_Parse.l0 kj12 a0 y195 (wrap64 (x6_12 + 3)) x182000_12 0 x182002_12) = some (r1, r2, r3, r4) := by first | (rw [hy195]; with_reducible exact H) | (have H2_ := (Option.bind_some _ _).symm.trans H; rw [hy195]; with_reducible exact H2_) | (have H2_ := (Option.bind_some _ _).symm.trans H; with_reducible exact H2_) | with_reducible exact H | (rw [hy195]; exact H) | exact H
                     have Ny195 := Aside0.mk hy195
                     clear hy195
                     have H' := Aside0.mk H
                     clear H
                     try go_wp2
                     have n0_ := A_ (Kd.R_drew HO_5.out)
                     have n1_ := A_ (Kd.S_drew HO_182002.out)
                     have n2_ := A_ (blk_drew BK180.out)
                     have n3_ := A_ (blk_drew BK181.out)
                     have n4_ := A_ (below_drew1 HB.out)
                     clear HO_5 HO_182002 BK180 BK181 HB
                     have HO_5 := n0_
                     have HO_182002 := n1_
                     have BK180 := n2_
                     have BK181 := n3_
                     have HB := n4_
                     clear n0_ n1_ n2_ n3_ n4_
                     have p25 : 0 ≤ (x6_12 : Int) := od_
                     have q25 : x6_12 < (a0.size : Int) := od_
                     have hx25 := bt_at a0 x6_12
                     replace p25 := eq_true p25
                     replace q25 := eq_true q25
                     have p29 : 0 ≤ ((ji26) : Int) := od_
                     have q29 : (ji26) < (a0.size : Int) := od_
                     have hx29 := bt_at a0 (ji26)
                     replace p29 := eq_true p29
                     replace q29 := eq_true q29
                     refine start_ (n := 14) (S := fun w' => True) (ds := []) #[false, false, false, false, false, false, false, false, false, false, false, false, false, false] (by kernel_rfl) rfl rfl trivial (fun hHeld => ?_); refine with_tabW standstillref01_Parse.tab12 standstillref01_Parse.bits12 (fun HT_ HW_ => ?_)
                     generalize wc.drew = w70 at HO_5 HO_182002 BK180 BK181 HB hHeld ⊢
                     refine pure_ (i := 0) (N := some 42) (v := ?_) (a' := ?_) #[true, false, false, false, false, false, false, false, false, false, false, false, false, false] rfl rfl (any_of HT_.out (by kernel_rfl)) (fun _ _ _ h => h) (Or.inl ⟨by rfl, ?_⟩) ?_ ?_
                     rotate_left
                     ·intro w'
                      go_simp
                      with_reducible rfl
                     rotate_left
                     ·simp only [Act.put, sa_, sz_, ss_, i64_w, i32_w]
                      rfl
                     refine pure_ (i := 1) (N := some 43) (v := ?_) (a' := ?_) #[true, true, false, false, false, false, false, false, false, false, false, false, false, false] rfl rfl (any_of HT_.out (by kernel_rfl)) (fun _ _ _ h => h) (Or.inl ⟨by rfl, ?_⟩) ?_ ?_
                     rotate_left
                     ·intro w'
                      go_simp
                      with_reducible rfl
                     rotate_left
                     ·simp only [Act.put, sa_, sz_, ss_, i64_w, i32_w]
                      rfl
                     refine pure_ (i := 5) (N := some 47) (v := ?_) (a' := ?_) #[true, true, false, false, false, true, false, false, false, false, false, false, false, false] rfl rfl (any_of HT_.out (by kernel_rfl)) (fun _ _ _ h => h) (Or.inl ⟨by rfl, ?_⟩) ?_ ?_
                     rotate_left
                     ·intro w'
                      go_simp
                      with_reducible rfl
                     rotate_left
                     ·simp only [Act.put, sa_, sz_, ss_, i64_w, i32_w]
                      rfl
                     refine pure_ (i := 6) (N := some 48) (v := ?_) (a' := ?_) #[true, true, false, false, false, true, true, false, false, false, false, false, false, false] rfl rfl (any_of HT_.out (by kernel_rfl)) (fun _ _ _ h => h) (Or.inl ⟨by rfl, ?_⟩) ?_ ?_
                     rotate_left
                     ·intro w'
                      go_simp
                      with_reducible rfl
                     rotate_left
                     ·simp only [Act.put, sa_, sz_, ss_, i64_w, i32_w]
                      rfl
                     refine pure_ (i := 7) (N := some 49) (v := ?_) (a' := ?_) #[true, true, false, false, false, true, true, true, false, false, false, false, false, false] rfl rfl (any_of HT_.out (by kernel_rfl)) (fun _ _ _ h => h) (Or.inl ⟨by rfl, ?_⟩) ?_ ?_
                     rotate_left
                     ·intro w'
                      go_simp
                      with_reducible rfl
                     rotate_left
                     ·simp only [Act.put, sa_, sz_, ss_, i64_w, i32_w]
                      rfl
                     refine take_ (i := 2) (N := some 44) (v := ?_) (a' := ?_) #[true, true, true, false, false, true, true, true, false, false, false, false, false, false] rfl rfl (take_ofW HT_.out HW_.out (by kernel_rfl)) (fun _ _ _ h => h) (Or.inl ⟨by rfl, ?_⟩) hHeld ?_ ?_
                     rotate_left
                     ·intro w' _
                      go_simp
                      with_reducible rfl
                     rotate_left
                     ·simp only [Act.put, sa_, sz_, ss_, i64_w, i32_w]
                      rfl
                     refine pure_ (i := 3) (N := some 45) (v := ?_) (a' := ?_) #[true, true, true, true, false, true, true, true, false, false, false, false, false, false] rfl rfl (any_of HT_.out (by kernel_rfl)) (fun _ _ _ h => h) (Or.inl ⟨by rfl, ?_⟩) ?_ ?_
                     rotate_left
                     ·intro w'
                      go_simp
                      with_reducible rfl
                     rotate_left
                     ·simp only [Act.put, sa_, sz_, ss_, i64_w, i32_w]
                      rfl
                     refine pure_ (i := 4) (N := some 46) (v := ?_) (a' := ?_) #[true, true, true, true, true, true, true, true, false, false, false, false, false, false] rfl rfl (any_of HT_.out (by kernel_rfl)) (fun _ _ _ h => h) (Or.inl ⟨by rfl, ?_⟩) ?_ ?_
                     rotate_left
                     ·intro w'
                      go_simp
                      with_reducible rfl
                     rotate_left
                     ·simp only [Act.put, sa_, sz_, ss_, i64_w, i32_w]
                      rfl
                     refine take_ (i := 8) (N := some 50) (v := ?_) (a' := ?_) #[true, true, true, true, true, true, true, true, true, false, false, false, false, false] rfl rfl (take_ofW HT_.out HW_.out (by kernel_rfl)) (fun _ _ _ h => h) (Or.inl ⟨by rfl, ?_⟩) hHeld ?_ ?_
                     rotate_left
                     ·intro w' _
                      go_simp
                      with_reducible rfl
                     rotate_left
                     ·simp only [Act.put, sa_, sz_, ss_, i64_w, i32_w]
                      rfl
                     refine pure_ (i := 9) (N := some 51) (v := ?_) (a' := ?_) #[true, true, true, true, true, true, true, true, true, true, false, false, false, false] rfl rfl (any_of HT_.out (by kernel_rfl)) (fun _ _ _ h => h) (Or.inl ⟨by rfl, ?_⟩) ?_ ?_
                     rotate_left
                     ·intro w'
                      go_simp
                      with_reducible rfl
                     rotate_left
                     ·simp only [Act.put, sa_, sz_, ss_, i64_w, i32_w]
                      rfl
                     refine pure_ (i := 10) (N := some 52) (v := ?_) (a' := ?_) #[true, true, true, true, true, true, true, true, true, true, true, false, false, false] rfl rfl (any_of HT_.out (by kernel_rfl)) (fun _ _ _ h => h) (Or.inl ⟨by rfl, ?_⟩) ?_ ?_
                     rotate_left
                     ·intro w'
                      go_simp
                      with_reducible rfl
                     rotate_left
                     ·simp only [Act.put, sa_, sz_, ss_, i64_w, i32_w]
                      rfl
                     refine pure_ (i := 11) (N := some 53) (v := ?_) (a' := ?_) #[true, true, true, true, true, true, true, true, true, true, true, true, false, false] rfl rfl (any_of HT_.out (by kernel_rfl)) (fun _ _ _ h => h) (Or.inl ⟨by rfl, ?_⟩) ?_ ?_
                     rotate_left
                     ·intro w'
                      go_simp
                      with_reducible rfl
                     rotate_left
                     ·simp only [Act.put, sa_, sz_, ss_, i64_w, i32_w]
                      rfl
                     refine one_ (i := 12) (N := some 7) #[true, true, true, true, true, true, true, true, true, true, true, true, true, false] rfl rfl (one_of HT_.out (by kernel_rfl)) (by decide) (fun K hK => ?_)
                     refine box_step ?hg (N := 7) ?hd (cs := #[.int .i64 0, .int .i64 0, .int .i64 0]) (t := 37) ?hr ?_; (case hd => rfl); (case hg => rfl); (case hr => first | (go_simp; done) | (go_simp; rfl))
                     intro gb185 hg w71 hbox hb
                     have n0_ := A_ (Kd.R_below (Kd.R_elderB (rk_ HO_5.out) gb185 (Nat.le_of_eq hg.symm)) hb)
                     have n1_ := A_ (Kd.S_below (Kd.S_elderB (by (with_reducible repeat (first | apply Kd.S_alloc | apply Kd.S_drewN | apply Kd.S_drew)); exact HO_182002.out) gb185 (Nat.le_of_eq hg.symm)) hb)
                     have n2_ := A_ (blk_below (pk_ BK180.out) hb)
                     have n3_ := A_ (blk_below (pk_ BK181.out) hb)
                     have n4_ := A_ (below_step (bk_ HB.out) hb)
                     have n5_ := A_ (hbox)
                     have n6_ := A_ (bz_ hg (bk_ HB.out))
                     have n7_ := A_ (bz_ hg (bk_ HB.out))
                     have n8_ := A_ (nl_ hg (pk_ BK180.out))
                     have n9_ := A_ (ng_ hg (pk_ BK180.out))
                     have n10_ := A_ (nl_ hg (pk_ BK181.out))
                     have n11_ := A_ (ng_ hg (pk_ BK181.out))
                     clear HO_5 HO_182002 BK180 BK181 HB
                     have HO_5 := n0_
                     have HO_182002 := n1_
                     have BK180 := n2_
                     have BK181 := n3_
                     have HB := n4_
                     have BK185 := n5_
                     have GW185 := n6_
                     have GE185 := n7_
                     have NB180_185 := n8_
                     have NB185_180 := n9_
                     have NB181_185 := n10_
                     have NB185_181 := n11_
                     clear n0_ n1_ n2_ n3_ n4_ n5_ n6_ n7_ n8_ n9_ n10_ n11_ hb hbox hg
                     refine hK.out _ _ trivial (fun hHeld => ?_)
                     clear hK K
                     refine norm_ (a' := ?_) ?_ ?_
                     rotate_left
                     ·show Act.put _ (some 7) _ = _
                      simp only [Act.put, sa_, sz_, ss_, i64_w, i32_w]
                      rfl
                     refine one_ (i := 13) (N := none) #[true, true, true, true, true, true, true, true, true, true, true, true, true, true] rfl rfl (one_of HT_.out (by kernel_rfl)) (by decide) (fun K hK => ?_)
                     have hs72 : w71.cell? ⟨gb185, 0, none⟩ = some (.int .i64 0) := (blk_cell BK185.out 0).trans rfl
                     have hfs72 := blk_frozen BK185.out 0
                     have hns72_0 := NB180_185.out
                     have hns72_1 := NB181_185.out
                     have hms72_0 := NB185_180.out
                     have hms72_1 := NB185_181.out
                     have hs73 : w71.cell? ⟨gb185, 1, none⟩ = some (.int .i64 0) := (blk_cell BK185.out 1).trans rfl
                     have hfs73 := blk_frozen BK185.out 1
                     have hns73_0 := NB180_185.out
                     have hns73_1 := NB181_185.out
                     have hms73_0 := NB185_180.out
                     have hms73_1 := NB185_181.out
                     have hs74 : w71.cell? ⟨gb185, 2, none⟩ = some (.int .i64 0) := (blk_cell BK185.out 2).trans rfl
                     have hfs74 := blk_frozen BK185.out 2
                     have hns74_0 := NB180_185.out
                     have hns74_1 := NB181_185.out
                     have hms74_0 := NB185_180.out
                     have hms74_1 := NB185_181.out
                     refine skip_ (w1 := ?_) (by rfl) rfl ?_ ?_
                     rotate_left
                     ·go_simp
                      rfl
                     refine hK.out _ _ trivial (fun hHeld => ?_)
                     clear hK K
                     refine done_ (done_of HT_.out (by kernel_rfl)) ?_
                     have p33 : 0 ≤ ((ji30) : Int) := od_
                     have q33 : (ji30) < (a0.size : Int) := od_
                     have hx33 := bt_at a0 (ji30)
                     replace p33 := eq_true p33
                     replace q33 := eq_true q33
                     have p57 : 0 ≤ ((ji26) : Int) := od_
                     have q57 : (ji26) < (a0.size : Int) := od_
                     have hx57 := bt_at a0 (ji26)
                     replace p57 := eq_true p57
                     replace q57 := eq_true q57
                     have hnb75 := NB185_180.out
                     have hnc75 := NB180_185.out
                     have hnb76 := NB185_181.out
                     have hnc76 := NB181_185.out
                     obtain ⟨hcz77_0, hcz77_1, hcz77_2⟩ := bc3_ BK185.out
                     have hfz77_0 := blk_frozen BK185.out 0
                     have hfz77_1 := blk_frozen BK185.out 1
                     have hfz77_2 := blk_frozen BK185.out 2
                     try go_wp2_with (first | ((with_reducible refine gate_builtin (b := .append) (xs := #[.tmp 66, .tmp 68]) rfl ?_); (try (refine gate_guard (by rfl) ?_; dsimp only)); at_builtin; refine Kd.R_append k37 (w0 := w) w.heap.size rfl (.tmp 66) (.tmp 68) 38 37 (.agg #[(.int .i64 0), (.int .i64 0), (.int .i64 0)]) 24 rfl Try.underlying38 info37 rfl (by decide) (by omega) u5 x5_12 (⟨wrap64 ((wrap64 (bt a0 x6_12)) - 48), 1, wrap64 ((wrap64 (bt a0 (ji26))) - 65)⟩ : S37) [.int .i64 (wrap64 ((wrap64 (bt a0 x6_12)) - 48)), .int .i64 1, .int .i64 (wrap64 ((wrap64 (bt a0 (ji26))) - 65))] (fun k_ => k_ ≠ gb185) (fun _ => False) rfl (by first | (go_simp; done) | (go_simp; rfl)) ?aP (fun _ hk => hk.elim) ?aF ?aO ?aB ?aS ?aL ?_; (case aP => exact k37_mkM _ _ _ (⟨wrap64 ((wrap64 (bt a0 x6_12)) - 48), 1, wrap64 ((wrap64 (bt a0 (ji26))) - 65)⟩ : S37)); (case aB => exact (bk_ HB.out)); (case aF => exact (fun k_ hk => Kd.freshB (g := gb185) (o := .cells #[.int .i64 (wrap64 ((wrap64 (bt a0 x6_12)) - 48)), .int .i64 1, .int .i64 (wrap64 ((wrap64 (bt a0 (ji26))) - 65))] 37 (0, 0)) (by refine pk_ ?_; refine blk_put (cs := #[.int .i64 (wrap64 ((wrap64 (bt a0 x6_12)) - 48)), .int .i64 1, .int .i64 0]) ?_ 2 _ rfl; refine pk_ ?_; refine blk_put (cs := #[.int .i64 (wrap64 ((wrap64 (bt a0 x6_12)) - 48)), .int .i64 0, .int .i64 0]) ?_ 1 _ rfl; refine pk_ ?_; refine blk_put (cs := #[.int .i64 0, .int .i64 0, .int .i64 0]) ?_ 0 _ rfl; exact pk_ BK185.out) k_ hk)); (case aO => exact (by (with_reducible repeat (first | apply Kd.R_alloc | apply Kd.R_drewN | apply Kd.R_drew)); exact Kd.R_mono (rf3_ (Kd.R_mono HO_5.out (fun k_ hk => (⟨hk, hk.2⟩ : _ ∧ k_ ≠ gb185)))) (fun _ hk => hk.1.2))); (case aS => exact (below_size (bk_ HB.out))); (case aL => have := LMc69.out; omega); intro v196 w78 ho hb hg hat; rw [← Ny195.out] at ho; have n0_ := A_ (Kd.S_after (ok := (fun k_ => k_ ≠ gb185)) (by (with_reducible repeat (first | apply Kd.S_alloc | apply Kd.S_drewN | apply Kd.S_drew)); exact Kd.S_mono (Kd.S_far (p := ⟨gb185, 2, none⟩) (Kd.S_far (p := ⟨gb185, 1, none⟩) (Kd.S_far (p := ⟨gb185, 0, none⟩) (Kd.S_mono HO_182002.out (fun k_ hk => (⟨hk, hk.2⟩ : _ ∧ k_ ≠ gb185))) (fun _ hk => hk.2) (.int .i64 (wrap64 ((wrap64 (bt a0 x6_12)) - 48)))) (fun _ hk => hk.2) (.int .i64 1)) (fun _ hk => hk.2) (.int .i64 (wrap64 ((wrap64 (bt a0 (ji26))) - 65)))) (fun _ hk => ⟨hk.1.2, hk.1.1⟩)) hg hat); have n1_ := A_ (blk_grown (g := gb180) (o := .cells #[.int .i64 0, .int .i64 0, .slice none 0 0] 24 (0, 0)) (by (iterate 3 (refine pk_ ?_; refine blk_far ?_ NB180_185.out _)); exact pk_ BK180.out) hg (Kd.R_ne HO_5.out BK180.out (by decide))); have n2_ := A_ (blk_grown (g := gb181) (o := .cells #[.int .i64 x182000_12, .int .i64 0, u182002] 24 (0, 0)) (by (iterate 3 (refine pk_ ?_; refine blk_far ?_ NB181_185.out _)); exact pk_ BK181.out) hg (Kd.R_ne HO_5.out BK181.out (by decide))); have n4_ := A_ (hb); have n5_ := A_ (ho); clear HO_182002 BK180 BK181 HB HO_5; have HO_182002 := n0_; have BK180 := n1_; have BK181 := n2_; have HB := n4_; have HO197 := n5_; clear n0_ n1_ n2_ n4_ n5_ ho hb hg hat))
                     go_roundg kj12
                     case measure => have := HK1.out; have := HJ6.out; have := HJ12.out; omega
                     case rel => exact ⟨(y195), (wrap64 (x6_12 + 3)), (x182000_12), (x182002_12), (u182002), jr_, H', ⟨by have := HK1.out; have := HJ6.out; have := HJ12.out; omega⟩, ⟨by (with_reducible repeat (first | apply Kd.R_alloc | apply Kd.R_drewN | apply Kd.R_drew)); exact Kd.R_mono HO197.out (fun _ hk => trivial)⟩, ⟨by (with_reducible repeat (first | apply Kd.S_alloc | apply Kd.S_drewN | apply Kd.S_drew)); exact Kd.S_mono HO_182002.out (fun _ hk => hk.2)⟩, ⟨pk_ BK180.out⟩, ⟨pk_ BK181.out⟩, ⟨bk_ HB.out⟩⟩
                    ·rw [if_neg c69] at H
                     exact absurd H (by simp)
                 ·rw [if_neg c32] at H
                  exact absurd H (by simp)
                ·rw [if_neg c31] at H
                 exact absurd H (by simp)
               ·rw [if_neg c28] at H
                exact absurd H (by simp)
              ·rw [if_neg c27] at H
               exact absurd H (by simp)
             ·rw [if_neg c24] at H
              exact absurd H (by simp)
            ·rw [if_neg c23] at H
             exact absurd H (by simp)
        ·rw [if_neg c11] at H
         exact absurd H (by simp)
       ·rw [if_neg c10] at H
        exact absurd H (by simp)
      ·replace c9 := Bool.eq_false_iff.mpr c9
       subst c9
       have H1 : (standstillref01_Parse.j3 kj6 a0 x5_1 x182000_1 0 x182002_1) = some (r1, r2, r3, r4) := by rw [if_neg (show ¬ (false = true) by decide)] at H; exact H
       clear H
       have H := H1
       clear H1
       have H' := Aside0.mk H
       clear H
       go_wp2
       go_meet
       case rel => exact ⟨_, (x5_1), (x182000_1), (x182002_1), (u182002), H', ⟨by have := HK1.out; have := HJ6.out; first | omega | exact Nat.le_refl _⟩, ⟨rk_ HO_5.out⟩, ⟨by (with_reducible repeat (first | apply Kd.S_alloc | apply Kd.S_drewN | apply Kd.S_drew)); exact HO_182002.out⟩, ⟨pk_ BK180.out⟩, ⟨pk_ BK181.out⟩, ⟨bk_ HB.out⟩⟩
 case rest => as_aux_lemma =>
  clear HC2
  obtain ⟨kq, x5_1, x182000_1, x182002_1, u182002, HA, HJ1, HO_5, HO_182002, BK180, BK181, HB⟩ := hcut
  cases kq with
  | zero => exact absurd HA.out (by simp [standstillref01_Parse.j3])
  | succ kj1 =>
   have H := HA.out
   clear HA
   simp only [standstillref01_Parse.j3] at H
   by_cases c79 : x182002_1.length < 5864062014805
   ·rw [if_pos c79] at H
    have LMc79 := Aside0.mk c79
    clear c79
    obtain ⟨y198, hy198⟩ : ∃ y_ : List (List (S37)), y_ = (x182002_1 ++ [x5_1]) := ⟨_, rfl⟩
    replace H : ((standstillref01_Valid.f kj1 x182000_1 (x5_1.length : Int) y198).bind fun t201 => (if t201 = true then ((standstillref01_Text.f kj1 x182000_1 (x5_1.length : Int) y198).bind fun t202 => (if t202.toList = a0.toList then (some (x182000_1, (x5_1.length : Int), y198, true)) else (some (0, 0, ([] : List (List (S37))), false)))) else (some (0, 0, ([] : List (List (S37))), false)))) = some (r1, r2, r3, r4) := by first | (rw [hy198]; with_reducible exact H) | (have H2_ := (Option.bind_some _ _).symm.trans H; rw [hy198]; with_reducible exact H2_) | (have H2_ := (Option.bind_some _ _).symm.trans H; with_reducible exact H2_) | with_reducible exact H | (rw [hy198]; exact H) | exact H
    have Ny198 := Aside0.mk hy198
    clear hy198
    replace H := Option.bind_eq_some_iff.mp H
    obtain ⟨t201, A800, H⟩ := H
    replace H : (if t201 = true then ((standstillref01_Text.f kj1 x182000_1 (x5_1.length : Int) y198).bind fun t202 => (if t202.toList = a0.toList then (some (x182000_1, (x5_1.length : Int), y198, true)) else (some (0, 0, ([] : List (List (S37))), false)))) else (some (0, 0, ([] : List (List (S37))), false))) = some (r1, r2, r3, r4) := H
    have A80 := Aside0.mk A800
    clear A800
    by_cases c81 : t201 = true
    ·subst c81
     have H1 : ((standstillref01_Text.f kj1 x182000_1 (x5_1.length : Int) y198).bind fun t202 => (if t202.toList = a0.toList then (some (x182000_1, (x5_1.length : Int), y198, true)) else (some (0, 0, ([] : List (List (S37))), false)))) = some (r1, r2, r3, r4) := by rw [if_pos rfl] at H; exact H
     clear H
     have H := H1
     clear H1
     replace H := Option.bind_eq_some_iff.mp H
     obtain ⟨t202, A820, H⟩ := H
     replace H : (if t202.toList = a0.toList then (some (x182000_1, (x5_1.length : Int), y198, true)) else (some (0, 0, ([] : List (List (S37))), false))) = some (r1, r2, r3, r4) := H
     have A82 := Aside0.mk A820
     clear A820
     by_cases c83 : t202.toList = a0.toList
     ·rw [if_pos c83] at H
      have c83b0 : (t202.toList == a0.toList) = true := beq_iff_eq.mpr c83
      have c83b1 : (t202.toList != a0.toList) = false := bne_eq_false_iff_eq.mpr c83
      clear c83
      simp only [Option.some.injEq, Prod.mk.injEq] at H
      obtain ⟨rfl, rfl, rfl, rfl⟩ := H
      have hnb84 := NB181_180.out
      have hnc84 := NB180_181.out
      obtain ⟨hcz85_0, hcz85_1, hcz85_2⟩ := bc3_ BK181.out
      have hfz85_0 := blk_frozen BK181.out 0
      have hfz85_1 := blk_frozen BK181.out 1
      have hfz85_2 := blk_frozen BK181.out 2
      obtain ⟨Ao87, co87, eo87⟩ := Kd.R_slice HO_5.out
      subst eo87
      go_wp2_with (first | ((with_reducible refine gate_builtin (b := .append) (xs := #[.tmp 71, .tmp 73]) rfl ?_); (try (refine gate_guard (by rfl) ?_; dsimp only)); at_builtin; refine Kd.S_append (Kd.slice 37 k37) (w0 := w) w.heap.size rfl (.tmp 71) (.tmp 73) 22 38 (.slice none 0 0) 24 rfl Try.underlying22 info38 rfl (by decide) (by omega) u182002 x182002_1 x5_1 [.slice Ao87 x5_1.length co87] (fun _ => True) (fun k_ => some k_ = (.slice Ao87 x5_1.length co87 : Value).ownBlock) rfl rfl ?aP (fun k_ hk_ => ((Kd.R_mono (ok' := fun k_ => ((fun _ => True)) k_ ∧ some k_ ≠ (u182002 : Value).ownBlock) (Kd.R_apart' (HO_5.out) (Kd.S_typed HO_182002.out) (by decide)) (fun k_ hk => ⟨trivial, hk.2⟩))).1 k_ hk_.symm) ?aF ?aO ?aB ?aS ?aL ?_; (case aP => exact Kd.M_row (Kd.R_mono (Kd.R_tight rfl (Kd.R_mono (ok' := fun k_ => ((fun _ => True)) k_ ∧ some k_ ≠ (u182002 : Value).ownBlock) (Kd.R_apart' (HO_5.out) (Kd.S_typed HO_182002.out) (by decide)) (fun k_ hk => ⟨trivial, hk.2⟩))) (fun _ h_ => h_))); (case aB => exact (bk_ HB.out)); (case aF => exact (fun _ _ => trivial)); (case aO => exact (by (with_reducible repeat (first | apply Kd.S_alloc | apply Kd.S_drewN | apply Kd.S_drew)); exact Kd.S_mono HO_182002.out (fun k_ hk => ⟨trivial, fun e_ => hk e_⟩))); (case aS => exact (below_size (bk_ HB.out))); (case aL => have := LMc79.out; omega); intro v199 w86 ho hb hg hat; rw [← Ny198.out] at ho; have n0_ := A_ (blk_grown (pk_ BK180.out) hg (Kd.S_ne HO_182002.out BK180.out (by decide))); have n1_ := A_ (blk_grown (pk_ BK181.out) hg (Kd.S_ne HO_182002.out BK181.out (by decide))); have n2_ := A_ (hb); have n3_ := A_ (ho); clear BK180 BK181 HB HO_182002 HO_5; have BK180 := n0_; have BK181 := n1_; have HB := n2_; have HO200 := n3_; clear n0_ n1_ n2_ n3_ ho hb hg hat; obtain ⟨Ao88, co88, eo88⟩ := Kd.S_slice HO200.out; subst eo88; obtain ⟨hcz89_0, hcz89_1, hcz89_2⟩ := bc3_ BK181.out; have hfz89_0 := blk_frozen BK181.out 0; have hfz89_1 := blk_frozen BK181.out 1; have hfz89_2 := blk_frozen BK181.out 2) | ((with_reducible refine gate_callee (f := 19) rfl ?_); refine goesL_ (some 80) rfl rfl Try.func19 (by kernel_rfl) rfl #[.agg #[.int .i64 x182000_1, .int .i64 (x5_1.length : Int), .slice Ao88 y198.length co88]] rfl gl_ ?_; (with_reducible refine (standstillref01_Valid.calls kj1 x182000_1 (x5_1.length : Int) _ _ y198 true _ ?side1 ?side2 A80.out).mono ?_); (case side1 => refine (Kd.S_reads' (e := 38) (base := w.heap.size) (ok := fun k_ => True) (n := y198.length) (c := co88) ?_).2.2; exact (by (with_reducible repeat (first | apply Kd.S_alloc | apply Kd.S_drewN | apply Kd.S_drew)); exact (Kd.S_mono (Kd.S_far (p := ⟨gb181, 1, none⟩) (Kd.S_far (p := ⟨gb181, 2, none⟩) (Kd.S_types HO200.out BK181.out (by decide)) (fun _ hk => hk.2) (.slice Ao88 y198.length co88)) (fun _ hk => hk.2) (.int .i64 (x5_1.length : Int))) (fun _ h_ => h_.1)))); (case side2 => exact (Kd.S_reads' HO200.out).2.1); rintro e w90 ⟨rfl, hb⟩; refine ⟨_, rfl, ?_⟩; have n0_ := A_ (Kd.S_below (by (with_reducible repeat (first | apply Kd.S_alloc | apply Kd.S_drewN | apply Kd.S_drew)); exact (Kd.S_mono (Kd.S_far (p := ⟨gb181, 1, none⟩) (Kd.S_far (p := ⟨gb181, 2, none⟩) (Kd.S_types HO200.out BK181.out (by decide)) (fun _ hk => hk.2) (.slice Ao88 y198.length co88)) (fun _ hk => hk.2) (.int .i64 (x5_1.length : Int))) (fun _ h_ => h_.1))) hb); have n1_ := A_ (bf_ BK180.out NB180_181.out hb); have n2_ := A_ (blk_below (g := gb181) (o := .cells #[.int .i64 x182000_1, .int .i64 (x5_1.length : Int), .slice Ao88 y198.length co88] 24 (0, 0)) (by refine pk_ ?_; refine blk_put (cs := #[.int .i64 x182000_1, .int .i64 0, .slice Ao88 y198.length co88]) ?_ 1 _ rfl; refine pk_ ?_; refine blk_put (cs := #[.int .i64 x182000_1, .int .i64 0, u182002]) ?_ 2 _ rfl; exact pk_ BK181.out) hb); have n3_ := A_ (below_step (bk_ HB.out) hb); clear HO200 BK180 BK181 HB; have HO200 := n0_; have BK180 := n1_; have BK181 := n2_; have HB := n3_; clear n0_ n1_ n2_ n3_; (try clear hb); (try clear hb2); (try clear hk); (try clear hi); obtain ⟨hcz91_0, hcz91_1, hcz91_2⟩ := bc3_ BK181.out; have hfz91_0 := blk_frozen BK181.out 0; have hfz91_1 := blk_frozen BK181.out 1; have hfz91_2 := blk_frozen BK181.out 2) | (go_at_call 62; (with_reducible refine (standstillref01_Text.calls kj1 x182000_1 (x5_1.length : Int) _ _ y198 t202 _ ?side1 ?side2 A82.out).mono ?_); (case side1 => repeat (first | exact (Kd.S_reads' HO200.out).2.2 | (with_reducible refine Kd.C_alloc ?_ _) | (with_reducible refine Kd.C_drewN ?_ _) | (with_reducible refine Kd.C_drew ?_))); (case side2 => exact (Kd.S_reads' HO200.out).2.1); rintro e w92 ⟨rfl, hb⟩; have n0_ := A_ (Kd.S_below (by (with_reducible repeat (first | apply Kd.S_alloc | apply Kd.S_drewN | apply Kd.S_drew)); exact HO200.out) hb); have n1_ := A_ (blk_below (pk_ BK180.out) hb); have n2_ := A_ (blk_below (pk_ BK181.out) hb); have n3_ := A_ (below_step (bk_ HB.out) hb); clear HO200 BK180 BK181 HB; have HO200 := n0_; have BK180 := n1_; have BK181 := n2_; have HB := n3_; clear n0_ n1_ n2_ n3_; (try clear hb); (try clear hb2); (try clear hk); (try clear hi); obtain ⟨hcz93_0, hcz93_1, hcz93_2⟩ := bc3_ BK181.out; have hfz93_0 := blk_frozen BK181.out 0; have hfz93_1 := blk_frozen BK181.out 1; have hfz93_2 := blk_frozen BK181.out 2; obtain ⟨hcz94_0, hcz94_1, hcz94_2⟩ := bc3_ BK180.out; have hfz94_0 := blk_frozen BK180.out 0; have hfz94_1 := blk_frozen BK180.out 1; have hfz94_2 := blk_frozen BK180.out 2))
      refine bodyPost_ret (results_ct rfl _ _ gb180 24 #[.int .i64 x182000_1, .int .i64 (x5_1.length : Int), .slice Ao88 y198.length co88] (0, 0) _ rfl (by refine pk_ ?_; refine blk_put (cs := #[.int .i64 x182000_1, .int .i64 (x5_1.length : Int), .slice none 0 0]) ?_ 2 _ rfl; refine pk_ ?_; refine blk_put (cs := #[.int .i64 x182000_1, .int .i64 0, .slice none 0 0]) ?_ 1 _ rfl; refine pk_ ?_; refine blk_put (cs := #[.int .i64 0, .int .i64 0, .slice none 0 0]) ?_ 0 _ rfl; exact pk_ BK180.out) Try.underlying24 rfl (by kernel_rfl)) rfl ?_
      exact ⟨_, er_, by (with_reducible repeat (first | apply Kd.S_alloc | apply Kd.S_drewN | apply Kd.S_drew)); exact Kd.S_mono (Kd.S_far (p := ⟨gb180, 2, none⟩) (Kd.S_far (p := ⟨gb180, 1, none⟩) (Kd.S_far (p := ⟨gb180, 0, none⟩) (Kd.S_types HO200.out BK180.out (by decide)) (fun _ hk => hk.2) (.int .i64 x182000_1)) (fun _ hk => hk.2) (.int .i64 (x5_1.length : Int))) (fun _ hk => hk.2) (.slice Ao88 y198.length co88)) (fun _ hk => trivial), bk_ HB.out⟩
     ·rw [if_neg c83] at H
      have c83b0 : (t202.toList == a0.toList) = false := beq_eq_false_iff_ne.mpr c83
      have c83b1 : (t202.toList != a0.toList) = true := bne_iff_ne.mpr c83
      simp only [Option.some.injEq, Prod.mk.injEq] at H
      obtain ⟨rfl, rfl, rfl, rfl⟩ := H
      have hnb95 := NB181_180.out
      have hnc95 := NB180_181.out
      obtain ⟨hcz96_0, hcz96_1, hcz96_2⟩ := bc3_ BK181.out
      have hfz96_0 := blk_frozen BK181.out 0
      have hfz96_1 := blk_frozen BK181.out 1
      have hfz96_2 := blk_frozen BK181.out 2
      obtain ⟨Ao98, co98, eo98⟩ := Kd.R_slice HO_5.out
      subst eo98
      go_wp2_with (first | ((with_reducible refine gate_builtin (b := .append) (xs := #[.tmp 71, .tmp 73]) rfl ?_); (try (refine gate_guard (by rfl) ?_; dsimp only)); at_builtin; refine Kd.S_append (Kd.slice 37 k37) (w0 := w) w.heap.size rfl (.tmp 71) (.tmp 73) 22 38 (.slice none 0 0) 24 rfl Try.underlying22 info38 rfl (by decide) (by omega) u182002 x182002_1 x5_1 [.slice Ao98 x5_1.length co98] (fun _ => True) (fun k_ => some k_ = (.slice Ao98 x5_1.length co98 : Value).ownBlock) rfl rfl ?aP (fun k_ hk_ => ((Kd.R_mono (ok' := fun k_ => ((fun _ => True)) k_ ∧ some k_ ≠ (u182002 : Value).ownBlock) (Kd.R_apart' (HO_5.out) (Kd.S_typed HO_182002.out) (by decide)) (fun k_ hk => ⟨trivial, hk.2⟩))).1 k_ hk_.symm) ?aF ?aO ?aB ?aS ?aL ?_; (case aP => exact Kd.M_row (Kd.R_mono (Kd.R_tight rfl (Kd.R_mono (ok' := fun k_ => ((fun _ => True)) k_ ∧ some k_ ≠ (u182002 : Value).ownBlock) (Kd.R_apart' (HO_5.out) (Kd.S_typed HO_182002.out) (by decide)) (fun k_ hk => ⟨trivial, hk.2⟩))) (fun _ h_ => h_))); (case aB => exact (bk_ HB.out)); (case aF => exact (fun _ _ => trivial)); (case aO => exact (by (with_reducible repeat (first | apply Kd.S_alloc | apply Kd.S_drewN | apply Kd.S_drew)); exact Kd.S_mono HO_182002.out (fun k_ hk => ⟨trivial, fun e_ => hk e_⟩))); (case aS => exact (below_size (bk_ HB.out))); (case aL => have := LMc79.out; omega); intro v199 w97 ho hb hg hat; rw [← Ny198.out] at ho; have n0_ := A_ (blk_grown (pk_ BK180.out) hg (Kd.S_ne HO_182002.out BK180.out (by decide))); have n1_ := A_ (blk_grown (pk_ BK181.out) hg (Kd.S_ne HO_182002.out BK181.out (by decide))); have n2_ := A_ (hb); have n3_ := A_ (ho); clear BK180 BK181 HB HO_182002 HO_5; have BK180 := n0_; have BK181 := n1_; have HB := n2_; have HO200 := n3_; clear n0_ n1_ n2_ n3_ ho hb hg hat; obtain ⟨Ao99, co99, eo99⟩ := Kd.S_slice HO200.out; subst eo99; obtain ⟨hcz100_0, hcz100_1, hcz100_2⟩ := bc3_ BK181.out; have hfz100_0 := blk_frozen BK181.out 0; have hfz100_1 := blk_frozen BK181.out 1; have hfz100_2 := blk_frozen BK181.out 2) | ((with_reducible refine gate_callee (f := 19) rfl ?_); refine goesL_ (some 80) rfl rfl Try.func19 (by kernel_rfl) rfl #[.agg #[.int .i64 x182000_1, .int .i64 (x5_1.length : Int), .slice Ao99 y198.length co99]] rfl gl_ ?_; (with_reducible refine (standstillref01_Valid.calls kj1 x182000_1 (x5_1.length : Int) _ _ y198 true _ ?side1 ?side2 A80.out).mono ?_); (case side1 => refine (Kd.S_reads' (e := 38) (base := w.heap.size) (ok := fun k_ => True) (n := y198.length) (c := co99) ?_).2.2; exact (by (with_reducible repeat (first | apply Kd.S_alloc | apply Kd.S_drewN | apply Kd.S_drew)); exact (Kd.S_mono (Kd.S_far (p := ⟨gb181, 1, none⟩) (Kd.S_far (p := ⟨gb181, 2, none⟩) (Kd.S_types HO200.out BK181.out (by decide)) (fun _ hk => hk.2) (.slice Ao99 y198.length co99)) (fun _ hk => hk.2) (.int .i64 (x5_1.length : Int))) (fun _ h_ => h_.1)))); (case side2 => exact (Kd.S_reads' HO200.out).2.1); rintro e w101 ⟨rfl, hb⟩; refine ⟨_, rfl, ?_⟩; have n0_ := A_ (Kd.S_below (by (with_reducible repeat (first | apply Kd.S_alloc | apply Kd.S_drewN | apply Kd.S_drew)); exact (Kd.S_mono (Kd.S_far (p := ⟨gb181, 1, none⟩) (Kd.S_far (p := ⟨gb181, 2, none⟩) (Kd.S_types HO200.out BK181.out (by decide)) (fun _ hk => hk.2) (.slice Ao99 y198.length co99)) (fun _ hk => hk.2) (.int .i64 (x5_1.length : Int))) (fun _ h_ => h_.1))) hb); have n1_ := A_ (bf_ BK180.out NB180_181.out hb); have n2_ := A_ (blk_below (g := gb181) (o := .cells #[.int .i64 x182000_1, .int .i64 (x5_1.length : Int), .slice Ao99 y198.length co99] 24 (0, 0)) (by refine pk_ ?_; refine blk_put (cs := #[.int .i64 x182000_1, .int .i64 0, .slice Ao99 y198.length co99]) ?_ 1 _ rfl; refine pk_ ?_; refine blk_put (cs := #[.int .i64 x182000_1, .int .i64 0, u182002]) ?_ 2 _ rfl; exact pk_ BK181.out) hb); have n3_ := A_ (below_step (bk_ HB.out) hb); clear HO200 BK180 BK181 HB; have HO200 := n0_; have BK180 := n1_; have BK181 := n2_; have HB := n3_; clear n0_ n1_ n2_ n3_; (try clear hb); (try clear hb2); (try clear hk); (try clear hi); obtain ⟨hcz102_0, hcz102_1, hcz102_2⟩ := bc3_ BK181.out; have hfz102_0 := blk_frozen BK181.out 0; have hfz102_1 := blk_frozen BK181.out 1; have hfz102_2 := blk_frozen BK181.out 2) | (go_at_call 62; (with_reducible refine (standstillref01_Text.calls kj1 x182000_1 (x5_1.length : Int) _ _ y198 t202 _ ?side1 ?side2 A82.out).mono ?_); (case side1 => repeat (first | exact (Kd.S_reads' HO200.out).2.2 | (with_reducible refine Kd.C_alloc ?_ _) | (with_reducible refine Kd.C_drewN ?_ _) | (with_reducible refine Kd.C_drew ?_))); (case side2 => exact (Kd.S_reads' HO200.out).2.1); rintro e w103 ⟨rfl, hb⟩; have n0_ := A_ (Kd.S_below (by (with_reducible repeat (first | apply Kd.S_alloc | apply Kd.S_drewN | apply Kd.S_drew)); exact HO200.out) hb); have n1_ := A_ (blk_below (pk_ BK180.out) hb); have n2_ := A_ (blk_below (pk_ BK181.out) hb); have n3_ := A_ (below_step (bk_ HB.out) hb); clear HO200 BK180 BK181 HB; have HO200 := n0_; have BK180 := n1_; have BK181 := n2_; have HB := n3_; clear n0_ n1_ n2_ n3_; (try clear hb); (try clear hb2); (try clear hk); (try clear hi); obtain ⟨hcz104_0, hcz104_1, hcz104_2⟩ := bc3_ BK180.out; have hfz104_0 := blk_frozen BK180.out 0; have hfz104_1 := blk_frozen BK180.out 1; have hfz104_2 := blk_frozen BK180.out 2))
      refine bodyPost_ret (results_ct rfl _ _ gb180 24 #[.int .i64 0, .int .i64 0, .slice none 0 0] (0, 0) _ rfl (by refine pk_ ?_; refine blk_put (cs := #[.int .i64 0, .int .i64 0, .slice none 0 0]) ?_ 2 _ rfl; refine pk_ ?_; refine blk_put (cs := #[.int .i64 0, .int .i64 0, .slice none 0 0]) ?_ 1 _ rfl; refine pk_ ?_; refine blk_put (cs := #[.int .i64 0, .int .i64 0, .slice none 0 0]) ?_ 0 _ rfl; exact pk_ BK180.out) Try.underlying24 rfl (by kernel_rfl)) rfl ?_
      exact ⟨_, er_, by first | exact Kd.S_nil _ _ _ _ _ | exact Kd.N_nil _ _ _ _ _ | exact Kd.V_nil _ _ _ _ _ | exact Kd.Q_nil _ _ _ _ _ | exact Kd.R_nil _ _ _ _ _, bk_ HB.out⟩
    ·replace c81 := Bool.eq_false_iff.mpr c81
     subst c81
     have H1 : (some (0, 0, ([] : List (List (S37))), false)) = some (r1, r2, r3, r4) := by rw [if_neg (show ¬ (false = true) by decide)] at H; exact H
     clear H
     have H := H1
     clear H1
     simp only [Option.some.injEq, Prod.mk.injEq] at H
     obtain ⟨rfl, rfl, rfl, rfl⟩ := H
     have hnb105 := NB181_180.out
     have hnc105 := NB180_181.out
     obtain ⟨hcz106_0, hcz106_1, hcz106_2⟩ := bc3_ BK181.out
     have hfz106_0 := blk_frozen BK181.out 0
     have hfz106_1 := blk_frozen BK181.out 1
     have hfz106_2 := blk_frozen BK181.out 2
     obtain ⟨Ao108, co108, eo108⟩ := Kd.R_slice HO_5.out
     subst eo108
     go_wp2_with (first | ((with_reducible refine gate_builtin (b := .append) (xs := #[.tmp 71, .tmp 73]) rfl ?_); (try (refine gate_guard (by rfl) ?_; dsimp only)); at_builtin; refine Kd.S_append (Kd.slice 37 k37) (w0 := w) w.heap.size rfl (.tmp 71) (.tmp 73) 22 38 (.slice none 0 0) 24 rfl Try.underlying22 info38 rfl (by decide) (by omega) u182002 x182002_1 x5_1 [.slice Ao108 x5_1.length co108] (fun _ => True) (fun k_ => some k_ = (.slice Ao108 x5_1.length co108 : Value).ownBlock) rfl rfl ?aP (fun k_ hk_ => ((Kd.R_mono (ok' := fun k_ => ((fun _ => True)) k_ ∧ some k_ ≠ (u182002 : Value).ownBlock) (Kd.R_apart' (HO_5.out) (Kd.S_typed HO_182002.out) (by decide)) (fun k_ hk => ⟨trivial, hk.2⟩))).1 k_ hk_.symm) ?aF ?aO ?aB ?aS ?aL ?_; (case aP => exact Kd.M_row (Kd.R_mono (Kd.R_tight rfl (Kd.R_mono (ok' := fun k_ => ((fun _ => True)) k_ ∧ some k_ ≠ (u182002 : Value).ownBlock) (Kd.R_apart' (HO_5.out) (Kd.S_typed HO_182002.out) (by decide)) (fun k_ hk => ⟨trivial, hk.2⟩))) (fun _ h_ => h_))); (case aB => exact (bk_ HB.out)); (case aF => exact (fun _ _ => trivial)); (case aO => exact (by (with_reducible repeat (first | apply Kd.S_alloc | apply Kd.S_drewN | apply Kd.S_drew)); exact Kd.S_mono HO_182002.out (fun k_ hk => ⟨trivial, fun e_ => hk e_⟩))); (case aS => exact (below_size (bk_ HB.out))); (case aL => have := LMc79.out; omega); intro v199 w107 ho hb hg hat; rw [← Ny198.out] at ho; have n0_ := A_ (blk_grown (pk_ BK180.out) hg (Kd.S_ne HO_182002.out BK180.out (by decide))); have n1_ := A_ (blk_grown (pk_ BK181.out) hg (Kd.S_ne HO_182002.out BK181.out (by decide))); have n2_ := A_ (hb); have n3_ := A_ (ho); clear BK180 BK181 HB HO_182002 HO_5; have BK180 := n0_; have BK181 := n1_; have HB := n2_; have HO200 := n3_; clear n0_ n1_ n2_ n3_ ho hb hg hat; obtain ⟨Ao109, co109, eo109⟩ := Kd.S_slice HO200.out; subst eo109; obtain ⟨hcz110_0, hcz110_1, hcz110_2⟩ := bc3_ BK181.out; have hfz110_0 := blk_frozen BK181.out 0; have hfz110_1 := blk_frozen BK181.out 1; have hfz110_2 := blk_frozen BK181.out 2) | ((with_reducible refine gate_callee (f := 19) rfl ?_); refine goesL_ (some 80) rfl rfl Try.func19 (by kernel_rfl) rfl #[.agg #[.int .i64 x182000_1, .int .i64 (x5_1.length : Int), .slice Ao109 y198.length co109]] rfl gl_ ?_; (with_reducible refine (standstillref01_Valid.calls kj1 x182000_1 (x5_1.length : Int) _ _ y198 false _ ?side1 ?side2 A80.out).mono ?_); (case side1 => refine (Kd.S_reads' (e := 38) (base := w.heap.size) (ok := fun k_ => True) (n := y198.length) (c := co109) ?_).2.2; exact (by (with_reducible repeat (first | apply Kd.S_alloc | apply Kd.S_drewN | apply Kd.S_drew)); exact (Kd.S_mono (Kd.S_far (p := ⟨gb181, 1, none⟩) (Kd.S_far (p := ⟨gb181, 2, none⟩) (Kd.S_types HO200.out BK181.out (by decide)) (fun _ hk => hk.2) (.slice Ao109 y198.length co109)) (fun _ hk => hk.2) (.int .i64 (x5_1.length : Int))) (fun _ h_ => h_.1)))); (case side2 => exact (Kd.S_reads' HO200.out).2.1); rintro e w111 ⟨rfl, hb⟩; refine ⟨_, rfl, ?_⟩; have n1_ := A_ (bf_ BK180.out NB180_181.out hb); have n3_ := A_ (below_step (bk_ HB.out) hb); clear BK180 HB; have BK180 := n1_; have HB := n3_; clear n1_ n3_; (try clear hb); (try clear hb2); (try clear hk); (try clear hi); obtain ⟨hcz112_0, hcz112_1, hcz112_2⟩ := bc3_ BK180.out; have hfz112_0 := blk_frozen BK180.out 0; have hfz112_1 := blk_frozen BK180.out 1; have hfz112_2 := blk_frozen BK180.out 2))
     refine bodyPost_ret (results_ct rfl _ _ gb180 24 #[.int .i64 0, .int .i64 0, .slice none 0 0] (0, 0) _ rfl (by refine pk_ ?_; refine blk_put (cs := #[.int .i64 0, .int .i64 0, .slice none 0 0]) ?_ 2 _ rfl; refine pk_ ?_; refine blk_put (cs := #[.int .i64 0, .int .i64 0, .slice none 0 0]) ?_ 1 _ rfl; refine pk_ ?_; refine blk_put (cs := #[.int .i64 0, .int .i64 0, .slice none 0 0]) ?_ 0 _ rfl; exact pk_ BK180.out) Try.underlying24 rfl (by kernel_rfl)) rfl ?_
     exact ⟨_, er_, by first | exact Kd.S_nil _ _ _ _ _ | exact Kd.N_nil _ _ _ _ _ | exact Kd.V_nil _ _ _ _ _ | exact Kd.Q_nil _ _ _ _ _ | exact Kd.R_nil _ _ _ _ _, bk_ HB.out⟩
   ·rw [if_neg c79] at H
    exact absurd H (by simp)

end Go.Proofs.Ytdkcociababjdaa.PLeapLong
