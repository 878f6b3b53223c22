-- out of a turned copy of the print, by a program of this session; Lean checks it
import Derived.Test.YtdkcociababjdaaPLeapMirrorx0
import Derived.Test.YtdkcociababjdaaPLeapMirrorx2
import Derived.Test.YtdkcociababjdaaPLeapMirrorx3
import Derived.Test.YtdkcociababjdaaPLeapMirrorx4
import Derived.Test.YtdkcociababjdaaPLeapMirrorx5
import Derived.Test.YtdkcociababjdaaPLeapMirrorx8
namespace Go.Proofs.Ytdkcociababjdaa.PLeapMirror
open Go.RowKit Go.Proofs.YtdkcociababjdaaW.PrintWords Go.Proofs.YtdkcociababjdaaW.PrintLast Go.Proofs.YtdkcociababjdaaW.PrintMore
attribute [local go_sem] max2_int min2_int max_two min_two max_three min_three max_four min_four   -- for this text's walks alone
set_option linter.unusedVariables false
set_option linter.unusedSimpArgs false

attribute [local go_sem] isSome_put_
/-! ### standstilllaw01_Read: function 32 -/
def standstilllaw01_Read.f (k : Nat) (a0 : ByteArray) : Option (Int × Int × (List (List (S37)))) := (standstillref01_Parse.f k a0).bind fun bt179 => (some (bt179.1, bt179.2.1, bt179.2.2.1))
theorem standstilllaw01_Read.mono : ∀ a0 k, LeO (standstilllaw01_Read.f k a0) (standstilllaw01_Read.f (k + 1) a0) := by
 intro a0 k
 unfold standstilllaw01_Read.f
 repeat' first
   | (with_reducible exact standstillref01_Parse.mono _ _)
   | (with_reducible exact LeO.refl _)
   | (with_reducible exact LeO.none _)
   | (with_reducible refine LeO.ite ?_ ?_)
   | (with_reducible refine LeO.bind ?_ (fun _ => ?_))
   | exact standstillref01_Parse.mono _ _
   | exact LeO.none _
   | refine LeO.ite ?_ ?_
   | refine LeO.bind ?_ (fun _ => ?_)
set_option maxHeartbeats 8000000 in
set_option maxRecDepth 100000 in
theorem standstilllaw01_Read.calls (k : Nat) (a0 : ByteArray) (r1 : Int) (r2 : Int) (r3 : List (List (S37))) (w : World) (h : standstilllaw01_Read.f k a0 = some (r1, r2, r3)) :
  Calls Try.prog 32 #[.string a0] w fun e w' => ∃ v2_ : Value, e = .returned (.agg #[.int .i64 r1, .int .i64 r2, v2_]) ∧ Kd.S (Kd.slice 37 k37) 38 w' w.heap.size (fun _ => True) v2_ r3 ∧ Below w.heap.size w w' := by
 have hu24 := Try.underlying24
 have HB := A_ (Below.refl w.heap.size w)
 have H : ((standstillref01_Parse.f k a0).bind fun bt179 => (some (bt179.1, bt179.2.1, bt179.2.2.1))) = some (r1, r2, r3) := h
 clear h
 replace H := Option.bind_eq_some_iff.mp H
 obtain ⟨⟨t179, t180, t181, t184⟩, A20, H⟩ := H
 replace H : (some (t179, t180, t181)) = some (r1, r2, r3) := H
 have A2 := Aside0.mk A20
 clear A20
 simp only [Option.some.injEq, Prod.mk.injEq] at H
 obtain ⟨rfl, rfl, rfl⟩ := H
 go_enter Try.func32, Try.ntmps32
 go_wp2_with (first | ((with_reducible refine gate_dst (N := 2) rfl ?_); refine box_event ?hg (N := 2) ?hd (cs := #[.int .i64 0, .int .i64 0, .slice none 0 0]) (t := 24) ?hr ?_; (case hd => rfl); (case hg => rfl); (case hr => first | (go_simp; done) | (go_simp; rfl)); intro gb178 hg w3 hbox hb; have n0_ := A_ (below_step (bk_ HB.out) hb); have n1_ := A_ (hbox); have n2_ := A_ ((by rw [hg]; exact (below_size (bk_ HB.out)) : w.heap.size ≤ gb178)); have n3_ := A_ ((by rw [hg]; exact (below_size (bk_ HB.out)) : w.heap.size ≤ gb178)); clear HB; have HB := n0_; have BK178 := n1_; have GW178 := n2_; have GE178 := n3_; clear n0_ n1_ n2_ n3_ hb hbox hg) | ((with_reducible refine gate_callee (f := 54) rfl ?_); refine goesL_ (some 7) rfl rfl Try.func54 (by kernel_rfl) rfl #[.string a0] rfl gl_ ?_; (with_reducible refine (standstillref01_Parse.calls k a0 t179 t180 t181 t184 _ A2.out).mono ?_); rintro e w4 ⟨v182, rfl, ho0, hb⟩; refine ⟨_, rfl, ?_⟩; have n0_ := A_ (Kd.S_lower ho0 (below_size (bk_ HB.out))); have n1_ := A_ (blk_below (pk_ BK178.out) hb); have n2_ := A_ (below_step (bk_ HB.out) hb); clear BK178 HB; have HO183 := n0_; have BK178 := n1_; have HB := n2_; clear n0_ n1_ n2_; (try clear hb); (try clear hb2); (try clear hk); (try clear hi); (try clear ho0)) | ((with_reducible refine gate_dst (N := 3) rfl ?_); refine box_event ?hg (N := 3) ?hd (cs := #[.int .i64 0, .int .i64 0, .slice none 0 0]) (t := 24) ?hr ?_; (case hd => rfl); (case hg => rfl); (case hr => first | (go_simp; done) | (go_simp; rfl)); intro gb185 hg w5 hbox hb; have n0_ := A_ (Kd.S_below (by (with_reducible repeat (first | apply Kd.S_alloc | apply Kd.S_drewN | apply Kd.S_drew)); exact HO183.out) hb); have n1_ := A_ (blk_below (pk_ BK178.out) hb); have n2_ := A_ (below_step (bk_ HB.out) hb); have n3_ := A_ (hbox); have n4_ := A_ ((by rw [hg]; exact (below_size (bk_ HB.out)) : w.heap.size ≤ gb185)); have n5_ := A_ ((by rw [hg]; exact (below_size (bk_ HB.out)) : w.heap.size ≤ gb185)); have n6_ := A_ ((by rw [hg]; exact Nat.ne_of_lt (blk_lt (pk_ BK178.out)) : gb178 ≠ gb185)); have n7_ := A_ ((by rw [hg]; exact Nat.ne_of_gt (blk_lt (pk_ BK178.out)) : gb185 ≠ gb178)); clear HO183 BK178 HB; have HO183 := n0_; have BK178 := n1_; have HB := n2_; have BK185 := n3_; have GW185 := n4_; have GE185 := n5_; have NB178_185 := n6_; have NB185_178 := n7_; clear n0_ n1_ n2_ n3_ n4_ n5_ n6_ n7_ hb hbox hg; have hnb6 := NB185_178.out; have hnc6 := NB178_185.out; have hcz7_0 : w5.cell? ⟨gb185, 0, none⟩ = some (.int .i64 0) := (blk_cell BK185.out 0).trans rfl; have hcz7_1 : w5.cell? ⟨gb185, 1, none⟩ = some (.int .i64 0) := (blk_cell BK185.out 1).trans rfl; have hcz7_2 : w5.cell? ⟨gb185, 2, none⟩ = some (.slice none 0 0) := (blk_cell BK185.out 2).trans rfl; have hfz7_0 := blk_frozen BK185.out 0; have hfz7_1 := blk_frozen BK185.out 1; have hfz7_2 := blk_frozen BK185.out 2; obtain ⟨Ao8, co8, eo8⟩ := Kd.S_slice HO183.out; subst eo8; have hcz9_0 : w5.cell? ⟨gb178, 0, none⟩ = some (.int .i64 0) := (blk_cell BK178.out 0).trans rfl; have hcz9_1 : w5.cell? ⟨gb178, 1, none⟩ = some (.int .i64 0) := (blk_cell BK178.out 1).trans rfl; have hcz9_2 : w5.cell? ⟨gb178, 2, none⟩ = some (.slice none 0 0) := (blk_cell BK178.out 2).trans rfl; have hfz9_0 := blk_frozen BK178.out 0; have hfz9_1 := blk_frozen BK178.out 1; have hfz9_2 := blk_frozen BK178.out 2))
 refine bodyPost_ret (results_cell_row rfl _ _ gb178 24 #[.int .i64 t179, .int .i64 t180, .slice Ao8 t181.length co8] (0, 0) _ rfl (by refine pk_ ?_; refine blk_put (cs := #[.int .i64 t179, .int .i64 t180, .slice none 0 0]) ?_ 2 _ rfl; refine pk_ ?_; refine blk_put (cs := #[.int .i64 t179, .int .i64 0, .slice none 0 0]) ?_ 1 _ rfl; refine pk_ ?_; refine blk_put (cs := #[.int .i64 0, .int .i64 0, .slice none 0 0]) ?_ 0 _ rfl; refine pk_ ?_; refine blk_far ?_ NB178_185.out _; refine pk_ ?_; refine blk_far ?_ NB178_185.out _; refine pk_ ?_; refine blk_far ?_ NB178_185.out _; exact pk_ BK178.out) Try.underlying24 rfl (by kernel_rfl)) rfl ?_
 exact ⟨_, er_, by (with_reducible repeat (first | apply Kd.S_alloc | apply Kd.S_drewN | apply Kd.S_drew)); exact Kd.S_mono (Kd.S_far (p := ⟨gb178, 2, none⟩) (Kd.S_far (p := ⟨gb178, 1, none⟩) (Kd.S_far (p := ⟨gb178, 0, none⟩) (Kd.S_far (p := ⟨gb185, 2, none⟩) (Kd.S_far (p := ⟨gb185, 1, none⟩) (Kd.S_far (p := ⟨gb185, 0, none⟩) (Kd.S_types (Kd.S_types HO183.out BK185.out (by decide)) BK178.out (by decide)) (fun _ hk => hk.1.2) (.int .i64 t179)) (fun _ hk => hk.1.2) (.int .i64 t180)) (fun _ hk => hk.1.2) (.slice Ao8 t181.length co8)) (fun _ hk => hk.2) (.int .i64 t179)) (fun _ hk => hk.2) (.int .i64 t180)) (fun _ hk => hk.2) (.slice Ao8 t181.length co8)) (fun _ hk => trivial), bk_ HB.out⟩

/-! ### standstilllaw04_awake: function 10 (by hand) -/
def standstilllaw04_awake.g (k : Nat) : Option Bool :=
  (standstilllaw01_Read.f k (ByteArray.mk #[49, 82, 65, 49, 82, 90])).bind fun m => (leap_Leap.g k m.1 m.2.1 m.2.2 0 0 0 [] []).bind fun a => (standstilllaw01_Read.f k (ByteArray.mk #[49, 82, 66, 49, 76, 66, 95, 49, 76, 65, 49, 82, 66])).bind fun n =>
    (leap_Leap.g k n.1 n.2.1 n.2.2 1 0 1 [] [⟨1, 999⟩]).bind fun b => if a.2.2.2.2.2 = (0, true, 0) ∧ b.2.2.2.2.2 = (1000, false, 0) then
      (standstillref04_Same.f k b.1 b.2.1 b.2.2.1 b.2.2.2.1 b.2.2.2.2.1 1 1000 0 [⟨1, 1000⟩] []).bind fun s => if s = true then some true else none
    else none
set_option maxHeartbeats 8000000 in
set_option maxRecDepth 100000 in
theorem standstilllaw04_awake.callsC (k : Nat) (r : Bool) (w : World) (h : standstilllaw04_awake.g k = some r) :
    Calls Try.prog 10 #[] w fun e w' => e = .returned (.bool r) ∧ Below w.heap.size w w' := by
  unfold standstilllaw04_awake.g at h
  obtain ⟨⟨m1, m2, m3⟩, hm, h1⟩ := Option.bind_eq_some_iff.1 h
  obtain ⟨⟨a1, a2, a3, a4, a5, a6, a7, a8⟩, ha, h2⟩ := Option.bind_eq_some_iff.1 h1
  obtain ⟨⟨n1, n2, n3⟩, hn, h3⟩ := Option.bind_eq_some_iff.1 h2
  obtain ⟨⟨b1, b2, b3, b4, b5, b6, b7, b8⟩, hb, h4⟩ := Option.bind_eq_some_iff.1 h3
  simp only at ha hb h4
  by_cases k1 : (a6, a7, a8) = ((0 : Int), true, (0 : Int)) ∧ (b6, b7, b8) = ((1000 : Int), false, (0 : Int))
  rotate_left
  · rw [if_neg k1] at h4
    cases h4
  rw [if_pos k1] at h4
  simp only [Prod.mk.injEq] at k1
  obtain ⟨⟨rfl, rfl, rfl⟩, rfl, rfl, rfl⟩ := k1
  obtain ⟨s, hs, h5⟩ := Option.bind_eq_some_iff.1 h4
  by_cases k2 : s = true
  rotate_left
  · rw [if_neg k2] at h5
    cases h5
  rw [if_pos k2] at h5
  obtain rfl := Option.some.inj h5
  subst k2
  have HM := Aside0.mk hm
  have HA := Aside0.mk ha
  have HN := Aside0.mk hn
  have HB_ := Aside0.mk hb
  have HS := Aside0.mk hs
  clear h h1 h2 h3 h4 h5 hm ha hn hb hs
  go_enter Try.func10, Try.ntmps10
  go_wp2_with fail
  refine (standstilllaw01_Read.calls k _ m1 m2 m3 _ HM.out).mono ?_
  rintro e w1 ⟨v1, rfl, ho1, hB1⟩
  obtain ⟨A1, c1, rfl⟩ := Kd.S_slice ho1
  have HO1 := Aside0.mk ho1
  have HB1 := Aside0.mk hB1
  clear ho1 hB1
  go_wp2_with fail
  refine (leap_Leap.calls k m1 m2 A1 c1 m3 0 0 0 none 0 [] none 0 [] a1 a2 a3 a4 a5 0 true 0 _ (Kd.S_reads' HO1.out).2.2 (Kd.S_reads' HO1.out).2.1 (Kd.C_nil _ _) (Nat.le_refl _) (Kd.C_nil _ _) (Nat.le_refl _) HA.out).mono ?_
  rintro e w2 ⟨B3, d3, B4, d4, rfl, -, -, -, -, hB2⟩
  have HB2 := Aside0.mk (below_alloc (below_step HB1.out hB2) (.cells #[.int .i64 a1, .int .i64 a2, .int .i64 a3, .slice B3 a4.length d3, .slice B4 a5.length d4] 27))
  clear hB2
  go_wp2_with fail
  refine (standstilllaw01_Read.calls k _ n1 n2 n3 _ HN.out).mono ?_
  rintro e w3 ⟨v3, rfl, ho3, hB3⟩
  obtain ⟨A5, c5, rfl⟩ := Kd.S_slice ho3
  have HO3 := Aside0.mk ho3
  have HB3 := Aside0.mk (below_step HB2.out hB3)
  clear ho3 hB3 HB1 HB2 HO1 HM HA HN
  go_wp2_with ((with_reducible refine gate_dst (N := 20) rfl ?_); refine Kd.R_lit k75 _ 75 ?hg (N := 20) ?hd (xs := ([(⟨1, 999⟩ : S75)] : List S75)) (inner := [.int .i64 1, .int .i64 999]) (ok := fun _ => True) (okp := fun _ => True) ?hr ?hp (fun _ hk => hk) trivial (Below.refl _ _) (Nat.le_refl _) (by simp) ?_; (case hd => rfl); (case hg => rfl); (case hr => first | (go_simp; done) | (go_simp; rfl)); (case hp => exact (Reps.c2 (show Kd.M k75 _ _ _ (⟨1, 999⟩ : S75) [.int .i64 1, .int .i64 999] from (k75_mkM _ _ _ (⟨1, 999⟩ : S75))) (Reps.none _ _))); intro v4 w4 ho4 hb4 hg_ hnew_; clear hg_ hnew_; obtain ⟨A6, c6, e6⟩ := Kd.R_slice ho4; subst e6; have HO4 := Aside0.mk ho4; have HB4 := Aside0.mk (below_step HB3.out hb4); have HM4 := Aside0.mk (Kd.C_below (Kd.S_reads' HO3.out).2.2 hb4); clear ho4 hb4)
  refine (leap_Leap.calls k n1 n2 A5 c5 n3 1 0 1 none 0 [] A6 c6 [⟨1, 999⟩] b1 b2 b3 b4 b5 1000 false 0 w4 HM4.out (Kd.S_reads' HO3.out).2.1 (Kd.C_nil _ _) (Nat.le_refl _) (Kd.R_reads' HO4.out).2.2 (Kd.R_reads' HO4.out).2.1 HB_.out).mono ?_
  rintro e w5 ⟨B5, d5, B6, d6, rfl, hC5, hc5, hC6, hc6, hB5⟩
  have hbo := below_alloc (Below.refl w5.heap.size w5) (.cells #[.int .i64 b1, .int .i64 b2, .int .i64 b3, .slice B5 b4.length d5, .slice B6 b5.length d6] 27)
  have HO_6 := Aside0.mk (blk_new w5 (.cells #[.int .i64 b1, .int .i64 b2, .int .i64 b3, .slice B5 b4.length d5, .slice B6 b5.length d6] 27))
  have HB6 := Aside0.mk (below_step (below_step HB4.out hB5) hbo)
  have HC5 := Aside0.mk (Kd.C_below hC5 hbo)
  have HC6 := Aside0.mk (Kd.C_below hC6 hbo)
  have HL5 := Aside0.mk hc5
  have HL6 := Aside0.mk hc6
  have ho_0 := (blk_cell HO_6.out 0).trans rfl
  have ho_1 := (blk_cell HO_6.out 1).trans rfl
  have ho_2 := (blk_cell HO_6.out 2).trans rfl
  have ho_3 := (blk_cell HO_6.out 3).trans rfl
  have ho_4 := (blk_cell HO_6.out 4).trans rfl
  clear hC5 hc5 hC6 hc6 hB5 hbo HB3 HB4 HO3 HO4 HM4 HB_
  go_wp2_with ((with_reducible refine gate_dst (N := 51) rfl ?_); (try (refine gate_guard (by rfl) ?_; dsimp only)); refine Kd.R_lit k75 _ 75 ?hg (N := 51) ?hd (xs := ([(⟨1, 1000⟩ : S75)] : List S75)) (inner := [.int .i64 1, .int .i64 1000]) (ok := fun _ => True) (okp := fun _ => True) ?hr ?hp (fun _ hk => hk) trivial (Below.refl _ _) (Nat.le_refl _) (by simp) ?_; (case hd => rfl); (case hg => rfl); (case hr => first | (go_simp; done) | (go_simp; rfl)); (case hp => exact (Reps.c2 (show Kd.M k75 _ _ _ (⟨1, 1000⟩ : S75) [.int .i64 1, .int .i64 1000] from (k75_mkM _ _ _ (⟨1, 1000⟩ : S75))) (Reps.none _ _))); intro v7 w7 ho7 hb7 hg_ hnew_; clear hg_ hnew_; obtain ⟨A7, c7, e7⟩ := Kd.R_slice ho7; subst e7; have HO7 := Aside0.mk ho7; have HB7 := Aside0.mk (below_step HB6.out hb7); have HC5 := Aside0.mk (Kd.C_below HC5.out hb7); have HC6 := Aside0.mk (Kd.C_below HC6.out hb7); clear ho7 hb7)
  refine (standstillref04_Same.calls k b1 b2 b3 B5 d5 b4 B6 d6 b5 1 1000 0 A7 c7 [⟨1, 1000⟩] none 0 [] true _ HC5.out HL5.out HC6.out HL6.out (Kd.R_reads' HO7.out).2.2 (Kd.R_reads' HO7.out).2.1 (Kd.C_nil _ _) (Nat.le_refl _) HS.out).mono ?_
  rintro e w8 ⟨rfl, hB8⟩
  go_wp2
  go_ret
  exact ⟨rfl, below_step HB7.out hB8⟩

/-! ### leap_Leaps: function 15 (by hand) -/
def leap_Leaps.go (k : Nat) (a0 a1 : Int) (rules : List (List (S37))) : Nat → Int → Int → Int → Int → Int → List (S75) → List (S75) → Option (Int × Int × Int × List (S75) × List (S75) × Int × Int × Bool × Int)
  | 0, i, tot, st, po, sy, lf, rt => some (st, po, sy, lf, rt, i, tot, false, 0)
  | m + 1, i, tot, st, po, sy, lf, rt => if st = -1 then some (st, po, sy, lf, rt, i, tot, false, 0) else (leap_leap.g rules st po sy lf rt).bind fun o =>
      if o.2.2.2.2.2.2 = true then some (st, po, sy, lf, rt, i, tot, true, 0) else (leap_fits.f k a0 a1 o.1 o.2.1 o.2.2.1 o.2.2.2.1 o.2.2.2.2.1).bind fun y =>
        if y = true then (if wrap64 (tot + o.2.2.2.2.2.1) > 1152921504606846976 then some (0, 0, 0, [], [], 0, 0, false, 4) else leap_Leaps.go k a0 a1 rules m (i + 1) (wrap64 (tot + o.2.2.2.2.2.1)) o.1 o.2.1 o.2.2.1 o.2.2.2.1 o.2.2.2.2.1)
        else some (0, 0, 0, [], [], 0, 0, false, 4)
def leap_Leaps.g (k : Nat) (a0 a1 : Int) (rules : List (List (S37))) (st po sy : Int) (lf rt : List (S75)) (n : Int) : Option (Int × Int × Int × List (S75) × List (S75) × Int × Int × Bool × Int) :=
  (leap_Fits.f k a0 a1 rules st po sy lf rt).bind fun v => if v = true then
    (if n < 0 ∨ 1000000 < n then some (0, 0, 0, [], [], 0, 0, false, 2) else if lf.length < 8000000000000 ∧ rt.length < 8000000000000 then leap_Leaps.go k a0 a1 rules n.toNat 0 0 st po sy lf rt else none)
  else some (0, 0, 0, [], [], 0, 0, false, 1)
theorem far5_ {w : World} {g z : Nat} {t : TypeId} {cs : Array Value} (h : w.heap[g]? = some (.cells cs t (0, 0))) (hz : g ≠ z) (a b c d e : Value) : (((((w.setCell ⟨z, 0, none⟩ a).setCell ⟨z, 1, none⟩ b).setCell ⟨z, 2, none⟩ c).setCell ⟨z, 3, none⟩ d).setCell ⟨z, 4, none⟩ e).heap[g]? = some (.cells cs t (0, 0)) :=
  blk_far (p := ⟨z, 4, none⟩) (blk_far (p := ⟨z, 3, none⟩) (blk_far (p := ⟨z, 2, none⟩) (blk_far (p := ⟨z, 1, none⟩) (blk_far (p := ⟨z, 0, none⟩) h hz a) hz b) hz c) hz d) hz e
theorem rfar5_ {w : World} {base z : Nat} {ok : Nat → Prop} {v : Value} {xs : List (S75)} (h : Kd.R k75 75 w base ok v xs) (hz : z < base) (a b c d e : Value) : Kd.R k75 75 (((((w.setCell ⟨z, 0, none⟩ a).setCell ⟨z, 1, none⟩ b).setCell ⟨z, 2, none⟩ c).setCell ⟨z, 3, none⟩ d).setCell ⟨z, 4, none⟩ e) base ok v xs :=
  rfar_ (rfar_ (rfar_ (rfar_ (rfar_ h ⟨z, 0, none⟩ hz a) ⟨z, 1, none⟩ hz b) ⟨z, 2, none⟩ hz c) ⟨z, 3, none⟩ hz d) ⟨z, 4, none⟩ hz e
set_option maxHeartbeats 8000000 in
set_option maxRecDepth 100000 in
theorem leap_Leaps.calls (k : Nat) (a0_0 a0_1 : Int) (A0 : Option Addr) (c0 : Nat) (rules : List (List (S37))) (st po sy : Int) (A3 : Option Addr) (c3 : Nat) (lf : List (S75)) (A4 : Option Addr) (c4 : Nat) (rt : List (S75)) (n : Int) (r1 r2 r3 : Int) (r4 r5 : List (S75)) (r6 r7 : Int) (r8 : Bool) (r9 : Int) (w : World) (hr0 : Kd.C (Kd.slice 37 k37) w A0 rules.length rules) (hc0 : rules.length ≤ c0) (hr3 : Kd.C k75 w A3 lf.length lf) (hc3 : lf.length ≤ c3) (hr4 : Kd.C k75 w A4 rt.length rt) (hc4 : rt.length ≤ c4) (h : leap_Leaps.g k a0_0 a0_1 rules st po sy lf rt n = some (r1, r2, r3, r4, r5, r6, r7, r8, r9)) :
    Calls Try.prog 15 #[.agg #[.int .i64 a0_0, .int .i64 a0_1, .slice A0 rules.length c0], .agg #[.int .i64 st, .int .i64 po, .int .i64 sy, .slice A3 lf.length c3, .slice A4 rt.length c4], .int .i64 n] w fun e w' => ∃ B3 d3 B4 d4, e = .returned (.tuple #[.agg #[.int .i64 r1, .int .i64 r2, .int .i64 r3, .slice B3 r4.length d3, .slice B4 r5.length d4], .int .i64 r6, .int .i64 r7, .bool r8, .int .i64 r9]) ∧ Kd.R k75 75 w' w.heap.size (fun _ => True) (.slice B3 r4.length d3) r4 ∧ Kd.R k75 75 w' w.heap.size (fun _ => True) (.slice B4 r5.length d4) r5 ∧ Below w.heap.size w w' := by
  unfold leap_Leaps.g at h
  obtain ⟨v, hv, h1⟩ := Option.bind_eq_some_iff.1 h
  have HR0 := Aside0.mk hr0
  have HR3 := Aside0.mk hr3
  have HR4 := Aside0.mk hr4
  have HC3 := Aside0.mk hc3
  have HC4 := Aside0.mk hc4
  have HFI := Aside0.mk (fun W hW h3 h4 => leap_Fits.calls k a0_0 a0_1 A0 c0 rules st po sy A3 c3 lf A4 c4 rt v W hW hc0 h3 hc3 h4 hc4 hv)
  have H := Aside0.mk h1
  have HB0 := Aside0.mk (below_alloc (below_alloc (below_alloc (Below.refl w.heap.size w) (.cells #[.int .i64 a0_0, .int .i64 a0_1, .slice A0 rules.length c0] 24)) (.cells #[.int .i64 st, .int .i64 po, .int .i64 sy, .slice A3 lf.length c3, .slice A4 rt.length c4] 27)) (.cells #[.int .i64 0, .int .i64 0, .int .i64 0, .slice none 0 0, .slice none 0 0] 27))
  have HZ0 := Aside0.mk (blk_below (blk_new w (.cells #[.int .i64 a0_0, .int .i64 a0_1, .slice A0 rules.length c0] 24)) (below_alloc (below_alloc (Below.refl (w.alloc (.cells #[.int .i64 a0_0, .int .i64 a0_1, .slice A0 rules.length c0] 24)).heap.size (w.alloc (.cells #[.int .i64 a0_0, .int .i64 a0_1, .slice A0 rules.length c0] 24))) (.cells #[.int .i64 st, .int .i64 po, .int .i64 sy, .slice A3 lf.length c3, .slice A4 rt.length c4] 27)) (.cells #[.int .i64 0, .int .i64 0, .int .i64 0, .slice none 0 0, .slice none 0 0] 27)))
  have HZ1 := Aside0.mk (blk_below (blk_new (w.alloc (.cells #[.int .i64 a0_0, .int .i64 a0_1, .slice A0 rules.length c0] 24)) (.cells #[.int .i64 st, .int .i64 po, .int .i64 sy, .slice A3 lf.length c3, .slice A4 rt.length c4] 27)) (below_alloc (Below.refl ((w.alloc (.cells #[.int .i64 a0_0, .int .i64 a0_1, .slice A0 rules.length c0] 24)).alloc (.cells #[.int .i64 st, .int .i64 po, .int .i64 sy, .slice A3 lf.length c3, .slice A4 rt.length c4] 27)).heap.size ((w.alloc (.cells #[.int .i64 a0_0, .int .i64 a0_1, .slice A0 rules.length c0] 24)).alloc (.cells #[.int .i64 st, .int .i64 po, .int .i64 sy, .slice A3 lf.length c3, .slice A4 rt.length c4] 27))) (.cells #[.int .i64 0, .int .i64 0, .int .i64 0, .slice none 0 0, .slice none 0 0] 27)))
  have HZ2 := Aside0.mk (blk_new ((w.alloc (.cells #[.int .i64 a0_0, .int .i64 a0_1, .slice A0 rules.length c0] 24)).alloc (.cells #[.int .i64 st, .int .i64 po, .int .i64 sy, .slice A3 lf.length c3, .slice A4 rt.length c4] 27)) (.cells #[.int .i64 0, .int .i64 0, .int .i64 0, .slice none 0 0, .slice none 0 0] 27))
  have s1 : (w.alloc (.cells #[.int .i64 a0_0, .int .i64 a0_1, .slice A0 rules.length c0] 24)).heap.size = w.heap.size + 1 := by simp
  have s2 : ((w.alloc (.cells #[.int .i64 a0_0, .int .i64 a0_1, .slice A0 rules.length c0] 24)).alloc (.cells #[.int .i64 st, .int .i64 po, .int .i64 sy, .slice A3 lf.length c3, .slice A4 rt.length c4] 27)).heap.size = w.heap.size + 1 + 1 := by simp
  rw [s1] at HZ1
  rw [s2] at HZ2
  clear h h1 hv hc0 hr0 hr3 hr4 hc3 hc4 s1 s2
  go_enter Try.func15, Try.ntmps15
  go_wp2_with fail
  obtain ⟨w0, hW0⟩ : ∃ W : World, ((w.alloc (.cells #[.int .i64 a0_0, .int .i64 a0_1, .slice A0 rules.length c0] 24)).alloc (.cells #[.int .i64 st, .int .i64 po, .int .i64 sy, .slice A3 lf.length c3, .slice A4 rt.length c4] 27)).alloc (.cells #[.int .i64 0, .int .i64 0, .int .i64 0, .slice none 0 0, .slice none 0 0] 27) = W := ⟨_, rfl⟩
  rw [hW0] at HB0 HZ0 HZ1 HZ2 ⊢
  clear hW0
  obtain ⟨z2, hz2⟩ : ∃ z, w.heap.size + 1 + 1 = z := ⟨_, rfl⟩
  rw [hz2] at HZ2 ⊢
  obtain ⟨z1, hz1⟩ : ∃ z, w.heap.size + 1 = z := ⟨_, rfl⟩
  rw [hz1] at HZ1 ⊢
  obtain ⟨z0, hz0⟩ : ∃ z, w.heap.size = z := ⟨_, rfl⟩
  rw [hz0] at HZ0 ⊢
  have HZE := Aside0.mk (show w.heap.size ≤ z0 ∧ z0 < z1 ∧ z1 < z2 ∧ z2 < w0.heap.size from ⟨by omega, by omega, by omega, blk_lt HZ2.out⟩)
  clear hz0 hz1 hz2
  refine (HFI.out w0 (Kd.C_below HR0.out HB0.out) (Kd.C_below HR3.out HB0.out) (Kd.C_below HR4.out HB0.out)).mono ?_
  rintro e w1 ⟨rfl, hB1⟩
  clear HFI
  have HB1 := Aside0.mk (below_step HB0.out hB1)
  have HZ0_1 := Aside0.mk (blk_below HZ0.out hB1)
  have HZ1_1 := Aside0.mk (blk_below HZ1.out hB1)
  have HZ2_1 := Aside0.mk (blk_below HZ2.out hB1)
  have HZL := Aside0.mk (show z2 < w1.heap.size from Nat.lt_of_lt_of_le HZE.out.2.2.2 hB1.size)
  clear hB1 HB0 HZ0 HZ1 HZ2
  cases v with
  | false =>
    have h := H.out
    clear H
    simp only [Bool.false_eq_true, if_false] at h
    simp only [Option.some.injEq, Prod.mk.injEq] at h
    obtain ⟨rfl, rfl, rfl, rfl, rfl, rfl, rfl, rfl, rfl⟩ := h
    have hr0 := (blk_cell HZ2_1.out 0).trans rfl
    have ht0 := blk_frozen HZ2_1.out 0
    have hr1 := (blk_cell HZ2_1.out 1).trans rfl
    have ht1 := blk_frozen HZ2_1.out 1
    have hr2 := (blk_cell HZ2_1.out 2).trans rfl
    have ht2 := blk_frozen HZ2_1.out 2
    have hr3 := (blk_cell HZ2_1.out 3).trans rfl
    have ht3 := blk_frozen HZ2_1.out 3
    have hr4 := (blk_cell HZ2_1.out 4).trans rfl
    have ht4 := blk_frozen HZ2_1.out 4
    go_wp2_with fail
    refine bodyPost_ret (results_list (rs := [.cell 6 27, .tmp 7, .tmp 8, .tmp 9, .tmp 10]) (vs := [.agg #[.int .i64 0, .int .i64 0, .int .i64 0, .slice none 0 0, .slice none 0 0], .int .i64 0, .int .i64 0, .bool false, .int .i64 1]) rfl (by simp) ?_) rfl ?_
    · refine Vals.cell z2 27 _ (0, 0) _ rfl ?_ Try.underlying27 rfl rfl (Vals.tmp (Vals.tmp (Vals.tmp (Vals.tmp Vals.nil))))
      exact blk_put (blk_put (blk_put (blk_put (blk_put HZ2_1.out 0 _ rfl) 1 _ rfl) 2 _ rfl) 3 _ rfl) 4 _ rfl
    · have HF : w.heap.size ≤ z2 := by have := HZE.out; omega
      have HBF := (((((HB1.out.setCell (p := ⟨z2, 0, none⟩) HF (.int .i64 0)).setCell (p := ⟨z2, 1, none⟩) HF (.int .i64 0)).setCell (p := ⟨z2, 2, none⟩) HF (.int .i64 0)).setCell (p := ⟨z2, 3, none⟩) HF (.slice none 0 0)).setCell (p := ⟨z2, 4, none⟩) HF (.slice none 0 0))
      exact ⟨none, 0, none, 0, rfl, Kd.R_nil _ _ _ _ _, Kd.R_nil _ _ _ _ _, HBF⟩
  | true =>
  have h := H.out
  clear H
  simp only [if_true] at h
  by_cases kn : n < 0 ∨ 1000000 < n
  · rw [if_pos kn] at h
    simp only [Option.some.injEq, Prod.mk.injEq] at h
    obtain ⟨rfl, rfl, rfl, rfl, rfl, rfl, rfl, rfl, rfl⟩ := h
    have hr0 := (blk_cell HZ2_1.out 0).trans rfl
    have ht0 := blk_frozen HZ2_1.out 0
    have hr1 := (blk_cell HZ2_1.out 1).trans rfl
    have ht1 := blk_frozen HZ2_1.out 1
    have hr2 := (blk_cell HZ2_1.out 2).trans rfl
    have ht2 := blk_frozen HZ2_1.out 2
    have hr3 := (blk_cell HZ2_1.out 3).trans rfl
    have ht3 := blk_frozen HZ2_1.out 3
    have hr4 := (blk_cell HZ2_1.out 4).trans rfl
    have ht4 := blk_frozen HZ2_1.out 4
    by_cases k0 : n < 0
    · skip
      have k0a : decide (n < 0) = true := decide_eq_true k0
      clear kn
      replace k0 := eq_true k0
      go_wp2_with fail
      refine bodyPost_ret (results_list (rs := [.cell 6 27, .tmp 7, .tmp 8, .tmp 9, .tmp 10]) (vs := [.agg #[.int .i64 0, .int .i64 0, .int .i64 0, .slice none 0 0, .slice none 0 0], .int .i64 0, .int .i64 0, .bool false, .int .i64 2]) rfl (by simp) ?_) rfl ?_
      · refine Vals.cell z2 27 _ (0, 0) _ rfl ?_ Try.underlying27 rfl rfl (Vals.tmp (Vals.tmp (Vals.tmp (Vals.tmp Vals.nil))))
        exact blk_put (blk_put (blk_put (blk_put (blk_put HZ2_1.out 0 _ rfl) 1 _ rfl) 2 _ rfl) 3 _ rfl) 4 _ rfl
      · have HF : w.heap.size ≤ z2 := by have := HZE.out; omega
        have HBF := (((((HB1.out.setCell (p := ⟨z2, 0, none⟩) HF (.int .i64 0)).setCell (p := ⟨z2, 1, none⟩) HF (.int .i64 0)).setCell (p := ⟨z2, 2, none⟩) HF (.int .i64 0)).setCell (p := ⟨z2, 3, none⟩) HF (.slice none 0 0)).setCell (p := ⟨z2, 4, none⟩) HF (.slice none 0 0))
        exact ⟨none, 0, none, 0, rfl, Kd.R_nil _ _ _ _ _, Kd.R_nil _ _ _ _ _, HBF⟩
    have k1 : 1000000 < n := kn.resolve_left k0
    have k0a : decide (n < 0) = false := decide_eq_false k0
    have k1a : decide (1000000 < n) = true := decide_eq_true k1
    clear kn
    replace k0 := eq_false k0
    replace k1 := eq_true k1
    go_wp2_with fail
    refine bodyPost_ret (results_list (rs := [.cell 6 27, .tmp 7, .tmp 8, .tmp 9, .tmp 10]) (vs := [.agg #[.int .i64 0, .int .i64 0, .int .i64 0, .slice none 0 0, .slice none 0 0], .int .i64 0, .int .i64 0, .bool false, .int .i64 2]) rfl (by simp) ?_) rfl ?_
    · refine Vals.cell z2 27 _ (0, 0) _ rfl ?_ Try.underlying27 rfl rfl (Vals.tmp (Vals.tmp (Vals.tmp (Vals.tmp Vals.nil))))
      exact blk_put (blk_put (blk_put (blk_put (blk_put HZ2_1.out 0 _ rfl) 1 _ rfl) 2 _ rfl) 3 _ rfl) 4 _ rfl
    · have HF : w.heap.size ≤ z2 := by have := HZE.out; omega
      have HBF := (((((HB1.out.setCell (p := ⟨z2, 0, none⟩) HF (.int .i64 0)).setCell (p := ⟨z2, 1, none⟩) HF (.int .i64 0)).setCell (p := ⟨z2, 2, none⟩) HF (.int .i64 0)).setCell (p := ⟨z2, 3, none⟩) HF (.slice none 0 0)).setCell (p := ⟨z2, 4, none⟩) HF (.slice none 0 0))
      exact ⟨none, 0, none, 0, rfl, Kd.R_nil _ _ _ _ _, Kd.R_nil _ _ _ _ _, HBF⟩
  rw [if_neg kn] at h
  by_cases kl : lf.length < 8000000000000 ∧ rt.length < 8000000000000
  rotate_left
  · rw [if_neg kl] at h
    cases h
  rw [if_pos kl] at h
  have H := Aside0.mk h
  have KN := Aside0.mk (show 0 ≤ n ∧ n ≤ 1000000 by omega)
  have k0 : (n < 0) = False := eq_false (by omega)
  have k0a : decide (n < 0) = false := decide_eq_false (by omega)
  have k1 : (1000000 < n) = False := eq_false (by omega)
  have k1a : decide (1000000 < n) = false := decide_eq_false (by omega)
  have KL := Aside0.mk kl
  clear h kn kl
  have hz0_0 := (blk_cell HZ0_1.out 0).trans rfl
  have hz0_1 := (blk_cell HZ0_1.out 1).trans rfl
  have hz0_2 := (blk_cell HZ0_1.out 2).trans rfl
  have hz1_0 := (blk_cell HZ1_1.out 0).trans rfl
  have hz1_1 := (blk_cell HZ1_1.out 1).trans rfl
  have hz1_2 := (blk_cell HZ1_1.out 2).trans rfl
  have hz1_3 := (blk_cell HZ1_1.out 3).trans rfl
  have hz1_4 := (blk_cell HZ1_1.out 4).trans rfl
  go_wp2_with fail
  refine (leap_copied.calls st po sy A3 c3 lf A4 c4 rt st po sy lf rt w1 (Kd.C_below HR3.out HB1.out) HC3.out (Kd.C_below HR4.out HB1.out) HC4.out (by unfold leap_copied.f; rw [clone_ok lf KL.out.1, clone_ok rt KL.out.2]; rfl)).mono ?_
  rintro e w4 ⟨v3, v4, rfl, h3, h4, hB4⟩
  obtain ⟨B5, d5, rfl⟩ := Kd.R_slice h3
  obtain ⟨B6, d6, rfl⟩ := Kd.R_slice h4
  have G3 := Aside0.mk (Kd.R_mono (ok' := fun _ => True) h3 (fun _ _ => trivial))
  have G4 := Aside0.mk (Kd.R_mono (ok' := fun _ => True) h4 (fun _ _ => trivial))
  have HB4 := Aside0.mk (below_step HB1.out hB4)
  have HZ0_4 := Aside0.mk (blk_below HZ0_1.out hB4)
  have HZ1_4 := Aside0.mk (blk_below HZ1_1.out hB4)
  have HZ2_4 := Aside0.mk (blk_below HZ2_1.out hB4)
  have hq1_3 := blk_frozen HZ1_4.out 3
  have hq1_4 := blk_frozen HZ1_4.out 4
  have hq1_0 := blk_frozen HZ1_4.out 0
  have hq1_1 := blk_frozen HZ1_4.out 1
  have hq1_2 := blk_frozen HZ1_4.out 2
  clear h3 h4 hB4
  clear hz0_0 hz0_1 hz0_2 hz1_0 hz1_1 hz1_2 hz1_3 hz1_4
  have hz0_0 := (blk_cell HZ0_4.out 0).trans rfl
  have hz0_1 := (blk_cell HZ0_4.out 1).trans rfl
  have hz0_2 := (blk_cell HZ0_4.out 2).trans rfl
  have hz1_0 := (blk_cell HZ1_4.out 0).trans rfl
  have hz1_1 := (blk_cell HZ1_4.out 1).trans rfl
  have hz1_2 := (blk_cell HZ1_4.out 2).trans rfl
  have hz1_3 := (blk_cell HZ1_4.out 3).trans rfl
  have hz1_4 := (blk_cell HZ1_4.out 4).trans rfl
  go_wp2_with fail
  clear hz0_0 hz0_1 hz0_2 hz1_0 hz1_1 hz1_2 hz1_3 hz1_4
  obtain ⟨w5, hW5⟩ : ∃ W : World, ((((w4.setCell ⟨z1, 0, none⟩ (.int .i64 st)).setCell ⟨z1, 1, none⟩ (.int .i64 po)).setCell ⟨z1, 2, none⟩ (.int .i64 sy)).setCell ⟨z1, 3, none⟩ (.slice B5 lf.length d5)).setCell ⟨z1, 4, none⟩ (.slice B6 rt.length d6) = W := ⟨_, rfl⟩
  have HM := Aside0.mk (show z1 < w1.heap.size from by have h1 := HZL.out; have h2 := HZE.out; omega)
  have HN1 := Aside0.mk (show z0 ≠ z1 ∧ z2 ≠ z1 from by have h2 := HZE.out; omega)
  have HF1 := Aside0.mk (show w.heap.size ≤ z1 from by have h2 := HZE.out; omega)
  have HZ1_5 := Aside0.mk (show w5.heap[z1]? = some (.cells #[.int .i64 st, .int .i64 po, .int .i64 sy, .slice B5 lf.length d5, .slice B6 rt.length d6] 27 (0, 0)) from by rw [← hW5]; exact blk_put (blk_put (blk_put (blk_put (blk_put HZ1_4.out 0 _ rfl) 1 _ rfl) 2 _ rfl) 3 _ rfl) 4 _ rfl)
  have HZ0_5 := Aside0.mk (show w5.heap[z0]? = some (.cells #[.int .i64 a0_0, .int .i64 a0_1, .slice A0 rules.length c0] 24 (0, 0)) from by rw [← hW5]; exact far5_ HZ0_4.out HN1.out.1 _ _ _ _ _)
  have HZ2_5 := Aside0.mk (show w5.heap[z2]? = some (.cells #[.int .i64 0, .int .i64 0, .int .i64 0, .slice none 0 0, .slice none 0 0] 27 (0, 0)) from by rw [← hW5]; exact far5_ HZ2_4.out HN1.out.2 _ _ _ _ _)
  have G3 := Aside0.mk (show Kd.R k75 75 w5 w1.heap.size (fun _ => True) (.slice B5 lf.length d5) lf from by rw [← hW5]; exact rfar5_ G3.out HM.out _ _ _ _ _)
  have G4 := Aside0.mk (show Kd.R k75 75 w5 w1.heap.size (fun _ => True) (.slice B6 rt.length d6) rt from by rw [← hW5]; exact rfar5_ G4.out HM.out _ _ _ _ _)
  have HB5 := Aside0.mk (show Below w.heap.size w w5 from by rw [← hW5]; exact ((((HB4.out.setCell (p := ⟨z1, 0, none⟩) HF1.out _).setCell (p := ⟨z1, 1, none⟩) HF1.out _).setCell (p := ⟨z1, 2, none⟩) HF1.out _).setCell (p := ⟨z1, 3, none⟩) HF1.out _).setCell (p := ⟨z1, 4, none⟩) HF1.out _)
  have G3 := Aside0.mk (Kd.R_lower (base' := z2 + 1) G3.out HZL.out)
  have G4 := Aside0.mk (Kd.R_lower (base' := z2 + 1) G4.out HZL.out)
  have HM := Aside0.mk (show z1 < z2 + 1 from by have h2 := HZE.out; omega)
  rw [hW5]
  clear hW5 hq1_0 hq1_1 hq1_2 hq1_3 hq1_4 HB4 HZ0_4 HZ1_4 HZ2_4
  have H := Aside0.mk H.out
  clear k0 k0a k1 k1a KL
  go_loopg [11, 31] (n.toNat) (fun kq v11 v31 w' => ∃ (i tot s p x : Int) (L R : List (S75)) (B5 B6 : Option Addr) (d5 d6 : Nat), v31 = .int .i64 i ∧ v11 = .int .i64 tot ∧ Aside0 (0 ≤ i ∧ i + (kq : Int) = n) ∧ Aside0 (leap_Leaps.go k a0_0 a0_1 rules kq i tot s p x L R = some (r1, r2, r3, r4, r5, r6, r7, r8, r9)) ∧ Aside0 (w'.heap[z1]? = some (.cells #[.int .i64 s, .int .i64 p, .int .i64 x, .slice B5 L.length d5, .slice B6 R.length d6] 27 (0, 0))) ∧ Aside0 (w'.heap[z0]? = some (.cells #[.int .i64 a0_0, .int .i64 a0_1, .slice A0 rules.length c0] 24 (0, 0))) ∧ Aside0 (w'.heap[z2]? = some (.cells #[.int .i64 0, .int .i64 0, .int .i64 0, .slice none 0 0, .slice none 0 0] 27 (0, 0))) ∧ Aside0 (Kd.R k75 75 w' (z2 + 1) (fun _ => True) (.slice B5 L.length d5) L) ∧ Aside0 (Kd.R k75 75 w' (z2 + 1) (fun _ => True) (.slice B6 R.length d6) R) ∧ Aside0 (Below w.heap.size w w'))
  case atStart => exact ⟨0, 0, st, po, sy, lf, rt, B5, B6, d5, d6, rfl, rfl, ⟨by have := KN.out; omega⟩, H, HZ1_5, HZ0_5, HZ2_5, G3, G4, HB5⟩
  case round =>
    clear H HZ1_5 HZ0_5 HZ2_5 G3 G4 HB5
    obtain ⟨i, tot, s, p, x, L, R, B7, B8, d7, d8, rfl, rfl, HI, H, HZ1_6, HZ0_6, HZ2_6, G3, G4, HB6⟩ := hrel
    obtain ⟨hi0, hi1⟩ := HI.out
    cases gk with
    | zero =>
      have h := H.out
      simp only [leap_Leaps.go] at h
      simp only [Option.some.injEq, Prod.mk.injEq] at h
      obtain ⟨rfl, rfl, rfl, rfl, rfl, rfl, rfl, rfl, rfl⟩ := h
      clear H
      have hin : (i < n) = False := eq_false (by omega)
      have hin2 : decide (i < n) = false := decide_eq_false (by omega)
      obtain rfl : i = n := by omega
      have hz0_0 := (blk_cell HZ0_6.out 0).trans rfl
      have hz0_1 := (blk_cell HZ0_6.out 1).trans rfl
      have hz0_2 := (blk_cell HZ0_6.out 2).trans rfl
      have hz1_0 := (blk_cell HZ1_6.out 0).trans rfl
      have hz1_1 := (blk_cell HZ1_6.out 1).trans rfl
      have hz1_2 := (blk_cell HZ1_6.out 2).trans rfl
      have hz1_3 := (blk_cell HZ1_6.out 3).trans rfl
      have hz1_4 := (blk_cell HZ1_6.out 4).trans rfl
      have hr0 := (blk_cell HZ2_6.out 0).trans rfl
      have ht0 := blk_frozen HZ2_6.out 0
      have hr1 := (blk_cell HZ2_6.out 1).trans rfl
      have ht1 := blk_frozen HZ2_6.out 1
      have hr2 := (blk_cell HZ2_6.out 2).trans rfl
      have ht2 := blk_frozen HZ2_6.out 2
      have hr3 := (blk_cell HZ2_6.out 3).trans rfl
      have ht3 := blk_frozen HZ2_6.out 3
      have hr4 := (blk_cell HZ2_6.out 4).trans rfl
      have ht4 := blk_frozen HZ2_6.out 4
      go_wp2_with fail
      refine bodyPost_ret (results_list (rs := [.cell 6 27, .tmp 7, .tmp 8, .tmp 9, .tmp 10]) (vs := [.agg #[.int .i64 s, .int .i64 p, .int .i64 x, .slice B7 L.length d7, .slice B8 R.length d8], .int .i64 i, .int .i64 tot, .bool false, .int .i64 0]) rfl (by simp) ?_) rfl ?_
      · refine Vals.cell z2 27 _ (0, 0) _ rfl ?_ Try.underlying27 rfl rfl (Vals.tmp (Vals.tmp (Vals.tmp (Vals.tmp Vals.nil))))
        exact blk_put (blk_put (blk_put (blk_put (blk_put HZ2_6.out 0 _ rfl) 1 _ rfl) 2 _ rfl) 3 _ rfl) 4 _ rfl
      · have HF : w.heap.size ≤ z2 := by have := HZE.out; omega
        have HBF := (((((HB6.out.setCell (p := ⟨z2, 0, none⟩) HF (.int .i64 s)).setCell (p := ⟨z2, 1, none⟩) HF (.int .i64 p)).setCell (p := ⟨z2, 2, none⟩) HF (.int .i64 x)).setCell (p := ⟨z2, 3, none⟩) HF (.slice B7 L.length d7)).setCell (p := ⟨z2, 4, none⟩) HF (.slice B8 R.length d8))
        have q3 := (rfar_ (rfar_ (rfar_ (rfar_ (rfar_ G3.out ⟨z2, 0, none⟩ (Nat.lt_succ_self z2) (.int .i64 s)) ⟨z2, 1, none⟩ (Nat.lt_succ_self z2) (.int .i64 p)) ⟨z2, 2, none⟩ (Nat.lt_succ_self z2) (.int .i64 x)) ⟨z2, 3, none⟩ (Nat.lt_succ_self z2) (.slice B7 L.length d7)) ⟨z2, 4, none⟩ (Nat.lt_succ_self z2) (.slice B8 R.length d8))
        have q4 := (rfar_ (rfar_ (rfar_ (rfar_ (rfar_ G4.out ⟨z2, 0, none⟩ (Nat.lt_succ_self z2) (.int .i64 s)) ⟨z2, 1, none⟩ (Nat.lt_succ_self z2) (.int .i64 p)) ⟨z2, 2, none⟩ (Nat.lt_succ_self z2) (.int .i64 x)) ⟨z2, 3, none⟩ (Nat.lt_succ_self z2) (.slice B7 L.length d7)) ⟨z2, 4, none⟩ (Nat.lt_succ_self z2) (.slice B8 R.length d8))
        exact ⟨B7, d7, B8, d8, rfl, Kd.R_lower q3 (by have := HZE.out; omega), Kd.R_lower q4 (by have := HZE.out; omega), HBF⟩
    | succ m =>
      have h := H.out
      simp only [leap_Leaps.go] at h
      clear H
      have hin : (i < n) = True := eq_true (by omega)
      have hin2 : decide (i < n) = true := decide_eq_true (by omega)
      have hz0_0 := (blk_cell HZ0_6.out 0).trans rfl
      have hz0_1 := (blk_cell HZ0_6.out 1).trans rfl
      have hz0_2 := (blk_cell HZ0_6.out 2).trans rfl
      have hz1_0 := (blk_cell HZ1_6.out 0).trans rfl
      have hz1_1 := (blk_cell HZ1_6.out 1).trans rfl
      have hz1_2 := (blk_cell HZ1_6.out 2).trans rfl
      have hz1_3 := (blk_cell HZ1_6.out 3).trans rfl
      have hz1_4 := (blk_cell HZ1_6.out 4).trans rfl
      by_cases ks : s = -1
      · rw [if_pos ks] at h
        have ks1 : (s == (-1 : Int)) = true := beq_iff_eq.mpr ks
        simp only [Option.some.injEq, Prod.mk.injEq] at h
        obtain ⟨rfl, rfl, rfl, rfl, rfl, rfl, rfl, rfl, rfl⟩ := h
        clear ks
        have hr0 := (blk_cell HZ2_6.out 0).trans rfl
        have ht0 := blk_frozen HZ2_6.out 0
        have hr1 := (blk_cell HZ2_6.out 1).trans rfl
        have ht1 := blk_frozen HZ2_6.out 1
        have hr2 := (blk_cell HZ2_6.out 2).trans rfl
        have ht2 := blk_frozen HZ2_6.out 2
        have hr3 := (blk_cell HZ2_6.out 3).trans rfl
        have ht3 := blk_frozen HZ2_6.out 3
        have hr4 := (blk_cell HZ2_6.out 4).trans rfl
        have ht4 := blk_frozen HZ2_6.out 4
        go_wp2_with fail
        refine bodyPost_ret (results_list (rs := [.cell 6 27, .tmp 7, .tmp 8, .tmp 9, .tmp 10]) (vs := [.agg #[.int .i64 s, .int .i64 p, .int .i64 x, .slice B7 L.length d7, .slice B8 R.length d8], .int .i64 i, .int .i64 tot, .bool false, .int .i64 0]) rfl (by simp) ?_) rfl ?_
        · refine Vals.cell z2 27 _ (0, 0) _ rfl ?_ Try.underlying27 rfl rfl (Vals.tmp (Vals.tmp (Vals.tmp (Vals.tmp Vals.nil))))
          exact blk_put (blk_put (blk_put (blk_put (blk_put HZ2_6.out 0 _ rfl) 1 _ rfl) 2 _ rfl) 3 _ rfl) 4 _ rfl
        · have HF : w.heap.size ≤ z2 := by have := HZE.out; omega
          have HBF := (((((HB6.out.setCell (p := ⟨z2, 0, none⟩) HF (.int .i64 s)).setCell (p := ⟨z2, 1, none⟩) HF (.int .i64 p)).setCell (p := ⟨z2, 2, none⟩) HF (.int .i64 x)).setCell (p := ⟨z2, 3, none⟩) HF (.slice B7 L.length d7)).setCell (p := ⟨z2, 4, none⟩) HF (.slice B8 R.length d8))
          have q3 := (rfar_ (rfar_ (rfar_ (rfar_ (rfar_ G3.out ⟨z2, 0, none⟩ (Nat.lt_succ_self z2) (.int .i64 s)) ⟨z2, 1, none⟩ (Nat.lt_succ_self z2) (.int .i64 p)) ⟨z2, 2, none⟩ (Nat.lt_succ_self z2) (.int .i64 x)) ⟨z2, 3, none⟩ (Nat.lt_succ_self z2) (.slice B7 L.length d7)) ⟨z2, 4, none⟩ (Nat.lt_succ_self z2) (.slice B8 R.length d8))
          have q4 := (rfar_ (rfar_ (rfar_ (rfar_ (rfar_ G4.out ⟨z2, 0, none⟩ (Nat.lt_succ_self z2) (.int .i64 s)) ⟨z2, 1, none⟩ (Nat.lt_succ_self z2) (.int .i64 p)) ⟨z2, 2, none⟩ (Nat.lt_succ_self z2) (.int .i64 x)) ⟨z2, 3, none⟩ (Nat.lt_succ_self z2) (.slice B7 L.length d7)) ⟨z2, 4, none⟩ (Nat.lt_succ_self z2) (.slice B8 R.length d8))
          exact ⟨B7, d7, B8, d8, rfl, Kd.R_lower q3 (by have := HZE.out; omega), Kd.R_lower q4 (by have := HZE.out; omega), HBF⟩
      rw [if_neg ks] at h
      have ks1 : (s == (-1 : Int)) = false := beq_eq_false_iff_ne.mpr ks
      obtain ⟨⟨o1, o2, o3, o4, o5, o6, o7⟩, ho, h2⟩ := Option.bind_eq_some_iff.1 h
      simp only at h2
      have H := Aside0.mk h2
      have HL := Aside0.mk ho
      clear h h2 ho ks
      go_wp2_with fail
      refine (leap_leap.calls a0_0 a0_1 A0 c0 rules s p x B7 d7 L B8 d8 R o1 o2 o3 o4 o5 o6 o7 wr (Kd.C_below HR0.out HB6.out) (Kd.R_reads' G3.out).2.2 (Kd.R_reads' G3.out).2.1 (Kd.R_reads' G4.out).2.2 (Kd.R_reads' G4.out).2.1 HL.out).mono ?_
      rintro e w7 ⟨B9, d9, B10, d10, rfl, hRR, hB7⟩
      have HRR := Aside0.mk hRR
      have HWS := Aside0.mk (show z2 + 1 ≤ wr.heap.size from blk_lt HZ2_6.out)
      have hb8 := (below_step hB7 (below_alloc (Below.refl w7.heap.size w7) (.cells #[.int .i64 o1, .int .i64 o2, .int .i64 o3, .slice B9 o4.length d9, .slice B10 o5.length d10] 27)))
      have HB8 := Aside0.mk (below_step HB6.out hb8)
      have HZ0_8 := Aside0.mk (blk_below HZ0_6.out hb8)
      have HZ1_8 := Aside0.mk (blk_below HZ1_6.out hb8)
      have HZ2_8 := Aside0.mk (blk_below HZ2_6.out hb8)
      have G3 := Aside0.mk (Kd.R_below G3.out hb8)
      have G4 := Aside0.mk (Kd.R_below G4.out hb8)
      have HN_8 := Aside0.mk (blk_new w7 (.cells #[.int .i64 o1, .int .i64 o2, .int .i64 o3, .slice B9 o4.length d9, .slice B10 o5.length d10] 27))
      have HNB := Aside0.mk (show z2 < w7.heap.size from Nat.lt_of_lt_of_le HWS.out hB7.size)
      clear hRR hB7 hb8 HL HB6 HZ0_6 HZ1_6 HZ2_6 ks1
      clear hz0_0 hz0_1 hz0_2 hz1_0 hz1_1 hz1_2 hz1_3 hz1_4
      cases o7 with
      | true =>
        have h := H.out
        clear H
        simp only [if_true] at h
        simp only [Option.some.injEq, Prod.mk.injEq] at h
        obtain ⟨rfl, rfl, rfl, rfl, rfl, rfl, rfl, rfl, rfl⟩ := h
        have hz0_0 := (blk_cell HZ0_8.out 0).trans rfl
        have hz0_1 := (blk_cell HZ0_8.out 1).trans rfl
        have hz0_2 := (blk_cell HZ0_8.out 2).trans rfl
        have hz1_0 := (blk_cell HZ1_8.out 0).trans rfl
        have hz1_1 := (blk_cell HZ1_8.out 1).trans rfl
        have hz1_2 := (blk_cell HZ1_8.out 2).trans rfl
        have hz1_3 := (blk_cell HZ1_8.out 3).trans rfl
        have hz1_4 := (blk_cell HZ1_8.out 4).trans rfl
        have hr0 := (blk_cell HZ2_8.out 0).trans rfl
        have ht0 := blk_frozen HZ2_8.out 0
        have hr1 := (blk_cell HZ2_8.out 1).trans rfl
        have ht1 := blk_frozen HZ2_8.out 1
        have hr2 := (blk_cell HZ2_8.out 2).trans rfl
        have ht2 := blk_frozen HZ2_8.out 2
        have hr3 := (blk_cell HZ2_8.out 3).trans rfl
        have ht3 := blk_frozen HZ2_8.out 3
        have hr4 := (blk_cell HZ2_8.out 4).trans rfl
        have ht4 := blk_frozen HZ2_8.out 4
        go_wp2_with fail
        refine bodyPost_ret (results_list (rs := [.cell 6 27, .tmp 7, .tmp 8, .tmp 9, .tmp 10]) (vs := [.agg #[.int .i64 s, .int .i64 p, .int .i64 x, .slice B7 L.length d7, .slice B8 R.length d8], .int .i64 i, .int .i64 tot, .bool true, .int .i64 0]) rfl (by simp) ?_) rfl ?_
        · refine Vals.cell z2 27 _ (0, 0) _ rfl ?_ Try.underlying27 rfl rfl (Vals.tmp (Vals.tmp (Vals.tmp (Vals.tmp Vals.nil))))
          exact blk_put (blk_put (blk_put (blk_put (blk_put HZ2_8.out 0 _ rfl) 1 _ rfl) 2 _ rfl) 3 _ rfl) 4 _ rfl
        · have HF : w.heap.size ≤ z2 := by have := HZE.out; omega
          have HBF := (((((HB8.out.setCell (p := ⟨z2, 0, none⟩) HF (.int .i64 s)).setCell (p := ⟨z2, 1, none⟩) HF (.int .i64 p)).setCell (p := ⟨z2, 2, none⟩) HF (.int .i64 x)).setCell (p := ⟨z2, 3, none⟩) HF (.slice B7 L.length d7)).setCell (p := ⟨z2, 4, none⟩) HF (.slice B8 R.length d8))
          have q3 := (rfar_ (rfar_ (rfar_ (rfar_ (rfar_ G3.out ⟨z2, 0, none⟩ (Nat.lt_succ_self z2) (.int .i64 s)) ⟨z2, 1, none⟩ (Nat.lt_succ_self z2) (.int .i64 p)) ⟨z2, 2, none⟩ (Nat.lt_succ_self z2) (.int .i64 x)) ⟨z2, 3, none⟩ (Nat.lt_succ_self z2) (.slice B7 L.length d7)) ⟨z2, 4, none⟩ (Nat.lt_succ_self z2) (.slice B8 R.length d8))
          have q4 := (rfar_ (rfar_ (rfar_ (rfar_ (rfar_ G4.out ⟨z2, 0, none⟩ (Nat.lt_succ_self z2) (.int .i64 s)) ⟨z2, 1, none⟩ (Nat.lt_succ_self z2) (.int .i64 p)) ⟨z2, 2, none⟩ (Nat.lt_succ_self z2) (.int .i64 x)) ⟨z2, 3, none⟩ (Nat.lt_succ_self z2) (.slice B7 L.length d7)) ⟨z2, 4, none⟩ (Nat.lt_succ_self z2) (.slice B8 R.length d8))
          exact ⟨B7, d7, B8, d8, rfl, Kd.R_lower q3 (by have := HZE.out; omega), Kd.R_lower q4 (by have := HZE.out; omega), HBF⟩
      | false =>
      have h := H.out
      clear H
      simp only [Bool.false_eq_true, if_false] at h
      obtain ⟨y, hy, h2⟩ := Option.bind_eq_some_iff.1 h
      have H := Aside0.mk trivial
      have HR9 := Aside0.mk (HRR.out rfl).1
      have HR10 := Aside0.mk (HRR.out rfl).2
      have HFT := Aside0.mk (fun W h3 h4 => leap_fits.calls k a0_0 a0_1 o1 o2 o3 B9 d9 o4 B10 d10 o5 y W h3 (Kd.R_reads' HR9.out).2.1 h4 (Kd.R_reads' HR10.out).2.1 hy)
      obtain ⟨tt, htt⟩ : ∃ t, wrap64 (tot + o6) = t := ⟨_, rfl⟩
      have htt2 : IntKind.i64.wrap (tot + o6) = tt := (i64_w _).trans htt
      rw [htt] at h2
      clear H
      have H := Aside0.mk h2
      clear h h2 hy HRR G3 G4
      have hz0_0 := (blk_cell HZ0_8.out 0).trans rfl
      have hz0_1 := (blk_cell HZ0_8.out 1).trans rfl
      have hz0_2 := (blk_cell HZ0_8.out 2).trans rfl
      have hz1_0 := (blk_cell HZ1_8.out 0).trans rfl
      have hz1_1 := (blk_cell HZ1_8.out 1).trans rfl
      have hz1_2 := (blk_cell HZ1_8.out 2).trans rfl
      have hz1_3 := (blk_cell HZ1_8.out 3).trans rfl
      have hz1_4 := (blk_cell HZ1_8.out 4).trans rfl
      have ho_0 := (blk_cell HN_8.out 0).trans rfl
      have ho_1 := (blk_cell HN_8.out 1).trans rfl
      have ho_2 := (blk_cell HN_8.out 2).trans rfl
      have ho_3 := (blk_cell HN_8.out 3).trans rfl
      have ho_4 := (blk_cell HN_8.out 4).trans rfl
      go_wp2_with fail
      obtain ⟨w8, hW8⟩ : ∃ W : World, w7.alloc (.cells #[.int .i64 o1, .int .i64 o2, .int .i64 o3, .slice B9 o4.length d9, .slice B10 o5.length d10] 27) = W := ⟨_, rfl⟩
      have G3 := Aside0.mk (show Kd.R k75 75 w8 (z2 + 1) (fun _ => True) (.slice B9 o4.length d9) o4 from by rw [← hW8]; exact Kd.R_lower (Kd.R_alloc HR9.out _) HWS.out)
      have G4 := Aside0.mk (show Kd.R k75 75 w8 (z2 + 1) (fun _ => True) (.slice B10 o5.length d10) o5 from by rw [← hW8]; exact Kd.R_lower (Kd.R_alloc HR10.out _) HWS.out)
      rw [hW8] at HB8 HZ0_8 HZ1_8 HZ2_8 HN_8 ⊢
      clear hz0_0 hz0_1 hz0_2 hz1_0 hz1_1 hz1_2 hz1_3 hz1_4
      clear ho_0 ho_1 ho_2 ho_3 ho_4 HR9 HR10
      obtain ⟨z8, hz8⟩ : ∃ z, w7.heap.size = z := ⟨_, rfl⟩
      rw [hz8] at HN_8 HNB ⊢
      clear hW8 hz8
      refine (HFT.out w8 (Kd.R_reads' G3.out).2.2 (Kd.R_reads' G4.out).2.2).mono ?_
      rintro e w9 ⟨rfl, hB9⟩
      have HB9 := Aside0.mk (below_step HB8.out hB9)
      have HZ0_9 := Aside0.mk (blk_below HZ0_8.out hB9)
      have HZ1_9 := Aside0.mk (blk_below HZ1_8.out hB9)
      have HZ2_9 := Aside0.mk (blk_below HZ2_8.out hB9)
      have HN_9 := Aside0.mk (blk_below HN_8.out hB9)
      have G3 := Aside0.mk (Kd.R_below G3.out hB9)
      have G4 := Aside0.mk (Kd.R_below G4.out hB9)
      clear hB9 HFT HB8 HZ0_8 HZ1_8 HZ2_8 HN_8
      cases y with
      | false =>
        have h := H.out
        clear H
        simp only [Bool.false_eq_true, if_false] at h
        simp only [Option.some.injEq, Prod.mk.injEq] at h
        obtain ⟨rfl, rfl, rfl, rfl, rfl, rfl, rfl, rfl, rfl⟩ := h
        have hr0 := (blk_cell HZ2_9.out 0).trans rfl
        have ht0 := blk_frozen HZ2_9.out 0
        have hr1 := (blk_cell HZ2_9.out 1).trans rfl
        have ht1 := blk_frozen HZ2_9.out 1
        have hr2 := (blk_cell HZ2_9.out 2).trans rfl
        have ht2 := blk_frozen HZ2_9.out 2
        have hr3 := (blk_cell HZ2_9.out 3).trans rfl
        have ht3 := blk_frozen HZ2_9.out 3
        have hr4 := (blk_cell HZ2_9.out 4).trans rfl
        have ht4 := blk_frozen HZ2_9.out 4
        go_wp2_with fail
        refine bodyPost_ret (results_list (rs := [.cell 6 27, .tmp 7, .tmp 8, .tmp 9, .tmp 10]) (vs := [.agg #[.int .i64 0, .int .i64 0, .int .i64 0, .slice none 0 0, .slice none 0 0], .int .i64 0, .int .i64 0, .bool false, .int .i64 4]) rfl (by simp) ?_) rfl ?_
        · refine Vals.cell z2 27 _ (0, 0) _ rfl ?_ Try.underlying27 rfl rfl (Vals.tmp (Vals.tmp (Vals.tmp (Vals.tmp Vals.nil))))
          exact blk_put (blk_put (blk_put (blk_put (blk_put HZ2_9.out 0 _ rfl) 1 _ rfl) 2 _ rfl) 3 _ rfl) 4 _ rfl
        · have HF : w.heap.size ≤ z2 := by have := HZE.out; omega
          have HBF := (((((HB9.out.setCell (p := ⟨z2, 0, none⟩) HF (.int .i64 0)).setCell (p := ⟨z2, 1, none⟩) HF (.int .i64 0)).setCell (p := ⟨z2, 2, none⟩) HF (.int .i64 0)).setCell (p := ⟨z2, 3, none⟩) HF (.slice none 0 0)).setCell (p := ⟨z2, 4, none⟩) HF (.slice none 0 0))
          exact ⟨none, 0, none, 0, rfl, Kd.R_nil _ _ _ _ _, Kd.R_nil _ _ _ _ _, HBF⟩
      | true =>
      have h := H.out
      clear H
      simp only [if_true] at h
      by_cases kt : tt > 1152921504606846976
      · rw [if_pos kt] at h
        have kt1 : (1152921504606846976 < tt) = True := eq_true kt
        have kt2 : decide (1152921504606846976 < tt) = true := decide_eq_true kt
        clear kt
        simp only [Option.some.injEq, Prod.mk.injEq] at h
        obtain ⟨rfl, rfl, rfl, rfl, rfl, rfl, rfl, rfl, rfl⟩ := h
        have hr0 := (blk_cell HZ2_9.out 0).trans rfl
        have ht0 := blk_frozen HZ2_9.out 0
        have hr1 := (blk_cell HZ2_9.out 1).trans rfl
        have ht1 := blk_frozen HZ2_9.out 1
        have hr2 := (blk_cell HZ2_9.out 2).trans rfl
        have ht2 := blk_frozen HZ2_9.out 2
        have hr3 := (blk_cell HZ2_9.out 3).trans rfl
        have ht3 := blk_frozen HZ2_9.out 3
        have hr4 := (blk_cell HZ2_9.out 4).trans rfl
        have ht4 := blk_frozen HZ2_9.out 4
        go_wp2_with fail
        refine bodyPost_ret (results_list (rs := [.cell 6 27, .tmp 7, .tmp 8, .tmp 9, .tmp 10]) (vs := [.agg #[.int .i64 0, .int .i64 0, .int .i64 0, .slice none 0 0, .slice none 0 0], .int .i64 0, .int .i64 0, .bool false, .int .i64 4]) rfl (by simp) ?_) rfl ?_
        · refine Vals.cell z2 27 _ (0, 0) _ rfl ?_ Try.underlying27 rfl rfl (Vals.tmp (Vals.tmp (Vals.tmp (Vals.tmp Vals.nil))))
          exact blk_put (blk_put (blk_put (blk_put (blk_put HZ2_9.out 0 _ rfl) 1 _ rfl) 2 _ rfl) 3 _ rfl) 4 _ rfl
        · have HF : w.heap.size ≤ z2 := by have := HZE.out; omega
          have HBF := (((((HB9.out.setCell (p := ⟨z2, 0, none⟩) HF (.int .i64 0)).setCell (p := ⟨z2, 1, none⟩) HF (.int .i64 0)).setCell (p := ⟨z2, 2, none⟩) HF (.int .i64 0)).setCell (p := ⟨z2, 3, none⟩) HF (.slice none 0 0)).setCell (p := ⟨z2, 4, none⟩) HF (.slice none 0 0))
          exact ⟨none, 0, none, 0, rfl, Kd.R_nil _ _ _ _ _, Kd.R_nil _ _ _ _ _, HBF⟩
      rw [if_neg kt] at h
      have H := Aside0.mk h
      have kt1 : (1152921504606846976 < tt) = False := eq_false kt
      have kt2 : decide (1152921504606846976 < tt) = false := decide_eq_false kt
      have ei2 : IntKind.i64.wrap (i + 1) = i + 1 := IntWalk.i64_in _ (by have := KN.out; omega)
      have ei : wrap64 (i + 1) = i + 1 := (i64_w _).symm.trans ei2
      clear kt h
      have ho_0 := (blk_cell HN_9.out 0).trans rfl
      have hu_0 := (blk_cell HZ1_9.out 0).trans rfl
      have hf_0 := blk_frozen HZ1_9.out 0
      have ho_1 := (blk_cell HN_9.out 1).trans rfl
      have hu_1 := (blk_cell HZ1_9.out 1).trans rfl
      have hf_1 := blk_frozen HZ1_9.out 1
      have ho_2 := (blk_cell HN_9.out 2).trans rfl
      have hu_2 := (blk_cell HZ1_9.out 2).trans rfl
      have hf_2 := blk_frozen HZ1_9.out 2
      have ho_3 := (blk_cell HN_9.out 3).trans rfl
      have hu_3 := (blk_cell HZ1_9.out 3).trans rfl
      have hf_3 := blk_frozen HZ1_9.out 3
      have ho_4 := (blk_cell HN_9.out 4).trans rfl
      have hu_4 := (blk_cell HZ1_9.out 4).trans rfl
      have hf_4 := blk_frozen HZ1_9.out 4
      go_wp2_with fail
      go_roundg m
      case measure => omega
      case rel =>
        refine ⟨i + 1, tt, o1, o2, o3, o4, o5, B9, B10, d9, d10, by first | rfl | simp only [ei], rfl, ⟨by omega, by push_cast at hi1; omega⟩, H, ⟨?_⟩, ⟨far5_ HZ0_9.out HN1.out.1 _ _ _ _ _⟩, ⟨far5_ HZ2_9.out HN1.out.2 _ _ _ _ _⟩, ⟨rfar5_ G3.out HM.out _ _ _ _ _⟩, ⟨rfar5_ G4.out HM.out _ _ _ _ _⟩, ⟨((((HB9.out.setCell (p := ⟨z1, 0, none⟩) HF1.out _).setCell (p := ⟨z1, 1, none⟩) HF1.out _).setCell (p := ⟨z1, 2, none⟩) HF1.out _).setCell (p := ⟨z1, 3, none⟩) HF1.out _).setCell (p := ⟨z1, 4, none⟩) HF1.out _⟩⟩
        exact blk_put (blk_put (blk_put (blk_put (blk_put HZ1_9.out 0 _ rfl) 1 _ rfl) 2 _ rfl) 3 _ rfl) 4 _ rfl

/-! ### api_Rule: function 40 (by hand) -/
def api_Rule.f (l0 : List (S37)) : Option (List (S37)) := if l0.length < 5864062014805 then (some l0) else (none)
set_option maxHeartbeats 8000000 in
set_option maxRecDepth 100000 in
theorem api_Rule.calls (A0 : Option Addr) (c0 : Nat) (l0 : List (S37)) (r : List (S37)) (w : World) (hr0 : Kd.C k37 w A0 l0.length l0) (hc0 : l0.length ≤ c0) (h : api_Rule.f l0 = some r) :
    Calls Try.prog 40 #[.slice A0 l0.length c0] w fun e w' => ∃ v0_ : Value, e = .returned (v0_) ∧ Kd.R k37 37 w' w.heap.size (fun _ => True) v0_ r ∧ Below w.heap.size w w' := by
  have qn_ : ∀ (w : World) (a : Option Addr) (n c n' c' : Nat), (binOp .eql 38 (.slice a n c) (.slice none n' c')).run Try.prog w = .ok (.bool a.isNone) w := fun w a n c n' c' => Lib.run_eql_slice_nil w _ _ a n c n' c' Try.underlying38
  unfold api_Rule.f at h
  split at h
  rotate_left
  · cases h
  rename_i hlen
  obtain rfl := Option.some.inj h
  clear h
  cases A0 with
  | none =>
    have hl : l0.length = 0 := by
      rcases Nat.eq_zero_or_pos l0.length with h0 | h0
      · exact h0
      · obtain ⟨ad, h, _⟩ := hr0.2.2 h0
        cases h
    obtain rfl : l0 = [] := List.eq_nil_of_length_eq_zero hl
    clear hr0 hlen hl
    go_enter Try.func40, Try.ntmps40
    go_wp2
    go_ret
    exact ⟨_, rfl, Kd.R_nil _ _ _ _ _, Below.refl _ _⟩
  | some ad =>
    have HR0 := Aside0.mk hr0
    have HLEN := Aside0.mk hlen
    clear hr0 hlen
    go_enter Try.func40, Try.ntmps40
    go_wp2_with (first | ((with_reducible refine gate_builtin (b := .append) (xs := #[.tmp 5, .tmp 6]) rfl ?_); at_builtin; refine Kd.R_append_rows k37 (w0 := w) w.heap.size rfl (.tmp 5) (.tmp 6) 38 37 (.agg #[(.int .i64 0), (.int .i64 0), (.int .i64 0)]) 24 rfl Try.underlying38 info37 rfl (by decide) (by omega) (.slice (some ⟨w.heap.size, 0, none⟩) 0 0) [] l0 _ _ _ (fun _ => True) (fun _ => False) rfl rfl ?aO ?aR (fun _ _ h => h) (fun _ h => h.elim) (fun _ _ => trivial) ?aB ?aS ?aL ?_; (case aO => exact ⟨fun _ _ => trivial, [], World.ownsRow_made w #[] 0 (Nat.le_refl _) (Nat.zero_le _) (by simp), Reps.none _ _⟩); (case aR => exact Kd.C_below HR0.out (below_alloc (Below.refl _ _) _)); (case aB => exact below_alloc (Below.refl _ _) _); (case aS => simp); (case aL => have := HLEN.out; simp; omega); intro v1 w1 ho hb hg hat; clear hg hat))
    go_ret
    exact ⟨_, rfl, by simpa using ho, hb⟩

/-! ### tape_Mirror: function 20 -/
mutual
def tape_Mirror.l0 : Nat → List (List (S37)) → Int → Int → Int → Int → List (List (S37)) → Option (Int × Int × (List (List (S37))) × Int)
 | 0, _, _, _, _, _, _ => none
 | k + 1, x19, x20, x21, x190000, x190001, x190002 => if x21 < x20 then (if 0 ≤ x21 then (if x21 < (x19.length : Int) then ((api_Rule.f (rd_L2 x19 x21)).bind fun t191 => (tape_Mirror.l1 k t191 x19 x20 x21 (t191.length : Int) 0 x190000 x190001 x190002)) else (none)) else (none)) else (some (x190000, x190001, x190002, 0))
def tape_Mirror.l1 : Nat → List (S37) → List (List (S37)) → Int → Int → Int → Int → Int → Int → List (List (S37)) → Option (Int × Int × (List (List (S37))) × Int)
 | 0, _, _, _, _, _, _, _, _, _ => none
 | k + 1, x7, x19, x20, x21, x28, x29, x190000, x190001, x190002 => if x29 < x28 then (if 0 ≤ x29 then (if x29 < (x7.length : Int) then (tape_Mirror.l1 k (x7.set (x29 : Int).toNat (⟨(rd_T37 x7 x29).f0, wrap64 (-((rd_T37 x7 x29).f1)), (rd_T37 x7 x29).f2⟩ : S37)) x19 x20 x21 x28 (wrap64 (x29 + 1)) x190000 x190001 x190002) else (none)) else (none)) else (if x190002.length < 5864062014805 then (tape_Mirror.l0 k x19 x20 (wrap64 (x21 + 1)) x190000 x190001 (x190002 ++ [x7])) else (none))
end
def tape_Mirror.f (k : Nat) (a0_0 : Int) (a0_1 : Int) (l0_2 : List (List (S37))) : Option (Int × Int × (List (List (S37))) × Int) := (tape_Valid.f k a0_0 a0_1 l0_2).bind fun t188 => (if t188 = true then (tape_Mirror.l0 k l0_2 (l0_2.length : Int) 0 a0_0 a0_1 ([] : List (List (S37)))) else (some (0, 0, ([] : List (List (S37))), 1)))
theorem tape_Mirror.mono_l : ∀ k, (∀ y0 y1 y2 y3 y4 y5, LeO (tape_Mirror.l0 k y0 y1 y2 y3 y4 y5) (tape_Mirror.l0 (k + 1) y0 y1 y2 y3 y4 y5)) ∧ (∀ y0 y1 y2 y3 y4 y5 y6 y7 y8, LeO (tape_Mirror.l1 k y0 y1 y2 y3 y4 y5 y6 y7 y8) (tape_Mirror.l1 (k + 1) y0 y1 y2 y3 y4 y5 y6 y7 y8))
 | 0 => ⟨fun _ _ _ _ _ _ r h => by simp [tape_Mirror.l0] at h, fun _ _ _ _ _ _ _ _ _ r h => by simp [tape_Mirror.l1] at h⟩
 | k + 1 => by
  obtain ⟨ih0, ih1⟩ := tape_Mirror.mono_l k
  refine ⟨?_, ?_⟩
  ·intro y0 y1 y2 y3 y4 y5
   unfold tape_Mirror.l0
   repeat' first
   | (with_reducible exact ih0 _ _ _ _ _ _)
   | (with_reducible exact ih1 _ _ _ _ _ _ _ _ _)
   | (with_reducible exact tape_Valid.mono _ _ _ _)
   | (with_reducible exact LeO.refl _)
   | (with_reducible exact LeO.none _)
   | (with_reducible refine LeO.ite ?_ ?_)
   | (with_reducible refine LeO.bind ?_ (fun _ => ?_))
   | exact ih0 _ _ _ _ _ _
   | exact ih1 _ _ _ _ _ _ _ _ _
   | exact tape_Valid.mono _ _ _ _
   | exact LeO.none _
   | refine LeO.ite ?_ ?_
   | refine LeO.bind ?_ (fun _ => ?_)
  ·intro y0 y1 y2 y3 y4 y5 y6 y7 y8
   unfold tape_Mirror.l1
   repeat' first
   | (with_reducible exact ih0 _ _ _ _ _ _)
   | (with_reducible exact ih1 _ _ _ _ _ _ _ _ _)
   | (with_reducible exact tape_Valid.mono _ _ _ _)
   | (with_reducible exact LeO.refl _)
   | (with_reducible exact LeO.none _)
   | (with_reducible refine LeO.ite ?_ ?_)
   | (with_reducible refine LeO.bind ?_ (fun _ => ?_))
   | exact ih0 _ _ _ _ _ _
   | exact ih1 _ _ _ _ _ _ _ _ _
   | exact tape_Valid.mono _ _ _ _
   | exact LeO.none _
   | refine LeO.ite ?_ ?_
   | refine LeO.bind ?_ (fun _ => ?_)
theorem tape_Mirror.mono : ∀ a0 a1 a2 k, LeO (tape_Mirror.f k a0 a1 a2) (tape_Mirror.f (k + 1) a0 a1 a2) := by
 intro a0 a1 a2 k
 obtain ⟨ih0, ih1⟩ := tape_Mirror.mono_l k
 unfold tape_Mirror.f
 repeat' first
   | (with_reducible exact ih0 _ _ _ _ _ _)
   | (with_reducible exact ih1 _ _ _ _ _ _ _ _ _)
   | (with_reducible exact tape_Valid.mono _ _ _ _)
   | (with_reducible exact LeO.refl _)
   | (with_reducible exact LeO.none _)
   | (with_reducible refine LeO.ite ?_ ?_)
   | (with_reducible refine LeO.bind ?_ (fun _ => ?_))
   | exact ih0 _ _ _ _ _ _
   | exact ih1 _ _ _ _ _ _ _ _ _
   | exact tape_Valid.mono _ _ _ _
   | exact LeO.none _
   | refine LeO.ite ?_ ?_
   | refine LeO.bind ?_ (fun _ => ?_)
set_option maxHeartbeats 8000000 in
set_option maxRecDepth 100000 in
theorem tape_Mirror.calls (k : Nat) (a0_0 : Int) (a0_1 : Int) (A0_2 : Option Addr) (c0_2 : Nat) (l0_2 : List (List (S37))) (r1 : Int) (r2 : Int) (r3 : List (List (S37))) (r4 : Int) (w : World) (hr0_2 : Kd.C (Kd.slice 37 k37) w A0_2 l0_2.length l0_2) (hc0_2 : l0_2.length ≤ c0_2) (h : tape_Mirror.f k a0_0 a0_1 l0_2 = some (r1, r2, r3, r4)) :
  Calls Try.prog 20 #[.agg #[.int .i64 a0_0, .int .i64 a0_1, .slice A0_2 l0_2.length c0_2]] w fun e w' => ∃ v2_ : Value, e = .returned (.tuple #[.agg #[.int .i64 r1, .int .i64 r2, v2_], .int .i64 r4]) ∧ Kd.S (Kd.slice 37 k37) 38 w' w.heap.size (fun _ => True) v2_ r3 ∧ Below w.heap.size w w' := by
 have hu24 := Try.underlying24
 have HR0_2 := Aside0.mk hr0_2
 have HC0_2 := Aside0.mk hc0_2
 clear hr0_2 hc0_2
 have HB := A_ (Below.refl w.heap.size w)
 have H : ((tape_Valid.f k a0_0 a0_1 l0_2).bind fun t188 => (if t188 = true then (tape_Mirror.l0 k l0_2 (l0_2.length : Int) 0 a0_0 a0_1 ([] : List (List (S37)))) else (some (0, 0, ([] : List (List (S37))), 1)))) = some (r1, r2, r3, r4) := h
 clear h
 replace H := Option.bind_eq_some_iff.mp H
 obtain ⟨t188, A20, H⟩ := H
 replace H : (if t188 = true then (tape_Mirror.l0 k l0_2 (l0_2.length : Int) 0 a0_0 a0_1 ([] : List (List (S37)))) else (some (0, 0, ([] : List (List (S37))), 1))) = some (r1, r2, r3, r4) := H
 have A2 := Aside0.mk A20
 clear A20
 by_cases c3 : t188 = true
 ·subst c3
  have H1 : (tape_Mirror.l0 k l0_2 (l0_2.length : Int) 0 a0_0 a0_1 ([] : List (List (S37)))) = some (r1, r2, r3, r4) := by rw [if_pos rfl] at H; exact H
  clear H
  have H := H1
  clear H1
  have H' := Aside0.mk H
  clear H
  go_enter Try.func20, Try.ntmps20
  go_wp2_with (first | ((with_reducible refine gate_dst (N := 1) rfl ?_); refine box_event ?hg (N := 1) ?hd (cs := #[.int .i64 a0_0, .int .i64 a0_1, .slice A0_2 l0_2.length c0_2]) (t := 24) ?hr ?_; (case hd => rfl); (case hg => rfl); (case hr => first | (go_simp; done) | (go_simp; rfl)); intro gb186 hg w4 hbox hb; have n0_ := A_ (below_step (bk_ HB.out) hb); have n1_ := A_ (hbox); have n2_ := A_ ((by rw [hg]; exact (below_size (bk_ HB.out)) : w.heap.size ≤ gb186)); have n3_ := A_ ((by rw [hg]; exact (below_size (bk_ HB.out)) : w.heap.size ≤ gb186)); clear HB; have HB := n0_; have BK186 := n1_; have GW186 := n2_; have GE186 := n3_; clear n0_ n1_ n2_ n3_ hb hbox hg) | ((with_reducible refine gate_dst (N := 2) rfl ?_); refine box_event ?hg (N := 2) ?hd (cs := #[.int .i64 0, .int .i64 0, .slice none 0 0]) (t := 24) ?hr ?_; (case hd => rfl); (case hg => rfl); (case hr => first | (go_simp; done) | (go_simp; rfl)); intro gb187 hg w5 hbox hb; have n0_ := A_ (blk_below (pk_ BK186.out) hb); have n1_ := A_ (below_step (bk_ HB.out) hb); have n2_ := A_ (hbox); have n3_ := A_ ((by rw [hg]; exact (below_size (bk_ HB.out)) : w.heap.size ≤ gb187)); have n4_ := A_ ((by rw [hg]; exact (below_size (bk_ HB.out)) : w.heap.size ≤ gb187)); have n5_ := A_ ((by rw [hg]; exact Nat.ne_of_lt (blk_lt (pk_ BK186.out)) : gb186 ≠ gb187)); have n6_ := A_ ((by rw [hg]; exact Nat.ne_of_gt (blk_lt (pk_ BK186.out)) : gb187 ≠ gb186)); clear BK186 HB; have BK186 := n0_; have HB := n1_; have BK187 := n2_; have GW187 := n3_; have GE187 := n4_; have NB186_187 := n5_; have NB187_186 := n6_; clear n0_ n1_ n2_ n3_ n4_ n5_ n6_ hb hbox hg; have hnb6 := NB186_187.out; have hnc6 := NB187_186.out; have hcz7_0 : w5.cell? ⟨gb186, 0, none⟩ = some (.int .i64 a0_0) := (blk_cell BK186.out 0).trans rfl; have hcz7_1 : w5.cell? ⟨gb186, 1, none⟩ = some (.int .i64 a0_1) := (blk_cell BK186.out 1).trans rfl; have hcz7_2 : w5.cell? ⟨gb186, 2, none⟩ = some (.slice A0_2 l0_2.length c0_2) := (blk_cell BK186.out 2).trans rfl; have hfz7_0 := blk_frozen BK186.out 0; have hfz7_1 := blk_frozen BK186.out 1; have hfz7_2 := blk_frozen BK186.out 2) | ((with_reducible refine gate_callee (f := 39) rfl ?_); refine goesL_ (some 10) rfl rfl Try.func39 (by kernel_rfl) rfl #[.agg #[.int .i64 a0_0, .int .i64 a0_1, .slice A0_2 l0_2.length c0_2]] rfl gl_ ?_; (with_reducible refine (tape_Valid.calls k a0_0 a0_1 _ _ l0_2 true _ ?side1 ?side2 A2.out).mono ?_); (case side1 => exact ck_ (Kd.C_below HR0_2.out HB.out)); (case side2 => exact HC0_2.out); rintro e w8 ⟨rfl, hb⟩; refine ⟨_, rfl, ?_⟩; have n0_ := A_ (blk_below (pk_ BK186.out) hb); have n1_ := A_ (blk_below (pk_ BK187.out) hb); have n2_ := A_ (below_step (bk_ HB.out) hb); clear BK186 BK187 HB; have BK186 := n0_; have BK187 := n1_; have HB := n2_; clear n0_ n1_ n2_; (try clear hb); (try clear hb2); (try clear hk); (try clear hi); have hcz9_0 : w8.cell? ⟨gb186, 0, none⟩ = some (.int .i64 a0_0) := (blk_cell BK186.out 0).trans rfl; have hcz9_1 : w8.cell? ⟨gb186, 1, none⟩ = some (.int .i64 a0_1) := (blk_cell BK186.out 1).trans rfl; have hcz9_2 : w8.cell? ⟨gb186, 2, none⟩ = some (.slice A0_2 l0_2.length c0_2) := (blk_cell BK186.out 2).trans rfl; have hfz9_0 := blk_frozen BK186.out 0; have hfz9_1 := blk_frozen BK186.out 1; have hfz9_2 := blk_frozen BK186.out 2) | ((with_reducible refine gate_dst (N := 4) rfl ?_); refine box_event ?hg (N := 4) ?hd (cs := #[.int .i64 0, .int .i64 0, .slice none 0 0]) (t := 24) ?hr ?_; (case hd => rfl); (case hg => rfl); (case hr => first | (go_simp; done) | (go_simp; rfl)); intro gb189 hg w10 hbox hb; have n0_ := A_ (blk_below (pk_ BK186.out) hb); have n1_ := A_ (blk_below (pk_ BK187.out) hb); have n2_ := A_ (below_step (bk_ HB.out) hb); have n3_ := A_ (hbox); have n4_ := A_ ((by rw [hg]; exact (below_size (bk_ HB.out)) : w.heap.size ≤ gb189)); have n5_ := A_ ((by rw [hg]; exact (below_size (bk_ HB.out)) : w.heap.size ≤ gb189)); have n6_ := A_ ((by rw [hg]; exact Nat.ne_of_lt (blk_lt (pk_ BK186.out)) : gb186 ≠ gb189)); have n7_ := A_ ((by rw [hg]; exact Nat.ne_of_gt (blk_lt (pk_ BK186.out)) : gb189 ≠ gb186)); have n8_ := A_ ((by rw [hg]; exact Nat.ne_of_lt (blk_lt (pk_ BK187.out)) : gb187 ≠ gb189)); have n9_ := A_ ((by rw [hg]; exact Nat.ne_of_gt (blk_lt (pk_ BK187.out)) : gb189 ≠ gb187)); clear BK186 BK187 HB; have BK186 := n0_; have BK187 := n1_; have HB := n2_; have BK189 := n3_; have GW189 := n4_; have GE189 := n5_; have NB186_189 := n6_; have NB189_186 := n7_; have NB187_189 := n8_; have NB189_187 := n9_; clear n0_ n1_ n2_ n3_ n4_ n5_ n6_ n7_ n8_ n9_ hb hbox hg; have hnb11 := NB189_186.out; have hnc11 := NB186_189.out; have hnb12 := NB189_187.out; have hnc12 := NB187_189.out; have hcz13_0 : w10.cell? ⟨gb189, 0, none⟩ = some (.int .i64 0) := (blk_cell BK189.out 0).trans rfl; have hcz13_1 : w10.cell? ⟨gb189, 1, none⟩ = some (.int .i64 0) := (blk_cell BK189.out 1).trans rfl; have hcz13_2 : w10.cell? ⟨gb189, 2, none⟩ = some (.slice none 0 0) := (blk_cell BK189.out 2).trans rfl; have hfz13_0 := blk_frozen BK189.out 0; have hfz13_1 := blk_frozen BK189.out 1; have hfz13_2 := blk_frozen BK189.out 2; have hcz14_0 : w10.cell? ⟨gb186, 0, none⟩ = some (.int .i64 a0_0) := (blk_cell BK186.out 0).trans rfl; have hcz14_1 : w10.cell? ⟨gb186, 1, none⟩ = some (.int .i64 a0_1) := (blk_cell BK186.out 1).trans rfl; have hcz14_2 : w10.cell? ⟨gb186, 2, none⟩ = some (.slice A0_2 l0_2.length c0_2) := (blk_cell BK186.out 2).trans rfl; have hfz14_0 := blk_frozen BK186.out 0; have hfz14_1 := blk_frozen BK186.out 1; have hfz14_2 := blk_frozen BK186.out 2))
  go_loopg [21] k (fun kq v21 w' => ∃ (x21_1 : Int) (x190002_1 : List (List (S37))) (u190002 : Value), v21 = .int .i64 x21_1 ∧ Aside0 (tape_Mirror.l0 kq l0_2 (l0_2.length : Int) x21_1 a0_0 a0_1 x190002_1 = some (r1, r2, r3, r4)) ∧ Aside0 (kq ≤ k) ∧ Aside0 (Kd.S (Kd.slice 37 k37) 38 w' w.heap.size (fun _ => True) u190002 x190002_1) ∧ Aside0 (w'.heap[gb186]? = some (.cells #[.int .i64 a0_0, .int .i64 a0_1, (.slice A0_2 l0_2.length c0_2)] 24 (0, 0))) ∧ Aside0 (w'.heap[gb187]? = some (.cells #[.int .i64 0, .int .i64 0, (.slice none 0 0)] 24 (0, 0))) ∧ Aside0 (w'.heap[gb189]? = some (.cells #[.int .i64 a0_0, .int .i64 a0_1, u190002] 24 (0, 0))) ∧ Aside0 (Below w.heap.size w w'))
  case atStart => exact ⟨(0), (([] : List (List (S37)))), (.slice none 0 0), jr_, H', ⟨Nat.le_refl _⟩, ⟨by first | exact Kd.S_nil _ _ _ _ _ | exact Kd.N_nil _ _ _ _ _ | exact Kd.V_nil _ _ _ _ _ | exact Kd.Q_nil _ _ _ _ _ | exact Kd.R_nil _ _ _ _ _⟩, ⟨by refine pk_ ?_; refine blk_far ?_ NB186_189.out _; refine pk_ ?_; refine blk_far ?_ NB186_189.out _; refine pk_ ?_; refine blk_far ?_ NB186_189.out _; exact pk_ BK186.out⟩, ⟨by refine pk_ ?_; refine blk_far ?_ NB187_189.out _; refine pk_ ?_; refine blk_far ?_ NB187_189.out _; refine pk_ ?_; refine blk_far ?_ NB187_189.out _; exact pk_ BK187.out⟩, ⟨by refine pk_ ?_; refine blk_put (cs := #[.int .i64 a0_0, .int .i64 a0_1, .slice none 0 0]) ?_ 2 _ rfl; refine pk_ ?_; refine blk_put (cs := #[.int .i64 a0_0, .int .i64 0, .slice none 0 0]) ?_ 1 _ rfl; refine pk_ ?_; refine blk_put (cs := #[.int .i64 0, .int .i64 0, .slice none 0 0]) ?_ 0 _ rfl; exact pk_ BK189.out⟩, ⟨bk_ HB.out⟩⟩
  case round =>
   clear H'
   (try clear c3); (try clear hcz13_0); (try clear hcz13_1); (try clear hcz13_2); (try clear hcz14_0); (try clear hcz14_1); (try clear hcz14_2); (try clear hcz7_0); (try clear hcz7_1); (try clear hcz7_2); (try clear hcz9_0); (try clear hcz9_1); (try clear hcz9_2); (try clear hfz13_0); (try clear hfz13_1); (try clear hfz13_2); (try clear hfz14_0); (try clear hfz14_1); (try clear hfz14_2); (try clear hfz7_0); (try clear hfz7_1); (try clear hfz7_2); (try clear hfz9_0); (try clear hfz9_1); (try clear hfz9_2)
   obtain ⟨x21_1, x190002_1, u190002, rfl, HA, HK1, HO_190002, BK186, BK187, BK189, HB⟩ := hrel
   cases gk with
   | zero => exact absurd HA.out (by simp [tape_Mirror.l0])
   | succ k1 =>
    have H := HA.out
    clear HA
    simp only [tape_Mirror.l0] at H
    by_cases c15 : x21_1 < (l0_2.length : Int)
    ·rw [if_pos c15] at H
     have c15b0 : decide (x21_1 < (l0_2.length : Int)) = true := decide_eq_true c15
     clear c15
     by_cases c16 : 0 ≤ x21_1
     ·rw [if_pos c16] at H
      have c16b0 : decide (0 ≤ x21_1) = true := decide_eq_true c16
      clear c16
      by_cases c17 : x21_1 < (l0_2.length : Int)
      ·rw [if_pos c17] at H
       have c17b0 : decide (x21_1 < (l0_2.length : Int)) = true := decide_eq_true c17
       clear c17
       replace H := Option.bind_eq_some_iff.mp H
       obtain ⟨t191, A180, H⟩ := H
       replace H : (tape_Mirror.l1 k1 t191 l0_2 (l0_2.length : Int) x21_1 (t191.length : Int) 0 a0_0 a0_1 x190002_1) = some (r1, r2, r3, r4) := H
       have A18 := Aside0.mk A180
       clear A180
       have H' := Aside0.mk H
       clear H
       have p190 : 0 ≤ (x21_1 : Int) := od_
       have q190 : x21_1 < (l0_2.length : Int) := od_
       obtain ⟨ad190, A190_0, c190_0, e190, hx190_0, hl190_0, hi190_0⟩ := at_L2 HR0_2.out x21_1 p190 q190
       cases e190
       replace hx190_0 := lf_ HB.out hx190_0
       have HR190_0 := Aside0.mk hi190_0
       have HC190_0 := Aside0.mk hl190_0
       clear hi190_0 hl190_0
       replace p190 := eq_true p190
       replace q190 := eq_true q190
       go_wp2_with (first | ((with_reducible refine gate_callee (f := 40) rfl ?_); refine goesL_ (some 26) rfl rfl Try.func40 (by kernel_rfl) rfl #[.slice A190_0 (rd_L2 l0_2 x21_1).length c190_0] rfl gl_ ?_; (with_reducible refine (api_Rule.calls _ _ (rd_L2 l0_2 x21_1) t191 _ ?side1 ?side2 A18.out).mono ?_); (case side1 => exact ck_ (Kd.C_below HR190_0.out HB.out)); (case side2 => exact HC190_0.out); rintro e w19 ⟨v192, rfl, ho0, hb⟩; refine ⟨_, rfl, ?_⟩; have n0_ := A_ (Kd.S_elder' (by (with_reducible repeat (first | apply Kd.S_alloc | apply Kd.S_drewN | apply Kd.S_drew)); exact HO_190002.out) (Kd.R_base ho0) hb); have n1_ := A_ (Kd.R_lower ho0 (below_size (bk_ HB.out))); have n2_ := A_ (blk_below (pk_ BK186.out) hb); have n3_ := A_ (blk_below (pk_ BK187.out) hb); have n4_ := A_ (blk_below (pk_ BK189.out) hb); have n5_ := A_ (below_step (bk_ HB.out) hb); clear HO_190002 BK186 BK187 BK189 HB; have HO_190002 := n0_; have HO193 := n1_; have BK186 := n2_; have BK187 := n3_; have BK189 := n4_; have HB := n5_; clear n0_ n1_ n2_ n3_ n4_ n5_; (try clear hb); (try clear hb2); (try clear hk); (try clear hi); (try clear ho0); obtain ⟨Ao20, co20, eo20⟩ := Kd.R_slice HO193.out; subst eo20))
       go_loopg [29] k1 (fun kq v29 w' => ∃ (x7_2 : List (S37)) (x29_2 : Int), v29 = .int .i64 x29_2 ∧ Aside0 (tape_Mirror.l1 kq x7_2 l0_2 (l0_2.length : Int) x21_1 (t191.length : Int) x29_2 a0_0 a0_1 x190002_1 = some (r1, r2, r3, r4)) ∧ Aside0 (kq ≤ k1) ∧ Aside0 (Kd.R k37 37 w' w.heap.size (fun _ => True) (.slice Ao20 t191.length co20) x7_2) ∧ Aside0 (Kd.S (Kd.slice 37 k37) 38 w' w.heap.size (fun k_ => some k_ ≠ ((.slice Ao20 t191.length co20) : Value).ownBlock) u190002 x190002_1) ∧ Aside0 (w'.heap[gb186]? = some (.cells #[.int .i64 a0_0, .int .i64 a0_1, (.slice (some ad190) l0_2.length c0_2)] 24 (0, 0))) ∧ Aside0 (w'.heap[gb187]? = some (.cells #[.int .i64 0, .int .i64 0, (.slice none 0 0)] 24 (0, 0))) ∧ Aside0 (w'.heap[gb189]? = some (.cells #[.int .i64 a0_0, .int .i64 a0_1, u190002] 24 (0, 0))) ∧ Aside0 (Below w.heap.size w w'))
       case atStart => exact ⟨(t191), (0), jr_, H', ⟨Nat.le_refl _⟩, ⟨rk_ HO193.out⟩, ⟨by (with_reducible repeat (first | apply Kd.S_alloc | apply Kd.S_drewN | apply Kd.S_drew)); exact Kd.S_mono HO_190002.out (fun _ hk => hk.2)⟩, ⟨pk_ BK186.out⟩, ⟨pk_ BK187.out⟩, ⟨pk_ BK189.out⟩, ⟨bk_ HB.out⟩⟩
       case round =>
        clear H'
        (try clear c3); (try clear c15); (try clear c15b0); (try clear c16); (try clear c16b0); (try clear c17); (try clear c17b0); (try clear hcz13_0); (try clear hcz13_1); (try clear hcz13_2); (try clear hcz14_0); (try clear hcz14_1); (try clear hcz14_2); (try clear hcz7_0); (try clear hcz7_1); (try clear hcz7_2); (try clear hcz9_0); (try clear hcz9_1); (try clear hcz9_2); (try clear hfz13_0); (try clear hfz13_1); (try clear hfz13_2); (try clear hfz14_0); (try clear hfz14_1); (try clear hfz14_2); (try clear hfz7_0); (try clear hfz7_1); (try clear hfz7_2); (try clear hfz9_0); (try clear hfz9_1); (try clear hfz9_2); (try clear hx190_0); (try clear p190); (try clear q190)
        obtain ⟨x7_2, x29_2, rfl, HA, HK2, HO_7, HO_190002, BK186, BK187, BK189, HB⟩ := hrel
        have hl7_2 := (Kd.R_reads' HO_7.out).1
        rw [hl7_2] at HO_7
        (try simp only [hl7_2])
        (try simp only [hl7_2] at BK186)
        (try simp only [hl7_2] at BK187)
        (try simp only [hl7_2] at BK189)
        (try simp only [hl7_2] at HO_190002)
        cases gk with
        | zero => exact absurd HA.out (by simp [tape_Mirror.l1])
        | succ k2 =>
         have H := HA.out
         clear HA
         simp only [tape_Mirror.l1] at H
         by_cases c21 : x29_2 < (t191.length : Int)
         ·rw [if_pos c21] at H
          have c21b0 : decide (x29_2 < (t191.length : Int)) = true := decide_eq_true c21
          (try (have c21x0 := c21b0; simp only [hl7_2] at c21x0))
          clear c21
          by_cases c22 : 0 ≤ x29_2
          ·rw [if_pos c22] at H
           have c22b0 : decide (0 ≤ x29_2) = true := decide_eq_true c22
           clear c22
           by_cases c23 : x29_2 < (x7_2.length : Int)
           ·rw [if_pos c23] at H
            have c23b0 : decide (x29_2 < (x7_2.length : Int)) = true := decide_eq_true c23
            (try (have c23x0 := c23b0; simp only [hl7_2] at c23x0))
            clear c23
            obtain ⟨y195, hy195⟩ : ∃ y_ : List (S37), y_ = (x7_2.set (x29_2 : Int).toNat (⟨(rd_T37 x7_2 x29_2).f0, wrap64 (-((rd_T37 x7_2 x29_2).f1)), (rd_T37 x7_2 x29_2).f2⟩ : S37)) := ⟨_, rfl⟩
            replace H : (tape_Mirror.l1 k2 y195 l0_2 (l0_2.length : Int) x21_1 (t191.length : Int) (wrap64 (x29_2 + 1)) a0_0 a0_1 x190002_1) = some (r1, r2, r3, r4) := by first | (rw [hy195]; with_reducible exact H) | (have H2_ := (Option.bind_some _ _).symm.trans H; rw [hy195]; with_reducible exact H2_) | (have H2_ := (Option.bind_some _ _).symm.trans H; with_reducible exact H2_) | with_reducible exact H | (rw [hy195]; exact H) | exact H
            have Ny195 := Aside0.mk hy195
            clear hy195
            have H' := Aside0.mk H
            clear H
            have p194 : 0 ≤ (x29_2 : Int) := od_
            have q194 : x29_2 < (x7_2.length : Int) := od_
            obtain ⟨ad194, e194, hx194_0, hx194_1, hx194_2⟩ := at_T37 (Kd.R_reads' HO_7.out).2.2 x29_2 p194 q194
            cases e194
            replace p194 := eq_true p194
            replace q194 := eq_true q194
            have p24 : 0 ≤ (x29_2 : Int) := od_
            have q24 : (x29_2 : Int) < ((x7_2.length : Int) : Int) := od_
            obtain ⟨go24, co24, eo24, gb24, gl24, cl24, HG24⟩ := Kd.R_form HO_7.out (by omega)
            (first | cases eo24 | (injection eo24 with ea_ en_ ec_; (first | subst ea_ | (injection ea_ with ea_; subst ea_)); subst ec_; clear en_))
            have GB24 := Aside0.mk gb24
            have GG24 := Aside0.mk HG24
            clear gb24 gl24 HG24
            (first | simp only [add_plain] at hx194_0 | skip)
            (first | simp only [add_plain] at hx194_1 | skip)
            (first | simp only [add_plain] at hx194_2 | skip)
            obtain ⟨ce24, hcl24, hM24, hcc24, hfr24⟩ := Kd.R_elem HO_7.out z37 (x29_2 : Int) p24 q24
            obtain rfl := k37_openM hM24
            have hx24_0 : wr.cell? ⟨go24, (x29_2 : Int).toNat * 3, none⟩ = some (.int .i64 ((rd_T37 x7_2 x29_2).f0)) := hcc24 0 _ rfl
            have hx24_1 : wr.cell? ⟨go24, (x29_2 : Int).toNat * 3 + 1, none⟩ = some (.int .i64 ((rd_T37 x7_2 x29_2).f1)) := hcc24 1 _ rfl
            have hx24_2 : wr.cell? ⟨go24, (x29_2 : Int).toNat * 3 + 2, none⟩ = some (.int .i64 ((rd_T37 x7_2 x29_2).f2)) := hcc24 2 _ rfl
            have hf24_0 : wr.frozen? ⟨go24, (x29_2 : Int).toNat * 3, none⟩ = false := hfr24 0
            have hf24_1 : wr.frozen? ⟨go24, (x29_2 : Int).toNat * 3 + 1, none⟩ = false := hfr24 1
            have hf24_2 : wr.frozen? ⟨go24, (x29_2 : Int).toNat * 3 + 2, none⟩ = false := hfr24 2
            clear hcl24 hcc24 hfr24 hM24
            replace p24 := eq_true p24
            replace q24 := eq_true q24
            have HX25 := A_ (show Kd.R k37 37 wr w.heap.size (fun _ => True) (.slice (some ⟨go24, 0, none⟩) x7_2.length co20) x7_2 from (rk_ HO_7.out))
            obtain ⟨ce25, hcl25, hM25, hcc25, hfr25⟩ := Kd.R_elem HX25.out z37 (x29_2 : Int) (od_) (by have h_ : (x29_2 : Int) < ((x7_2.length : Int) : Int) := od_; first | exact h_ | (have e_ := (Kd.R_reads' HO_7.out).1; omega) | simpa using h_)
            obtain rfl := k37_openM hM25
            have HP25 := Kd.R_seg HX25.out (x29_2 : Int) (od_) (by have h_ : (x29_2 : Int) < ((x7_2.length : Int) : Int) := od_; first | exact h_ | (have e_ := (Kd.R_reads' HO_7.out).1; omega) | simpa using h_) (seg := [.int .i64 (wrap64 (-((rd_T37 x7_2 x29_2).f1)))]) (j := 1) hcl25 hcc25 (show 2 ≤ 3 from by decide) (x' := (⟨(rd_T37 x7_2 x29_2).f0, wrap64 (-((rd_T37 x7_2 x29_2).f1)), (rd_T37 x7_2 x29_2).f2⟩ : S37)) (k37_mkM _ _ _ (⟨(rd_T37 x7_2 x29_2).f0, wrap64 (-((rd_T37 x7_2 x29_2).f1)), (rd_T37 x7_2 x29_2).f2⟩ : S37) ) (fun _ hk => hk)
            have hx25_1 := hcc25 1 _ rfl
            (try simp only [show (k37).sz = 3 from rfl, Nat.mul_one, Nat.add_zero] at hx25_1)
            have hf25_1 := hfr25 1
            (try simp only [show (k37).sz = 3 from rfl, Nat.mul_one, Nat.add_zero] at hf25_1)
            clear hcl25 hcc25 hfr25 hM25
            go_wp2_with (first | ((with_reducible refine gate_store (t := 3) (p := 41) rfl ?_); refine store_event (t := 3) (p := 41) (v := ?vo_w26) (w1 := (wr.setCell ⟨go24, (x29_2 : Int).toNat * 3 + 1, none⟩ (.int .i64 (wrap64 (-((rd_T37 x7_2 x29_2).f1)))))) ?hg ?ho ?hn ?hr ?_; (case ho => rfl); (case hg => rfl); (case hn => rfl); (case hr => first | (go_simp; done) | (go_simp; rfl)); intro w26 hw; have hg : wr.grownBy w26 (some go24) := (by rw [hw]; exact HP25.2); have hp_ : Kd.R k37 37 w26 w.heap.size (fun _ => True) (.slice (some ⟨go24, 0, none⟩) x7_2.length co20) y195 := (by rw [hw, Ny195.out]; exact HP25.1); clear HP25; have n0_ := A_ (hp_); have n1_ := A_ (Kd.S_after (v := (.slice (some ⟨go24, 0, none⟩) x7_2.length co20)) (v1 := (.slice (some ⟨go24, 0, none⟩) x7_2.length co20)) (ok := (fun _ => True)) (by (with_reducible repeat (first | apply Kd.S_alloc | apply Kd.S_drewN | apply Kd.S_drew)); exact Kd.S_mono HO_190002.out (fun _ hk => ⟨trivial, hk⟩)) hg (.inl rfl)); have n2_ := A_ (blk_grown (pk_ BK186.out) hg (Kd.R_ne HO_7.out BK186.out (by decide))); have n3_ := A_ (blk_grown (pk_ BK187.out) hg (Kd.R_ne HO_7.out BK187.out (by decide))); have n4_ := A_ (blk_grown (pk_ BK189.out) hg (Kd.R_ne HO_7.out BK189.out (by decide))); have n5_ := A_ ((by rw [hw]; exact below_set (HB.out) GB24.out : Below w.heap.size w w26)); clear HO_7 HO_190002 BK186 BK187 BK189 HB; have HO_7 := n0_; have HO_190002 := n1_; have BK186 := n2_; have BK187 := n3_; have BK189 := n4_; have HB := n5_; clear n0_ n1_ n2_ n3_ n4_ n5_ hg hw hp_))
            (try simp only [← hl7_2])
            go_roundg k2
            case measure => have := HK1.out; have := HK2.out; omega
            case rel => exact ⟨(y195), (wrap64 (x29_2 + 1)), jr_, H', ⟨by have := HK1.out; have := HK2.out; omega⟩, ⟨by (try simp only [hl7_2]); (with_reducible repeat (first | apply Kd.R_alloc | apply Kd.R_drewN | apply Kd.R_drew)); exact HO_7.out⟩, ⟨by (try simp only [hl7_2]); (with_reducible repeat (first | apply Kd.S_alloc | apply Kd.S_drewN | apply Kd.S_drew)); exact Kd.S_mono HO_190002.out (fun _ hk => hk.2)⟩, ⟨by (try simp only [hl7_2]); exact pk_ BK186.out⟩, ⟨by (try simp only [hl7_2]); exact pk_ BK187.out⟩, ⟨by (try simp only [hl7_2]); exact pk_ BK189.out⟩, ⟨bk_ HB.out⟩⟩
           ·rw [if_neg c23] at H
            exact absurd H (by simp)
          ·rw [if_neg c22] at H
           exact absurd H (by simp)
         ·rw [if_neg c21] at H
          have c21b0 : decide (x29_2 < (t191.length : Int)) = false := decide_eq_false c21
          (try (have c21x0 := c21b0; simp only [hl7_2] at c21x0))
          clear c21
          by_cases c27 : x190002_1.length < 5864062014805
          ·rw [if_pos c27] at H
           have LMc27 := Aside0.mk c27
           clear c27
           obtain ⟨y196, hy196⟩ : ∃ y_ : List (List (S37)), y_ = (x190002_1 ++ [x7_2]) := ⟨_, rfl⟩
           replace H : (tape_Mirror.l0 k2 l0_2 (l0_2.length : Int) (wrap64 (x21_1 + 1)) a0_0 a0_1 y196) = some (r1, r2, r3, r4) := by first | (rw [hy196]; with_reducible exact H) | (have H2_ := (Option.bind_some _ _).symm.trans H; rw [hy196]; with_reducible exact H2_) | (have H2_ := (Option.bind_some _ _).symm.trans H; with_reducible exact H2_) | with_reducible exact H | (rw [hy196]; exact H) | exact H
           have Ny196 := Aside0.mk hy196
           clear hy196
           have H' := Aside0.mk H
           clear H
           have hnb28 := NB189_186.out
           have hnc28 := NB186_189.out
           have hnb29 := NB189_187.out
           have hnc29 := NB187_189.out
           have hcz30_0 : wr.cell? ⟨gb189, 0, none⟩ = some (.int .i64 a0_0) := (blk_cell BK189.out 0).trans rfl
           have hcz30_1 : wr.cell? ⟨gb189, 1, none⟩ = some (.int .i64 a0_1) := (blk_cell BK189.out 1).trans rfl
           have hcz30_2 : wr.cell? ⟨gb189, 2, none⟩ = some (u190002) := (blk_cell BK189.out 2).trans rfl
           have hfz30_0 := blk_frozen BK189.out 0
           have hfz30_1 := blk_frozen BK189.out 1
           have hfz30_2 := blk_frozen BK189.out 2
           go_wp2_with (first | ((with_reducible refine gate_builtin (b := .append) (xs := #[.tmp 44, .tmp 46]) rfl ?_); at_builtin; refine Kd.S_append (Kd.slice 37 k37) (w0 := w) w.heap.size rfl (.tmp 44) (.tmp 46) 22 38 (.slice none 0 0) 24 rfl Try.underlying22 info38 rfl (by decide) (by omega) u190002 x190002_1 x7_2 [.slice Ao20 x7_2.length co20] (fun _ => True) (fun k_ => some k_ = (.slice Ao20 x7_2.length co20 : Value).ownBlock) rfl rfl ?aP (fun k_ hk_ => ((Kd.R_mono (ok' := fun k_ => ((fun _ => True)) k_ ∧ some k_ ≠ (u190002 : Value).ownBlock) (Kd.R_apart' (HO_7.out) (Kd.S_typed HO_190002.out) (by decide)) (fun k_ hk => ⟨trivial, hk.2⟩))).1 k_ hk_.symm) ?aF ?aO ?aB ?aS ?aL ?_; (case aP => exact Kd.M_row (Kd.R_mono (Kd.R_tight rfl (Kd.R_mono (ok' := fun k_ => ((fun _ => True)) k_ ∧ some k_ ≠ (u190002 : Value).ownBlock) (Kd.R_apart' (HO_7.out) (Kd.S_typed HO_190002.out) (by decide)) (fun k_ hk => ⟨trivial, hk.2⟩))) (fun _ h_ => h_))); (case aB => exact (bk_ HB.out)); (case aF => exact (fun _ _ => trivial)); (case aO => exact (by (with_reducible repeat (first | apply Kd.S_alloc | apply Kd.S_drewN | apply Kd.S_drew)); exact Kd.S_mono HO_190002.out (fun k_ hk => ⟨trivial, fun e_ => hk e_⟩))); (case aS => exact (below_size (bk_ HB.out))); (case aL => have := LMc27.out; omega); intro v197 w31 ho hb hg hat; rw [← Ny196.out] at ho; have n0_ := A_ (blk_grown (pk_ BK186.out) hg (Kd.S_ne HO_190002.out BK186.out (by decide))); have n1_ := A_ (blk_grown (pk_ BK187.out) hg (Kd.S_ne HO_190002.out BK187.out (by decide))); have n2_ := A_ (blk_grown (pk_ BK189.out) hg (Kd.S_ne HO_190002.out BK189.out (by decide))); have n3_ := A_ (hb); have n4_ := A_ (ho); clear BK186 BK187 BK189 HB HO_190002 HO_7; have BK186 := n0_; have BK187 := n1_; have BK189 := n2_; have HB := n3_; have HO198 := n4_; clear n0_ n1_ n2_ n3_ n4_ ho hb hg hat; obtain ⟨Ao32, co32, eo32⟩ := Kd.S_slice HO198.out; subst eo32; have hcz33_0 : w31.cell? ⟨gb189, 0, none⟩ = some (.int .i64 a0_0) := (blk_cell BK189.out 0).trans rfl; have hcz33_1 : w31.cell? ⟨gb189, 1, none⟩ = some (.int .i64 a0_1) := (blk_cell BK189.out 1).trans rfl; have hcz33_2 : w31.cell? ⟨gb189, 2, none⟩ = some (u190002) := (blk_cell BK189.out 2).trans rfl; have hfz33_0 := blk_frozen BK189.out 0; have hfz33_1 := blk_frozen BK189.out 1; have hfz33_2 := blk_frozen BK189.out 2))
           (try simp only [← hl7_2])
           go_roundg k2
           case measure => have := HK1.out; have := HK2.out; omega
           case rel => exact ⟨(wrap64 (x21_1 + 1)), (y196), (.slice Ao32 y196.length co32), jr_, H', ⟨by have := HK1.out; have := HK2.out; omega⟩, ⟨by (try simp only [hl7_2]); (with_reducible repeat (first | apply Kd.S_alloc | apply Kd.S_drewN | apply Kd.S_drew)); exact Kd.S_mono (Kd.S_far (p := ⟨gb189, 2, none⟩) (Kd.S_types HO198.out BK189.out (by decide)) (fun _ hk => hk.2) (.slice Ao32 y196.length co32)) (fun _ hk => trivial)⟩, ⟨by (try simp only [hl7_2]); refine pk_ ?_; refine blk_far ?_ NB186_189.out _; exact pk_ BK186.out⟩, ⟨by (try simp only [hl7_2]); refine pk_ ?_; refine blk_far ?_ NB187_189.out _; exact pk_ BK187.out⟩, ⟨by (try simp only [hl7_2]); refine pk_ ?_; refine blk_put (cs := #[.int .i64 a0_0, .int .i64 a0_1, u190002]) ?_ 2 _ rfl; exact pk_ BK189.out⟩, ⟨bk_ HB.out⟩⟩
          ·rw [if_neg c27] at H
           exact absurd H (by simp)
      ·rw [if_neg c17] at H
       exact absurd H (by simp)
     ·rw [if_neg c16] at H
      exact absurd H (by simp)
    ·rw [if_neg c15] at H
     have c15b0 : decide (x21_1 < (l0_2.length : Int)) = false := decide_eq_false c15
     clear c15
     simp only [Option.some.injEq, Prod.mk.injEq] at H
     obtain ⟨rfl, rfl, rfl, rfl⟩ := H
     have hnb34 := NB189_186.out
     have hnc34 := NB186_189.out
     have hnb35 := NB189_187.out
     have hnc35 := NB187_189.out
     have hcz36_0 : wr.cell? ⟨gb189, 0, none⟩ = some (.int .i64 a0_0) := (blk_cell BK189.out 0).trans rfl
     have hcz36_1 : wr.cell? ⟨gb189, 1, none⟩ = some (.int .i64 a0_1) := (blk_cell BK189.out 1).trans rfl
     have hcz36_2 : wr.cell? ⟨gb189, 2, none⟩ = some (u190002) := (blk_cell BK189.out 2).trans rfl
     have hfz36_0 := blk_frozen BK189.out 0
     have hfz36_1 := blk_frozen BK189.out 1
     have hfz36_2 := blk_frozen BK189.out 2
     have hnb37 := NB187_186.out
     have hnc37 := NB186_187.out
     have hcz38_0 : wr.cell? ⟨gb187, 0, none⟩ = some (.int .i64 0) := (blk_cell BK187.out 0).trans rfl
     have hcz38_1 : wr.cell? ⟨gb187, 1, none⟩ = some (.int .i64 0) := (blk_cell BK187.out 1).trans rfl
     have hcz38_2 : wr.cell? ⟨gb187, 2, none⟩ = some (.slice none 0 0) := (blk_cell BK187.out 2).trans rfl
     have hfz38_0 := blk_frozen BK187.out 0
     have hfz38_1 := blk_frozen BK187.out 1
     have hfz38_2 := blk_frozen BK187.out 2
     obtain ⟨Ao39, co39, eo39⟩ := Kd.S_slice HO_190002.out
     subst eo39
     go_wp2
     refine bodyPost_ret (results_ct rfl _ _ gb187 24 #[.int .i64 a0_0, .int .i64 a0_1, .slice Ao39 x190002_1.length co39] (0, 0) _ rfl (by refine pk_ ?_; refine blk_put (cs := #[.int .i64 a0_0, .int .i64 a0_1, .slice none 0 0]) ?_ 2 _ rfl; refine pk_ ?_; refine blk_put (cs := #[.int .i64 a0_0, .int .i64 0, .slice none 0 0]) ?_ 1 _ rfl; refine pk_ ?_; refine blk_put (cs := #[.int .i64 0, .int .i64 0, .slice none 0 0]) ?_ 0 _ rfl; exact pk_ BK187.out) Try.underlying24 rfl (by kernel_rfl)) rfl ?_
     exact ⟨_, er_, by (with_reducible repeat (first | apply Kd.S_alloc | apply Kd.S_drewN | apply Kd.S_drew)); exact Kd.S_mono (Kd.S_far (p := ⟨gb187, 2, none⟩) (Kd.S_far (p := ⟨gb187, 1, none⟩) (Kd.S_far (p := ⟨gb187, 0, none⟩) (Kd.S_types HO_190002.out BK187.out (by decide)) (fun _ hk => hk.2) (.int .i64 a0_0)) (fun _ hk => hk.2) (.int .i64 a0_1)) (fun _ hk => hk.2) (.slice Ao39 x190002_1.length co39)) (fun _ hk => trivial), bk_ HB.out⟩
 ·replace c3 := Bool.eq_false_iff.mpr c3
  subst c3
  have H1 : (some (0, 0, ([] : List (List (S37))), 1)) = some (r1, r2, r3, r4) := by rw [if_neg (show ¬ (false = true) by decide)] at H; exact H
  clear H
  have H := H1
  clear H1
  simp only [Option.some.injEq, Prod.mk.injEq] at H
  obtain ⟨rfl, rfl, rfl, rfl⟩ := H
  go_enter Try.func20, Try.ntmps20
  go_wp2_with (first | ((with_reducible refine gate_dst (N := 1) rfl ?_); refine box_event ?hg (N := 1) ?hd (cs := #[.int .i64 a0_0, .int .i64 a0_1, .slice A0_2 l0_2.length c0_2]) (t := 24) ?hr ?_; (case hd => rfl); (case hg => rfl); (case hr => first | (go_simp; done) | (go_simp; rfl)); intro gb186 hg w40 hbox hb; have n0_ := A_ (below_step (bk_ HB.out) hb); have n1_ := A_ (hbox); have n2_ := A_ ((by rw [hg]; exact (below_size (bk_ HB.out)) : w.heap.size ≤ gb186)); have n3_ := A_ ((by rw [hg]; exact (below_size (bk_ HB.out)) : w.heap.size ≤ gb186)); clear HB; have HB := n0_; have BK186 := n1_; have GW186 := n2_; have GE186 := n3_; clear n0_ n1_ n2_ n3_ hb hbox hg) | ((with_reducible refine gate_dst (N := 2) rfl ?_); refine box_event ?hg (N := 2) ?hd (cs := #[.int .i64 0, .int .i64 0, .slice none 0 0]) (t := 24) ?hr ?_; (case hd => rfl); (case hg => rfl); (case hr => first | (go_simp; done) | (go_simp; rfl)); intro gb187 hg w41 hbox hb; have n0_ := A_ (blk_below (pk_ BK186.out) hb); have n1_ := A_ (below_step (bk_ HB.out) hb); have n2_ := A_ (hbox); have n3_ := A_ ((by rw [hg]; exact (below_size (bk_ HB.out)) : w.heap.size ≤ gb187)); have n4_ := A_ ((by rw [hg]; exact (below_size (bk_ HB.out)) : w.heap.size ≤ gb187)); have n5_ := A_ ((by rw [hg]; exact Nat.ne_of_lt (blk_lt (pk_ BK186.out)) : gb186 ≠ gb187)); have n6_ := A_ ((by rw [hg]; exact Nat.ne_of_gt (blk_lt (pk_ BK186.out)) : gb187 ≠ gb186)); clear BK186 HB; have BK186 := n0_; have HB := n1_; have BK187 := n2_; have GW187 := n3_; have GE187 := n4_; have NB186_187 := n5_; have NB187_186 := n6_; clear n0_ n1_ n2_ n3_ n4_ n5_ n6_ hb hbox hg; have hnb42 := NB186_187.out; have hnc42 := NB187_186.out; have hcz43_0 : w41.cell? ⟨gb186, 0, none⟩ = some (.int .i64 a0_0) := (blk_cell BK186.out 0).trans rfl; have hcz43_1 : w41.cell? ⟨gb186, 1, none⟩ = some (.int .i64 a0_1) := (blk_cell BK186.out 1).trans rfl; have hcz43_2 : w41.cell? ⟨gb186, 2, none⟩ = some (.slice A0_2 l0_2.length c0_2) := (blk_cell BK186.out 2).trans rfl; have hfz43_0 := blk_frozen BK186.out 0; have hfz43_1 := blk_frozen BK186.out 1; have hfz43_2 := blk_frozen BK186.out 2) | ((with_reducible refine gate_callee (f := 39) rfl ?_); refine goesL_ (some 10) rfl rfl Try.func39 (by kernel_rfl) rfl #[.agg #[.int .i64 a0_0, .int .i64 a0_1, .slice A0_2 l0_2.length c0_2]] rfl gl_ ?_; (with_reducible refine (tape_Valid.calls k a0_0 a0_1 _ _ l0_2 false _ ?side1 ?side2 A2.out).mono ?_); (case side1 => exact ck_ (Kd.C_below HR0_2.out HB.out)); (case side2 => exact HC0_2.out); rintro e w44 ⟨rfl, hb⟩; refine ⟨_, rfl, ?_⟩; have n0_ := A_ (blk_below (pk_ BK186.out) hb); have n1_ := A_ (blk_below (pk_ BK187.out) hb); have n2_ := A_ (below_step (bk_ HB.out) hb); clear BK186 BK187 HB; have BK186 := n0_; have BK187 := n1_; have HB := n2_; clear n0_ n1_ n2_; (try clear hb); (try clear hb2); (try clear hk); (try clear hi); have hcz45_0 : w44.cell? ⟨gb187, 0, none⟩ = some (.int .i64 0) := (blk_cell BK187.out 0).trans rfl; have hcz45_1 : w44.cell? ⟨gb187, 1, none⟩ = some (.int .i64 0) := (blk_cell BK187.out 1).trans rfl; have hcz45_2 : w44.cell? ⟨gb187, 2, none⟩ = some (.slice none 0 0) := (blk_cell BK187.out 2).trans rfl; have hfz45_0 := blk_frozen BK187.out 0; have hfz45_1 := blk_frozen BK187.out 1; have hfz45_2 := blk_frozen BK187.out 2))
  refine bodyPost_ret (results_ct rfl _ _ gb187 24 #[.int .i64 0, .int .i64 0, .slice none 0 0] (0, 0) _ rfl (by refine pk_ ?_; refine blk_put (cs := #[.int .i64 0, .int .i64 0, .slice none 0 0]) ?_ 2 _ rfl; refine pk_ ?_; refine blk_put (cs := #[.int .i64 0, .int .i64 0, .slice none 0 0]) ?_ 1 _ rfl; refine pk_ ?_; refine blk_put (cs := #[.int .i64 0, .int .i64 0, .slice none 0 0]) ?_ 0 _ rfl; exact pk_ BK187.out) Try.underlying24 rfl (by kernel_rfl)) rfl ?_
  exact ⟨_, er_, by first | exact Kd.S_nil _ _ _ _ _ | exact Kd.N_nil _ _ _ _ _ | exact Kd.V_nil _ _ _ _ _ | exact Kd.Q_nil _ _ _ _ _ | exact Kd.R_nil _ _ _ _ _, bk_ HB.out⟩

end Go.Proofs.Ytdkcociababjdaa.PLeapMirror
