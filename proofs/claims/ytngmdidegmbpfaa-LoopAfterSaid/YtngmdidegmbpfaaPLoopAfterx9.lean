-- out of a turned copy of the print, by a program of this session; Lean checks it
import Derived.Test.YtngmdidegmbpfaaPLoopAfterx0
import Derived.Test.YtngmdidegmbpfaaPLoopAfterx1
import Derived.Test.YtngmdidegmbpfaaPLoopAfterx7
import Derived.Test.YtngmdidegmbpfaaPLoopAfterx8
namespace Go.Proofs.Ytngmdidegmbpfaa.PLoopAfter
open Go.RowKit Go.Proofs.YtngmdidegmbpfaaW.PrintWords Go.Proofs.YtngmdidegmbpfaaW.PrintLast Go.Proofs.YtngmdidegmbpfaaW.PrintMore
attribute [local go_sem] max2_int min2_int max_two min_two max_three min_three max_four min_four   -- for this text's walks alone
set_option linter.unusedVariables false
set_option linter.unusedSimpArgs false

attribute [local go_sem] isSome_put_
/-! ### standstillref10_Side: function 12 -/
def standstillref10_Side.f (k : Nat) (a0_0 : Int) (a0_1 : Int) (l0_2 : List (List (S52))) (a1 : Int) (a2 : Int) (a3 : Bool) : Option (Bool) := if a3 = true then ((standstillref10_Check.f a0_0 a0_1 l0_2 a1 a2).bind fun t167 => (some t167)) else ((standstillref10_Mirror.f k a0_0 a0_1 l0_2).bind fun bt168 => ((standstillref10_Check.f bt168.1 bt168.2.1 bt168.2.2 a1 a2).bind fun t173 => (some t173)))
theorem standstillref10_Side.mono : ∀ a0 a1 a2 a3 a4 a5 k, LeO (standstillref10_Side.f k a0 a1 a2 a3 a4 a5) (standstillref10_Side.f (k + 1) a0 a1 a2 a3 a4 a5) := by
 intro a0 a1 a2 a3 a4 a5 k
 unfold standstillref10_Side.f
 repeat' first
   | (with_reducible exact standstillref10_Mirror.mono _ _ _ _)
   | (with_reducible exact LeO.refl _)
   | (with_reducible exact LeO.none _)
   | (with_reducible refine LeO.ite ?_ ?_)
   | (with_reducible refine LeO.bind ?_ (fun _ => ?_))
   | exact standstillref10_Mirror.mono _ _ _ _
   | exact LeO.none _
   | refine LeO.ite ?_ ?_
   | refine LeO.bind ?_ (fun _ => ?_)
set_option maxHeartbeats 8000000 in
set_option maxRecDepth 100000 in
theorem standstillref10_Side.calls (k : Nat) (a0_0 : Int) (a0_1 : Int) (A0_2 : Option Addr) (c0_2 : Nat) (l0_2 : List (List (S52))) (a1 : Int) (a2 : Int) (a3 : Bool) (r : Bool) (w : World) (hr0_2 : Kd.C (Kd.slice 52 k52) w A0_2 l0_2.length l0_2) (hc0_2 : l0_2.length ≤ c0_2) (h : standstillref10_Side.f k a0_0 a0_1 l0_2 a1 a2 a3 = some r) :
  Calls Try.prog 12 #[.agg #[.int .i64 a0_0, .int .i64 a0_1, .slice A0_2 l0_2.length c0_2], .int .i64 a1, .int .i64 a2, .bool a3] w fun e w' => e = .returned (.bool r) ∧ Below w.heap.size w w' := by
 have hu24 := Try.underlying24
 have HR0_2 := Aside0.mk hr0_2
 have HC0_2 := Aside0.mk hc0_2
 clear hr0_2 hc0_2
 have HB := A_ (Below.refl w.heap.size w)
 have H : (if a3 = true then ((standstillref10_Check.f a0_0 a0_1 l0_2 a1 a2).bind fun t167 => (some t167)) else ((standstillref10_Mirror.f k a0_0 a0_1 l0_2).bind fun bt168 => ((standstillref10_Check.f bt168.1 bt168.2.1 bt168.2.2 a1 a2).bind fun t173 => (some t173)))) = some r := h
 clear h
 by_cases c5 : a3 = true
 ·subst c5
  have H1 : ((standstillref10_Check.f a0_0 a0_1 l0_2 a1 a2).bind fun t167 => (some t167)) = some r := by rw [if_pos rfl] at H; exact H
  clear H
  have H := H1
  clear H1
  replace H := Option.bind_eq_some_iff.mp H
  obtain ⟨t167, A60, H⟩ := H
  replace H : (some t167) = some r := H
  have A6 := Aside0.mk A60
  clear A60
  obtain rfl := Option.some.inj H
  go_enter Try.func12, Try.ntmps12
  go_wp2_with (first | ((with_reducible refine gate_dst (N := 4) rfl ?_); refine box_event ?hg (N := 4) ?hd (cs := #[.int .i64 a0_0, .int .i64 a0_1, .slice A0_2 l0_2.length c0_2]) (t := 24) ?hr ?_; (case hd => rfl); (case hg => rfl); (case hr => first | (go_simp; done) | (go_simp; rfl)); intro gb166 hg w7 hbox hb; have n0_ := A_ (below_step (bk_ HB.out) hb); have n1_ := A_ (hbox); have n2_ := A_ ((by rw [hg]; exact (below_size (bk_ HB.out)) : w.heap.size ≤ gb166)); have n3_ := A_ ((by rw [hg]; exact (below_size (bk_ HB.out)) : w.heap.size ≤ gb166)); clear HB; have HB := n0_; have BK166 := n1_; have GW166 := n2_; have GE166 := n3_; clear n0_ n1_ n2_ n3_ hb hbox hg; have hcz8_0 : w7.cell? ⟨gb166, 0, none⟩ = some (.int .i64 a0_0) := (blk_cell BK166.out 0).trans rfl; have hcz8_1 : w7.cell? ⟨gb166, 1, none⟩ = some (.int .i64 a0_1) := (blk_cell BK166.out 1).trans rfl; have hcz8_2 : w7.cell? ⟨gb166, 2, none⟩ = some (.slice A0_2 l0_2.length c0_2) := (blk_cell BK166.out 2).trans rfl; have hfz8_0 := blk_frozen BK166.out 0; have hfz8_1 := blk_frozen BK166.out 1; have hfz8_2 := blk_frozen BK166.out 2) | ((with_reducible refine gate_callee (f := 23) rfl ?_); refine goesL_ (some 16) rfl rfl Try.func23 (by kernel_rfl) rfl #[.agg #[.int .i64 a0_0, .int .i64 a0_1, .slice A0_2 l0_2.length c0_2], .int .i64 a1, .int .i64 a2] rfl gl_ ?_; (with_reducible refine (standstillref10_Check.calls a0_0 a0_1 _ _ l0_2 a1 a2 t167 _ ?side1 ?side2 A6.out).mono ?_); (case side1 => exact ck_ (Kd.C_below HR0_2.out HB.out)); (case side2 => exact HC0_2.out); rintro e w9 ⟨rfl, hb⟩; refine ⟨_, rfl, ?_⟩; have n0_ := A_ (blk_below (pk_ BK166.out) hb); have n1_ := A_ (below_step (bk_ HB.out) hb); clear BK166 HB; have BK166 := n0_; have HB := n1_; clear n0_ n1_; (try clear hb); (try clear hb2); (try clear hk); (try clear hi)))
  go_ret
  exact ⟨er_, bk_ HB.out⟩
 ·replace c5 := Bool.eq_false_iff.mpr c5
  subst c5
  have H1 : ((standstillref10_Mirror.f k a0_0 a0_1 l0_2).bind fun bt168 => ((standstillref10_Check.f bt168.1 bt168.2.1 bt168.2.2 a1 a2).bind fun t173 => (some t173))) = some r := by rw [if_neg (show ¬ (false = true) by decide)] at H; exact H
  clear H
  have H := H1
  clear H1
  replace H := Option.bind_eq_some_iff.mp H
  obtain ⟨⟨t168, t169, t170⟩, A100, H⟩ := H
  replace H : ((standstillref10_Check.f t168 t169 t170 a1 a2).bind fun t173 => (some t173)) = some r := H
  have A10 := Aside0.mk A100
  clear A100
  replace H := Option.bind_eq_some_iff.mp H
  obtain ⟨t173, A110, H⟩ := H
  replace H : (some t173) = some r := H
  have A11 := Aside0.mk A110
  clear A110
  obtain rfl := Option.some.inj H
  go_enter Try.func12, Try.ntmps12
  go_wp2_with (first | ((with_reducible refine gate_dst (N := 4) rfl ?_); refine box_event ?hg (N := 4) ?hd (cs := #[.int .i64 a0_0, .int .i64 a0_1, .slice A0_2 l0_2.length c0_2]) (t := 24) ?hr ?_; (case hd => rfl); (case hg => rfl); (case hr => first | (go_simp; done) | (go_simp; rfl)); intro gb166 hg w12 hbox hb; have n0_ := A_ (below_step (bk_ HB.out) hb); have n1_ := A_ (hbox); have n2_ := A_ ((by rw [hg]; exact (below_size (bk_ HB.out)) : w.heap.size ≤ gb166)); have n3_ := A_ ((by rw [hg]; exact (below_size (bk_ HB.out)) : w.heap.size ≤ gb166)); clear HB; have HB := n0_; have BK166 := n1_; have GW166 := n2_; have GE166 := n3_; clear n0_ n1_ n2_ n3_ hb hbox hg; have hcz13_0 : w12.cell? ⟨gb166, 0, none⟩ = some (.int .i64 a0_0) := (blk_cell BK166.out 0).trans rfl; have hcz13_1 : w12.cell? ⟨gb166, 1, none⟩ = some (.int .i64 a0_1) := (blk_cell BK166.out 1).trans rfl; have hcz13_2 : w12.cell? ⟨gb166, 2, none⟩ = some (.slice A0_2 l0_2.length c0_2) := (blk_cell BK166.out 2).trans rfl; have hfz13_0 := blk_frozen BK166.out 0; have hfz13_1 := blk_frozen BK166.out 1; have hfz13_2 := blk_frozen BK166.out 2) | ((with_reducible refine gate_callee (f := 14) rfl ?_); refine goesL_ (some 12) rfl rfl Try.func14 (by kernel_rfl) rfl #[.agg #[.int .i64 a0_0, .int .i64 a0_1, .slice A0_2 l0_2.length c0_2]] rfl gl_ ?_; (with_reducible refine (standstillref10_Mirror.calls k a0_0 a0_1 _ _ l0_2 t168 t169 t170 _ ?side1 ?side2 A10.out).mono ?_); (case side1 => exact ck_ (Kd.C_below HR0_2.out HB.out)); (case side2 => exact HC0_2.out); rintro e w14 ⟨v171, rfl, ho0, hb⟩; refine ⟨_, rfl, ?_⟩; have n0_ := A_ (Kd.S_lower ho0 (below_size (bk_ HB.out))); have n1_ := A_ (blk_below (pk_ BK166.out) hb); have n2_ := A_ (below_step (bk_ HB.out) hb); clear BK166 HB; have HO172 := n0_; have BK166 := n1_; have HB := n2_; clear n0_ n1_ n2_; (try clear hb); (try clear hb2); (try clear hk); (try clear hi); (try clear ho0); have hcz15_0 : w14.cell? ⟨gb166, 0, none⟩ = some (.int .i64 a0_0) := (blk_cell BK166.out 0).trans rfl; have hcz15_1 : w14.cell? ⟨gb166, 1, none⟩ = some (.int .i64 a0_1) := (blk_cell BK166.out 1).trans rfl; have hcz15_2 : w14.cell? ⟨gb166, 2, none⟩ = some (.slice A0_2 l0_2.length c0_2) := (blk_cell BK166.out 2).trans rfl; have hfz15_0 := blk_frozen BK166.out 0; have hfz15_1 := blk_frozen BK166.out 1; have hfz15_2 := blk_frozen BK166.out 2; obtain ⟨Ao16, co16, eo16⟩ := Kd.S_slice HO172.out; subst eo16) | ((with_reducible refine gate_callee (f := 23) rfl ?_); refine goesL_ (some 16) rfl rfl Try.func23 (by kernel_rfl) rfl #[.agg #[.int .i64 t168, .int .i64 t169, .slice Ao16 t170.length co16], .int .i64 a1, .int .i64 a2] rfl gl_ ?_; (with_reducible refine (standstillref10_Check.calls t168 t169 _ _ t170 a1 a2 t173 _ ?side1 ?side2 A11.out).mono ?_); (case side1 => refine (Kd.S_reads' (e := 53) (base := w.heap.size) (ok := fun k_ => True) (n := t170.length) (c := co16) ?_).2.2; exact (by (with_reducible repeat (first | apply Kd.S_alloc | apply Kd.S_drewN | apply Kd.S_drew)); exact (Kd.S_mono (Kd.S_far (p := ⟨gb166, 2, none⟩) (Kd.S_far (p := ⟨gb166, 1, none⟩) (Kd.S_far (p := ⟨gb166, 0, none⟩) (Kd.S_types HO172.out BK166.out (by decide)) (fun _ hk => hk.2) (.int .i64 t168)) (fun _ hk => hk.2) (.int .i64 t169)) (fun _ hk => hk.2) (.slice Ao16 t170.length co16)) (fun _ h_ => h_.1)))); (case side2 => exact (Kd.S_reads' HO172.out).2.1); rintro e w17 ⟨rfl, hb⟩; refine ⟨_, rfl, ?_⟩; have n0_ := A_ (Kd.S_below (by (with_reducible repeat (first | apply Kd.S_alloc | apply Kd.S_drewN | apply Kd.S_drew)); exact (Kd.S_mono (Kd.S_far (p := ⟨gb166, 2, none⟩) (Kd.S_far (p := ⟨gb166, 1, none⟩) (Kd.S_far (p := ⟨gb166, 0, none⟩) (Kd.S_types HO172.out BK166.out (by decide)) (fun _ hk => hk.2) (.int .i64 t168)) (fun _ hk => hk.2) (.int .i64 t169)) (fun _ hk => hk.2) (.slice Ao16 t170.length co16)) (fun _ h_ => h_.1))) hb); have n1_ := A_ (blk_below (g := gb166) (o := .cells #[.int .i64 t168, .int .i64 t169, .slice Ao16 t170.length co16] 24 (0, 0)) (by refine pk_ ?_; refine blk_put (cs := #[.int .i64 t168, .int .i64 t169, .slice A0_2 l0_2.length c0_2]) ?_ 2 _ rfl; refine pk_ ?_; refine blk_put (cs := #[.int .i64 t168, .int .i64 a0_1, .slice A0_2 l0_2.length c0_2]) ?_ 1 _ rfl; refine pk_ ?_; refine blk_put (cs := #[.int .i64 a0_0, .int .i64 a0_1, .slice A0_2 l0_2.length c0_2]) ?_ 0 _ rfl; exact pk_ BK166.out) hb); have n2_ := A_ (below_step (bk_ HB.out) hb); clear HO172 BK166 HB; have HO172 := n0_; have BK166 := n1_; have HB := n2_; clear n0_ n1_ n2_; (try clear hb); (try clear hb2); (try clear hk); (try clear hi)))
  go_ret
  exact ⟨er_, bk_ HB.out⟩

/-! ### standstillref10_After: function 15 (by hand) -/
def standstillref10_After.f (rules : List (List (S52))) (a b k : Int) : Option (Int × Int) :=
  if 0 ≤ a ∧ a < b ∧ b ≤ 100000000 ∧ 0 ≤ k ∧ k ≤ 1152921504606846976 then
    (if k ≤ b then (RR.go rules k.toNat RR.new).bind fun r => some (r.po, r.st)
    else (RR.go rules b.toNat RR.new).bind fun rb => (RR.go rules a.toNat RR.new).bind fun ra => if rb.sane ∧ ra.sane then
      (RR.go rules (a + Int.tmod (k - a) (b - a)).toNat RR.new).bind fun r => some (wrap64 (r.po + wrap64 (Int.tdiv (k - a) (b - a) * (rb.po - ra.po))), r.st)
      else none)
  else none
set_option maxHeartbeats 8000000 in
set_option maxRecDepth 100000 in
theorem standstillref10_After.calls (a0_0 a0_1 : Int) (A0_2 : Option Addr) (c0_2 : Nat) (l0_2 : List (List (S52))) (a1 a2 a3 : Int) (r1 r2 : Int) (w : World) (hr0_2 : Kd.C (Kd.slice 52 k52) w A0_2 l0_2.length l0_2) (h : standstillref10_After.f l0_2 a1 a2 a3 = some (r1, r2)) :
    Calls Try.prog 15 #[.agg #[.int .i64 a0_0, .int .i64 a0_1, .slice A0_2 l0_2.length c0_2], .int .i64 a1, .int .i64 a2, .int .i64 a3] w fun e w' => e = .returned (.tuple #[.int .i64 r1, .int .i64 r2]) ∧ Below w.heap.size w w' := by
  unfold standstillref10_After.f at h
  by_cases c1 : 0 ≤ a1 ∧ a1 < a2 ∧ a2 ≤ 100000000 ∧ 0 ≤ a3 ∧ a3 ≤ 1152921504606846976
  rotate_left
  · rw [if_neg c1] at h
    cases h
  rw [if_pos c1] at h
  obtain ⟨u0, u1, u2, u3, u4⟩ := c1
  have HR := Aside0.mk hr0_2
  have H := Aside0.mk h
  have U := Aside0.mk (show 0 ≤ a1 ∧ a1 < a2 ∧ a2 ≤ 100000000 ∧ 0 ≤ a3 ∧ a3 ≤ 1152921504606846976 from ⟨u0, u1, u2, u3, u4⟩)
  clear hr0_2 h u0 u1 u2 u3 u4
  go_enter Try.func15, Try.ntmps15
  have HZ0 := Aside0.mk (blk_new w (.cells #[.int .i64 a0_0, .int .i64 a0_1, .slice A0_2 l0_2.length c0_2] 24))
  have HR0 := Aside0.mk (Kd.C_alloc HR.out (.cells #[.int .i64 a0_0, .int .i64 a0_1, .slice A0_2 l0_2.length c0_2] 24))
  have HB0 := Aside0.mk (below_alloc (Below.refl w.heap.size w) (.cells #[.int .i64 a0_0, .int .i64 a0_1, .slice A0_2 l0_2.length c0_2] 24))
  obtain ⟨z, hz⟩ : ∃ z, w.heap.size = z := ⟨_, rfl⟩
  have HZE := Aside0.mk hz
  by_cases k1 : a3 ≤ a2
  · have h := H.out
    rw [if_pos k1] at h
    obtain ⟨sr, hs, h⟩ := Option.bind_eq_some_iff.1 h
    simp only [Option.some.injEq, Prod.mk.injEq] at h
    obtain ⟨rfl, rfl⟩ := h
    clear hz
    have HS := Aside0.mk hs
    clear hs H
    have HK := Aside0.mk k1
    have k1a : decide (a3 ≤ a2) = true := decide_eq_true k1
    replace k1 := eq_true k1
    go_wp2_with fail
    obtain ⟨W0, hW0⟩ : ∃ W : World, w.alloc (.cells #[.int .i64 a0_0, .int .i64 a0_1, .slice A0_2 l0_2.length c0_2] 24) = W := ⟨_, rfl⟩
    rw [hW0] at HZ0 HR0 HB0 ⊢
    clear hW0
    refine (rr_begin a0_0 a0_1 A0_2 c0_2 l0_2 _).mono ?_
    rintro e w1 ⟨g1, rfl, hI1, hB1⟩
    have HI1 := Aside0.mk hI1
    have HB1 := Aside0.mk hB1
    clear hI1 hB1
    go_wp2_with fail
    refine (rr_go A0_2 c0_2 l0_2 W0 w1 W0.heap.size (fun _ => True) g1 a0_0 a0_1 RR.new sr a3 HI1.out HR0.out (Nat.le_refl _) HB1.out HB1.out.size (fun _ _ => trivial) (by have := U.out; have := HK.out; omega) HS.out).mono ?_
    rintro e w2 ⟨rfl, hI2, hB2, hKP2⟩
    have HI2 := Aside0.mk hI2
    have HB2 := Aside0.mk (below_step HB0.out hB2)
    clear hI2 hB2 hKP2 HI1 HB1
    obtain ⟨hp3, hp4, _⟩ := HI2.out.at_st
    go_wp2
    go_quiet (fail)
    go_wp2
    refine bodyPost_ret (results_list (rs := [.tmp 8, .tmp 9]) (vs := [.int .i64 sr.po, .int .i64 sr.st]) rfl (by simp) (Vals.tmp (Vals.tmp Vals.nil))) rfl ?_
    exact ⟨rfl, pw_below_drewN HB2.out _⟩
  have h0 := H.out
  rw [if_neg k1] at h0
  obtain ⟨sb, hb, h1⟩ := Option.bind_eq_some_iff.1 h0
  obtain ⟨sa, ha, h⟩ := Option.bind_eq_some_iff.1 h1
  clear h0 h1
  by_cases k2 : sb.sane ∧ sa.sane
  rotate_left
  · rw [if_neg k2] at h
    cases h
  rw [if_pos k2] at h
  obtain ⟨n, hn⟩ : ∃ n, a2 - a1 = n := ⟨_, rfl⟩
  obtain ⟨x, hx⟩ : ∃ x, a3 - a1 = x := ⟨_, rfl⟩
  obtain ⟨q, hq⟩ : ∃ q, Int.tdiv x n = q := ⟨_, rfl⟩
  obtain ⟨t, ht⟩ : ∃ t, Int.tmod x n = t := ⟨_, rfl⟩
  obtain ⟨d, hd⟩ : ∃ d, sb.po - sa.po = d := ⟨_, rfl⟩
  rw [hn, hx, hq, ht, hd] at h
  obtain ⟨sr, hs, h3⟩ := Option.bind_eq_some_iff.1 h
  clear h
  simp only [Option.some.injEq, Prod.mk.injEq] at h3
  obtain ⟨h1, h2⟩ := h3
  have N0_ : 0 < n ∧ n ≤ 100000000 := by have := U.out; omega
  have X0 : 0 ≤ x ∧ x ≤ 1152921504606846976 := by have := U.out; omega
  have f1 : x / n = q := by rw [← hq]; exact (Int.tdiv_eq_ediv_of_nonneg X0.1).symm
  have f2 : x % n = t := by rw [← ht]; exact (Int.tmod_eq_emod_of_nonneg X0.1).symm
  have T0_ : 0 ≤ t ∧ t < n := by rw [← f2]; exact ⟨Int.emod_nonneg _ (by omega), Int.emod_lt_of_pos _ N0_.1⟩
  have Q0_ : 0 ≤ q ∧ q ≤ 1152921504606846976 := by rw [← hq]; have h2 := Int.tdiv_le_self (b := n) X0.1; have h3 := Int.tdiv_nonneg X0.1 (show 0 ≤ n by omega); omega
  have D0_ : -4000000000 ≤ d ∧ d ≤ 4000000000 := by have h1 := k2.1; have h2 := k2.2; unfold RR.sane at h1 h2; omega
  obtain ⟨v1, hv1⟩ : ∃ v, wrap64 (q * d) = v := ⟨_, rfl⟩
  rw [hv1] at h1
  have V1 := Aside0.mk ((i64_w _).trans hv1)
  have V2 := Aside0.mk ((i64_w _).trans h1)
  have HB_ := Aside0.mk hb
  have HA_ := Aside0.mk ha
  have HS_ := Aside0.mk hs
  have HD_ := Aside0.mk hd
  have D0 := Aside0.mk D0_
  have Q0 := Aside0.mk Q0_
  have T0 := Aside0.mk T0_
  have N0 := Aside0.mk N0_
  have F1 := Aside0.mk f1
  have F2 := Aside0.mk f2
  have HQ_ := Aside0.mk hq
  have HT_ := Aside0.mk ht
  have E1 := Aside0.mk (show wrap64 (a2 - a1) = n by rw [hn]; exact wrap_small_ (by have := N0.out; omega))
  have E2 := Aside0.mk (show wrap64 (a3 - a1) = x by rw [hx]; exact wrap_small_ (by omega))
  have E3 := Aside0.mk (show IntKind.i64.wrap (a2 - a1) = n from (i64_w _).trans E1.out)
  have E4 := Aside0.mk (show IntKind.i64.wrap (a3 - a1) = x from (i64_w _).trans E2.out)
  have k1a : decide (a3 ≤ a2) = false := decide_eq_false k1
  replace k1 := eq_false k1
  subst h2
  clear hb ha hs h1 hn hx hq ht hd f1 f2 hv1 X0 H k2 hz N0_ T0_ Q0_ D0_
  have n1 : (n == (0 : Int)) = false := by have := N0.out; simp; omega
  have n2 : (n = 0) = False := eq_false (by have := N0.out; omega)
  have e3 := E3.out
  have e4 := E4.out
  have e1 := E1.out
  have e2 := E2.out
  have e5 : Int.tdiv x n = q := HQ_.out
  have e6 : Int.tmod x n = t := HT_.out
  have e7 : IntKind.i64.wrap q = q := IntWalk.i64_in _ (by have := Q0.out; omega)
  have e8 : IntKind.i64.wrap t = t := IntWalk.i64_in _ (by have := T0.out; have := N0.out; omega)
  have e9 : wrap64 q = q := wrap_small_ (by have := Q0.out; omega)
  have e10 : wrap64 t = t := wrap_small_ (by have := T0.out; have := N0.out; omega)
  go_wp2_with fail
  go_quiet (fail)
  go_wp2_with fail
  obtain ⟨W4, hW4⟩ : ∃ W : World, (w.alloc (.cells #[.int .i64 a0_0, .int .i64 a0_1, .slice A0_2 l0_2.length c0_2] 24)).drewN nq = W := ⟨_, rfl⟩
  have HZ4 := Aside0.mk (show W4.heap[w.heap.size]? = some (.cells #[.int .i64 a0_0, .int .i64 a0_1, .slice A0_2 l0_2.length c0_2] 24 (0, 0)) from by rw [← hW4]; exact HZ0.out)
  have HB4 := Aside0.mk (show Below w.heap.size w W4 from by rw [← hW4]; exact pw_below_drewN HB0.out _)
  have HR4 := Aside0.mk (show Kd.C (Kd.slice 52 k52) W4 A0_2 l0_2.length l0_2 from by rw [← hW4]; exact Kd.C_below HR.out (pw_below_drewN HB0.out _))
  rw [hW4, HZE.out]
  rw [HZE.out] at HZ4
  clear hW4 HB0 HR0 HZ0 e3 e4 e1 e2 e5 e6 e7 e8 e9 e10 E1 E2 E3 E4
  have HR4d := Aside0.mk (Kd.C_below HR4.out (show Below W4.heap.size W4 W4.drew from bk_ (Below.refl _ _)))
  have hz0 := (blk_cell HZ4.out 0).trans rfl
  have hz1 := (blk_cell HZ4.out 1).trans rfl
  have hz2 := (blk_cell HZ4.out 2).trans rfl
  have e1 : IntKind.i64.wrap (sb.po - sa.po) = d := by rw [HD_.out]; exact IntWalk.i64_in _ (by have := D0.out; omega)
  refine start_ (n := 16) (S := fun w' => w'.cell? ⟨z, 0, none⟩ = some (.int .i64 a0_0) ∧ w'.cell? ⟨z, 1, none⟩ = some (.int .i64 a0_1) ∧ w'.cell? ⟨z, 2, none⟩ = some (.slice A0_2 l0_2.length c0_2)) (ds := []) #[false, false, false, false, false, false, false, false, false, false, false, false, false, false, false, false] (by kernel_rfl) rfl rfl ⟨hz0, hz1, hz2⟩ (fun hHeld => ?_)
  refine pure_ (i := 2) (N := some 46) (v := ?_) (a' := ?_) #[false, false, true, false, false, false, false, false, false, false, false, false, false, false, false, false] rfl rfl (by kernel_rfl) (fun _ _ _ h => h) (Or.inl ⟨by rfl, ?_⟩) ?_ ?_
  rotate_left
  · intro w'
    go_simp
    with_reducible rfl
  rotate_left
  · simp only [Act.put, List.setIfInBounds_toArray, List.set_cons_zero, List.set_cons_succ, i64_w, i32_w]
    rfl
  refine pure_ (i := 9) (N := some 53) (v := ?_) (a' := ?_) #[false, false, true, false, false, false, false, false, false, true, false, false, false, false, false, false] rfl rfl (by kernel_rfl) (fun _ _ _ h => h) (Or.inl ⟨by rfl, ?_⟩) ?_ ?_
  rotate_left
  · intro w'
    go_simp
    with_reducible rfl
  rotate_left
  · simp only [Act.put, List.setIfInBounds_toArray, List.set_cons_zero, List.set_cons_succ, i64_w, i32_w]
    rfl
  refine take_ (i := 0) (N := some 44) (v := ?_) (a' := ?_) #[true, false, true, false, false, false, false, false, false, true, false, false, false, false, false, false] rfl rfl (by kernel_rfl) (fun _ _ _ h => h) (Or.inl ⟨by rfl, ?_⟩) hHeld ?_ ?_
  rotate_left
  · rintro w' ⟨s0, s1, s2⟩
    go_simp
    with_reducible rfl
  rotate_left
  · simp only [Act.put, List.setIfInBounds_toArray, List.set_cons_zero, List.set_cons_succ, i64_w, i32_w]
    rfl
  refine take_ (i := 7) (N := some 51) (v := ?_) (a' := ?_) #[true, false, true, false, false, false, false, true, false, true, false, false, false, false, false, false] rfl rfl (by kernel_rfl) (fun _ _ _ h => h) (Or.inl ⟨by rfl, ?_⟩) hHeld ?_ ?_
  rotate_left
  · rintro w' ⟨s0, s1, s2⟩
    go_simp
    with_reducible rfl
  rotate_left
  · simp only [Act.put, List.setIfInBounds_toArray, List.set_cons_zero, List.set_cons_succ, i64_w, i32_w]
    rfl
  refine one_ (i := 1) (N := some 45) #[true, true, true, false, false, false, false, true, false, true, false, false, false, false, false, false] rfl rfl (by kernel_rfl) (by decide) (fun K hK => ?_)
  refine goes_ Try.func16 (by kernel_rfl) rfl #[.agg #[.int .i64 a0_0, .int .i64 a0_1, .slice A0_2 l0_2.length c0_2]] (by rfl) rfl rfl (by simp only [List.map_toArray, List.map_cons, List.map_nil]; rfl) ?_
  with_reducible refine (rr_begin a0_0 a0_1 A0_2 c0_2 l0_2 W4.drew).mono ?_
  rintro e w5 ⟨g1, rfl, hI5, hB5⟩
  refine ⟨_, rfl, ?_⟩
  have HI5 := Aside0.mk hI5
  have HB5 := Aside0.mk hB5
  have HB5w := Aside0.mk (below_step (bk_ (Below.refl W4.heap.size W4)) hB5)
  clear hI5 hB5
  refine hK.out _ _ ⟨(lf_ HB5w.out hz0), (lf_ HB5w.out hz1), (lf_ HB5w.out hz2)⟩ (fun hHeld => ?_)
  clear hK K
  refine norm_ (a' := ?_) ?_ ?_
  rotate_left
  · show Act.put _ (some 45) _ = _
    simp only [Act.put, List.setIfInBounds_toArray, List.set_cons_zero, List.set_cons_succ, i64_w, i32_w]
    rfl
  refine one_ (i := 3) (N := some 47) #[true, true, true, true, false, false, false, true, false, true, false, false, false, false, false, false] rfl rfl (by kernel_rfl) (by decide) (fun K hK => ?_)
  refine goes_ Try.func17 (by kernel_rfl) rfl #[.pointer (some ⟨g1, 0, none⟩), .int .i64 a2] (by rfl) rfl rfl (by simp only [List.map_toArray, List.map_cons, List.map_nil]; rfl) ?_
  with_reducible refine (rr_go A0_2 c0_2 l0_2 W4.drew w5 W4.drew.heap.size (fun _ => True) g1 a0_0 a0_1 RR.new sb a2 HI5.out HR4d.out (Nat.le_refl _) HB5.out HB5.out.size (fun _ _ => trivial) (by have := U.out; omega) HB_.out).mono ?_
  rintro e w6 ⟨rfl, hI6, hB6, hKP6⟩
  refine ⟨_, rfl, ?_⟩
  have HI6 := Aside0.mk hI6
  have HB6 := Aside0.mk (below_step (bk_ (Below.refl W4.heap.size W4)) hB6)
  have HR6 := Aside0.mk (Kd.C_below HR4.out HB6.out)
  clear hI6 hB6 hKP6
  refine hK.out _ _ ⟨(lf_ HB6.out hz0), (lf_ HB6.out hz1), (lf_ HB6.out hz2)⟩ (fun hHeld => ?_)
  clear hK K
  refine norm_ (a' := ?_) ?_ ?_
  rotate_left
  · show Act.put _ (some 47) _ = _
    simp only [Act.put, List.setIfInBounds_toArray, List.set_cons_zero, List.set_cons_succ, i64_w, i32_w]
    rfl
  refine pure_ (i := 4) (N := some 48) (v := ?_) (a' := ?_) #[true, true, true, true, true, false, false, true, false, true, false, false, false, false, false, false] rfl rfl (by kernel_rfl) (fun _ _ _ h => h) (Or.inl ⟨by rfl, ?_⟩) ?_ ?_
  rotate_left
  · intro w'
    go_simp
    with_reducible rfl
  rotate_left
  · simp only [Act.put, List.setIfInBounds_toArray, List.set_cons_zero, List.set_cons_succ, i64_w, i32_w]
    rfl
  refine pure_ (i := 5) (N := some 49) (v := ?_) (a' := ?_) #[true, true, true, true, true, true, false, true, false, true, false, false, false, false, false, false] rfl rfl (by kernel_rfl) (fun _ _ _ h => h) (Or.inl ⟨by rfl, ?_⟩) ?_ ?_
  rotate_left
  · intro w'
    go_simp
    with_reducible rfl
  rotate_left
  · simp only [Act.put, List.setIfInBounds_toArray, List.set_cons_zero, List.set_cons_succ, i64_w, i32_w]
    rfl
  refine join_ (σ := Nat) 2 #[true, true, true, true, true, true, true, true, true, true, true, true, true, true, false, false] (fun ga => [(50, .int .i64 sb.po), (52, .pointer (some ⟨ga, 0, none⟩)), (53, .int .i64 a1), (54, .pointer (some ⟨ga, 0, none⟩)), (55, .pointer (some ⟨ga, 0, none⟩)), (56, .pointer (some ⟨ga, 4, none⟩)), (57, .int .i64 sa.po)]) (fun ga w' => Below W4.heap.size W4 w') ?_ ?_
  rotate_left
  · intro hCont
    refine two_ (i := 6) (j := 8) (Ni := some 50) (Nj := some 52) #[true, true, true, true, true, true, true, true, false, true, false, false, false, false, false, false] #[true, true, true, true, true, true, false, true, true, true, false, false, false, false, false, false] rfl rfl rfl rfl (by kernel_rfl) (by decide) (by decide) (fun K hK => ?_) (fun K hK => ?_)
    · skip
      have hpb := HI6.out.at_st.2.1
      refine value_ (w1 := ?_) (v := ?_) (by rfl) rfl ?_ ?_
      rotate_left 2
      · go_simp
        constructor
        · rfl
        · rfl
      refine hK.out _ _ ⟨hHeld.1, hHeld.2.1, hHeld.2.2⟩ (fun hHeld => ?_)
      clear hK K
      refine norm_ (a' := ?_) ?_ ?_
      rotate_left
      · show Act.put _ (some 50) _ = _
        simp only [Act.put, List.setIfInBounds_toArray, List.set_cons_zero, List.set_cons_succ, i64_w, i32_w]
        rfl
      refine one_ (i := 8) (N := some 52) #[true, true, true, true, true, true, true, true, true, true, false, false, false, false, false, false] rfl rfl (by kernel_rfl) (by decide) (fun K hK => ?_)
      refine goes_ Try.func16 (by kernel_rfl) rfl #[.agg #[.int .i64 a0_0, .int .i64 a0_1, .slice A0_2 l0_2.length c0_2]] (by rfl) rfl rfl (by simp only [List.map_toArray, List.map_cons, List.map_nil]; rfl) ?_
      with_reducible refine (rr_begin a0_0 a0_1 A0_2 c0_2 l0_2 w6).mono ?_
      rintro e w7 ⟨g2, rfl, hI7, hB7⟩
      refine ⟨_, rfl, ?_⟩
      have HI7 := Aside0.mk hI7
      have HB7a := Aside0.mk hB7
      have HB7 := Aside0.mk (below_step HB6.out hB7)
      have HI7b := Aside0.mk (HI6.out.below hB7)
      clear hI7 hB7
      refine hK.out _ _ ⟨(lf_ HB7.out hz0), (lf_ HB7.out hz1), (lf_ HB7.out hz2)⟩ (fun hHeld => ?_)
      clear hK K
      refine norm_ (a' := ?_) ?_ ?_
      rotate_left
      · show Act.put _ (some 52) _ = _
        simp only [Act.put, List.setIfInBounds_toArray, List.set_cons_zero, List.set_cons_succ, i64_w, i32_w]
        rfl
      refine one_ (i := 10) (N := some 54) #[true, true, true, true, true, true, true, true, true, true, true, false, false, false, false, false] rfl rfl (by kernel_rfl) (by decide) (fun K hK => ?_)
      refine goes_ Try.func17 (by kernel_rfl) rfl #[.pointer (some ⟨g2, 0, none⟩), .int .i64 a1] (by rfl) rfl rfl (by simp only [List.map_toArray, List.map_cons, List.map_nil]; rfl) ?_
      with_reducible refine (rr_go A0_2 c0_2 l0_2 w6 w7 w6.heap.size (fun _ => True) g2 a0_0 a0_1 RR.new sa a1 HI7.out HR6.out (Nat.le_refl _) HB7a.out HB7a.out.size (fun _ _ => trivial) (by have := U.out; omega) HA_.out).mono ?_
      rintro e w8 ⟨rfl, hI8, hB8, hKP8⟩
      refine ⟨_, rfl, ?_⟩
      have HI8 := Aside0.mk hI8
      have HB8 := Aside0.mk (below_step HB6.out hB8)
      have HI8b := Aside0.mk (HI6.out.below hB8)
      clear hI8 hB8 hKP8
      refine hK.out _ _ ⟨(lf_ HB8.out hz0), (lf_ HB8.out hz1), (lf_ HB8.out hz2)⟩ (fun hHeld => ?_)
      clear hK K
      refine norm_ (a' := ?_) ?_ ?_
      rotate_left
      · show Act.put _ (some 54) _ = _
        simp only [Act.put, List.setIfInBounds_toArray, List.set_cons_zero, List.set_cons_succ, i64_w, i32_w]
        rfl
      refine pure_ (i := 11) (N := some 55) (v := ?_) (a' := ?_) #[true, true, true, true, true, true, true, true, true, true, true, true, false, false, false, false] rfl rfl (by kernel_rfl) (fun _ _ _ h => h) (Or.inl ⟨by rfl, ?_⟩) ?_ ?_
      rotate_left
      · intro w'
        go_simp
        with_reducible rfl
      rotate_left
      · simp only [Act.put, List.setIfInBounds_toArray, List.set_cons_zero, List.set_cons_succ, i64_w, i32_w]
        rfl
      refine pure_ (i := 12) (N := some 56) (v := ?_) (a' := ?_) #[true, true, true, true, true, true, true, true, true, true, true, true, true, false, false, false] rfl rfl (by kernel_rfl) (fun _ _ _ h => h) (Or.inl ⟨by rfl, ?_⟩) ?_ ?_
      rotate_left
      · intro w'
        go_simp
        with_reducible rfl
      rotate_left
      · simp only [Act.put, List.setIfInBounds_toArray, List.set_cons_zero, List.set_cons_succ, i64_w, i32_w]
        rfl
      refine one_ (i := 13) (N := some 57) #[true, true, true, true, true, true, true, true, true, true, true, true, true, true, false, false] rfl rfl (by kernel_rfl) (by decide) (fun K hK => ?_)
      have hpa := HI8.out.at_st.2.1
      refine value_ (w1 := ?_) (v := ?_) (by rfl) rfl ?_ ?_
      rotate_left 2
      · go_simp
        constructor
        · rfl
        · rfl
      refine hK.out _ _ ⟨hHeld.1, hHeld.2.1, hHeld.2.2⟩ (fun hHeld => ?_)
      clear hK K
      refine norm_ (a' := ?_) ?_ ?_
      rotate_left
      · show Act.put _ (some 57) _ = _
        simp only [Act.put, List.setIfInBounds_toArray, List.set_cons_zero, List.set_cons_succ, i64_w, i32_w]
        rfl
      exact norm_ (by simp only [putAll, Act.put, List.setIfInBounds_toArray, List.set_cons_zero, List.set_cons_succ]) (hCont g2 _ HB8.out)
    · skip
      refine goes_ Try.func16 (by kernel_rfl) rfl #[.agg #[.int .i64 a0_0, .int .i64 a0_1, .slice A0_2 l0_2.length c0_2]] (by rfl) rfl rfl (by simp only [List.map_toArray, List.map_cons, List.map_nil]; rfl) ?_
      with_reducible refine (rr_begin a0_0 a0_1 A0_2 c0_2 l0_2 w6).mono ?_
      rintro e w7 ⟨g2, rfl, hI7, hB7⟩
      refine ⟨_, rfl, ?_⟩
      have HI7 := Aside0.mk hI7
      have HB7a := Aside0.mk hB7
      have HB7 := Aside0.mk (below_step HB6.out hB7)
      have HI7b := Aside0.mk (HI6.out.below hB7)
      clear hI7 hB7
      refine hK.out _ _ ⟨(lf_ HB7.out hz0), (lf_ HB7.out hz1), (lf_ HB7.out hz2)⟩ (fun hHeld => ?_)
      clear hK K
      refine norm_ (a' := ?_) ?_ ?_
      rotate_left
      · show Act.put _ (some 52) _ = _
        simp only [Act.put, List.setIfInBounds_toArray, List.set_cons_zero, List.set_cons_succ, i64_w, i32_w]
        rfl
      refine two_ (i := 6) (j := 10) (Ni := some 50) (Nj := some 54) #[true, true, true, true, true, true, true, true, true, true, false, false, false, false, false, false] #[true, true, true, true, true, true, false, true, true, true, true, false, false, false, false, false] rfl rfl rfl rfl (by kernel_rfl) (by decide) (by decide) (fun K hK => ?_) (fun K hK => ?_)
      · skip
        have hpb := HI7b.out.at_st.2.1
        refine value_ (w1 := ?_) (v := ?_) (by rfl) rfl ?_ ?_
        rotate_left 2
        · go_simp
          constructor
          · rfl
          · rfl
        refine hK.out _ _ ⟨hHeld.1, hHeld.2.1, hHeld.2.2⟩ (fun hHeld => ?_)
        clear hK K
        refine norm_ (a' := ?_) ?_ ?_
        rotate_left
        · show Act.put _ (some 50) _ = _
          simp only [Act.put, List.setIfInBounds_toArray, List.set_cons_zero, List.set_cons_succ, i64_w, i32_w]
          rfl
        refine one_ (i := 10) (N := some 54) #[true, true, true, true, true, true, true, true, true, true, true, false, false, false, false, false] rfl rfl (by kernel_rfl) (by decide) (fun K hK => ?_)
        refine goes_ Try.func17 (by kernel_rfl) rfl #[.pointer (some ⟨g2, 0, none⟩), .int .i64 a1] (by rfl) rfl rfl (by simp only [List.map_toArray, List.map_cons, List.map_nil]; rfl) ?_
        with_reducible refine (rr_go A0_2 c0_2 l0_2 w6 w7 w6.heap.size (fun _ => True) g2 a0_0 a0_1 RR.new sa a1 HI7.out HR6.out (Nat.le_refl _) HB7a.out HB7a.out.size (fun _ _ => trivial) (by have := U.out; omega) HA_.out).mono ?_
        rintro e w8 ⟨rfl, hI8, hB8, hKP8⟩
        refine ⟨_, rfl, ?_⟩
        have HI8 := Aside0.mk hI8
        have HB8 := Aside0.mk (below_step HB6.out hB8)
        have HI8b := Aside0.mk (HI6.out.below hB8)
        clear hI8 hB8 hKP8
        refine hK.out _ _ ⟨(lf_ HB8.out hz0), (lf_ HB8.out hz1), (lf_ HB8.out hz2)⟩ (fun hHeld => ?_)
        clear hK K
        refine norm_ (a' := ?_) ?_ ?_
        rotate_left
        · show Act.put _ (some 54) _ = _
          simp only [Act.put, List.setIfInBounds_toArray, List.set_cons_zero, List.set_cons_succ, i64_w, i32_w]
          rfl
        refine pure_ (i := 11) (N := some 55) (v := ?_) (a' := ?_) #[true, true, true, true, true, true, true, true, true, true, true, true, false, false, false, false] rfl rfl (by kernel_rfl) (fun _ _ _ h => h) (Or.inl ⟨by rfl, ?_⟩) ?_ ?_
        rotate_left
        · intro w'
          go_simp
          with_reducible rfl
        rotate_left
        · simp only [Act.put, List.setIfInBounds_toArray, List.set_cons_zero, List.set_cons_succ, i64_w, i32_w]
          rfl
        refine pure_ (i := 12) (N := some 56) (v := ?_) (a' := ?_) #[true, true, true, true, true, true, true, true, true, true, true, true, true, false, false, false] rfl rfl (by kernel_rfl) (fun _ _ _ h => h) (Or.inl ⟨by rfl, ?_⟩) ?_ ?_
        rotate_left
        · intro w'
          go_simp
          with_reducible rfl
        rotate_left
        · simp only [Act.put, List.setIfInBounds_toArray, List.set_cons_zero, List.set_cons_succ, i64_w, i32_w]
          rfl
        refine one_ (i := 13) (N := some 57) #[true, true, true, true, true, true, true, true, true, true, true, true, true, true, false, false] rfl rfl (by kernel_rfl) (by decide) (fun K hK => ?_)
        have hpa := HI8.out.at_st.2.1
        refine value_ (w1 := ?_) (v := ?_) (by rfl) rfl ?_ ?_
        rotate_left 2
        · go_simp
          constructor
          · rfl
          · rfl
        refine hK.out _ _ ⟨hHeld.1, hHeld.2.1, hHeld.2.2⟩ (fun hHeld => ?_)
        clear hK K
        refine norm_ (a' := ?_) ?_ ?_
        rotate_left
        · show Act.put _ (some 57) _ = _
          simp only [Act.put, List.setIfInBounds_toArray, List.set_cons_zero, List.set_cons_succ, i64_w, i32_w]
          rfl
        exact norm_ (by simp only [putAll, Act.put, List.setIfInBounds_toArray, List.set_cons_zero, List.set_cons_succ]) (hCont g2 _ HB8.out)
      · skip
        refine goes_ Try.func17 (by kernel_rfl) rfl #[.pointer (some ⟨g2, 0, none⟩), .int .i64 a1] (by rfl) rfl rfl (by simp only [List.map_toArray, List.map_cons, List.map_nil]; rfl) ?_
        with_reducible refine (rr_go A0_2 c0_2 l0_2 w6 w7 w6.heap.size (fun _ => True) g2 a0_0 a0_1 RR.new sa a1 HI7.out HR6.out (Nat.le_refl _) HB7a.out HB7a.out.size (fun _ _ => trivial) (by have := U.out; omega) HA_.out).mono ?_
        rintro e w8 ⟨rfl, hI8, hB8, hKP8⟩
        refine ⟨_, rfl, ?_⟩
        have HI8 := Aside0.mk hI8
        have HB8 := Aside0.mk (below_step HB6.out hB8)
        have HI8b := Aside0.mk (HI6.out.below hB8)
        clear hI8 hB8 hKP8
        refine hK.out _ _ ⟨(lf_ HB8.out hz0), (lf_ HB8.out hz1), (lf_ HB8.out hz2)⟩ (fun hHeld => ?_)
        clear hK K
        refine norm_ (a' := ?_) ?_ ?_
        rotate_left
        · show Act.put _ (some 54) _ = _
          simp only [Act.put, List.setIfInBounds_toArray, List.set_cons_zero, List.set_cons_succ, i64_w, i32_w]
          rfl
        refine pure_ (i := 11) (N := some 55) (v := ?_) (a' := ?_) #[true, true, true, true, true, true, false, true, true, true, true, true, false, false, false, false] rfl rfl (by kernel_rfl) (fun _ _ _ h => h) (Or.inl ⟨by rfl, ?_⟩) ?_ ?_
        rotate_left
        · intro w'
          go_simp
          with_reducible rfl
        rotate_left
        · simp only [Act.put, List.setIfInBounds_toArray, List.set_cons_zero, List.set_cons_succ, i64_w, i32_w]
          rfl
        refine pure_ (i := 12) (N := some 56) (v := ?_) (a' := ?_) #[true, true, true, true, true, true, false, true, true, true, true, true, true, false, false, false] rfl rfl (by kernel_rfl) (fun _ _ _ h => h) (Or.inl ⟨by rfl, ?_⟩) ?_ ?_
        rotate_left
        · intro w'
          go_simp
          with_reducible rfl
        rotate_left
        · simp only [Act.put, List.setIfInBounds_toArray, List.set_cons_zero, List.set_cons_succ, i64_w, i32_w]
          rfl
        refine two_ (i := 6) (j := 13) (Ni := some 50) (Nj := some 57) #[true, true, true, true, true, true, true, true, true, true, true, true, true, false, false, false] #[true, true, true, true, true, true, false, true, true, true, true, true, true, true, false, false] rfl rfl rfl rfl (by kernel_rfl) (by decide) (by decide) (fun K hK => ?_) (fun K hK => ?_)
        · skip
          have hpb := HI8b.out.at_st.2.1
          refine value_ (w1 := ?_) (v := ?_) (by rfl) rfl ?_ ?_
          rotate_left 2
          · go_simp
            constructor
            · rfl
            · rfl
          refine hK.out _ _ ⟨hHeld.1, hHeld.2.1, hHeld.2.2⟩ (fun hHeld => ?_)
          clear hK K
          refine norm_ (a' := ?_) ?_ ?_
          rotate_left
          · show Act.put _ (some 50) _ = _
            simp only [Act.put, List.setIfInBounds_toArray, List.set_cons_zero, List.set_cons_succ, i64_w, i32_w]
            rfl
          refine one_ (i := 13) (N := some 57) #[true, true, true, true, true, true, true, true, true, true, true, true, true, true, false, false] rfl rfl (by kernel_rfl) (by decide) (fun K hK => ?_)
          have hpa := HI8.out.at_st.2.1
          refine value_ (w1 := ?_) (v := ?_) (by rfl) rfl ?_ ?_
          rotate_left 2
          · go_simp
            constructor
            · rfl
            · rfl
          refine hK.out _ _ ⟨hHeld.1, hHeld.2.1, hHeld.2.2⟩ (fun hHeld => ?_)
          clear hK K
          refine norm_ (a' := ?_) ?_ ?_
          rotate_left
          · show Act.put _ (some 57) _ = _
            simp only [Act.put, List.setIfInBounds_toArray, List.set_cons_zero, List.set_cons_succ, i64_w, i32_w]
            rfl
          exact norm_ (by simp only [putAll, Act.put, List.setIfInBounds_toArray, List.set_cons_zero, List.set_cons_succ]) (hCont g2 _ HB8.out)
        · skip
          have hpa := HI8.out.at_st.2.1
          refine value_ (w1 := ?_) (v := ?_) (by rfl) rfl ?_ ?_
          rotate_left 2
          · go_simp
            constructor
            · rfl
            · rfl
          refine hK.out _ _ ⟨hHeld.1, hHeld.2.1, hHeld.2.2⟩ (fun hHeld => ?_)
          clear hK K
          refine norm_ (a' := ?_) ?_ ?_
          rotate_left
          · show Act.put _ (some 57) _ = _
            simp only [Act.put, List.setIfInBounds_toArray, List.set_cons_zero, List.set_cons_succ, i64_w, i32_w]
            rfl
          refine one_ (i := 6) (N := some 50) #[true, true, true, true, true, true, true, true, true, true, true, true, true, true, false, false] rfl rfl (by kernel_rfl) (by decide) (fun K hK => ?_)
          have hpb := HI8b.out.at_st.2.1
          refine value_ (w1 := ?_) (v := ?_) (by rfl) rfl ?_ ?_
          rotate_left 2
          · go_simp
            constructor
            · rfl
            · rfl
          refine hK.out _ _ ⟨hHeld.1, hHeld.2.1, hHeld.2.2⟩ (fun hHeld => ?_)
          clear hK K
          refine norm_ (a' := ?_) ?_ ?_
          rotate_left
          · show Act.put _ (some 50) _ = _
            simp only [Act.put, List.setIfInBounds_toArray, List.set_cons_zero, List.set_cons_succ, i64_w, i32_w]
            rfl
          exact norm_ (by simp only [putAll, Act.put, List.setIfInBounds_toArray, List.set_cons_zero, List.set_cons_succ]) (hCont g2 _ HB8.out)
  rintro ga w9 hB9
  have HB9 := Aside0.mk hB9
  have hHeld : w9.cell? ⟨z, 0, none⟩ = some (.int .i64 a0_0) ∧ w9.cell? ⟨z, 1, none⟩ = some (.int .i64 a0_1) ∧ w9.cell? ⟨z, 2, none⟩ = some (.slice A0_2 l0_2.length c0_2) := ⟨(lf_ HB9.out hz0), (lf_ HB9.out hz1), (lf_ HB9.out hz2)⟩
  clear hB9
  refine norm_ (a' := ?_) ?_ ?_
  rotate_left
  · simp only [putAll, Act.put, List.setIfInBounds_toArray, List.set_cons_zero, List.set_cons_succ]
    rfl
  refine pure_ (i := 14) (N := some 58) (v := ?_) (a' := ?_) #[true, true, true, true, true, true, true, true, true, true, true, true, true, true, true, false] rfl rfl (by kernel_rfl) (fun _ _ _ h => h) (Or.inl ⟨by rfl, ?_⟩) ?_ ?_
  rotate_left
  · intro w'
    go_simp
    with_reducible rfl
  rotate_left
  · simp only [Act.put, List.setIfInBounds_toArray, List.set_cons_zero, List.set_cons_succ, i64_w, i32_w]
    rfl
  refine pure_ (i := 15) (N := some 13) (v := ?_) (a' := ?_) #[true, true, true, true, true, true, true, true, true, true, true, true, true, true, true, true] rfl rfl (by kernel_rfl) (fun _ _ _ h => h) (Or.inl ⟨by rfl, ?_⟩) ?_ ?_
  rotate_left
  · intro w'
    go_simp
    with_reducible rfl
  rotate_left
  · simp only [Act.put, List.setIfInBounds_toArray, List.set_cons_zero, List.set_cons_succ, i64_w, i32_w]
    rfl
  refine done_ (by kernel_rfl) ?_

  have HR9 := Aside0.mk (Kd.C_below HR4.out HB9.out)
  have HB9w := Aside0.mk (below_step HB4.out HB9.out)
  clear hz0 hz1 hz2 e1
  have hz0 := (blk_cell (blk_below HZ4.out HB9.out) 0).trans rfl
  have hz1 := (blk_cell (blk_below HZ4.out HB9.out) 1).trans rfl
  have hz2 := (blk_cell (blk_below HZ4.out HB9.out) 2).trans rfl
  go_wp2_with fail
  refine (rr_begin a0_0 a0_1 A0_2 c0_2 l0_2 _).mono ?_
  rintro e w10 ⟨g3, rfl, hI10, hB10⟩
  have HI10 := Aside0.mk hI10
  have HB10 := Aside0.mk hB10
  clear hI10 hB10 hz0 hz1 hz2
  have e1 : IntKind.i64.wrap (a1 + t) = a1 + t := IntWalk.i64_in _ (by have := U.out; have := T0.out; have := N0.out; omega)
  have e2 : wrap64 (a1 + t) = a1 + t := (i64_w _).symm.trans e1
  go_wp2_with fail
  refine (rr_go A0_2 c0_2 l0_2 w9 w10 w9.heap.size (fun _ => True) g3 a0_0 a0_1 RR.new sr (a1 + t) HI10.out HR9.out (Nat.le_refl _) HB10.out HB10.out.size (fun _ _ => trivial) (by have := U.out; have := T0.out; have := N0.out; omega) HS_.out).mono ?_
  rintro e w11 ⟨rfl, hI11, hB11, hKP11⟩
  have HI11 := Aside0.mk hI11
  have HB11 := Aside0.mk (below_step HB9w.out hB11)
  clear hI11 hB11 hKP11 HI10 HB10 e1 e2
  obtain ⟨hp3, hp4, _⟩ := HI11.out.at_st
  have e1 := V1.out
  have e2 := V2.out
  have e3 := (i64_w _).symm.trans e1
  have e4 := (i64_w _).symm.trans e2
  go_wp2
  go_quiet (fail)
  go_wp2
  refine bodyPost_ret (results_list (rs := [.tmp 8, .tmp 9]) (vs := [.int .i64 r1, .int .i64 sr.st]) rfl (by simp) (Vals.tmp (Vals.tmp Vals.nil))) rfl ?_
  exact ⟨rfl, pw_below_drewN HB11.out _⟩

end Go.Proofs.Ytngmdidegmbpfaa.PLoopAfter
