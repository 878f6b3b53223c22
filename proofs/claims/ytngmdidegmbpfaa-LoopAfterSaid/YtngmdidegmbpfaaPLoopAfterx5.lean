-- out of a turned copy of the print, by a program of this session; Lean checks it
import Derived.Test.YtngmdidegmbpfaaPLoopAfterx0
import Derived.Test.YtngmdidegmbpfaaPLoopAfterx1
import Derived.Test.YtngmdidegmbpfaaPLoopAfterx3
import Derived.Test.YtngmdidegmbpfaaPLoopAfterx4
namespace Go.Proofs.Ytngmdidegmbpfaa.PLoopAfter
open Go.RowKit Go.Proofs.YtngmdidegmbpfaaW.PrintWords Go.Proofs.YtngmdidegmbpfaaW.PrintLast Go.Proofs.YtngmdidegmbpfaaW.PrintMore
attribute [local go_sem] max2_int min2_int max_two min_two max_three min_three max_four min_four   -- for this text's walks alone
set_option linter.unusedVariables false
set_option linter.unusedSimpArgs false

attribute [local go_sem] isSome_put_
/-! ### loop_After: function 13 (by hand) -/
def AF.ok (rounds by_ : Int) (e : RS) : Int × Int × Int := (wrap64 (e.po + wrap64 (rounds * by_)), e.st, 0)
def AF.fin (rounds by_ : Int) (e : RS) : Option (Int × Int × Int) :=
  if e.sane then
    if 0 < by_ then (if rounds > Int.tdiv (1152921504606846976 - e.po) by_ then some (0, 0, 4) else some (AF.ok rounds by_ e))
    else if by_ < 0 then (if rounds > Int.tdiv (1152921504606846976 + e.po) (-by_) then some (0, 0, 4) else some (AF.ok rounds by_ e))
    else some (AF.ok rounds by_ e)
  else none
def AF.rest (rules : List (List (S52))) (n k rounds by_ : Int) : Option (Int × Int × Int) :=
  if 0 ≤ k - rounds * n ∧ k - rounds * n ≤ 1000000000 ∧ 0 ≤ rounds * n then (RS.run rules (k - rounds * n).toNat 0 RS.new).bind fun e => AF.fin rounds by_ e.1 else none
def AF.rounds (a n k : Int) : Int := if k > a then Int.tdiv (k - a) n else 0
def AF.go (rules : List (List (S52))) (a b k : Int) : Option (Int × Int × Int) :=
  if 0 ≤ a ∧ a < b ∧ b ≤ 1000000000 ∧ 0 ≤ k ∧ k ≤ 1152921504606846976 then
    (RS.run rules a.toNat 0 RS.new).bind fun c => (RS.run rules (b - a).toNat 0 c.1).bind fun d => if c.1.sane ∧ d.1.sane then AF.rest rules (b - a) k (AF.rounds a (b - a) k) (d.1.po - c.1.po) else none
  else none
def loop_After.f (kk : Nat) (a0 a1 : Int) (rules : List (List (S52))) (a b : Int) (right : Bool) (k : Int) : Option (Int × Int × Int) :=
  (loop_Check.f kk a0 a1 rules a b right).bind fun t => if t.2 = 0 then (if k < 0 then some (0, 0, 2) else if k > 1152921504606846976 then some (0, 0, 2) else if t.1 = true then AF.go rules a b k else some (0, 0, 6)) else some (0, 0, t.2)
theorem loop_After.mono : ∀ a0 a1 a2 a3 a4 a5 a6 k, LeO (loop_After.f k a0 a1 a2 a3 a4 a5 a6) (loop_After.f (k + 1) a0 a1 a2 a3 a4 a5 a6) := by
  intro a0 a1 a2 a3 a4 a5 a6 k
  unfold loop_After.f
  exact LeO.bind (loop_Check.mono _ _ _ _ _ _ _) (fun _ => LeO.refl _)
def AFI (c d : RS) : Nat → RS → Int → Int → Prop
  | 0, s, p0, p1 => s = d ∧ p0 = c.po ∧ p1 = d.po
  | 1, s, p0, _ => s = c ∧ p0 = c.po
  | _ + 2, s, _, _ => s = RS.new
set_option maxHeartbeats 8000000 in
set_option maxRecDepth 100000 in
theorem loop_After.calls (kk : Nat) (a0_0 a0_1 : Int) (A0_2 : Option Addr) (c0_2 : Nat) (l0_2 : List (List (S52))) (a1 a2 : Int) (a3 : Bool) (a4 : Int) (r1 r2 r3 : Int) (w : World) (hr0_2 : Kd.C (Kd.slice 52 k52) w A0_2 l0_2.length l0_2) (hc0_2 : l0_2.length ≤ c0_2) (h : loop_After.f kk a0_0 a0_1 l0_2 a1 a2 a3 a4 = some (r1, r2, r3)) :
    Calls Try.prog 13 #[.agg #[.int .i64 a0_0, .int .i64 a0_1, .slice A0_2 l0_2.length c0_2], .int .i64 a1, .int .i64 a2, .bool a3, .int .i64 a4] w fun e w' => e = .returned (.tuple #[.int .i64 r1, .int .i64 r2, .int .i64 r3]) ∧ Below w.heap.size w w' := by
  unfold loop_After.f at h
  obtain ⟨⟨t1, t2⟩, hchk, h⟩ := Option.bind_eq_some_iff.1 h
  simp only at h
  have HR := Aside0.mk hr0_2
  have HC := Aside0.mk hc0_2
  have H := Aside0.mk h
  have HCHK := Aside0.mk (fun W hW => loop_Check.calls kk a0_0 a0_1 A0_2 c0_2 l0_2 a1 a2 a3 t1 t2 W hW HC.out hchk)
  clear hr0_2 hc0_2 h hchk
  go_enter Try.func13, Try.ntmps13
  go_wp2_with fail
  have HZ := Aside0.mk (blk_new w (.cells #[.int .i64 a0_0, .int .i64 a0_1, .slice A0_2 l0_2.length c0_2] 24))
  have HR0 := Aside0.mk (Kd.C_alloc HR.out (.cells #[.int .i64 a0_0, .int .i64 a0_1, .slice A0_2 l0_2.length c0_2] 24))
  have HB0 := Aside0.mk (below_alloc (Below.refl w.heap.size w) (.cells #[.int .i64 a0_0, .int .i64 a0_1, .slice A0_2 l0_2.length c0_2] 24))
  obtain ⟨W0, hW0⟩ : ∃ W : World, w.alloc (.cells #[.int .i64 a0_0, .int .i64 a0_1, .slice A0_2 l0_2.length c0_2] 24) = W := ⟨_, rfl⟩
  rw [hW0] at HZ HR0 HB0 ⊢
  clear hW0 HR
  refine (HCHK.out W0 HR0.out).mono ?_
  rintro e w1 ⟨rfl, hB1⟩
  have HB1 := Aside0.mk (below_step HB0.out hB1)
  have HR1 := Aside0.mk (Kd.C_below HR0.out hB1)
  have HZ1 := Aside0.mk (blk_below HZ.out hB1)
  clear hB1 HB0 HR0 HZ HCHK
  by_cases k1 : t2 = 0
  rotate_left
  · have h := H.out
    rw [if_neg k1] at h
    simp only [Option.some.injEq, Prod.mk.injEq] at h
    obtain ⟨rfl, rfl, rfl⟩ := h
    have k1a : (t2 != (0 : Int)) = true := by simpa using k1
    clear k1 H
    go_wp2
    refine bodyPost_ret (results_list (rs := [.tmp 10, .tmp 11, .tmp 12]) (vs := [.int .i64 0, .int .i64 0, .int .i64 t2]) rfl (by simp) (Vals.tmp (Vals.tmp (Vals.tmp Vals.nil)))) rfl ?_
    exact ⟨rfl, HB1.out⟩
  subst k1
  replace H := Aside0.mk ((if_pos rfl).symm.trans H.out)
  by_cases k2 : a4 < 0
  · have h := H.out
    rw [if_pos k2] at h
    simp only [Option.some.injEq, Prod.mk.injEq] at h
    obtain ⟨rfl, rfl, rfl⟩ := h
    have k2a : decide (a4 < 0) = true := decide_eq_true k2
    clear H
    replace k2 := eq_true k2
    go_wp2
    refine bodyPost_ret (results_list (rs := [.tmp 10, .tmp 11, .tmp 12]) (vs := [.int .i64 0, .int .i64 0, .int .i64 2]) rfl (by simp) (Vals.tmp (Vals.tmp (Vals.tmp Vals.nil)))) rfl ?_
    exact ⟨rfl, HB1.out⟩
  replace H := Aside0.mk ((if_neg k2).symm.trans H.out)
  have k2a : decide (a4 < 0) = false := decide_eq_false k2
  by_cases k3 : a4 > 1152921504606846976
  · have h := H.out
    rw [if_pos k3] at h
    simp only [Option.some.injEq, Prod.mk.injEq] at h
    obtain ⟨rfl, rfl, rfl⟩ := h
    have k3a : decide (1152921504606846976 < a4) = true := decide_eq_true k3
    clear H
    replace k2 := eq_false k2
    replace k3 := eq_true k3
    go_wp2
    refine bodyPost_ret (results_list (rs := [.tmp 10, .tmp 11, .tmp 12]) (vs := [.int .i64 0, .int .i64 0, .int .i64 2]) rfl (by simp) (Vals.tmp (Vals.tmp (Vals.tmp Vals.nil)))) rfl ?_
    exact ⟨rfl, HB1.out⟩
  replace H := Aside0.mk ((if_neg k3).symm.trans H.out)
  have k3a : decide (1152921504606846976 < a4) = false := decide_eq_false k3
  cases t1 with
  | false =>
    have h := H.out
    rw [if_neg (by simp)] at h
    simp only [Option.some.injEq, Prod.mk.injEq] at h
    obtain ⟨rfl, rfl, rfl⟩ := h
    clear H
    replace k2 := eq_false k2
    replace k3 := eq_false k3
    go_wp2
    refine bodyPost_ret (results_list (rs := [.tmp 10, .tmp 11, .tmp 12]) (vs := [.int .i64 0, .int .i64 0, .int .i64 6]) rfl (by simp) (Vals.tmp (Vals.tmp (Vals.tmp Vals.nil)))) rfl ?_
    exact ⟨rfl, HB1.out⟩
  | true =>
    have h := H.out
    rw [if_pos rfl] at h
    unfold AF.go at h
    by_cases k4 : 0 ≤ a1 ∧ a1 < a2 ∧ a2 ≤ 1000000000 ∧ 0 ≤ a4 ∧ a4 ≤ 1152921504606846976
    rotate_left
    · rw [if_neg k4] at h
      cases h
    rw [if_pos k4] at h
    obtain ⟨u0, u1, u2, u3, u4⟩ := k4
    obtain ⟨⟨sc, ic⟩, hc, h⟩ := Option.bind_eq_some_iff.1 h
    obtain ⟨⟨sd, id_⟩, hd, h⟩ := Option.bind_eq_some_iff.1 h
    simp only at hd h
    by_cases k5 : sc.sane ∧ sd.sane
    rotate_left
    · rw [if_neg k5] at h
      cases h
    rw [if_pos k5] at h
    obtain ⟨n, hn⟩ : ∃ n, a2 - a1 = n := ⟨_, rfl⟩
    obtain ⟨q, hq⟩ : ∃ q, AF.rounds a1 n a4 = q := ⟨_, rfl⟩
    obtain ⟨y, hy⟩ : ∃ y, sd.po - sc.po = y := ⟨_, rfl⟩
    rw [hn] at hd h
    rw [hq, hy] at h
    unfold AF.rest at h
    by_cases k6 : 0 ≤ a4 - q * n ∧ a4 - q * n ≤ 1000000000 ∧ 0 ≤ q * n
    rotate_left
    · rw [if_neg k6] at h
      cases h
    rw [if_pos k6] at h
    obtain ⟨⟨se, ie⟩, he, h⟩ := Option.bind_eq_some_iff.1 h
    simp only at h
    clear H
    have e1 : IntKind.i64.wrap (a2 - a1) = n := (IntWalk.i64_in _ (by omega)).trans hn
    have e1' : wrap64 (a2 - a1) = n := (wrap_small_ (by omega)).trans hn
    have e2 : wrap64 (a4 - a1) = a4 - a1 := wrap_small_ (by omega)
    have n0 : 0 < n := by omega
    have n1 : n ≤ 1000000000 := by omega
    obtain ⟨p, hp⟩ : ∃ p, q * n = p := ⟨_, rfl⟩
    obtain ⟨m, hm⟩ : ∃ m, a4 - p = m := ⟨_, rfl⟩
    rw [hp] at k6
    rw [hp, hm] at he
    rw [hm] at k6
    obtain ⟨m0, m1, p0⟩ := k6
    have e3 : wrap64 (q * n) = p := by rw [hp]; exact wrap_small_ (by omega)
    have e4 : wrap64 (a4 - p) = m := by rw [hm]; exact wrap_small_ (by omega)
    have H := Aside0.mk h
    have HSC := Aside0.mk hc
    have HSD := Aside0.mk hd
    have HSE := Aside0.mk he
    have HQ := Aside0.mk hq
    have HY := Aside0.mk hy
    have HNN := Aside0.mk (show n ≤ 1000000000 ∧ 0 < n from ⟨n1, n0⟩)
    have HMM := Aside0.mk (show 0 ≤ m ∧ m ≤ 1000000000 from ⟨m0, m1⟩)
    have HUU := Aside0.mk (show 0 ≤ a1 ∧ a1 ≤ 1000000000 from ⟨u0, by omega⟩)
    have K5 := Aside0.mk k5
    have E3 := Aside0.mk e3
    have E4 := Aside0.mk e4
    have E1 := Aside0.mk e1'
    have N0 := Aside0.mk (show ¬ n = 0 by omega)
    clear h hc hd he hq hy k5 hp hm m0 m1 p0 hn e3 e4 e1'
    replace k2 := eq_false k2
    replace k3 := eq_false k3
    have hz0 := (blk_cell HZ1.out 0).trans rfl
    have hz1 := (blk_cell HZ1.out 1).trans rfl
    have hz2 := (blk_cell HZ1.out 2).trans rfl
    clear e1 e2 n0 n1 u0 u1 u2 u3 u4 k2a k3a
    have U4 := Aside0.mk (show 0 ≤ a4 ∧ a4 ≤ 1152921504606846976 from ⟨by have := of_eq_false k2; omega, by have := of_eq_false k3; omega⟩)
    go_upto_if 45 with (fail)
    go_cut [15] (fun s15 wx => s15 = .int .i64 q ∧ wx = w1)
    case first =>
      clear hz0 hz1 hz2
      have hn1 := HNN.out
      have hu4 := U4.out
      have hu1 := HUU.out
      have e1' := E1.out
      have e2 : wrap64 (a4 - a1) = a4 - a1 := wrap_small_ (by omega)
      by_cases k7 : a4 > a1
      · have HQ2 : Aside0 (Int.tdiv (a4 - a1) n = q) := ⟨by rw [← HQ.out]; unfold AF.rounds; rw [if_pos k7]⟩
        have e5 : Int.tdiv (a4 - a1) n = q := HQ2.out
        have e6 : (a4 - a1) / n = q := by rw [← HQ2.out]; exact (Int.tdiv_eq_ediv_of_nonneg (by omega)).symm
        have e7 : wrap64 q = q := wrap_small_ (by have h1 := HQ2.out; have h2 := Int.tdiv_le_self (b := n) (show 0 ≤ a4 - a1 by omega); have h3 := Int.tdiv_nonneg (show 0 ≤ a4 - a1 by omega) (show 0 ≤ n by omega); omega)
        have E7 := Aside0.mk e7
        have n0' := N0.out
        have n1' := eq_false N0.out
        clear e7 hn1 hu4 hu1
        have k7a : decide (a1 < a4) = true := decide_eq_true k7
        have k7b : (a1 < a4) = True := eq_true k7
        have k7c : decide (a4 ≤ a1) = false := decide_eq_false (by omega)
        have k7d : (a4 ≤ a1) = False := eq_false (by omega)
        clear k7
        first | rw [k7a] | rw [k7c]
        go_wp2_with fail
        go_meet
        exact ⟨by rw [E7.out], rfl⟩
      · have HQ2 : Aside0 (0 = q) := ⟨by rw [← HQ.out]; unfold AF.rounds; rw [if_neg k7]⟩
        clear hn1 hu4 hu1
        have k7a : decide (a1 < a4) = false := decide_eq_false k7
        have k7b : (a1 < a4) = False := eq_false k7
        have k7c : decide (a4 ≤ a1) = true := decide_eq_true (by omega)
        have k7d : (a4 ≤ a1) = True := eq_true (by omega)
        clear k7
        first | rw [k7a] | rw [k7c]
        go_wp2_with fail
        go_meet
        exact ⟨by rw [← HQ2.out], rfl⟩
    case rest =>
      obtain ⟨rfl, hwx⟩ := hcut
      have hwx' := hwx.symm
      clear hwx
      subst hwx'
      go_wp2_with fail
      refine (rn_new a0_0 a0_1 A0_2 c0_2 l0_2 _).mono ?_
      rintro e w2 ⟨g, rfl, hI2, hB2⟩
      have HI2 := Aside0.mk hI2.shrink
      have HB2 := Aside0.mk hB2
      clear hI2 hB2 hz0 hz1 hz2
      go_wp2
      rw [E1.out]
      have HB3 := Aside0.mk (below_alloc HB2.out (.cells #[.int .i64 0, .int .i64 0] 58))
      have HP3 := Aside0.mk (blk_new w2 (.cells #[.int .i64 0, .int .i64 0] 58))
      have HI3 := Aside0.mk ((HI2.out.below (below_alloc (Below.refl _ _) (.cells #[.int .i64 0, .int .i64 0] 58))).mono (S' := fun k => k ≠ w2.heap.size) (fun k hk => Nat.ne_of_lt hk.2.2))
      have HGS := Aside0.mk HB2.out.size
      have HZS : Aside0 (w2.heap.size < (w2.alloc (.cells #[.int .i64 0, .int .i64 0] 58)).heap.size) := ⟨by simp⟩
      obtain ⟨gp, hgp⟩ : ∃ g, w2.heap.size = g := ⟨_, rfl⟩
      obtain ⟨W3, hW3⟩ : ∃ W : World, w2.alloc (.cells #[.int .i64 0, .int .i64 0] 58) = W := ⟨_, rfl⟩
      rw [hW3] at HB3 HP3 HI3 HZS ⊢
      rw [hgp] at HP3 HI3 HGS HZS ⊢
      clear hgp hW3 HI2 HB2
      have HST := Aside0.mk (show AFI sc sd 2 RS.new 0 0 from rfl)
      go_loopg [60] 2 (fun kq v60 w' => ∃ (i : Int) (s : RS) (p0 p1 : Int), v60 = .int .i64 i ∧ Aside0 (i + (kq : Int) = 2 ∧ 0 ≤ i) ∧ Aside0 (AFI sc sd kq s p0 p1) ∧ Aside0 (IsRn w' w1.heap.size (fun k => k ≠ gp) g (.slice A0_2 l0_2.length c0_2) s) ∧ Aside0 (w'.heap[gp]? = some (.cells #[.int .i64 p0, .int .i64 p1] 58 (0, 0))) ∧ Aside0 (Below w1.heap.size w1 w') ∧ Aside0 (gp < w'.heap.size))
      case atStart => exact ⟨0, RS.new, 0, 0, rfl, ⟨by omega, by omega⟩, HST, HI3, HP3, HB3, HZS⟩
      case round =>
        clear HST HI3 HP3 HB3 HZS
        obtain ⟨i, s, p0, p1, rfl, HN, HST, HI, HP, HB, HZS⟩ := hrel
        cases gk with
        | zero =>
          obtain rfl : i = 2 := by have := HN.out; omega
          obtain ⟨rfl, rfl, rfl⟩ := HST.out
          clear HN HST
          have HZ4 := Aside0.mk (blk_below HZ1.out HB.out)
          have hz0 := (blk_cell HZ4.out 0).trans rfl
          have hz1 := (blk_cell HZ4.out 1).trans rfl
          have hz2 := (blk_cell HZ4.out 2).trans rfl
          go_wp2_with fail
          refine (rn_new a0_0 a0_1 A0_2 c0_2 l0_2 _).mono ?_
          rintro e w5 ⟨g5, rfl, hI5, hB5⟩
          have HI5 := Aside0.mk hI5
          have HB5 := Aside0.mk hB5
          have HRr := Aside0.mk (Kd.C_below HR1.out HB.out)
          clear hI5 hB5 hz0 hz1 hz2
          have e3' := E3.out
          have e4' := E4.out
          have e1' := E1.out
          go_wp2_with fail
          refine (rn_run A0_2 c0_2 l0_2 wr w5 wr.heap.size (fun _ => True) g5 RS.new se m ie HI5.out HRr.out (Nat.le_refl _) HB5.out HB5.out.size (fun _ _ => trivial) HMM.out.1 HMM.out.2 HSE.out).mono ?_
          rintro e w6 ⟨rfl, hI6, hB6, hKP6⟩
          have HP6 := Aside0.mk (blk_below HP.out hB6)
          have HI6 := Aside0.mk hI6
          have HB6 := Aside0.mk (below_step HB1.out (below_step HB.out hB6))
          clear hI6 hB6 hKP6 HI5 HB5 HRr HSE e3' e4' e1' HZS
          have hs0 := (blk_cell HP6.out 0).trans rfl
          have hs1 := (blk_cell HP6.out 1).trans rfl
          have hp5 := HI6.out.at5.1
          have hp4 := HI6.out.at5.2
          have h := H.out
          unfold AF.fin at h
          by_cases k8 : se.sane
          rotate_left
          · rw [if_neg k8] at h
            cases h
          rw [if_pos k8] at h
          have K8 := Aside0.mk (show -2000000000 ≤ se.po ∧ se.po ≤ 2000000000 from ⟨k8.2.2.1, k8.2.2.2.1⟩)
          have HYB : Aside0 (-4000000000 ≤ y ∧ y ≤ 4000000000) := ⟨by rw [← HY.out]; have h1 := K5.out.1; have h2 := K5.out.2; unfold RS.sane at h1 h2; omega⟩
          have ey : wrap64 (s.po - sc.po) = y := by rw [HY.out]; exact wrap_small_ (by have := HYB.out; omega)
          obtain ⟨v1, hv1⟩ : ∃ v, wrap64 (q * y) = v := ⟨_, rfl⟩
          obtain ⟨v2, hv2⟩ : ∃ v, wrap64 (se.po + v1) = v := ⟨_, rfl⟩
          have hok : AF.ok q y se = (v2, se.st, 0) := by unfold AF.ok; rw [hv1, hv2]
          rw [hok] at h
          have H := Aside0.mk h
          have V1 := Aside0.mk ((i64_w _).trans hv1)
          have V2 := Aside0.mk ((i64_w _).trans hv2)
          clear h k8 hok hv1 hv2
          by_cases y0 : 0 < y
          · have h := H.out
            rw [if_pos y0] at h
            obtain ⟨T, hT⟩ : ∃ T, Int.tdiv (1152921504606846976 - se.po) y = T := ⟨_, rfl⟩
            rw [hT] at h
            have H := Aside0.mk h
            have f1 : (1152921504606846976 - se.po) / y = T := by rw [← hT]; exact (Int.tdiv_eq_ediv_of_nonneg (by have := K8.out; omega)).symm
            have f2 : wrap64 T = T := wrap_small_ (by have h1 := hT; have h0 := K8.out; have h2 := Int.tdiv_le_self (b := y) (show 0 ≤ 1152921504606846976 - se.po by omega); have h3 := Int.tdiv_nonneg (show 0 ≤ 1152921504606846976 - se.po by omega) (show 0 ≤ y by omega); omega)
            have f3 : wrap64 (1152921504606846976 - se.po) = 1152921504606846976 - se.po := wrap_small_ (by have := K8.out; omega)
            have f4 : ¬ y = 0 := by omega
            have f5 : decide (0 < y) = true := decide_eq_true y0
            have f7 : decide (y < 0) = false := decide_eq_false (by omega)
            have f8 : (y < 0) = False := eq_false (by omega)
            clear h
            replace y0 := eq_true y0
            have f6 := eq_false f4
            by_cases k9 : q > T
            · have h := H.out
              rw [if_pos k9] at h
              simp only [Option.some.injEq, Prod.mk.injEq] at h
              obtain ⟨rfl, rfl, rfl⟩ := h
              have g1 : decide (T < q) = true := decide_eq_true k9
              have g2 : (T < q) = True := eq_true k9
              clear H k9
              go_wp2
              refine bodyPost_ret (results_list (rs := [.tmp 10, .tmp 11, .tmp 12]) (vs := [.int .i64 0, .int .i64 0, .int .i64 4]) rfl (by simp) (Vals.tmp (Vals.tmp (Vals.tmp Vals.nil)))) rfl ?_
              exact ⟨rfl, HB6.out⟩
            · have h := H.out
              rw [if_neg k9] at h
              simp only [Option.some.injEq, Prod.mk.injEq] at h
              obtain ⟨rfl, rfl, rfl⟩ := h
              have g1 : decide (T < q) = false := decide_eq_false k9
              have g2 : (T < q) = False := eq_false k9
              clear H k9
              go_wp2
              have v1' := V1.out
              have v2' := V2.out
              go_quiet (fail)
              go_wp2
              refine bodyPost_ret (results_list (rs := [.tmp 10, .tmp 11, .tmp 12]) (vs := [.int .i64 v2, .int .i64 se.st, .int .i64 0]) rfl (by simp) (Vals.tmp (Vals.tmp (Vals.tmp Vals.nil)))) rfl ?_
              exact ⟨rfl, pw_below_drewN HB6.out _⟩
          · have y1 : decide (0 < y) = false := decide_eq_false y0
            by_cases y2 : y < 0
            · have h := H.out
              rw [if_neg y0, if_pos y2] at h
              obtain ⟨z, hz⟩ : ∃ z, -y = z := ⟨_, rfl⟩
              rw [hz] at h
              obtain ⟨T, hT⟩ : ∃ T, Int.tdiv (1152921504606846976 + se.po) z = T := ⟨_, rfl⟩
              rw [hT] at h
              have H := Aside0.mk h
              have f0 : wrap64 (-y) = z := by rw [hz]; exact wrap_small_ (by have := HYB.out; omega)
              have f1 : (1152921504606846976 + se.po) / z = T := by rw [← hT]; exact (Int.tdiv_eq_ediv_of_nonneg (by have := K8.out; omega)).symm
              have f2 : wrap64 T = T := wrap_small_ (by have h1 := hT; have h0 := K8.out; have h2 := Int.tdiv_le_self (b := z) (show 0 ≤ 1152921504606846976 + se.po by omega); have h3 := Int.tdiv_nonneg (show 0 ≤ 1152921504606846976 + se.po by omega) (show 0 ≤ z by omega); omega)
              have f3 : wrap64 (1152921504606846976 + se.po) = 1152921504606846976 + se.po := wrap_small_ (by have := K8.out; omega)
              have f4 : ¬ z = 0 := by omega
              have f5 : decide (y < 0) = true := decide_eq_true y2
              clear h hz
              replace y0 := eq_false y0
              replace y2 := eq_true y2
              have f6 := eq_false f4
              by_cases k9 : q > T
              · have h := H.out
                rw [if_pos k9] at h
                simp only [Option.some.injEq, Prod.mk.injEq] at h
                obtain ⟨rfl, rfl, rfl⟩ := h
                have g1 : decide (T < q) = true := decide_eq_true k9
                have g2 : (T < q) = True := eq_true k9
                clear H k9
                go_wp2
                refine bodyPost_ret (results_list (rs := [.tmp 10, .tmp 11, .tmp 12]) (vs := [.int .i64 0, .int .i64 0, .int .i64 4]) rfl (by simp) (Vals.tmp (Vals.tmp (Vals.tmp Vals.nil)))) rfl ?_
                exact ⟨rfl, HB6.out⟩
              · have h := H.out
                rw [if_neg k9] at h
                simp only [Option.some.injEq, Prod.mk.injEq] at h
                obtain ⟨rfl, rfl, rfl⟩ := h
                have g1 : decide (T < q) = false := decide_eq_false k9
                have g2 : (T < q) = False := eq_false k9
                clear H k9
                go_wp2
                have v1' := V1.out
                have v2' := V2.out
                go_quiet (fail)
                go_wp2
                refine bodyPost_ret (results_list (rs := [.tmp 10, .tmp 11, .tmp 12]) (vs := [.int .i64 v2, .int .i64 se.st, .int .i64 0]) rfl (by simp) (Vals.tmp (Vals.tmp (Vals.tmp Vals.nil)))) rfl ?_
                exact ⟨rfl, pw_below_drewN HB6.out _⟩
            · have h := H.out
              rw [if_neg y0, if_neg y2] at h
              simp only [Option.some.injEq, Prod.mk.injEq] at h
              obtain ⟨rfl, rfl, rfl⟩ := h
              have f5 : decide (y < 0) = false := decide_eq_false y2
              clear H
              replace y0 := eq_false y0
              replace y2 := eq_false y2
              go_wp2
              have v1' := V1.out
              have v2' := V2.out
              go_quiet (fail)
              go_wp2
              refine bodyPost_ret (results_list (rs := [.tmp 10, .tmp 11, .tmp 12]) (vs := [.int .i64 v2, .int .i64 se.st, .int .i64 0]) rfl (by simp) (Vals.tmp (Vals.tmp (Vals.tmp Vals.nil)))) rfl ?_
              exact ⟨rfl, pw_below_drewN HB6.out _⟩
        | succ d =>
          cases d with
          | zero =>
            obtain rfl : i = 1 := by have := HN.out; omega
            obtain ⟨rfl, rfl⟩ := HST.out
            clear HN HST
            have hix : ∀ W : World, Sem.run Try.prog (Instr.index 58 (.agg #[.int .i64 a1, .int .i64 n]) (.int .i64 1)) W = .ok (.int .i64 n) W := fun _ => rfl
            go_wp2_with fail
            refine (rn_run A0_2 c0_2 l0_2 w1 wr w1.heap.size (fun k => k ≠ gp) g s sd n id_ HI.out HR1.out (Nat.le_refl _) HB.out HB.out.size (fun k hk => Nat.ne_of_gt (Nat.lt_of_lt_of_le HZS.out hk)) (by have := HNN.out; omega) (by have := HNN.out; omega) HSD.out).mono ?_
            rintro e w4 ⟨rfl, hI4, hB4, hKP4⟩
            have HP4 := Aside0.mk (blk_kept HP.out hKP4 (fun h => h rfl))
            have HI4 := Aside0.mk hI4
            have HB4 := Aside0.mk hB4
            have HZ4 := Aside0.mk (Nat.lt_of_lt_of_le HZS.out hKP4.1)
            have hp5 := hI4.at5.1
            have hc1 := (blk_cell HP4.out 1).trans rfl
            have hf1 := blk_frozen HP4.out 1
            clear hI4 hB4 hKP4
            go_wp2
            go_roundg 0
            case measure => omega
            case rel => exact ⟨2, sd, s.po, sd.po, rfl, ⟨by omega, by omega⟩, ⟨⟨rfl, rfl, rfl⟩⟩, ⟨HI4.out.far (fun k hk => hk) _⟩, ⟨by simpa using blk_set HP4.out 1 (.int .i64 sd.po)⟩, ⟨HB4.out.setCell HGS.out _⟩, ⟨by simpa using HZ4.out⟩⟩
          | succ d =>
            obtain rfl : d = 0 := by have := HN.out; omega
            obtain rfl : i = 0 := by have := HN.out; omega
            obtain rfl := HST.out
            clear HN HST
            have hix : ∀ W : World, Sem.run Try.prog (Instr.index 58 (.agg #[.int .i64 a1, .int .i64 n]) (.int .i64 0)) W = .ok (.int .i64 a1) W := fun _ => rfl
            go_wp2_with fail
            refine (rn_run A0_2 c0_2 l0_2 w1 wr w1.heap.size (fun k => k ≠ gp) g RS.new sc a1 ic HI.out HR1.out (Nat.le_refl _) HB.out HB.out.size (fun k hk => Nat.ne_of_gt (Nat.lt_of_lt_of_le HZS.out hk)) (by have := HUU.out; omega) (by have := HUU.out; omega) HSC.out).mono ?_
            rintro e w4 ⟨rfl, hI4, hB4, hKP4⟩
            have HP4 := Aside0.mk (blk_kept HP.out hKP4 (fun h => h rfl))
            have HI4 := Aside0.mk hI4
            have HB4 := Aside0.mk hB4
            have HZ4 := Aside0.mk (Nat.lt_of_lt_of_le HZS.out hKP4.1)
            have hp5 := hI4.at5.1
            have hc1 := (blk_cell HP4.out 0).trans rfl
            have hf1 := blk_frozen HP4.out 0
            clear hI4 hB4 hKP4
            go_wp2
            go_roundg 1
            case measure => omega
            case rel => exact ⟨1, sc, sc.po, p1, rfl, ⟨by omega, by omega⟩, ⟨⟨rfl, rfl⟩⟩, ⟨HI4.out.far (fun k hk => hk) _⟩, ⟨by simpa using blk_set HP4.out 0 (.int .i64 sc.po)⟩, ⟨HB4.out.setCell HGS.out _⟩, ⟨by simpa using HZ4.out⟩⟩

/-! ### standstilllaw10_awake: function 9 -/
def standstilllaw10_awake.f (k : Nat)  : Option (Bool) := (some (([(([(⟨1, 1, 0⟩ : S52), (⟨1, 1, (-1)⟩ : S52)] : List (S52)))] : List (List (S52))) : List (List (S52)))).bind fun y137 => ((loop_Check.f k 1 2 y137 0 1 true).bind fun bt141 => ((loop_Check.f k 1 2 y137 0 1 false).bind fun bt143 => ((loop_After.f k 1 2 y137 0 1 true 1125899906842624).bind fun bt145 => (if bt141.1 = true then (if bt143.1 = true then (some false) else (if bt141.2 = 0 then (if bt143.2 = 0 then (if bt145.2.2 = 0 then (if bt145.1 = 1125899906842624 then (some (bt145.2.1 == 0)) else (some false)) else (some false)) else (some false)) else (some false))) else (some false)))))
theorem standstilllaw10_awake.mono : ∀ k, LeO (standstilllaw10_awake.f k ) (standstilllaw10_awake.f (k + 1) ) := by
 intro  k
 unfold standstilllaw10_awake.f
 repeat' first
   | (with_reducible exact loop_After.mono _ _ _ _ _ _ _ _)
   | (with_reducible exact loop_Check.mono _ _ _ _ _ _ _)
   | (with_reducible exact LeO.refl _)
   | (with_reducible exact LeO.none _)
   | (with_reducible refine LeO.ite ?_ ?_)
   | (with_reducible refine LeO.bind ?_ (fun _ => ?_))
   | exact loop_After.mono _ _ _ _ _ _ _ _
   | exact loop_Check.mono _ _ _ _ _ _ _
   | exact LeO.none _
   | refine LeO.ite ?_ ?_
   | refine LeO.bind ?_ (fun _ => ?_)
set_option maxHeartbeats 8000000 in
set_option maxRecDepth 100000 in
theorem standstilllaw10_awake.calls (k : Nat)  (r : Bool) (w : World) (h : standstilllaw10_awake.f k  = some r) :
  Calls Try.prog 9 #[] w fun e w' => e = .returned (.bool r) ∧ Below w.heap.size w w' := by
 have hu52 := Try.underlying52
 have hu24 := Try.underlying24
 have HB := A_ (Below.refl w.heap.size w)
 have H : ((some (([(([(⟨1, 1, 0⟩ : S52), (⟨1, 1, (-1)⟩ : S52)] : List (S52)))] : List (List (S52))) : List (List (S52)))).bind fun y137 => ((loop_Check.f k 1 2 y137 0 1 true).bind fun bt141 => ((loop_Check.f k 1 2 y137 0 1 false).bind fun bt143 => ((loop_After.f k 1 2 y137 0 1 true 1125899906842624).bind fun bt145 => (if bt141.1 = true then (if bt143.1 = true then (some false) else (if bt141.2 = 0 then (if bt143.2 = 0 then (if bt145.2.2 = 0 then (if bt145.1 = 1125899906842624 then (some (bt145.2.1 == 0)) else (some false)) else (some false)) else (some false)) else (some false))) else (some false)))))) = some r := h
 clear h
 obtain ⟨y134, hy134⟩ : ∃ y_ : List (S52), y_ = (([(⟨1, 1, 0⟩ : S52), (⟨1, 1, (-1)⟩ : S52)] : List (S52))) := ⟨_, rfl⟩
 replace H : ((some (([y134] : List (List (S52))) : List (List (S52)))).bind fun y137 => ((loop_Check.f k 1 2 y137 0 1 true).bind fun bt141 => ((loop_Check.f k 1 2 y137 0 1 false).bind fun bt143 => ((loop_After.f k 1 2 y137 0 1 true 1125899906842624).bind fun bt145 => (if bt141.1 = true then (if bt143.1 = true then (some false) else (if bt141.2 = 0 then (if bt143.2 = 0 then (if bt145.2.2 = 0 then (if bt145.1 = 1125899906842624 then (some (bt145.2.1 == 0)) else (some false)) else (some false)) else (some false)) else (some false))) else (some false)))))) = some r := by first | (rw [hy134]; with_reducible exact H) | (have H2_ := (Option.bind_some _ _).symm.trans H; rw [hy134]; with_reducible exact H2_) | (have H2_ := (Option.bind_some _ _).symm.trans H; with_reducible exact H2_) | with_reducible exact H | (rw [hy134]; exact H) | exact H
 have Ny134 := Aside0.mk hy134
 clear hy134
 obtain ⟨y137, hy137⟩ : ∃ y_ : List (List (S52)), y_ = (([y134] : List (List (S52)))) := ⟨_, rfl⟩
 replace H : ((loop_Check.f k 1 2 y137 0 1 true).bind fun bt141 => ((loop_Check.f k 1 2 y137 0 1 false).bind fun bt143 => ((loop_After.f k 1 2 y137 0 1 true 1125899906842624).bind fun bt145 => (if bt141.1 = true then (if bt143.1 = true then (some false) else (if bt141.2 = 0 then (if bt143.2 = 0 then (if bt145.2.2 = 0 then (if bt145.1 = 1125899906842624 then (some (bt145.2.1 == 0)) else (some false)) else (some false)) else (some false)) else (some false))) else (some false))))) = some r := by first | (rw [hy137]; with_reducible exact H) | (have H2_ := (Option.bind_some _ _).symm.trans H; rw [hy137]; with_reducible exact H2_) | (have H2_ := (Option.bind_some _ _).symm.trans H; with_reducible exact H2_) | with_reducible exact H | (rw [hy137]; exact H) | exact H
 have Ny137 := Aside0.mk hy137
 clear hy137
 replace H := Option.bind_eq_some_iff.mp H
 obtain ⟨⟨t141, t142⟩, A10, H⟩ := H
 replace H : ((loop_Check.f k 1 2 y137 0 1 false).bind fun bt143 => ((loop_After.f k 1 2 y137 0 1 true 1125899906842624).bind fun bt145 => (if t141 = true then (if bt143.1 = true then (some false) else (if t142 = 0 then (if bt143.2 = 0 then (if bt145.2.2 = 0 then (if bt145.1 = 1125899906842624 then (some (bt145.2.1 == 0)) else (some false)) else (some false)) else (some false)) else (some false))) else (some false)))) = some r := H
 have A1 := Aside0.mk A10
 clear A10
 replace H := Option.bind_eq_some_iff.mp H
 obtain ⟨⟨t143, t144⟩, A20, H⟩ := H
 replace H : ((loop_After.f k 1 2 y137 0 1 true 1125899906842624).bind fun bt145 => (if t141 = true then (if t143 = true then (some false) else (if t142 = 0 then (if t144 = 0 then (if bt145.2.2 = 0 then (if bt145.1 = 1125899906842624 then (some (bt145.2.1 == 0)) else (some false)) else (some false)) else (some false)) else (some false))) else (some false))) = some r := H
 have A2 := Aside0.mk A20
 clear A20
 replace H := Option.bind_eq_some_iff.mp H
 obtain ⟨⟨t145, t146, t147⟩, A30, H⟩ := H
 replace H : (if t141 = true then (if t143 = true then (some false) else (if t142 = 0 then (if t144 = 0 then (if t147 = 0 then (if t145 = 1125899906842624 then (some (t146 == 0)) else (some false)) else (some false)) else (some false)) else (some false))) else (some false)) = some r := H
 have A3 := Aside0.mk A30
 clear A30
 by_cases c4 : t141 = true
 ·subst c4
  have H1 : (if t143 = true then (some false) else (if t142 = 0 then (if t144 = 0 then (if t147 = 0 then (if t145 = 1125899906842624 then (some (t146 == 0)) else (some false)) else (some false)) else (some false)) else (some false))) = some r := by rw [if_pos rfl] at H; exact H
  clear H
  have H := H1
  clear H1
  by_cases c5 : t143 = true
  ·subst c5
   have H1 : (some false) = some r := by rw [if_pos rfl] at H; exact H
   clear H
   have H := H1
   clear H1
   obtain rfl := Option.some.inj H
   go_enter Try.func9, Try.ntmps9
   go_wp2_with (first | ((with_reducible refine gate_dst (N := 11) rfl ?_); refine Kd.R_lit k52 _ 52 ?hg (N := 11) ?hd (xs := ([(⟨1, 1, 0⟩ : S52), (⟨1, 1, (-1)⟩ : S52)] : List (S52))) (inner := [.int .i64 1, .int .i64 1, .int .i64 0, .int .i64 1, .int .i64 1, .int .i64 (-1)]) (ok := fun _ => True) (okp := fun _ => True) ?hr ?hp (fun _ hk => hk) trivial (Below.refl _ _) (Nat.le_refl _) (by simp) ?_; (case hd => rfl); (case hg => rfl); (case hr => first | (go_simp; done) | (go_simp; rfl)); (case hp => exact (Reps.c3 (show Kd.M k52 _ _ _ (⟨1, 1, 0⟩ : S52) [.int .i64 1, .int .i64 1, .int .i64 0] from (k52_mkM _ _ _ (⟨1, 1, 0⟩ : S52) )) (Reps.c3 (show Kd.M k52 _ _ _ (⟨1, 1, (-1)⟩ : S52) [.int .i64 1, .int .i64 1, .int .i64 (-1)] from (k52_mkM _ _ _ (⟨1, 1, (-1)⟩ : S52) )) (Reps.none _ _)))); intro v135 w6 ho7 hb hg_ hnew_; clear hg_ hnew_; (first | rw [← Ny134.out] at ho7 | (simp only [Int.reduceToNat] at ho7; rw [← Ny134.out] at ho7)); have n0_ := A_ (Kd.R_lower ho7 (below_size (bk_ HB.out))); have n1_ := A_ (below_step (bk_ HB.out) hb); clear HB; have HO136 := n0_; have HB := n1_; clear n0_ n1_ hb ho7; obtain ⟨Ao8, co8, eo8⟩ := Kd.R_slice HO136.out; subst eo8) | ((with_reducible refine gate_dst (N := 12) rfl ?_); refine Kd.N_lit (Kd.slice 52 k52) _ 53 ?hg (N' := 12) ?hd (xs := ([y134] : List (List (S52)))) (inner := [.slice Ao8 y134.length co8]) (ok := (fun _ => True)) (okp := (fun _ => True)) ?hr ?hp (fun _ hk => hk) ((show ∀ k_, w6.heap.size ≤ k_ → (fun _ => True) k_ from fun k_ hk => trivial) _ (Nat.le_refl _)) (Below.refl _ _) (Nat.le_refl _) (by simp) ?_; (case hd => rfl); (case hg => rfl); (case hr => first | (go_simp; done) | (go_simp; rfl)); (case hp => exact (Reps.one (show Kd.FK (Kd.slice 52 k52) _ _ y134 [.slice Ao8 y134.length co8] from (Kd.FK_slice_mk (Kd.R_reads' (Kd.R_mono (ok' := (fun _ => True)) (HO136.out) (fun k_ hk => trivial))).2.1 (Kd.R_F (Kd.R_mono (ok' := (fun _ => True)) (HO136.out) (fun k_ hk => trivial))))) (Reps.none _ _))); intro v138 w9 ho10 hb hg_ hnew_; clear hg_ hnew_; (first | rw [← Ny137.out] at ho10 | (simp only [Int.reduceToNat] at ho10; rw [← Ny137.out] at ho10)); have n0_ := A_ (Kd.N_lower ho10 (below_size (bk_ HB.out))); have n1_ := A_ (below_step (bk_ HB.out) hb); clear HB HO136; have HO139 := n0_; have HB := n1_; clear n0_ n1_ hb ho10; obtain ⟨Ao11, co11, eo11⟩ := Kd.N_slice HO139.out; subst eo11) | ((with_reducible refine gate_dst (N := 1) rfl ?_); refine box_event ?hg (N := 1) ?hd (cs := #[.int .i64 0, .int .i64 0, .slice none 0 0]) (t := 24) ?hr ?_; (case hd => rfl); (case hg => rfl); (case hr => first | (go_simp; done) | (go_simp; rfl)); intro gb140 hg w12 hbox hb; have n0_ := A_ (Kd.N_below (Kd.N_elderB (by (with_reducible repeat (first | apply Kd.N_alloc | apply Kd.N_drewN | apply Kd.N_drew)); exact HO139.out) gb140 (Nat.le_of_eq hg.symm)) hb); have n1_ := A_ (below_step (bk_ HB.out) hb); have n2_ := A_ (hbox); have n3_ := A_ ((by rw [hg]; exact (below_size (bk_ HB.out)) : w.heap.size ≤ gb140)); have n4_ := A_ ((by rw [hg]; exact (below_size (bk_ HB.out)) : w.heap.size ≤ gb140)); clear HO139 HB; have HO139 := n0_; have HB := n1_; have BK140 := n2_; have GW140 := n3_; have GE140 := n4_; clear n0_ n1_ n2_ n3_ n4_ hb hbox hg; have hcz13_0 : w12.cell? ⟨gb140, 0, none⟩ = some (.int .i64 0) := (blk_cell BK140.out 0).trans rfl; have hcz13_1 : w12.cell? ⟨gb140, 1, none⟩ = some (.int .i64 0) := (blk_cell BK140.out 1).trans rfl; have hcz13_2 : w12.cell? ⟨gb140, 2, none⟩ = some (.slice none 0 0) := (blk_cell BK140.out 2).trans rfl; have hfz13_0 := blk_frozen BK140.out 0; have hfz13_1 := blk_frozen BK140.out 1; have hfz13_2 := blk_frozen BK140.out 2) | ((with_reducible refine gate_callee (f := 10) rfl ?_); refine goesL_ (some 16) rfl rfl Try.func10 (by kernel_rfl) rfl #[.agg #[.int .i64 1, .int .i64 2, .slice Ao11 y137.length co11], .int .i64 0, .int .i64 1, .bool true] rfl gl_ ?_; (with_reducible refine (loop_Check.calls k 1 2 _ _ y137 0 1 true true t142 _ ?side1 ?side2 A1.out).mono ?_); (case side1 => refine (Kd.N_reads' (e := 53) (base := w.heap.size) (ok := fun k_ => (True ∧ k_ ≠ gb140)) (n := y137.length) (c := co11) ?_).2.2; exact (by (with_reducible repeat (first | apply Kd.N_alloc | apply Kd.N_drewN | apply Kd.N_drew)); exact (Kd.N_mono (Kd.N_far (p := ⟨gb140, 2, none⟩) (Kd.N_far (p := ⟨gb140, 1, none⟩) (Kd.N_far (p := ⟨gb140, 0, none⟩) (Kd.N_mono HO139.out (fun k_ hk => (⟨hk, hk.2⟩ : _ ∧ k_ ≠ gb140))) (fun _ hk => hk.2) (.int .i64 1)) (fun _ hk => hk.2) (.int .i64 2)) (fun _ hk => hk.2) (.slice Ao11 y137.length co11)) (fun _ h_ => h_.1)))); (case side2 => exact (Kd.N_reads' HO139.out).2.1); rintro e w14 ⟨rfl, hb⟩; refine ⟨_, rfl, ?_⟩; have n0_ := A_ (Kd.N_below (by (with_reducible repeat (first | apply Kd.N_alloc | apply Kd.N_drewN | apply Kd.N_drew)); exact (Kd.N_mono (Kd.N_far (p := ⟨gb140, 2, none⟩) (Kd.N_far (p := ⟨gb140, 1, none⟩) (Kd.N_far (p := ⟨gb140, 0, none⟩) (Kd.N_mono HO139.out (fun k_ hk => (⟨hk, hk.2⟩ : _ ∧ k_ ≠ gb140))) (fun _ hk => hk.2) (.int .i64 1)) (fun _ hk => hk.2) (.int .i64 2)) (fun _ hk => hk.2) (.slice Ao11 y137.length co11)) (fun _ h_ => h_.1))) hb); have n1_ := A_ (blk_below (g := gb140) (o := .cells #[.int .i64 1, .int .i64 2, .slice Ao11 y137.length co11] 24 (0, 0)) (by refine pk_ ?_; refine blk_put (cs := #[.int .i64 1, .int .i64 2, .slice none 0 0]) ?_ 2 _ rfl; refine pk_ ?_; refine blk_put (cs := #[.int .i64 1, .int .i64 0, .slice none 0 0]) ?_ 1 _ rfl; refine pk_ ?_; refine blk_put (cs := #[.int .i64 0, .int .i64 0, .slice none 0 0]) ?_ 0 _ rfl; exact pk_ BK140.out) hb); have n2_ := A_ (below_step (bk_ HB.out) hb); clear HO139 BK140 HB; have HO139 := n0_; have BK140 := n1_; have HB := n2_; clear n0_ n1_ n2_; (try clear hb); (try clear hb2); (try clear hk); (try clear hi); have hcz15_0 : w14.cell? ⟨gb140, 0, none⟩ = some (.int .i64 1) := (blk_cell BK140.out 0).trans rfl; have hcz15_1 : w14.cell? ⟨gb140, 1, none⟩ = some (.int .i64 2) := (blk_cell BK140.out 1).trans rfl; have hcz15_2 : w14.cell? ⟨gb140, 2, none⟩ = some (.slice Ao11 y137.length co11) := (blk_cell BK140.out 2).trans rfl; have hfz15_0 := blk_frozen BK140.out 0; have hfz15_1 := blk_frozen BK140.out 1; have hfz15_2 := blk_frozen BK140.out 2) | ((with_reducible refine gate_callee (f := 10) rfl ?_); refine goesL_ (some 21) rfl rfl Try.func10 (by kernel_rfl) rfl #[.agg #[.int .i64 1, .int .i64 2, .slice Ao11 y137.length co11], .int .i64 0, .int .i64 1, .bool false] rfl gl_ ?_; (with_reducible refine (loop_Check.calls k 1 2 _ _ y137 0 1 false true t144 _ ?side1 ?side2 A2.out).mono ?_); (case side1 => repeat (first | exact (Kd.N_reads' HO139.out).2.2 | (with_reducible refine Kd.C_alloc ?_ _) | (with_reducible refine Kd.C_drewN ?_ _) | (with_reducible refine Kd.C_drew ?_))); (case side2 => exact (Kd.N_reads' HO139.out).2.1); rintro e w16 ⟨rfl, hb⟩; refine ⟨_, rfl, ?_⟩; have n0_ := A_ (Kd.N_below (by (with_reducible repeat (first | apply Kd.N_alloc | apply Kd.N_drewN | apply Kd.N_drew)); exact HO139.out) hb); have n1_ := A_ (blk_below (pk_ BK140.out) hb); have n2_ := A_ (below_step (bk_ HB.out) hb); clear HO139 BK140 HB; have HO139 := n0_; have BK140 := n1_; have HB := n2_; clear n0_ n1_ n2_; (try clear hb); (try clear hb2); (try clear hk); (try clear hi); have hcz17_0 : w16.cell? ⟨gb140, 0, none⟩ = some (.int .i64 1) := (blk_cell BK140.out 0).trans rfl; have hcz17_1 : w16.cell? ⟨gb140, 1, none⟩ = some (.int .i64 2) := (blk_cell BK140.out 1).trans rfl; have hcz17_2 : w16.cell? ⟨gb140, 2, none⟩ = some (.slice Ao11 y137.length co11) := (blk_cell BK140.out 2).trans rfl; have hfz17_0 := blk_frozen BK140.out 0; have hfz17_1 := blk_frozen BK140.out 1; have hfz17_2 := blk_frozen BK140.out 2) | ((with_reducible refine gate_callee (f := 13) rfl ?_); refine goesL_ (some 26) rfl rfl Try.func13 (by kernel_rfl) rfl #[.agg #[.int .i64 1, .int .i64 2, .slice Ao11 y137.length co11], .int .i64 0, .int .i64 1, .bool true, .int .i64 1125899906842624] rfl gl_ ?_; (with_reducible refine (loop_After.calls k 1 2 _ _ y137 0 1 true 1125899906842624 t145 t146 t147 _ ?side1 ?side2 A3.out).mono ?_); (case side1 => repeat (first | exact (Kd.N_reads' HO139.out).2.2 | (with_reducible refine Kd.C_alloc ?_ _) | (with_reducible refine Kd.C_drewN ?_ _) | (with_reducible refine Kd.C_drew ?_))); (case side2 => exact (Kd.N_reads' HO139.out).2.1); rintro e w18 ⟨rfl, hb⟩; refine ⟨_, rfl, ?_⟩; have n0_ := A_ (Kd.N_below (by (with_reducible repeat (first | apply Kd.N_alloc | apply Kd.N_drewN | apply Kd.N_drew)); exact HO139.out) hb); have n1_ := A_ (blk_below (pk_ BK140.out) hb); have n2_ := A_ (below_step (bk_ HB.out) hb); clear HO139 BK140 HB; have HO139 := n0_; have BK140 := n1_; have HB := n2_; clear n0_ n1_ n2_; (try clear hb); (try clear hb2); (try clear hk); (try clear hi)))
   go_ret
   exact ⟨er_, bk_ HB.out⟩
  ·replace c5 := Bool.eq_false_iff.mpr c5
   subst c5
   have H1 : (if t142 = 0 then (if t144 = 0 then (if t147 = 0 then (if t145 = 1125899906842624 then (some (t146 == 0)) else (some false)) else (some false)) else (some false)) else (some false)) = some r := by rw [if_neg (show ¬ (false = true) by decide)] at H; exact H
   clear H
   have H := H1
   clear H1
   by_cases c19 : t142 = 0
   ·rw [if_pos c19] at H
    have c19b0 : (t142 == 0) = true := beq_iff_eq.mpr c19
    have c19b1 : (t142 != 0) = false := bne_eq_false_iff_eq.mpr c19
    clear c19
    by_cases c20 : t144 = 0
    ·rw [if_pos c20] at H
     have c20b0 : (t144 == 0) = true := beq_iff_eq.mpr c20
     have c20b1 : (t144 != 0) = false := bne_eq_false_iff_eq.mpr c20
     clear c20
     by_cases c21 : t147 = 0
     ·rw [if_pos c21] at H
      have c21b0 : (t147 == 0) = true := beq_iff_eq.mpr c21
      have c21b1 : (t147 != 0) = false := bne_eq_false_iff_eq.mpr c21
      clear c21
      by_cases c22 : t145 = 1125899906842624
      ·rw [if_pos c22] at H
       have c22b0 : (t145 == 1125899906842624) = true := beq_iff_eq.mpr c22
       have c22b1 : (t145 != 1125899906842624) = false := bne_eq_false_iff_eq.mpr c22
       clear c22
       obtain rfl := Option.some.inj H
       go_enter Try.func9, Try.ntmps9
       go_wp2_with (first | ((with_reducible refine gate_dst (N := 11) rfl ?_); refine Kd.R_lit k52 _ 52 ?hg (N := 11) ?hd (xs := ([(⟨1, 1, 0⟩ : S52), (⟨1, 1, (-1)⟩ : S52)] : List (S52))) (inner := [.int .i64 1, .int .i64 1, .int .i64 0, .int .i64 1, .int .i64 1, .int .i64 (-1)]) (ok := fun _ => True) (okp := fun _ => True) ?hr ?hp (fun _ hk => hk) trivial (Below.refl _ _) (Nat.le_refl _) (by simp) ?_; (case hd => rfl); (case hg => rfl); (case hr => first | (go_simp; done) | (go_simp; rfl)); (case hp => exact (Reps.c3 (show Kd.M k52 _ _ _ (⟨1, 1, 0⟩ : S52) [.int .i64 1, .int .i64 1, .int .i64 0] from (k52_mkM _ _ _ (⟨1, 1, 0⟩ : S52) )) (Reps.c3 (show Kd.M k52 _ _ _ (⟨1, 1, (-1)⟩ : S52) [.int .i64 1, .int .i64 1, .int .i64 (-1)] from (k52_mkM _ _ _ (⟨1, 1, (-1)⟩ : S52) )) (Reps.none _ _)))); intro v135 w23 ho24 hb hg_ hnew_; clear hg_ hnew_; (first | rw [← Ny134.out] at ho24 | (simp only [Int.reduceToNat] at ho24; rw [← Ny134.out] at ho24)); have n0_ := A_ (Kd.R_lower ho24 (below_size (bk_ HB.out))); have n1_ := A_ (below_step (bk_ HB.out) hb); clear HB; have HO136 := n0_; have HB := n1_; clear n0_ n1_ hb ho24; obtain ⟨Ao25, co25, eo25⟩ := Kd.R_slice HO136.out; subst eo25) | ((with_reducible refine gate_dst (N := 12) rfl ?_); refine Kd.N_lit (Kd.slice 52 k52) _ 53 ?hg (N' := 12) ?hd (xs := ([y134] : List (List (S52)))) (inner := [.slice Ao25 y134.length co25]) (ok := (fun _ => True)) (okp := (fun _ => True)) ?hr ?hp (fun _ hk => hk) ((show ∀ k_, w23.heap.size ≤ k_ → (fun _ => True) k_ from fun k_ hk => trivial) _ (Nat.le_refl _)) (Below.refl _ _) (Nat.le_refl _) (by simp) ?_; (case hd => rfl); (case hg => rfl); (case hr => first | (go_simp; done) | (go_simp; rfl)); (case hp => exact (Reps.one (show Kd.FK (Kd.slice 52 k52) _ _ y134 [.slice Ao25 y134.length co25] from (Kd.FK_slice_mk (Kd.R_reads' (Kd.R_mono (ok' := (fun _ => True)) (HO136.out) (fun k_ hk => trivial))).2.1 (Kd.R_F (Kd.R_mono (ok' := (fun _ => True)) (HO136.out) (fun k_ hk => trivial))))) (Reps.none _ _))); intro v138 w26 ho27 hb hg_ hnew_; clear hg_ hnew_; (first | rw [← Ny137.out] at ho27 | (simp only [Int.reduceToNat] at ho27; rw [← Ny137.out] at ho27)); have n0_ := A_ (Kd.N_lower ho27 (below_size (bk_ HB.out))); have n1_ := A_ (below_step (bk_ HB.out) hb); clear HB HO136; have HO139 := n0_; have HB := n1_; clear n0_ n1_ hb ho27; obtain ⟨Ao28, co28, eo28⟩ := Kd.N_slice HO139.out; subst eo28) | ((with_reducible refine gate_dst (N := 1) rfl ?_); refine box_event ?hg (N := 1) ?hd (cs := #[.int .i64 0, .int .i64 0, .slice none 0 0]) (t := 24) ?hr ?_; (case hd => rfl); (case hg => rfl); (case hr => first | (go_simp; done) | (go_simp; rfl)); intro gb140 hg w29 hbox hb; have n0_ := A_ (Kd.N_below (Kd.N_elderB (by (with_reducible repeat (first | apply Kd.N_alloc | apply Kd.N_drewN | apply Kd.N_drew)); exact HO139.out) gb140 (Nat.le_of_eq hg.symm)) hb); have n1_ := A_ (below_step (bk_ HB.out) hb); have n2_ := A_ (hbox); have n3_ := A_ ((by rw [hg]; exact (below_size (bk_ HB.out)) : w.heap.size ≤ gb140)); have n4_ := A_ ((by rw [hg]; exact (below_size (bk_ HB.out)) : w.heap.size ≤ gb140)); clear HO139 HB; have HO139 := n0_; have HB := n1_; have BK140 := n2_; have GW140 := n3_; have GE140 := n4_; clear n0_ n1_ n2_ n3_ n4_ hb hbox hg; have hcz30_0 : w29.cell? ⟨gb140, 0, none⟩ = some (.int .i64 0) := (blk_cell BK140.out 0).trans rfl; have hcz30_1 : w29.cell? ⟨gb140, 1, none⟩ = some (.int .i64 0) := (blk_cell BK140.out 1).trans rfl; have hcz30_2 : w29.cell? ⟨gb140, 2, none⟩ = some (.slice none 0 0) := (blk_cell BK140.out 2).trans rfl; have hfz30_0 := blk_frozen BK140.out 0; have hfz30_1 := blk_frozen BK140.out 1; have hfz30_2 := blk_frozen BK140.out 2) | ((with_reducible refine gate_callee (f := 10) rfl ?_); refine goesL_ (some 16) rfl rfl Try.func10 (by kernel_rfl) rfl #[.agg #[.int .i64 1, .int .i64 2, .slice Ao28 y137.length co28], .int .i64 0, .int .i64 1, .bool true] rfl gl_ ?_; (with_reducible refine (loop_Check.calls k 1 2 _ _ y137 0 1 true true t142 _ ?side1 ?side2 A1.out).mono ?_); (case side1 => refine (Kd.N_reads' (e := 53) (base := w.heap.size) (ok := fun k_ => (True ∧ k_ ≠ gb140)) (n := y137.length) (c := co28) ?_).2.2; exact (by (with_reducible repeat (first | apply Kd.N_alloc | apply Kd.N_drewN | apply Kd.N_drew)); exact (Kd.N_mono (Kd.N_far (p := ⟨gb140, 2, none⟩) (Kd.N_far (p := ⟨gb140, 1, none⟩) (Kd.N_far (p := ⟨gb140, 0, none⟩) (Kd.N_mono HO139.out (fun k_ hk => (⟨hk, hk.2⟩ : _ ∧ k_ ≠ gb140))) (fun _ hk => hk.2) (.int .i64 1)) (fun _ hk => hk.2) (.int .i64 2)) (fun _ hk => hk.2) (.slice Ao28 y137.length co28)) (fun _ h_ => h_.1)))); (case side2 => exact (Kd.N_reads' HO139.out).2.1); rintro e w31 ⟨rfl, hb⟩; refine ⟨_, rfl, ?_⟩; have n0_ := A_ (Kd.N_below (by (with_reducible repeat (first | apply Kd.N_alloc | apply Kd.N_drewN | apply Kd.N_drew)); exact (Kd.N_mono (Kd.N_far (p := ⟨gb140, 2, none⟩) (Kd.N_far (p := ⟨gb140, 1, none⟩) (Kd.N_far (p := ⟨gb140, 0, none⟩) (Kd.N_mono HO139.out (fun k_ hk => (⟨hk, hk.2⟩ : _ ∧ k_ ≠ gb140))) (fun _ hk => hk.2) (.int .i64 1)) (fun _ hk => hk.2) (.int .i64 2)) (fun _ hk => hk.2) (.slice Ao28 y137.length co28)) (fun _ h_ => h_.1))) hb); have n1_ := A_ (blk_below (g := gb140) (o := .cells #[.int .i64 1, .int .i64 2, .slice Ao28 y137.length co28] 24 (0, 0)) (by refine pk_ ?_; refine blk_put (cs := #[.int .i64 1, .int .i64 2, .slice none 0 0]) ?_ 2 _ rfl; refine pk_ ?_; refine blk_put (cs := #[.int .i64 1, .int .i64 0, .slice none 0 0]) ?_ 1 _ rfl; refine pk_ ?_; refine blk_put (cs := #[.int .i64 0, .int .i64 0, .slice none 0 0]) ?_ 0 _ rfl; exact pk_ BK140.out) hb); have n2_ := A_ (below_step (bk_ HB.out) hb); clear HO139 BK140 HB; have HO139 := n0_; have BK140 := n1_; have HB := n2_; clear n0_ n1_ n2_; (try clear hb); (try clear hb2); (try clear hk); (try clear hi); have hcz32_0 : w31.cell? ⟨gb140, 0, none⟩ = some (.int .i64 1) := (blk_cell BK140.out 0).trans rfl; have hcz32_1 : w31.cell? ⟨gb140, 1, none⟩ = some (.int .i64 2) := (blk_cell BK140.out 1).trans rfl; have hcz32_2 : w31.cell? ⟨gb140, 2, none⟩ = some (.slice Ao28 y137.length co28) := (blk_cell BK140.out 2).trans rfl; have hfz32_0 := blk_frozen BK140.out 0; have hfz32_1 := blk_frozen BK140.out 1; have hfz32_2 := blk_frozen BK140.out 2) | ((with_reducible refine gate_callee (f := 10) rfl ?_); refine goesL_ (some 21) rfl rfl Try.func10 (by kernel_rfl) rfl #[.agg #[.int .i64 1, .int .i64 2, .slice Ao28 y137.length co28], .int .i64 0, .int .i64 1, .bool false] rfl gl_ ?_; (with_reducible refine (loop_Check.calls k 1 2 _ _ y137 0 1 false false t144 _ ?side1 ?side2 A2.out).mono ?_); (case side1 => repeat (first | exact (Kd.N_reads' HO139.out).2.2 | (with_reducible refine Kd.C_alloc ?_ _) | (with_reducible refine Kd.C_drewN ?_ _) | (with_reducible refine Kd.C_drew ?_))); (case side2 => exact (Kd.N_reads' HO139.out).2.1); rintro e w33 ⟨rfl, hb⟩; refine ⟨_, rfl, ?_⟩; have n0_ := A_ (Kd.N_below (by (with_reducible repeat (first | apply Kd.N_alloc | apply Kd.N_drewN | apply Kd.N_drew)); exact HO139.out) hb); have n1_ := A_ (blk_below (pk_ BK140.out) hb); have n2_ := A_ (below_step (bk_ HB.out) hb); clear HO139 BK140 HB; have HO139 := n0_; have BK140 := n1_; have HB := n2_; clear n0_ n1_ n2_; (try clear hb); (try clear hb2); (try clear hk); (try clear hi); have hcz34_0 : w33.cell? ⟨gb140, 0, none⟩ = some (.int .i64 1) := (blk_cell BK140.out 0).trans rfl; have hcz34_1 : w33.cell? ⟨gb140, 1, none⟩ = some (.int .i64 2) := (blk_cell BK140.out 1).trans rfl; have hcz34_2 : w33.cell? ⟨gb140, 2, none⟩ = some (.slice Ao28 y137.length co28) := (blk_cell BK140.out 2).trans rfl; have hfz34_0 := blk_frozen BK140.out 0; have hfz34_1 := blk_frozen BK140.out 1; have hfz34_2 := blk_frozen BK140.out 2) | ((with_reducible refine gate_callee (f := 13) rfl ?_); refine goesL_ (some 26) rfl rfl Try.func13 (by kernel_rfl) rfl #[.agg #[.int .i64 1, .int .i64 2, .slice Ao28 y137.length co28], .int .i64 0, .int .i64 1, .bool true, .int .i64 1125899906842624] rfl gl_ ?_; (with_reducible refine (loop_After.calls k 1 2 _ _ y137 0 1 true 1125899906842624 t145 t146 t147 _ ?side1 ?side2 A3.out).mono ?_); (case side1 => repeat (first | exact (Kd.N_reads' HO139.out).2.2 | (with_reducible refine Kd.C_alloc ?_ _) | (with_reducible refine Kd.C_drewN ?_ _) | (with_reducible refine Kd.C_drew ?_))); (case side2 => exact (Kd.N_reads' HO139.out).2.1); rintro e w35 ⟨rfl, hb⟩; refine ⟨_, rfl, ?_⟩; have n0_ := A_ (Kd.N_below (by (with_reducible repeat (first | apply Kd.N_alloc | apply Kd.N_drewN | apply Kd.N_drew)); exact HO139.out) hb); have n1_ := A_ (blk_below (pk_ BK140.out) hb); have n2_ := A_ (below_step (bk_ HB.out) hb); clear HO139 BK140 HB; have HO139 := n0_; have BK140 := n1_; have HB := n2_; clear n0_ n1_ n2_; (try clear hb); (try clear hb2); (try clear hk); (try clear hi)))
       go_ret
       exact ⟨er_, bk_ HB.out⟩
      ·rw [if_neg c22] at H
       have c22b0 : (t145 == 1125899906842624) = false := beq_eq_false_iff_ne.mpr c22
       have c22b1 : (t145 != 1125899906842624) = true := bne_iff_ne.mpr c22
       obtain rfl := Option.some.inj H
       go_enter Try.func9, Try.ntmps9
       go_wp2_with (first | ((with_reducible refine gate_dst (N := 11) rfl ?_); refine Kd.R_lit k52 _ 52 ?hg (N := 11) ?hd (xs := ([(⟨1, 1, 0⟩ : S52), (⟨1, 1, (-1)⟩ : S52)] : List (S52))) (inner := [.int .i64 1, .int .i64 1, .int .i64 0, .int .i64 1, .int .i64 1, .int .i64 (-1)]) (ok := fun _ => True) (okp := fun _ => True) ?hr ?hp (fun _ hk => hk) trivial (Below.refl _ _) (Nat.le_refl _) (by simp) ?_; (case hd => rfl); (case hg => rfl); (case hr => first | (go_simp; done) | (go_simp; rfl)); (case hp => exact (Reps.c3 (show Kd.M k52 _ _ _ (⟨1, 1, 0⟩ : S52) [.int .i64 1, .int .i64 1, .int .i64 0] from (k52_mkM _ _ _ (⟨1, 1, 0⟩ : S52) )) (Reps.c3 (show Kd.M k52 _ _ _ (⟨1, 1, (-1)⟩ : S52) [.int .i64 1, .int .i64 1, .int .i64 (-1)] from (k52_mkM _ _ _ (⟨1, 1, (-1)⟩ : S52) )) (Reps.none _ _)))); intro v135 w36 ho37 hb hg_ hnew_; clear hg_ hnew_; (first | rw [← Ny134.out] at ho37 | (simp only [Int.reduceToNat] at ho37; rw [← Ny134.out] at ho37)); have n0_ := A_ (Kd.R_lower ho37 (below_size (bk_ HB.out))); have n1_ := A_ (below_step (bk_ HB.out) hb); clear HB; have HO136 := n0_; have HB := n1_; clear n0_ n1_ hb ho37; obtain ⟨Ao38, co38, eo38⟩ := Kd.R_slice HO136.out; subst eo38) | ((with_reducible refine gate_dst (N := 12) rfl ?_); refine Kd.N_lit (Kd.slice 52 k52) _ 53 ?hg (N' := 12) ?hd (xs := ([y134] : List (List (S52)))) (inner := [.slice Ao38 y134.length co38]) (ok := (fun _ => True)) (okp := (fun _ => True)) ?hr ?hp (fun _ hk => hk) ((show ∀ k_, w36.heap.size ≤ k_ → (fun _ => True) k_ from fun k_ hk => trivial) _ (Nat.le_refl _)) (Below.refl _ _) (Nat.le_refl _) (by simp) ?_; (case hd => rfl); (case hg => rfl); (case hr => first | (go_simp; done) | (go_simp; rfl)); (case hp => exact (Reps.one (show Kd.FK (Kd.slice 52 k52) _ _ y134 [.slice Ao38 y134.length co38] from (Kd.FK_slice_mk (Kd.R_reads' (Kd.R_mono (ok' := (fun _ => True)) (HO136.out) (fun k_ hk => trivial))).2.1 (Kd.R_F (Kd.R_mono (ok' := (fun _ => True)) (HO136.out) (fun k_ hk => trivial))))) (Reps.none _ _))); intro v138 w39 ho40 hb hg_ hnew_; clear hg_ hnew_; (first | rw [← Ny137.out] at ho40 | (simp only [Int.reduceToNat] at ho40; rw [← Ny137.out] at ho40)); have n0_ := A_ (Kd.N_lower ho40 (below_size (bk_ HB.out))); have n1_ := A_ (below_step (bk_ HB.out) hb); clear HB HO136; have HO139 := n0_; have HB := n1_; clear n0_ n1_ hb ho40; obtain ⟨Ao41, co41, eo41⟩ := Kd.N_slice HO139.out; subst eo41) | ((with_reducible refine gate_dst (N := 1) rfl ?_); refine box_event ?hg (N := 1) ?hd (cs := #[.int .i64 0, .int .i64 0, .slice none 0 0]) (t := 24) ?hr ?_; (case hd => rfl); (case hg => rfl); (case hr => first | (go_simp; done) | (go_simp; rfl)); intro gb140 hg w42 hbox hb; have n0_ := A_ (Kd.N_below (Kd.N_elderB (by (with_reducible repeat (first | apply Kd.N_alloc | apply Kd.N_drewN | apply Kd.N_drew)); exact HO139.out) gb140 (Nat.le_of_eq hg.symm)) hb); have n1_ := A_ (below_step (bk_ HB.out) hb); have n2_ := A_ (hbox); have n3_ := A_ ((by rw [hg]; exact (below_size (bk_ HB.out)) : w.heap.size ≤ gb140)); have n4_ := A_ ((by rw [hg]; exact (below_size (bk_ HB.out)) : w.heap.size ≤ gb140)); clear HO139 HB; have HO139 := n0_; have HB := n1_; have BK140 := n2_; have GW140 := n3_; have GE140 := n4_; clear n0_ n1_ n2_ n3_ n4_ hb hbox hg; have hcz43_0 : w42.cell? ⟨gb140, 0, none⟩ = some (.int .i64 0) := (blk_cell BK140.out 0).trans rfl; have hcz43_1 : w42.cell? ⟨gb140, 1, none⟩ = some (.int .i64 0) := (blk_cell BK140.out 1).trans rfl; have hcz43_2 : w42.cell? ⟨gb140, 2, none⟩ = some (.slice none 0 0) := (blk_cell BK140.out 2).trans rfl; have hfz43_0 := blk_frozen BK140.out 0; have hfz43_1 := blk_frozen BK140.out 1; have hfz43_2 := blk_frozen BK140.out 2) | ((with_reducible refine gate_callee (f := 10) rfl ?_); refine goesL_ (some 16) rfl rfl Try.func10 (by kernel_rfl) rfl #[.agg #[.int .i64 1, .int .i64 2, .slice Ao41 y137.length co41], .int .i64 0, .int .i64 1, .bool true] rfl gl_ ?_; (with_reducible refine (loop_Check.calls k 1 2 _ _ y137 0 1 true true t142 _ ?side1 ?side2 A1.out).mono ?_); (case side1 => refine (Kd.N_reads' (e := 53) (base := w.heap.size) (ok := fun k_ => (True ∧ k_ ≠ gb140)) (n := y137.length) (c := co41) ?_).2.2; exact (by (with_reducible repeat (first | apply Kd.N_alloc | apply Kd.N_drewN | apply Kd.N_drew)); exact (Kd.N_mono (Kd.N_far (p := ⟨gb140, 2, none⟩) (Kd.N_far (p := ⟨gb140, 1, none⟩) (Kd.N_far (p := ⟨gb140, 0, none⟩) (Kd.N_mono HO139.out (fun k_ hk => (⟨hk, hk.2⟩ : _ ∧ k_ ≠ gb140))) (fun _ hk => hk.2) (.int .i64 1)) (fun _ hk => hk.2) (.int .i64 2)) (fun _ hk => hk.2) (.slice Ao41 y137.length co41)) (fun _ h_ => h_.1)))); (case side2 => exact (Kd.N_reads' HO139.out).2.1); rintro e w44 ⟨rfl, hb⟩; refine ⟨_, rfl, ?_⟩; have n0_ := A_ (Kd.N_below (by (with_reducible repeat (first | apply Kd.N_alloc | apply Kd.N_drewN | apply Kd.N_drew)); exact (Kd.N_mono (Kd.N_far (p := ⟨gb140, 2, none⟩) (Kd.N_far (p := ⟨gb140, 1, none⟩) (Kd.N_far (p := ⟨gb140, 0, none⟩) (Kd.N_mono HO139.out (fun k_ hk => (⟨hk, hk.2⟩ : _ ∧ k_ ≠ gb140))) (fun _ hk => hk.2) (.int .i64 1)) (fun _ hk => hk.2) (.int .i64 2)) (fun _ hk => hk.2) (.slice Ao41 y137.length co41)) (fun _ h_ => h_.1))) hb); have n1_ := A_ (blk_below (g := gb140) (o := .cells #[.int .i64 1, .int .i64 2, .slice Ao41 y137.length co41] 24 (0, 0)) (by refine pk_ ?_; refine blk_put (cs := #[.int .i64 1, .int .i64 2, .slice none 0 0]) ?_ 2 _ rfl; refine pk_ ?_; refine blk_put (cs := #[.int .i64 1, .int .i64 0, .slice none 0 0]) ?_ 1 _ rfl; refine pk_ ?_; refine blk_put (cs := #[.int .i64 0, .int .i64 0, .slice none 0 0]) ?_ 0 _ rfl; exact pk_ BK140.out) hb); have n2_ := A_ (below_step (bk_ HB.out) hb); clear HO139 BK140 HB; have HO139 := n0_; have BK140 := n1_; have HB := n2_; clear n0_ n1_ n2_; (try clear hb); (try clear hb2); (try clear hk); (try clear hi); have hcz45_0 : w44.cell? ⟨gb140, 0, none⟩ = some (.int .i64 1) := (blk_cell BK140.out 0).trans rfl; have hcz45_1 : w44.cell? ⟨gb140, 1, none⟩ = some (.int .i64 2) := (blk_cell BK140.out 1).trans rfl; have hcz45_2 : w44.cell? ⟨gb140, 2, none⟩ = some (.slice Ao41 y137.length co41) := (blk_cell BK140.out 2).trans rfl; have hfz45_0 := blk_frozen BK140.out 0; have hfz45_1 := blk_frozen BK140.out 1; have hfz45_2 := blk_frozen BK140.out 2) | ((with_reducible refine gate_callee (f := 10) rfl ?_); refine goesL_ (some 21) rfl rfl Try.func10 (by kernel_rfl) rfl #[.agg #[.int .i64 1, .int .i64 2, .slice Ao41 y137.length co41], .int .i64 0, .int .i64 1, .bool false] rfl gl_ ?_; (with_reducible refine (loop_Check.calls k 1 2 _ _ y137 0 1 false false t144 _ ?side1 ?side2 A2.out).mono ?_); (case side1 => repeat (first | exact (Kd.N_reads' HO139.out).2.2 | (with_reducible refine Kd.C_alloc ?_ _) | (with_reducible refine Kd.C_drewN ?_ _) | (with_reducible refine Kd.C_drew ?_))); (case side2 => exact (Kd.N_reads' HO139.out).2.1); rintro e w46 ⟨rfl, hb⟩; refine ⟨_, rfl, ?_⟩; have n0_ := A_ (Kd.N_below (by (with_reducible repeat (first | apply Kd.N_alloc | apply Kd.N_drewN | apply Kd.N_drew)); exact HO139.out) hb); have n1_ := A_ (blk_below (pk_ BK140.out) hb); have n2_ := A_ (below_step (bk_ HB.out) hb); clear HO139 BK140 HB; have HO139 := n0_; have BK140 := n1_; have HB := n2_; clear n0_ n1_ n2_; (try clear hb); (try clear hb2); (try clear hk); (try clear hi); have hcz47_0 : w46.cell? ⟨gb140, 0, none⟩ = some (.int .i64 1) := (blk_cell BK140.out 0).trans rfl; have hcz47_1 : w46.cell? ⟨gb140, 1, none⟩ = some (.int .i64 2) := (blk_cell BK140.out 1).trans rfl; have hcz47_2 : w46.cell? ⟨gb140, 2, none⟩ = some (.slice Ao41 y137.length co41) := (blk_cell BK140.out 2).trans rfl; have hfz47_0 := blk_frozen BK140.out 0; have hfz47_1 := blk_frozen BK140.out 1; have hfz47_2 := blk_frozen BK140.out 2) | ((with_reducible refine gate_callee (f := 13) rfl ?_); refine goesL_ (some 26) rfl rfl Try.func13 (by kernel_rfl) rfl #[.agg #[.int .i64 1, .int .i64 2, .slice Ao41 y137.length co41], .int .i64 0, .int .i64 1, .bool true, .int .i64 1125899906842624] rfl gl_ ?_; (with_reducible refine (loop_After.calls k 1 2 _ _ y137 0 1 true 1125899906842624 t145 t146 t147 _ ?side1 ?side2 A3.out).mono ?_); (case side1 => repeat (first | exact (Kd.N_reads' HO139.out).2.2 | (with_reducible refine Kd.C_alloc ?_ _) | (with_reducible refine Kd.C_drewN ?_ _) | (with_reducible refine Kd.C_drew ?_))); (case side2 => exact (Kd.N_reads' HO139.out).2.1); rintro e w48 ⟨rfl, hb⟩; refine ⟨_, rfl, ?_⟩; have n0_ := A_ (Kd.N_below (by (with_reducible repeat (first | apply Kd.N_alloc | apply Kd.N_drewN | apply Kd.N_drew)); exact HO139.out) hb); have n1_ := A_ (blk_below (pk_ BK140.out) hb); have n2_ := A_ (below_step (bk_ HB.out) hb); clear HO139 BK140 HB; have HO139 := n0_; have BK140 := n1_; have HB := n2_; clear n0_ n1_ n2_; (try clear hb); (try clear hb2); (try clear hk); (try clear hi)))
       go_ret
       exact ⟨er_, bk_ HB.out⟩
     ·rw [if_neg c21] at H
      have c21b0 : (t147 == 0) = false := beq_eq_false_iff_ne.mpr c21
      have c21b1 : (t147 != 0) = true := bne_iff_ne.mpr c21
      obtain rfl := Option.some.inj H
      go_enter Try.func9, Try.ntmps9
      go_wp2_with (first | ((with_reducible refine gate_dst (N := 11) rfl ?_); refine Kd.R_lit k52 _ 52 ?hg (N := 11) ?hd (xs := ([(⟨1, 1, 0⟩ : S52), (⟨1, 1, (-1)⟩ : S52)] : List (S52))) (inner := [.int .i64 1, .int .i64 1, .int .i64 0, .int .i64 1, .int .i64 1, .int .i64 (-1)]) (ok := fun _ => True) (okp := fun _ => True) ?hr ?hp (fun _ hk => hk) trivial (Below.refl _ _) (Nat.le_refl _) (by simp) ?_; (case hd => rfl); (case hg => rfl); (case hr => first | (go_simp; done) | (go_simp; rfl)); (case hp => exact (Reps.c3 (show Kd.M k52 _ _ _ (⟨1, 1, 0⟩ : S52) [.int .i64 1, .int .i64 1, .int .i64 0] from (k52_mkM _ _ _ (⟨1, 1, 0⟩ : S52) )) (Reps.c3 (show Kd.M k52 _ _ _ (⟨1, 1, (-1)⟩ : S52) [.int .i64 1, .int .i64 1, .int .i64 (-1)] from (k52_mkM _ _ _ (⟨1, 1, (-1)⟩ : S52) )) (Reps.none _ _)))); intro v135 w49 ho50 hb hg_ hnew_; clear hg_ hnew_; (first | rw [← Ny134.out] at ho50 | (simp only [Int.reduceToNat] at ho50; rw [← Ny134.out] at ho50)); have n0_ := A_ (Kd.R_lower ho50 (below_size (bk_ HB.out))); have n1_ := A_ (below_step (bk_ HB.out) hb); clear HB; have HO136 := n0_; have HB := n1_; clear n0_ n1_ hb ho50; obtain ⟨Ao51, co51, eo51⟩ := Kd.R_slice HO136.out; subst eo51) | ((with_reducible refine gate_dst (N := 12) rfl ?_); refine Kd.N_lit (Kd.slice 52 k52) _ 53 ?hg (N' := 12) ?hd (xs := ([y134] : List (List (S52)))) (inner := [.slice Ao51 y134.length co51]) (ok := (fun _ => True)) (okp := (fun _ => True)) ?hr ?hp (fun _ hk => hk) ((show ∀ k_, w49.heap.size ≤ k_ → (fun _ => True) k_ from fun k_ hk => trivial) _ (Nat.le_refl _)) (Below.refl _ _) (Nat.le_refl _) (by simp) ?_; (case hd => rfl); (case hg => rfl); (case hr => first | (go_simp; done) | (go_simp; rfl)); (case hp => exact (Reps.one (show Kd.FK (Kd.slice 52 k52) _ _ y134 [.slice Ao51 y134.length co51] from (Kd.FK_slice_mk (Kd.R_reads' (Kd.R_mono (ok' := (fun _ => True)) (HO136.out) (fun k_ hk => trivial))).2.1 (Kd.R_F (Kd.R_mono (ok' := (fun _ => True)) (HO136.out) (fun k_ hk => trivial))))) (Reps.none _ _))); intro v138 w52 ho53 hb hg_ hnew_; clear hg_ hnew_; (first | rw [← Ny137.out] at ho53 | (simp only [Int.reduceToNat] at ho53; rw [← Ny137.out] at ho53)); have n0_ := A_ (Kd.N_lower ho53 (below_size (bk_ HB.out))); have n1_ := A_ (below_step (bk_ HB.out) hb); clear HB HO136; have HO139 := n0_; have HB := n1_; clear n0_ n1_ hb ho53; obtain ⟨Ao54, co54, eo54⟩ := Kd.N_slice HO139.out; subst eo54) | ((with_reducible refine gate_dst (N := 1) rfl ?_); refine box_event ?hg (N := 1) ?hd (cs := #[.int .i64 0, .int .i64 0, .slice none 0 0]) (t := 24) ?hr ?_; (case hd => rfl); (case hg => rfl); (case hr => first | (go_simp; done) | (go_simp; rfl)); intro gb140 hg w55 hbox hb; have n0_ := A_ (Kd.N_below (Kd.N_elderB (by (with_reducible repeat (first | apply Kd.N_alloc | apply Kd.N_drewN | apply Kd.N_drew)); exact HO139.out) gb140 (Nat.le_of_eq hg.symm)) hb); have n1_ := A_ (below_step (bk_ HB.out) hb); have n2_ := A_ (hbox); have n3_ := A_ ((by rw [hg]; exact (below_size (bk_ HB.out)) : w.heap.size ≤ gb140)); have n4_ := A_ ((by rw [hg]; exact (below_size (bk_ HB.out)) : w.heap.size ≤ gb140)); clear HO139 HB; have HO139 := n0_; have HB := n1_; have BK140 := n2_; have GW140 := n3_; have GE140 := n4_; clear n0_ n1_ n2_ n3_ n4_ hb hbox hg; have hcz56_0 : w55.cell? ⟨gb140, 0, none⟩ = some (.int .i64 0) := (blk_cell BK140.out 0).trans rfl; have hcz56_1 : w55.cell? ⟨gb140, 1, none⟩ = some (.int .i64 0) := (blk_cell BK140.out 1).trans rfl; have hcz56_2 : w55.cell? ⟨gb140, 2, none⟩ = some (.slice none 0 0) := (blk_cell BK140.out 2).trans rfl; have hfz56_0 := blk_frozen BK140.out 0; have hfz56_1 := blk_frozen BK140.out 1; have hfz56_2 := blk_frozen BK140.out 2) | ((with_reducible refine gate_callee (f := 10) rfl ?_); refine goesL_ (some 16) rfl rfl Try.func10 (by kernel_rfl) rfl #[.agg #[.int .i64 1, .int .i64 2, .slice Ao54 y137.length co54], .int .i64 0, .int .i64 1, .bool true] rfl gl_ ?_; (with_reducible refine (loop_Check.calls k 1 2 _ _ y137 0 1 true true t142 _ ?side1 ?side2 A1.out).mono ?_); (case side1 => refine (Kd.N_reads' (e := 53) (base := w.heap.size) (ok := fun k_ => (True ∧ k_ ≠ gb140)) (n := y137.length) (c := co54) ?_).2.2; exact (by (with_reducible repeat (first | apply Kd.N_alloc | apply Kd.N_drewN | apply Kd.N_drew)); exact (Kd.N_mono (Kd.N_far (p := ⟨gb140, 2, none⟩) (Kd.N_far (p := ⟨gb140, 1, none⟩) (Kd.N_far (p := ⟨gb140, 0, none⟩) (Kd.N_mono HO139.out (fun k_ hk => (⟨hk, hk.2⟩ : _ ∧ k_ ≠ gb140))) (fun _ hk => hk.2) (.int .i64 1)) (fun _ hk => hk.2) (.int .i64 2)) (fun _ hk => hk.2) (.slice Ao54 y137.length co54)) (fun _ h_ => h_.1)))); (case side2 => exact (Kd.N_reads' HO139.out).2.1); rintro e w57 ⟨rfl, hb⟩; refine ⟨_, rfl, ?_⟩; have n0_ := A_ (Kd.N_below (by (with_reducible repeat (first | apply Kd.N_alloc | apply Kd.N_drewN | apply Kd.N_drew)); exact (Kd.N_mono (Kd.N_far (p := ⟨gb140, 2, none⟩) (Kd.N_far (p := ⟨gb140, 1, none⟩) (Kd.N_far (p := ⟨gb140, 0, none⟩) (Kd.N_mono HO139.out (fun k_ hk => (⟨hk, hk.2⟩ : _ ∧ k_ ≠ gb140))) (fun _ hk => hk.2) (.int .i64 1)) (fun _ hk => hk.2) (.int .i64 2)) (fun _ hk => hk.2) (.slice Ao54 y137.length co54)) (fun _ h_ => h_.1))) hb); have n1_ := A_ (blk_below (g := gb140) (o := .cells #[.int .i64 1, .int .i64 2, .slice Ao54 y137.length co54] 24 (0, 0)) (by refine pk_ ?_; refine blk_put (cs := #[.int .i64 1, .int .i64 2, .slice none 0 0]) ?_ 2 _ rfl; refine pk_ ?_; refine blk_put (cs := #[.int .i64 1, .int .i64 0, .slice none 0 0]) ?_ 1 _ rfl; refine pk_ ?_; refine blk_put (cs := #[.int .i64 0, .int .i64 0, .slice none 0 0]) ?_ 0 _ rfl; exact pk_ BK140.out) hb); have n2_ := A_ (below_step (bk_ HB.out) hb); clear HO139 BK140 HB; have HO139 := n0_; have BK140 := n1_; have HB := n2_; clear n0_ n1_ n2_; (try clear hb); (try clear hb2); (try clear hk); (try clear hi); have hcz58_0 : w57.cell? ⟨gb140, 0, none⟩ = some (.int .i64 1) := (blk_cell BK140.out 0).trans rfl; have hcz58_1 : w57.cell? ⟨gb140, 1, none⟩ = some (.int .i64 2) := (blk_cell BK140.out 1).trans rfl; have hcz58_2 : w57.cell? ⟨gb140, 2, none⟩ = some (.slice Ao54 y137.length co54) := (blk_cell BK140.out 2).trans rfl; have hfz58_0 := blk_frozen BK140.out 0; have hfz58_1 := blk_frozen BK140.out 1; have hfz58_2 := blk_frozen BK140.out 2) | ((with_reducible refine gate_callee (f := 10) rfl ?_); refine goesL_ (some 21) rfl rfl Try.func10 (by kernel_rfl) rfl #[.agg #[.int .i64 1, .int .i64 2, .slice Ao54 y137.length co54], .int .i64 0, .int .i64 1, .bool false] rfl gl_ ?_; (with_reducible refine (loop_Check.calls k 1 2 _ _ y137 0 1 false false t144 _ ?side1 ?side2 A2.out).mono ?_); (case side1 => repeat (first | exact (Kd.N_reads' HO139.out).2.2 | (with_reducible refine Kd.C_alloc ?_ _) | (with_reducible refine Kd.C_drewN ?_ _) | (with_reducible refine Kd.C_drew ?_))); (case side2 => exact (Kd.N_reads' HO139.out).2.1); rintro e w59 ⟨rfl, hb⟩; refine ⟨_, rfl, ?_⟩; have n0_ := A_ (Kd.N_below (by (with_reducible repeat (first | apply Kd.N_alloc | apply Kd.N_drewN | apply Kd.N_drew)); exact HO139.out) hb); have n1_ := A_ (blk_below (pk_ BK140.out) hb); have n2_ := A_ (below_step (bk_ HB.out) hb); clear HO139 BK140 HB; have HO139 := n0_; have BK140 := n1_; have HB := n2_; clear n0_ n1_ n2_; (try clear hb); (try clear hb2); (try clear hk); (try clear hi); have hcz60_0 : w59.cell? ⟨gb140, 0, none⟩ = some (.int .i64 1) := (blk_cell BK140.out 0).trans rfl; have hcz60_1 : w59.cell? ⟨gb140, 1, none⟩ = some (.int .i64 2) := (blk_cell BK140.out 1).trans rfl; have hcz60_2 : w59.cell? ⟨gb140, 2, none⟩ = some (.slice Ao54 y137.length co54) := (blk_cell BK140.out 2).trans rfl; have hfz60_0 := blk_frozen BK140.out 0; have hfz60_1 := blk_frozen BK140.out 1; have hfz60_2 := blk_frozen BK140.out 2) | ((with_reducible refine gate_callee (f := 13) rfl ?_); refine goesL_ (some 26) rfl rfl Try.func13 (by kernel_rfl) rfl #[.agg #[.int .i64 1, .int .i64 2, .slice Ao54 y137.length co54], .int .i64 0, .int .i64 1, .bool true, .int .i64 1125899906842624] rfl gl_ ?_; (with_reducible refine (loop_After.calls k 1 2 _ _ y137 0 1 true 1125899906842624 t145 t146 t147 _ ?side1 ?side2 A3.out).mono ?_); (case side1 => repeat (first | exact (Kd.N_reads' HO139.out).2.2 | (with_reducible refine Kd.C_alloc ?_ _) | (with_reducible refine Kd.C_drewN ?_ _) | (with_reducible refine Kd.C_drew ?_))); (case side2 => exact (Kd.N_reads' HO139.out).2.1); rintro e w61 ⟨rfl, hb⟩; refine ⟨_, rfl, ?_⟩; have n0_ := A_ (Kd.N_below (by (with_reducible repeat (first | apply Kd.N_alloc | apply Kd.N_drewN | apply Kd.N_drew)); exact HO139.out) hb); have n1_ := A_ (blk_below (pk_ BK140.out) hb); have n2_ := A_ (below_step (bk_ HB.out) hb); clear HO139 BK140 HB; have HO139 := n0_; have BK140 := n1_; have HB := n2_; clear n0_ n1_ n2_; (try clear hb); (try clear hb2); (try clear hk); (try clear hi)))
      go_ret
      exact ⟨er_, bk_ HB.out⟩
    ·rw [if_neg c20] at H
     have c20b0 : (t144 == 0) = false := beq_eq_false_iff_ne.mpr c20
     have c20b1 : (t144 != 0) = true := bne_iff_ne.mpr c20
     obtain rfl := Option.some.inj H
     go_enter Try.func9, Try.ntmps9
     go_wp2_with (first | ((with_reducible refine gate_dst (N := 11) rfl ?_); refine Kd.R_lit k52 _ 52 ?hg (N := 11) ?hd (xs := ([(⟨1, 1, 0⟩ : S52), (⟨1, 1, (-1)⟩ : S52)] : List (S52))) (inner := [.int .i64 1, .int .i64 1, .int .i64 0, .int .i64 1, .int .i64 1, .int .i64 (-1)]) (ok := fun _ => True) (okp := fun _ => True) ?hr ?hp (fun _ hk => hk) trivial (Below.refl _ _) (Nat.le_refl _) (by simp) ?_; (case hd => rfl); (case hg => rfl); (case hr => first | (go_simp; done) | (go_simp; rfl)); (case hp => exact (Reps.c3 (show Kd.M k52 _ _ _ (⟨1, 1, 0⟩ : S52) [.int .i64 1, .int .i64 1, .int .i64 0] from (k52_mkM _ _ _ (⟨1, 1, 0⟩ : S52) )) (Reps.c3 (show Kd.M k52 _ _ _ (⟨1, 1, (-1)⟩ : S52) [.int .i64 1, .int .i64 1, .int .i64 (-1)] from (k52_mkM _ _ _ (⟨1, 1, (-1)⟩ : S52) )) (Reps.none _ _)))); intro v135 w62 ho63 hb hg_ hnew_; clear hg_ hnew_; (first | rw [← Ny134.out] at ho63 | (simp only [Int.reduceToNat] at ho63; rw [← Ny134.out] at ho63)); have n0_ := A_ (Kd.R_lower ho63 (below_size (bk_ HB.out))); have n1_ := A_ (below_step (bk_ HB.out) hb); clear HB; have HO136 := n0_; have HB := n1_; clear n0_ n1_ hb ho63; obtain ⟨Ao64, co64, eo64⟩ := Kd.R_slice HO136.out; subst eo64) | ((with_reducible refine gate_dst (N := 12) rfl ?_); refine Kd.N_lit (Kd.slice 52 k52) _ 53 ?hg (N' := 12) ?hd (xs := ([y134] : List (List (S52)))) (inner := [.slice Ao64 y134.length co64]) (ok := (fun _ => True)) (okp := (fun _ => True)) ?hr ?hp (fun _ hk => hk) ((show ∀ k_, w62.heap.size ≤ k_ → (fun _ => True) k_ from fun k_ hk => trivial) _ (Nat.le_refl _)) (Below.refl _ _) (Nat.le_refl _) (by simp) ?_; (case hd => rfl); (case hg => rfl); (case hr => first | (go_simp; done) | (go_simp; rfl)); (case hp => exact (Reps.one (show Kd.FK (Kd.slice 52 k52) _ _ y134 [.slice Ao64 y134.length co64] from (Kd.FK_slice_mk (Kd.R_reads' (Kd.R_mono (ok' := (fun _ => True)) (HO136.out) (fun k_ hk => trivial))).2.1 (Kd.R_F (Kd.R_mono (ok' := (fun _ => True)) (HO136.out) (fun k_ hk => trivial))))) (Reps.none _ _))); intro v138 w65 ho66 hb hg_ hnew_; clear hg_ hnew_; (first | rw [← Ny137.out] at ho66 | (simp only [Int.reduceToNat] at ho66; rw [← Ny137.out] at ho66)); have n0_ := A_ (Kd.N_lower ho66 (below_size (bk_ HB.out))); have n1_ := A_ (below_step (bk_ HB.out) hb); clear HB HO136; have HO139 := n0_; have HB := n1_; clear n0_ n1_ hb ho66; obtain ⟨Ao67, co67, eo67⟩ := Kd.N_slice HO139.out; subst eo67) | ((with_reducible refine gate_dst (N := 1) rfl ?_); refine box_event ?hg (N := 1) ?hd (cs := #[.int .i64 0, .int .i64 0, .slice none 0 0]) (t := 24) ?hr ?_; (case hd => rfl); (case hg => rfl); (case hr => first | (go_simp; done) | (go_simp; rfl)); intro gb140 hg w68 hbox hb; have n0_ := A_ (Kd.N_below (Kd.N_elderB (by (with_reducible repeat (first | apply Kd.N_alloc | apply Kd.N_drewN | apply Kd.N_drew)); exact HO139.out) gb140 (Nat.le_of_eq hg.symm)) hb); have n1_ := A_ (below_step (bk_ HB.out) hb); have n2_ := A_ (hbox); have n3_ := A_ ((by rw [hg]; exact (below_size (bk_ HB.out)) : w.heap.size ≤ gb140)); have n4_ := A_ ((by rw [hg]; exact (below_size (bk_ HB.out)) : w.heap.size ≤ gb140)); clear HO139 HB; have HO139 := n0_; have HB := n1_; have BK140 := n2_; have GW140 := n3_; have GE140 := n4_; clear n0_ n1_ n2_ n3_ n4_ hb hbox hg; have hcz69_0 : w68.cell? ⟨gb140, 0, none⟩ = some (.int .i64 0) := (blk_cell BK140.out 0).trans rfl; have hcz69_1 : w68.cell? ⟨gb140, 1, none⟩ = some (.int .i64 0) := (blk_cell BK140.out 1).trans rfl; have hcz69_2 : w68.cell? ⟨gb140, 2, none⟩ = some (.slice none 0 0) := (blk_cell BK140.out 2).trans rfl; have hfz69_0 := blk_frozen BK140.out 0; have hfz69_1 := blk_frozen BK140.out 1; have hfz69_2 := blk_frozen BK140.out 2) | ((with_reducible refine gate_callee (f := 10) rfl ?_); refine goesL_ (some 16) rfl rfl Try.func10 (by kernel_rfl) rfl #[.agg #[.int .i64 1, .int .i64 2, .slice Ao67 y137.length co67], .int .i64 0, .int .i64 1, .bool true] rfl gl_ ?_; (with_reducible refine (loop_Check.calls k 1 2 _ _ y137 0 1 true true t142 _ ?side1 ?side2 A1.out).mono ?_); (case side1 => refine (Kd.N_reads' (e := 53) (base := w.heap.size) (ok := fun k_ => (True ∧ k_ ≠ gb140)) (n := y137.length) (c := co67) ?_).2.2; exact (by (with_reducible repeat (first | apply Kd.N_alloc | apply Kd.N_drewN | apply Kd.N_drew)); exact (Kd.N_mono (Kd.N_far (p := ⟨gb140, 2, none⟩) (Kd.N_far (p := ⟨gb140, 1, none⟩) (Kd.N_far (p := ⟨gb140, 0, none⟩) (Kd.N_mono HO139.out (fun k_ hk => (⟨hk, hk.2⟩ : _ ∧ k_ ≠ gb140))) (fun _ hk => hk.2) (.int .i64 1)) (fun _ hk => hk.2) (.int .i64 2)) (fun _ hk => hk.2) (.slice Ao67 y137.length co67)) (fun _ h_ => h_.1)))); (case side2 => exact (Kd.N_reads' HO139.out).2.1); rintro e w70 ⟨rfl, hb⟩; refine ⟨_, rfl, ?_⟩; have n0_ := A_ (Kd.N_below (by (with_reducible repeat (first | apply Kd.N_alloc | apply Kd.N_drewN | apply Kd.N_drew)); exact (Kd.N_mono (Kd.N_far (p := ⟨gb140, 2, none⟩) (Kd.N_far (p := ⟨gb140, 1, none⟩) (Kd.N_far (p := ⟨gb140, 0, none⟩) (Kd.N_mono HO139.out (fun k_ hk => (⟨hk, hk.2⟩ : _ ∧ k_ ≠ gb140))) (fun _ hk => hk.2) (.int .i64 1)) (fun _ hk => hk.2) (.int .i64 2)) (fun _ hk => hk.2) (.slice Ao67 y137.length co67)) (fun _ h_ => h_.1))) hb); have n1_ := A_ (blk_below (g := gb140) (o := .cells #[.int .i64 1, .int .i64 2, .slice Ao67 y137.length co67] 24 (0, 0)) (by refine pk_ ?_; refine blk_put (cs := #[.int .i64 1, .int .i64 2, .slice none 0 0]) ?_ 2 _ rfl; refine pk_ ?_; refine blk_put (cs := #[.int .i64 1, .int .i64 0, .slice none 0 0]) ?_ 1 _ rfl; refine pk_ ?_; refine blk_put (cs := #[.int .i64 0, .int .i64 0, .slice none 0 0]) ?_ 0 _ rfl; exact pk_ BK140.out) hb); have n2_ := A_ (below_step (bk_ HB.out) hb); clear HO139 BK140 HB; have HO139 := n0_; have BK140 := n1_; have HB := n2_; clear n0_ n1_ n2_; (try clear hb); (try clear hb2); (try clear hk); (try clear hi); have hcz71_0 : w70.cell? ⟨gb140, 0, none⟩ = some (.int .i64 1) := (blk_cell BK140.out 0).trans rfl; have hcz71_1 : w70.cell? ⟨gb140, 1, none⟩ = some (.int .i64 2) := (blk_cell BK140.out 1).trans rfl; have hcz71_2 : w70.cell? ⟨gb140, 2, none⟩ = some (.slice Ao67 y137.length co67) := (blk_cell BK140.out 2).trans rfl; have hfz71_0 := blk_frozen BK140.out 0; have hfz71_1 := blk_frozen BK140.out 1; have hfz71_2 := blk_frozen BK140.out 2) | ((with_reducible refine gate_callee (f := 10) rfl ?_); refine goesL_ (some 21) rfl rfl Try.func10 (by kernel_rfl) rfl #[.agg #[.int .i64 1, .int .i64 2, .slice Ao67 y137.length co67], .int .i64 0, .int .i64 1, .bool false] rfl gl_ ?_; (with_reducible refine (loop_Check.calls k 1 2 _ _ y137 0 1 false false t144 _ ?side1 ?side2 A2.out).mono ?_); (case side1 => repeat (first | exact (Kd.N_reads' HO139.out).2.2 | (with_reducible refine Kd.C_alloc ?_ _) | (with_reducible refine Kd.C_drewN ?_ _) | (with_reducible refine Kd.C_drew ?_))); (case side2 => exact (Kd.N_reads' HO139.out).2.1); rintro e w72 ⟨rfl, hb⟩; refine ⟨_, rfl, ?_⟩; have n0_ := A_ (Kd.N_below (by (with_reducible repeat (first | apply Kd.N_alloc | apply Kd.N_drewN | apply Kd.N_drew)); exact HO139.out) hb); have n1_ := A_ (blk_below (pk_ BK140.out) hb); have n2_ := A_ (below_step (bk_ HB.out) hb); clear HO139 BK140 HB; have HO139 := n0_; have BK140 := n1_; have HB := n2_; clear n0_ n1_ n2_; (try clear hb); (try clear hb2); (try clear hk); (try clear hi); have hcz73_0 : w72.cell? ⟨gb140, 0, none⟩ = some (.int .i64 1) := (blk_cell BK140.out 0).trans rfl; have hcz73_1 : w72.cell? ⟨gb140, 1, none⟩ = some (.int .i64 2) := (blk_cell BK140.out 1).trans rfl; have hcz73_2 : w72.cell? ⟨gb140, 2, none⟩ = some (.slice Ao67 y137.length co67) := (blk_cell BK140.out 2).trans rfl; have hfz73_0 := blk_frozen BK140.out 0; have hfz73_1 := blk_frozen BK140.out 1; have hfz73_2 := blk_frozen BK140.out 2) | ((with_reducible refine gate_callee (f := 13) rfl ?_); refine goesL_ (some 26) rfl rfl Try.func13 (by kernel_rfl) rfl #[.agg #[.int .i64 1, .int .i64 2, .slice Ao67 y137.length co67], .int .i64 0, .int .i64 1, .bool true, .int .i64 1125899906842624] rfl gl_ ?_; (with_reducible refine (loop_After.calls k 1 2 _ _ y137 0 1 true 1125899906842624 t145 t146 t147 _ ?side1 ?side2 A3.out).mono ?_); (case side1 => repeat (first | exact (Kd.N_reads' HO139.out).2.2 | (with_reducible refine Kd.C_alloc ?_ _) | (with_reducible refine Kd.C_drewN ?_ _) | (with_reducible refine Kd.C_drew ?_))); (case side2 => exact (Kd.N_reads' HO139.out).2.1); rintro e w74 ⟨rfl, hb⟩; refine ⟨_, rfl, ?_⟩; have n0_ := A_ (Kd.N_below (by (with_reducible repeat (first | apply Kd.N_alloc | apply Kd.N_drewN | apply Kd.N_drew)); exact HO139.out) hb); have n1_ := A_ (blk_below (pk_ BK140.out) hb); have n2_ := A_ (below_step (bk_ HB.out) hb); clear HO139 BK140 HB; have HO139 := n0_; have BK140 := n1_; have HB := n2_; clear n0_ n1_ n2_; (try clear hb); (try clear hb2); (try clear hk); (try clear hi)))
     go_ret
     exact ⟨er_, bk_ HB.out⟩
   ·rw [if_neg c19] at H
    have c19b0 : (t142 == 0) = false := beq_eq_false_iff_ne.mpr c19
    have c19b1 : (t142 != 0) = true := bne_iff_ne.mpr c19
    obtain rfl := Option.some.inj H
    go_enter Try.func9, Try.ntmps9
    go_wp2_with (first | ((with_reducible refine gate_dst (N := 11) rfl ?_); refine Kd.R_lit k52 _ 52 ?hg (N := 11) ?hd (xs := ([(⟨1, 1, 0⟩ : S52), (⟨1, 1, (-1)⟩ : S52)] : List (S52))) (inner := [.int .i64 1, .int .i64 1, .int .i64 0, .int .i64 1, .int .i64 1, .int .i64 (-1)]) (ok := fun _ => True) (okp := fun _ => True) ?hr ?hp (fun _ hk => hk) trivial (Below.refl _ _) (Nat.le_refl _) (by simp) ?_; (case hd => rfl); (case hg => rfl); (case hr => first | (go_simp; done) | (go_simp; rfl)); (case hp => exact (Reps.c3 (show Kd.M k52 _ _ _ (⟨1, 1, 0⟩ : S52) [.int .i64 1, .int .i64 1, .int .i64 0] from (k52_mkM _ _ _ (⟨1, 1, 0⟩ : S52) )) (Reps.c3 (show Kd.M k52 _ _ _ (⟨1, 1, (-1)⟩ : S52) [.int .i64 1, .int .i64 1, .int .i64 (-1)] from (k52_mkM _ _ _ (⟨1, 1, (-1)⟩ : S52) )) (Reps.none _ _)))); intro v135 w75 ho76 hb hg_ hnew_; clear hg_ hnew_; (first | rw [← Ny134.out] at ho76 | (simp only [Int.reduceToNat] at ho76; rw [← Ny134.out] at ho76)); have n0_ := A_ (Kd.R_lower ho76 (below_size (bk_ HB.out))); have n1_ := A_ (below_step (bk_ HB.out) hb); clear HB; have HO136 := n0_; have HB := n1_; clear n0_ n1_ hb ho76; obtain ⟨Ao77, co77, eo77⟩ := Kd.R_slice HO136.out; subst eo77) | ((with_reducible refine gate_dst (N := 12) rfl ?_); refine Kd.N_lit (Kd.slice 52 k52) _ 53 ?hg (N' := 12) ?hd (xs := ([y134] : List (List (S52)))) (inner := [.slice Ao77 y134.length co77]) (ok := (fun _ => True)) (okp := (fun _ => True)) ?hr ?hp (fun _ hk => hk) ((show ∀ k_, w75.heap.size ≤ k_ → (fun _ => True) k_ from fun k_ hk => trivial) _ (Nat.le_refl _)) (Below.refl _ _) (Nat.le_refl _) (by simp) ?_; (case hd => rfl); (case hg => rfl); (case hr => first | (go_simp; done) | (go_simp; rfl)); (case hp => exact (Reps.one (show Kd.FK (Kd.slice 52 k52) _ _ y134 [.slice Ao77 y134.length co77] from (Kd.FK_slice_mk (Kd.R_reads' (Kd.R_mono (ok' := (fun _ => True)) (HO136.out) (fun k_ hk => trivial))).2.1 (Kd.R_F (Kd.R_mono (ok' := (fun _ => True)) (HO136.out) (fun k_ hk => trivial))))) (Reps.none _ _))); intro v138 w78 ho79 hb hg_ hnew_; clear hg_ hnew_; (first | rw [← Ny137.out] at ho79 | (simp only [Int.reduceToNat] at ho79; rw [← Ny137.out] at ho79)); have n0_ := A_ (Kd.N_lower ho79 (below_size (bk_ HB.out))); have n1_ := A_ (below_step (bk_ HB.out) hb); clear HB HO136; have HO139 := n0_; have HB := n1_; clear n0_ n1_ hb ho79; obtain ⟨Ao80, co80, eo80⟩ := Kd.N_slice HO139.out; subst eo80) | ((with_reducible refine gate_dst (N := 1) rfl ?_); refine box_event ?hg (N := 1) ?hd (cs := #[.int .i64 0, .int .i64 0, .slice none 0 0]) (t := 24) ?hr ?_; (case hd => rfl); (case hg => rfl); (case hr => first | (go_simp; done) | (go_simp; rfl)); intro gb140 hg w81 hbox hb; have n0_ := A_ (Kd.N_below (Kd.N_elderB (by (with_reducible repeat (first | apply Kd.N_alloc | apply Kd.N_drewN | apply Kd.N_drew)); exact HO139.out) gb140 (Nat.le_of_eq hg.symm)) hb); have n1_ := A_ (below_step (bk_ HB.out) hb); have n2_ := A_ (hbox); have n3_ := A_ ((by rw [hg]; exact (below_size (bk_ HB.out)) : w.heap.size ≤ gb140)); have n4_ := A_ ((by rw [hg]; exact (below_size (bk_ HB.out)) : w.heap.size ≤ gb140)); clear HO139 HB; have HO139 := n0_; have HB := n1_; have BK140 := n2_; have GW140 := n3_; have GE140 := n4_; clear n0_ n1_ n2_ n3_ n4_ hb hbox hg; have hcz82_0 : w81.cell? ⟨gb140, 0, none⟩ = some (.int .i64 0) := (blk_cell BK140.out 0).trans rfl; have hcz82_1 : w81.cell? ⟨gb140, 1, none⟩ = some (.int .i64 0) := (blk_cell BK140.out 1).trans rfl; have hcz82_2 : w81.cell? ⟨gb140, 2, none⟩ = some (.slice none 0 0) := (blk_cell BK140.out 2).trans rfl; have hfz82_0 := blk_frozen BK140.out 0; have hfz82_1 := blk_frozen BK140.out 1; have hfz82_2 := blk_frozen BK140.out 2) | ((with_reducible refine gate_callee (f := 10) rfl ?_); refine goesL_ (some 16) rfl rfl Try.func10 (by kernel_rfl) rfl #[.agg #[.int .i64 1, .int .i64 2, .slice Ao80 y137.length co80], .int .i64 0, .int .i64 1, .bool true] rfl gl_ ?_; (with_reducible refine (loop_Check.calls k 1 2 _ _ y137 0 1 true true t142 _ ?side1 ?side2 A1.out).mono ?_); (case side1 => refine (Kd.N_reads' (e := 53) (base := w.heap.size) (ok := fun k_ => (True ∧ k_ ≠ gb140)) (n := y137.length) (c := co80) ?_).2.2; exact (by (with_reducible repeat (first | apply Kd.N_alloc | apply Kd.N_drewN | apply Kd.N_drew)); exact (Kd.N_mono (Kd.N_far (p := ⟨gb140, 2, none⟩) (Kd.N_far (p := ⟨gb140, 1, none⟩) (Kd.N_far (p := ⟨gb140, 0, none⟩) (Kd.N_mono HO139.out (fun k_ hk => (⟨hk, hk.2⟩ : _ ∧ k_ ≠ gb140))) (fun _ hk => hk.2) (.int .i64 1)) (fun _ hk => hk.2) (.int .i64 2)) (fun _ hk => hk.2) (.slice Ao80 y137.length co80)) (fun _ h_ => h_.1)))); (case side2 => exact (Kd.N_reads' HO139.out).2.1); rintro e w83 ⟨rfl, hb⟩; refine ⟨_, rfl, ?_⟩; have n0_ := A_ (Kd.N_below (by (with_reducible repeat (first | apply Kd.N_alloc | apply Kd.N_drewN | apply Kd.N_drew)); exact (Kd.N_mono (Kd.N_far (p := ⟨gb140, 2, none⟩) (Kd.N_far (p := ⟨gb140, 1, none⟩) (Kd.N_far (p := ⟨gb140, 0, none⟩) (Kd.N_mono HO139.out (fun k_ hk => (⟨hk, hk.2⟩ : _ ∧ k_ ≠ gb140))) (fun _ hk => hk.2) (.int .i64 1)) (fun _ hk => hk.2) (.int .i64 2)) (fun _ hk => hk.2) (.slice Ao80 y137.length co80)) (fun _ h_ => h_.1))) hb); have n1_ := A_ (blk_below (g := gb140) (o := .cells #[.int .i64 1, .int .i64 2, .slice Ao80 y137.length co80] 24 (0, 0)) (by refine pk_ ?_; refine blk_put (cs := #[.int .i64 1, .int .i64 2, .slice none 0 0]) ?_ 2 _ rfl; refine pk_ ?_; refine blk_put (cs := #[.int .i64 1, .int .i64 0, .slice none 0 0]) ?_ 1 _ rfl; refine pk_ ?_; refine blk_put (cs := #[.int .i64 0, .int .i64 0, .slice none 0 0]) ?_ 0 _ rfl; exact pk_ BK140.out) hb); have n2_ := A_ (below_step (bk_ HB.out) hb); clear HO139 BK140 HB; have HO139 := n0_; have BK140 := n1_; have HB := n2_; clear n0_ n1_ n2_; (try clear hb); (try clear hb2); (try clear hk); (try clear hi); have hcz84_0 : w83.cell? ⟨gb140, 0, none⟩ = some (.int .i64 1) := (blk_cell BK140.out 0).trans rfl; have hcz84_1 : w83.cell? ⟨gb140, 1, none⟩ = some (.int .i64 2) := (blk_cell BK140.out 1).trans rfl; have hcz84_2 : w83.cell? ⟨gb140, 2, none⟩ = some (.slice Ao80 y137.length co80) := (blk_cell BK140.out 2).trans rfl; have hfz84_0 := blk_frozen BK140.out 0; have hfz84_1 := blk_frozen BK140.out 1; have hfz84_2 := blk_frozen BK140.out 2) | ((with_reducible refine gate_callee (f := 10) rfl ?_); refine goesL_ (some 21) rfl rfl Try.func10 (by kernel_rfl) rfl #[.agg #[.int .i64 1, .int .i64 2, .slice Ao80 y137.length co80], .int .i64 0, .int .i64 1, .bool false] rfl gl_ ?_; (with_reducible refine (loop_Check.calls k 1 2 _ _ y137 0 1 false false t144 _ ?side1 ?side2 A2.out).mono ?_); (case side1 => repeat (first | exact (Kd.N_reads' HO139.out).2.2 | (with_reducible refine Kd.C_alloc ?_ _) | (with_reducible refine Kd.C_drewN ?_ _) | (with_reducible refine Kd.C_drew ?_))); (case side2 => exact (Kd.N_reads' HO139.out).2.1); rintro e w85 ⟨rfl, hb⟩; refine ⟨_, rfl, ?_⟩; have n0_ := A_ (Kd.N_below (by (with_reducible repeat (first | apply Kd.N_alloc | apply Kd.N_drewN | apply Kd.N_drew)); exact HO139.out) hb); have n1_ := A_ (blk_below (pk_ BK140.out) hb); have n2_ := A_ (below_step (bk_ HB.out) hb); clear HO139 BK140 HB; have HO139 := n0_; have BK140 := n1_; have HB := n2_; clear n0_ n1_ n2_; (try clear hb); (try clear hb2); (try clear hk); (try clear hi); have hcz86_0 : w85.cell? ⟨gb140, 0, none⟩ = some (.int .i64 1) := (blk_cell BK140.out 0).trans rfl; have hcz86_1 : w85.cell? ⟨gb140, 1, none⟩ = some (.int .i64 2) := (blk_cell BK140.out 1).trans rfl; have hcz86_2 : w85.cell? ⟨gb140, 2, none⟩ = some (.slice Ao80 y137.length co80) := (blk_cell BK140.out 2).trans rfl; have hfz86_0 := blk_frozen BK140.out 0; have hfz86_1 := blk_frozen BK140.out 1; have hfz86_2 := blk_frozen BK140.out 2) | ((with_reducible refine gate_callee (f := 13) rfl ?_); refine goesL_ (some 26) rfl rfl Try.func13 (by kernel_rfl) rfl #[.agg #[.int .i64 1, .int .i64 2, .slice Ao80 y137.length co80], .int .i64 0, .int .i64 1, .bool true, .int .i64 1125899906842624] rfl gl_ ?_; (with_reducible refine (loop_After.calls k 1 2 _ _ y137 0 1 true 1125899906842624 t145 t146 t147 _ ?side1 ?side2 A3.out).mono ?_); (case side1 => repeat (first | exact (Kd.N_reads' HO139.out).2.2 | (with_reducible refine Kd.C_alloc ?_ _) | (with_reducible refine Kd.C_drewN ?_ _) | (with_reducible refine Kd.C_drew ?_))); (case side2 => exact (Kd.N_reads' HO139.out).2.1); rintro e w87 ⟨rfl, hb⟩; refine ⟨_, rfl, ?_⟩; have n0_ := A_ (Kd.N_below (by (with_reducible repeat (first | apply Kd.N_alloc | apply Kd.N_drewN | apply Kd.N_drew)); exact HO139.out) hb); have n1_ := A_ (blk_below (pk_ BK140.out) hb); have n2_ := A_ (below_step (bk_ HB.out) hb); clear HO139 BK140 HB; have HO139 := n0_; have BK140 := n1_; have HB := n2_; clear n0_ n1_ n2_; (try clear hb); (try clear hb2); (try clear hk); (try clear hi)))
    go_ret
    exact ⟨er_, bk_ HB.out⟩
 ·replace c4 := Bool.eq_false_iff.mpr c4
  subst c4
  have H1 : (some false) = some r := by rw [if_neg (show ¬ (false = true) by decide)] at H; exact H
  clear H
  have H := H1
  clear H1
  obtain rfl := Option.some.inj H
  go_enter Try.func9, Try.ntmps9
  go_wp2_with (first | ((with_reducible refine gate_dst (N := 11) rfl ?_); refine Kd.R_lit k52 _ 52 ?hg (N := 11) ?hd (xs := ([(⟨1, 1, 0⟩ : S52), (⟨1, 1, (-1)⟩ : S52)] : List (S52))) (inner := [.int .i64 1, .int .i64 1, .int .i64 0, .int .i64 1, .int .i64 1, .int .i64 (-1)]) (ok := fun _ => True) (okp := fun _ => True) ?hr ?hp (fun _ hk => hk) trivial (Below.refl _ _) (Nat.le_refl _) (by simp) ?_; (case hd => rfl); (case hg => rfl); (case hr => first | (go_simp; done) | (go_simp; rfl)); (case hp => exact (Reps.c3 (show Kd.M k52 _ _ _ (⟨1, 1, 0⟩ : S52) [.int .i64 1, .int .i64 1, .int .i64 0] from (k52_mkM _ _ _ (⟨1, 1, 0⟩ : S52) )) (Reps.c3 (show Kd.M k52 _ _ _ (⟨1, 1, (-1)⟩ : S52) [.int .i64 1, .int .i64 1, .int .i64 (-1)] from (k52_mkM _ _ _ (⟨1, 1, (-1)⟩ : S52) )) (Reps.none _ _)))); intro v135 w88 ho89 hb hg_ hnew_; clear hg_ hnew_; (first | rw [← Ny134.out] at ho89 | (simp only [Int.reduceToNat] at ho89; rw [← Ny134.out] at ho89)); have n0_ := A_ (Kd.R_lower ho89 (below_size (bk_ HB.out))); have n1_ := A_ (below_step (bk_ HB.out) hb); clear HB; have HO136 := n0_; have HB := n1_; clear n0_ n1_ hb ho89; obtain ⟨Ao90, co90, eo90⟩ := Kd.R_slice HO136.out; subst eo90) | ((with_reducible refine gate_dst (N := 12) rfl ?_); refine Kd.N_lit (Kd.slice 52 k52) _ 53 ?hg (N' := 12) ?hd (xs := ([y134] : List (List (S52)))) (inner := [.slice Ao90 y134.length co90]) (ok := (fun _ => True)) (okp := (fun _ => True)) ?hr ?hp (fun _ hk => hk) ((show ∀ k_, w88.heap.size ≤ k_ → (fun _ => True) k_ from fun k_ hk => trivial) _ (Nat.le_refl _)) (Below.refl _ _) (Nat.le_refl _) (by simp) ?_; (case hd => rfl); (case hg => rfl); (case hr => first | (go_simp; done) | (go_simp; rfl)); (case hp => exact (Reps.one (show Kd.FK (Kd.slice 52 k52) _ _ y134 [.slice Ao90 y134.length co90] from (Kd.FK_slice_mk (Kd.R_reads' (Kd.R_mono (ok' := (fun _ => True)) (HO136.out) (fun k_ hk => trivial))).2.1 (Kd.R_F (Kd.R_mono (ok' := (fun _ => True)) (HO136.out) (fun k_ hk => trivial))))) (Reps.none _ _))); intro v138 w91 ho92 hb hg_ hnew_; clear hg_ hnew_; (first | rw [← Ny137.out] at ho92 | (simp only [Int.reduceToNat] at ho92; rw [← Ny137.out] at ho92)); have n0_ := A_ (Kd.N_lower ho92 (below_size (bk_ HB.out))); have n1_ := A_ (below_step (bk_ HB.out) hb); clear HB HO136; have HO139 := n0_; have HB := n1_; clear n0_ n1_ hb ho92; obtain ⟨Ao93, co93, eo93⟩ := Kd.N_slice HO139.out; subst eo93) | ((with_reducible refine gate_dst (N := 1) rfl ?_); refine box_event ?hg (N := 1) ?hd (cs := #[.int .i64 0, .int .i64 0, .slice none 0 0]) (t := 24) ?hr ?_; (case hd => rfl); (case hg => rfl); (case hr => first | (go_simp; done) | (go_simp; rfl)); intro gb140 hg w94 hbox hb; have n0_ := A_ (Kd.N_below (Kd.N_elderB (by (with_reducible repeat (first | apply Kd.N_alloc | apply Kd.N_drewN | apply Kd.N_drew)); exact HO139.out) gb140 (Nat.le_of_eq hg.symm)) hb); have n1_ := A_ (below_step (bk_ HB.out) hb); have n2_ := A_ (hbox); have n3_ := A_ ((by rw [hg]; exact (below_size (bk_ HB.out)) : w.heap.size ≤ gb140)); have n4_ := A_ ((by rw [hg]; exact (below_size (bk_ HB.out)) : w.heap.size ≤ gb140)); clear HO139 HB; have HO139 := n0_; have HB := n1_; have BK140 := n2_; have GW140 := n3_; have GE140 := n4_; clear n0_ n1_ n2_ n3_ n4_ hb hbox hg; have hcz95_0 : w94.cell? ⟨gb140, 0, none⟩ = some (.int .i64 0) := (blk_cell BK140.out 0).trans rfl; have hcz95_1 : w94.cell? ⟨gb140, 1, none⟩ = some (.int .i64 0) := (blk_cell BK140.out 1).trans rfl; have hcz95_2 : w94.cell? ⟨gb140, 2, none⟩ = some (.slice none 0 0) := (blk_cell BK140.out 2).trans rfl; have hfz95_0 := blk_frozen BK140.out 0; have hfz95_1 := blk_frozen BK140.out 1; have hfz95_2 := blk_frozen BK140.out 2) | ((with_reducible refine gate_callee (f := 10) rfl ?_); refine goesL_ (some 16) rfl rfl Try.func10 (by kernel_rfl) rfl #[.agg #[.int .i64 1, .int .i64 2, .slice Ao93 y137.length co93], .int .i64 0, .int .i64 1, .bool true] rfl gl_ ?_; (with_reducible refine (loop_Check.calls k 1 2 _ _ y137 0 1 true false t142 _ ?side1 ?side2 A1.out).mono ?_); (case side1 => refine (Kd.N_reads' (e := 53) (base := w.heap.size) (ok := fun k_ => (True ∧ k_ ≠ gb140)) (n := y137.length) (c := co93) ?_).2.2; exact (by (with_reducible repeat (first | apply Kd.N_alloc | apply Kd.N_drewN | apply Kd.N_drew)); exact (Kd.N_mono (Kd.N_far (p := ⟨gb140, 2, none⟩) (Kd.N_far (p := ⟨gb140, 1, none⟩) (Kd.N_far (p := ⟨gb140, 0, none⟩) (Kd.N_mono HO139.out (fun k_ hk => (⟨hk, hk.2⟩ : _ ∧ k_ ≠ gb140))) (fun _ hk => hk.2) (.int .i64 1)) (fun _ hk => hk.2) (.int .i64 2)) (fun _ hk => hk.2) (.slice Ao93 y137.length co93)) (fun _ h_ => h_.1)))); (case side2 => exact (Kd.N_reads' HO139.out).2.1); rintro e w96 ⟨rfl, hb⟩; refine ⟨_, rfl, ?_⟩; have n0_ := A_ (Kd.N_below (by (with_reducible repeat (first | apply Kd.N_alloc | apply Kd.N_drewN | apply Kd.N_drew)); exact (Kd.N_mono (Kd.N_far (p := ⟨gb140, 2, none⟩) (Kd.N_far (p := ⟨gb140, 1, none⟩) (Kd.N_far (p := ⟨gb140, 0, none⟩) (Kd.N_mono HO139.out (fun k_ hk => (⟨hk, hk.2⟩ : _ ∧ k_ ≠ gb140))) (fun _ hk => hk.2) (.int .i64 1)) (fun _ hk => hk.2) (.int .i64 2)) (fun _ hk => hk.2) (.slice Ao93 y137.length co93)) (fun _ h_ => h_.1))) hb); have n1_ := A_ (blk_below (g := gb140) (o := .cells #[.int .i64 1, .int .i64 2, .slice Ao93 y137.length co93] 24 (0, 0)) (by refine pk_ ?_; refine blk_put (cs := #[.int .i64 1, .int .i64 2, .slice none 0 0]) ?_ 2 _ rfl; refine pk_ ?_; refine blk_put (cs := #[.int .i64 1, .int .i64 0, .slice none 0 0]) ?_ 1 _ rfl; refine pk_ ?_; refine blk_put (cs := #[.int .i64 0, .int .i64 0, .slice none 0 0]) ?_ 0 _ rfl; exact pk_ BK140.out) hb); have n2_ := A_ (below_step (bk_ HB.out) hb); clear HO139 BK140 HB; have HO139 := n0_; have BK140 := n1_; have HB := n2_; clear n0_ n1_ n2_; (try clear hb); (try clear hb2); (try clear hk); (try clear hi); have hcz97_0 : w96.cell? ⟨gb140, 0, none⟩ = some (.int .i64 1) := (blk_cell BK140.out 0).trans rfl; have hcz97_1 : w96.cell? ⟨gb140, 1, none⟩ = some (.int .i64 2) := (blk_cell BK140.out 1).trans rfl; have hcz97_2 : w96.cell? ⟨gb140, 2, none⟩ = some (.slice Ao93 y137.length co93) := (blk_cell BK140.out 2).trans rfl; have hfz97_0 := blk_frozen BK140.out 0; have hfz97_1 := blk_frozen BK140.out 1; have hfz97_2 := blk_frozen BK140.out 2) | ((with_reducible refine gate_callee (f := 10) rfl ?_); refine goesL_ (some 21) rfl rfl Try.func10 (by kernel_rfl) rfl #[.agg #[.int .i64 1, .int .i64 2, .slice Ao93 y137.length co93], .int .i64 0, .int .i64 1, .bool false] rfl gl_ ?_; (with_reducible refine (loop_Check.calls k 1 2 _ _ y137 0 1 false t143 t144 _ ?side1 ?side2 A2.out).mono ?_); (case side1 => repeat (first | exact (Kd.N_reads' HO139.out).2.2 | (with_reducible refine Kd.C_alloc ?_ _) | (with_reducible refine Kd.C_drewN ?_ _) | (with_reducible refine Kd.C_drew ?_))); (case side2 => exact (Kd.N_reads' HO139.out).2.1); rintro e w98 ⟨rfl, hb⟩; refine ⟨_, rfl, ?_⟩; have n0_ := A_ (Kd.N_below (by (with_reducible repeat (first | apply Kd.N_alloc | apply Kd.N_drewN | apply Kd.N_drew)); exact HO139.out) hb); have n1_ := A_ (blk_below (pk_ BK140.out) hb); have n2_ := A_ (below_step (bk_ HB.out) hb); clear HO139 BK140 HB; have HO139 := n0_; have BK140 := n1_; have HB := n2_; clear n0_ n1_ n2_; (try clear hb); (try clear hb2); (try clear hk); (try clear hi); have hcz99_0 : w98.cell? ⟨gb140, 0, none⟩ = some (.int .i64 1) := (blk_cell BK140.out 0).trans rfl; have hcz99_1 : w98.cell? ⟨gb140, 1, none⟩ = some (.int .i64 2) := (blk_cell BK140.out 1).trans rfl; have hcz99_2 : w98.cell? ⟨gb140, 2, none⟩ = some (.slice Ao93 y137.length co93) := (blk_cell BK140.out 2).trans rfl; have hfz99_0 := blk_frozen BK140.out 0; have hfz99_1 := blk_frozen BK140.out 1; have hfz99_2 := blk_frozen BK140.out 2) | ((with_reducible refine gate_callee (f := 13) rfl ?_); refine goesL_ (some 26) rfl rfl Try.func13 (by kernel_rfl) rfl #[.agg #[.int .i64 1, .int .i64 2, .slice Ao93 y137.length co93], .int .i64 0, .int .i64 1, .bool true, .int .i64 1125899906842624] rfl gl_ ?_; (with_reducible refine (loop_After.calls k 1 2 _ _ y137 0 1 true 1125899906842624 t145 t146 t147 _ ?side1 ?side2 A3.out).mono ?_); (case side1 => repeat (first | exact (Kd.N_reads' HO139.out).2.2 | (with_reducible refine Kd.C_alloc ?_ _) | (with_reducible refine Kd.C_drewN ?_ _) | (with_reducible refine Kd.C_drew ?_))); (case side2 => exact (Kd.N_reads' HO139.out).2.1); rintro e w100 ⟨rfl, hb⟩; refine ⟨_, rfl, ?_⟩; have n0_ := A_ (Kd.N_below (by (with_reducible repeat (first | apply Kd.N_alloc | apply Kd.N_drewN | apply Kd.N_drew)); exact HO139.out) hb); have n1_ := A_ (blk_below (pk_ BK140.out) hb); have n2_ := A_ (below_step (bk_ HB.out) hb); clear HO139 BK140 HB; have HO139 := n0_; have BK140 := n1_; have HB := n2_; clear n0_ n1_ n2_; (try clear hb); (try clear hb2); (try clear hk); (try clear hi)))
  go_ret
  exact ⟨er_, bk_ HB.out⟩

end Go.Proofs.Ytngmdidegmbpfaa.PLoopAfter
