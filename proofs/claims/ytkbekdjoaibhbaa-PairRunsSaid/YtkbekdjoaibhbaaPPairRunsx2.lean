-- out of a turned copy of the print, by a program of this session; Lean checks it
import Derived.Test.YtkbekdjoaibhbaaPPairRunsx0
namespace Go.Proofs.Ytkbekdjoaibhbaa.PPairRuns
open Go.RowKit Go.Proofs.YtkbekdjoaibhbaaW.PrintWords Go.Proofs.YtkbekdjoaibhbaaW.PrintLast Go.Proofs.YtkbekdjoaibhbaaW.PrintMore
attribute [local go_sem] max2_int min2_int max_two min_two max_three min_three max_four min_four   -- for this text's walks alone
set_option linter.unusedVariables false
set_option linter.unusedSimpArgs false

attribute [local go_sem] isSome_put_
/-! ### slices_Min_int_int: function 23 (by hand) -/
theorem wrapL {x : Int} (h : -9223372036854775808 ≤ x ∧ x ≤ 9223372036854775807) : wrap64 x = x := by
  unfold wrap64
  omega
def lminGo (l : List Int) : Nat → Int → Int → Int
  | 0, _, m => m
  | d + 1, i, m => lminGo l d (i + 1) (if rd l i < m then rd l i else m)
def slices_Min_int_int.f (l0 : List Int) : Option Int := if 1 ≤ l0.length ∧ l0.length < 17592186044416 then some (lminGo l0 (l0.length - 1) 1 (rd l0 0)) else none
set_option maxHeartbeats 8000000 in
set_option maxRecDepth 100000 in
set_option maxHeartbeats 8000000 in
set_option maxRecDepth 100000 in
theorem slices_Min_int_int.calls (A0 : Option Addr) (c0 : Nat) (l0 : List Int) (r : Int) (w : World) (hr0 : Kd.C (Kd.int .i64) w A0 l0.length l0) (hc0 : l0.length ≤ c0) (h : slices_Min_int_int.f l0 = some r) :
    Calls Try.prog 23 #[.slice A0 l0.length c0] w fun e w' => e = .returned (.int .i64 r) ∧ Drawn0 w w' := by
  unfold slices_Min_int_int.f at h
  by_cases hl : 1 ≤ l0.length ∧ l0.length < 17592186044416
  rotate_left
  · rw [if_neg hl] at h
    cases h
  rw [if_pos hl] at h
  obtain ⟨hl1, hl2⟩ := hl
  have H := Aside0.mk (Option.some.inj h)
  have HR0 := Aside0.mk hr0
  have HL := Aside0.mk hl1
  have HL2 := Aside0.mk hl2
  obtain ⟨ad0, ea, hx0⟩ := Kd.at_int hr0 0 (by omega) (by omega)
  cases ea
  have q0 : ((0 : Int) < (l0.length : Int)) = True := eq_true (by omega)
  have q1 : decide ((l0.length : Int) < 1) = false := decide_eq_false (by omega)
  have q2 : ((l0.length : Int) < 1) = False := eq_false (by omega)
  have q3 : decide (l0.length < 1) = false := decide_eq_false (by omega)
  have q4 : (l0.length < 1) = False := eq_false (by omega)
  have q5 : (l0.length = 0) = False := eq_false (by omega)
  have q6 : (0 < l0.length) = True := eq_true (by omega)
  have q7 : (l0 = []) = False := eq_false (fun e => by rw [e] at hl1; simp at hl1)
  clear h hr0 hc0 hl1 hl2
  simp only [show (0 : Int).toNat = 0 from rfl, Addr.add_zero'] at hx0
  go_enter Try.func23, Try.ntmps23
  go_wp2
  go_loopg [3, 4] (l0.length - 1) (fun kq v3 v4 w' => ∃ (i m : Int), v4 = .int .i64 i ∧ v3 = .int .i64 m ∧ Aside0 (1 ≤ i ∧ i + (kq : Int) = (l0.length : Int)) ∧ Aside0 (lminGo l0 kq i m = r) ∧ Drawn0 w w')
  case atStart => exact ⟨1, rd l0 0, rfl, rfl, ⟨by have := HL.out; omega⟩, H, by repeat (first | exact Drawn0.refl _ | apply Drawn0.step)⟩
  case round =>
    clear H
    obtain ⟨i, m, rfl, rfl, HI, H, ⟨m1, rfl⟩⟩ := hrel
    obtain ⟨hi0, hi1⟩ := HI.out
    cases gk with
    | zero =>
      have hin : ¬ i < (l0.length : Int) := by omega
      have hd : decide (i < (l0.length : Int)) = false := decide_eq_false hin
      replace hin := eq_false hin
      have h := H.out
      clear H
      simp only [lminGo] at h
      subst h
      clear hx0
      go_wp2
      go_ret
      exact ⟨by first | rfl | (simp; done) | (simp [*]; done), by repeat (first | exact Drawn0.refl _ | apply Drawn0.step)⟩
    | succ d =>
      have hin : i < (l0.length : Int) := by omega
      have hd : decide (i < (l0.length : Int)) = true := decide_eq_true hin
      have h := H.out
      clear H
      simp only [lminGo] at h
      obtain ⟨ad, eb, hx⟩ := Kd.at_int HR0.out i (by omega) hin
      cases eb
      obtain ⟨x, hxx⟩ : ∃ x, rd l0 i = x := ⟨_, rfl⟩
      rw [hxx] at hx h
      have p0 : (0 ≤ i) = True := eq_true (by omega)
      have hiw2 : wrap64 (i + 1) = i + 1 := by have := HL2.out; exact wrapL (by omega)
      have hiw : IntKind.i64.wrap (i + 1) = i + 1 := (i64_w _).trans hiw2
      replace hin := eq_true hin
      clear hxx hx0
      by_cases cx : x < m
      · rw [if_pos cx] at h
        have HH := Aside0.mk h
        replace cx := eq_true cx
        clear h
        go_wp2
        go_roundg d
        case measure => omega
        case rel => exact ⟨i + 1, _, rfl, rfl, ⟨by omega⟩, HH, by repeat (first | exact Drawn0.refl _ | apply Drawn0.step)⟩
      · rw [if_neg cx] at h
        have HH := Aside0.mk h
        replace cx := eq_false cx
        clear h
        go_wp2
        go_roundg d
        case measure => omega
        case rel => exact ⟨i + 1, _, rfl, rfl, ⟨by omega⟩, HH, by repeat (first | exact Drawn0.refl _ | apply Drawn0.step)⟩

/-! ### pair_primes: function 24 -/
def pair_primes.f  : Option (List Int) := some (([2, 3, 5, 7, 11, 13] : List Int))
set_option maxHeartbeats 8000000 in
set_option maxRecDepth 100000 in
theorem pair_primes.calls  (r : List Int) (w : World) (h : pair_primes.f  = some r) :
  Calls Try.prog 24 #[] w fun e w' => ∃ v0_ : Value, e = .returned (v0_) ∧ Kd.R (Kd.int .i64) 3 w' w.heap.size (fun _ => True) v0_ r ∧ Below w.heap.size w w' := by
 have HB := A_ (Below.refl w.heap.size w)
 have H : (some (([2, 3, 5, 7, 11, 13] : List Int))) = some r := h
 clear h
 obtain ⟨y101, hy101⟩ : ∃ y_ : List Int, y_ = (([2, 3, 5, 7, 11, 13] : List Int)) := ⟨_, rfl⟩
 replace H : (some y101) = some r := by first | (rw [hy101]; with_reducible exact H) | (have H2_ := (Option.bind_some _ _).symm.trans H; rw [hy101]; with_reducible exact H2_) | (have H2_ := (Option.bind_some _ _).symm.trans H; with_reducible exact H2_) | with_reducible exact H | (rw [hy101]; exact H) | exact H
 have Ny101 := Aside0.mk hy101
 clear hy101
 obtain rfl := Option.some.inj H
 go_enter Try.func24, Try.ntmps24
 go_wp2_with (first | ((with_reducible refine gate_dst (N := 1) rfl ?_); refine Kd.R_lit (Kd.int .i64) _ 3 ?hg (N := 1) ?hd (xs := ([2, 3, 5, 7, 11, 13] : List Int)) (inner := [.int .i64 2, .int .i64 3, .int .i64 5, .int .i64 7, .int .i64 11, .int .i64 13]) (ok := fun _ => True) (okp := fun _ => True) ?hr ?hp (fun _ hk => hk) trivial (Below.refl _ _) (Nat.le_refl _) (by simp) ?_; (case hd => rfl); (case hg => rfl); (case hr => first | (go_simp; done) | (go_simp; rfl)); (case hp => exact (Reps.one (show Kd.M (Kd.int .i64) _ _ _ 2 [.int .i64 2] from rfl) (Reps.one (show Kd.M (Kd.int .i64) _ _ _ 3 [.int .i64 3] from rfl) (Reps.one (show Kd.M (Kd.int .i64) _ _ _ 5 [.int .i64 5] from rfl) (Reps.one (show Kd.M (Kd.int .i64) _ _ _ 7 [.int .i64 7] from rfl) (Reps.one (show Kd.M (Kd.int .i64) _ _ _ 11 [.int .i64 11] from rfl) (Reps.one (show Kd.M (Kd.int .i64) _ _ _ 13 [.int .i64 13] from rfl) (Reps.none _ _)))))))); intro v102 w1 ho2 hb hg_ hnew_; clear hg_ hnew_; (first | rw [← Ny101.out] at ho2 | (simp only [Int.reduceToNat] at ho2; rw [← Ny101.out] at ho2)); have n0_ := A_ (Kd.R_lower ho2 (below_size (bk_ HB.out))); have n1_ := A_ (below_step (bk_ HB.out) hb); clear HB; have HO103 := n0_; have HB := n1_; clear n0_ n1_ hb ho2))
 go_ret
 exact ⟨_, er_, rk_ HO103.out, bk_ HB.out⟩

/-! ### pair_Encode: function 8 -/
mutual
def pair_Encode.j0 : Nat → List Int → Bool → Option (Int × Int)
 | 0, _, _ => none
 | k + 1, x0, x19 => if x19 = true then (some (0, 2)) else ((pair_primes.f).bind fun t105 => (if 0 ≤ (x0.length : Int) then (if (x0.length : Int) ≤ (t105.length : Int) then ((some (t105.take ((x0.length : Int) : Int).toNat : List Int)).bind fun y108 => (pair_Encode.l0 k x0 1 y108 (y108.length : Int) 0)) else (none)) else (none)))
def pair_Encode.l0 : Nat → List Int → Int → List Int → Int → Int → Option (Int × Int)
 | 0, _, _, _, _, _ => none
 | k + 1, x0, x4, x23, x24, x25 => if x25 < x24 then (if 0 ≤ x25 then (if x25 < (x23.length : Int) then (if x25 < (x0.length : Int) then (pair_Encode.l1 k x0 x4 (rd x23 x25) x23 x24 x25 (rd x0 x25) 0) else (none)) else (none)) else (none)) else (some (x4, 0))
def pair_Encode.l1 : Nat → List Int → Int → Int → List Int → Int → Int → Int → Int → Option (Int × Int)
 | 0, _, _, _, _, _, _, _, _ => none
 | k + 1, x0, x4, x6, x23, x24, x25, x33, x34 => if x34 < x33 then (if x6 = 0 then (none) else (if x4 > (wrap64 (Int.tdiv (1152921504606846976 : Int) x6)) then (some (0, 4)) else (pair_Encode.l1 k x0 (wrap64 (x4 * x6)) x6 x23 x24 x25 x33 (wrap64 (x34 + 1))))) else (pair_Encode.l0 k x0 x4 x23 x24 (wrap64 (x25 + 1)))
end
def pair_Encode.f (k : Nat) (l0 : List Int) : Option (Int × Int) := if (l0.length : Int) < 1 then (pair_Encode.j0 k l0 true) else (if (l0.length : Int) > 6 then (pair_Encode.j0 k l0 true) else ((slices_Min_int_int.f l0).bind fun t104 => (pair_Encode.j0 k l0 (decide (t104 < 0)))))
theorem pair_Encode.mono_l : ∀ k, (∀ y0 y1, LeO (pair_Encode.j0 k y0 y1) (pair_Encode.j0 (k + 1) y0 y1)) ∧ (∀ y0 y1 y2 y3 y4, LeO (pair_Encode.l0 k y0 y1 y2 y3 y4) (pair_Encode.l0 (k + 1) y0 y1 y2 y3 y4)) ∧ (∀ y0 y1 y2 y3 y4 y5 y6 y7, LeO (pair_Encode.l1 k y0 y1 y2 y3 y4 y5 y6 y7) (pair_Encode.l1 (k + 1) y0 y1 y2 y3 y4 y5 y6 y7))
 | 0 => ⟨fun _ _ r h => by simp [pair_Encode.j0] at h, fun _ _ _ _ _ r h => by simp [pair_Encode.l0] at h, fun _ _ _ _ _ _ _ _ r h => by simp [pair_Encode.l1] at h⟩
 | k + 1 => by
  obtain ⟨ih0, ih1, ih2⟩ := pair_Encode.mono_l k
  refine ⟨?_, ?_, ?_⟩
  ·intro y0 y1
   unfold pair_Encode.j0
   repeat' first
   | (with_reducible exact ih0 _ _)
   | (with_reducible exact ih1 _ _ _ _ _)
   | (with_reducible exact ih2 _ _ _ _ _ _ _ _)
   | (with_reducible exact LeO.refl _)
   | (with_reducible exact LeO.none _)
   | (with_reducible refine LeO.ite ?_ ?_)
   | (with_reducible refine LeO.bind ?_ (fun _ => ?_))
   | exact ih0 _ _
   | exact ih1 _ _ _ _ _
   | exact ih2 _ _ _ _ _ _ _ _
   | exact LeO.none _
   | refine LeO.ite ?_ ?_
   | refine LeO.bind ?_ (fun _ => ?_)
  ·intro y0 y1 y2 y3 y4
   unfold pair_Encode.l0
   repeat' first
   | (with_reducible exact ih0 _ _)
   | (with_reducible exact ih1 _ _ _ _ _)
   | (with_reducible exact ih2 _ _ _ _ _ _ _ _)
   | (with_reducible exact LeO.refl _)
   | (with_reducible exact LeO.none _)
   | (with_reducible refine LeO.ite ?_ ?_)
   | (with_reducible refine LeO.bind ?_ (fun _ => ?_))
   | exact ih0 _ _
   | exact ih1 _ _ _ _ _
   | exact ih2 _ _ _ _ _ _ _ _
   | exact LeO.none _
   | refine LeO.ite ?_ ?_
   | refine LeO.bind ?_ (fun _ => ?_)
  ·intro y0 y1 y2 y3 y4 y5 y6 y7
   unfold pair_Encode.l1
   repeat' first
   | (with_reducible exact ih0 _ _)
   | (with_reducible exact ih1 _ _ _ _ _)
   | (with_reducible exact ih2 _ _ _ _ _ _ _ _)
   | (with_reducible exact LeO.refl _)
   | (with_reducible exact LeO.none _)
   | (with_reducible refine LeO.ite ?_ ?_)
   | (with_reducible refine LeO.bind ?_ (fun _ => ?_))
   | exact ih0 _ _
   | exact ih1 _ _ _ _ _
   | exact ih2 _ _ _ _ _ _ _ _
   | exact LeO.none _
   | refine LeO.ite ?_ ?_
   | refine LeO.bind ?_ (fun _ => ?_)
theorem pair_Encode.mono : ∀ a0 k, LeO (pair_Encode.f k a0) (pair_Encode.f (k + 1) a0) := by
 intro a0 k
 obtain ⟨ih0, ih1, ih2⟩ := pair_Encode.mono_l k
 unfold pair_Encode.f
 repeat' first
   | (with_reducible exact ih0 _ _)
   | (with_reducible exact ih1 _ _ _ _ _)
   | (with_reducible exact ih2 _ _ _ _ _ _ _ _)
   | (with_reducible exact LeO.refl _)
   | (with_reducible exact LeO.none _)
   | (with_reducible refine LeO.ite ?_ ?_)
   | (with_reducible refine LeO.bind ?_ (fun _ => ?_))
   | exact ih0 _ _
   | exact ih1 _ _ _ _ _
   | exact ih2 _ _ _ _ _ _ _ _
   | exact LeO.none _
   | refine LeO.ite ?_ ?_
   | refine LeO.bind ?_ (fun _ => ?_)
set_option maxHeartbeats 8000000 in
set_option maxRecDepth 100000 in
theorem pair_Encode.calls (k : Nat) (A0 : Option Addr) (c0 : Nat) (l0 : List Int) (r1 : Int) (r2 : Int) (w : World) (hr0 : Kd.C (Kd.int .i64) w A0 l0.length l0) (hc0 : l0.length ≤ c0) (h : pair_Encode.f k l0 = some (r1, r2)) :
  Calls Try.prog 8 #[.slice A0 l0.length c0] w fun e w' => e = .returned (.tuple #[.int .i64 r1, .int .i64 r2]) ∧ Below w.heap.size w w' := by
 have HR0 := Aside0.mk hr0
 have HC0 := Aside0.mk hc0
 clear hr0 hc0
 have HB := A_ (Below.refl w.heap.size w)
 have H : (if (l0.length : Int) < 1 then (pair_Encode.j0 k l0 true) else (if (l0.length : Int) > 6 then (pair_Encode.j0 k l0 true) else ((slices_Min_int_int.f l0).bind fun t104 => (pair_Encode.j0 k l0 (decide (t104 < 0)))))) = some (r1, r2) := h
 clear h
 have HC2 := Aside0.mk H
 clear H
 go_enter Try.func8, Try.ntmps8
 go_upto_region 1 with (fail)
 go_cut [19] (fun v19 wc => ∃ (kq : Nat) (x19_1 : Bool), v19 = .bool x19_1 ∧ Aside0 (pair_Encode.j0 kq l0 x19_1 = some (r1, r2)) ∧ Aside0 (kq ≤ k) ∧ Aside0 (Below w.heap.size w wc))
 case first =>
  have H := HC2.out
  clear HC2
  by_cases c3 : (l0.length : Int) < 1
  ·rw [if_pos c3] at H
   have c3b0 : decide ((l0.length : Int) < 1) = true := decide_eq_true c3
   have c3b1 : decide (l0.length < 1) = true := decide_eq_true (by omega)
   clear c3
   (first | rw [c3b0] | (simp only [i64_w, i32_w]; rw [c3b0]) | skip)
   have H' := Aside0.mk H
   clear H
   go_wp2
   go_meet
   case rel => exact ⟨_, (true), jr_, H', ⟨by first | omega | exact Nat.le_refl _⟩, ⟨bk_ HB.out⟩⟩
  ·rw [if_neg c3] at H
   have c3b0 : decide ((l0.length : Int) < 1) = false := decide_eq_false c3
   have c3b1 : decide (l0.length < 1) = false := decide_eq_false (by omega)
   clear c3
   (first | rw [c3b0] | (simp only [i64_w, i32_w]; rw [c3b0]) | skip)
   by_cases c4 : (l0.length : Int) > 6
   ·rw [if_pos c4] at H
    have c4b0 : decide (6 < (l0.length : Int)) = true := decide_eq_true c4
    have c4b1 : decide (6 < l0.length) = true := decide_eq_true (by omega)
    clear c4
    have H' := Aside0.mk H
    clear H
    go_wp2
    go_meet
    case rel => exact ⟨_, (true), jr_, H', ⟨by first | omega | exact Nat.le_refl _⟩, ⟨bk_ HB.out⟩⟩
   ·rw [if_neg c4] at H
    have c4b0 : decide (6 < (l0.length : Int)) = false := decide_eq_false c4
    have c4b1 : decide (6 < l0.length) = false := decide_eq_false (by omega)
    clear c4
    replace H := Option.bind_eq_some_iff.mp H
    obtain ⟨t104, A50, H⟩ := H
    replace H : (pair_Encode.j0 k l0 (decide (t104 < 0))) = some (r1, r2) := H
    have A5 := Aside0.mk A50
    clear A50
    have H' := Aside0.mk H
    clear H
    go_wp2_with (first | (go_at_call 23; (with_reducible refine (slices_Min_int_int.calls _ _ l0 t104 _ ?side1 ?side2 A5.out).mono ?_); (case side1 => exact ck_ (Kd.C_below HR0.out HB.out)); (case side2 => exact HC0.out); rintro e w' ⟨rfl, ⟨nd, rfl⟩⟩))
    go_meet
    case rel => exact ⟨_, (decide (t104 < 0)), jr_, H', ⟨by first | omega | exact Nat.le_refl _⟩, ⟨bk_ HB.out⟩⟩
 case rest =>
  clear HC2
  obtain ⟨kq, x19_1, rfl, HA, HJ1, HB⟩ := hcut
  cases kq with
  | zero => exact absurd HA.out (by simp [pair_Encode.j0])
  | succ kj1 =>
   have H := HA.out
   clear HA
   simp only [pair_Encode.j0] at H
   by_cases c6 : x19_1 = true
   ·subst c6
    have H1 : (some (0, 2)) = some (r1, r2) := by rw [if_pos rfl] at H; exact H
    clear H
    have H := H1
    clear H1
    simp only [Option.some.injEq, Prod.mk.injEq] at H
    obtain ⟨rfl, rfl⟩ := H
    go_wp2
    go_ret2
    exact ⟨er_, bk_ HB.out⟩
   ·replace c6 := Bool.eq_false_iff.mpr c6
    subst c6
    have H1 : ((pair_primes.f).bind fun t105 => (if 0 ≤ (l0.length : Int) then (if (l0.length : Int) ≤ (t105.length : Int) then ((some (t105.take ((l0.length : Int) : Int).toNat : List Int)).bind fun y108 => (pair_Encode.l0 kj1 l0 1 y108 (y108.length : Int) 0)) else (none)) else (none))) = some (r1, r2) := by rw [if_neg (show ¬ (false = true) by decide)] at H; exact H
    clear H
    have H := H1
    clear H1
    replace H := Option.bind_eq_some_iff.mp H
    obtain ⟨t105, A70, H⟩ := H
    replace H : (if 0 ≤ (l0.length : Int) then (if (l0.length : Int) ≤ (t105.length : Int) then ((some (t105.take ((l0.length : Int) : Int).toNat : List Int)).bind fun y108 => (pair_Encode.l0 kj1 l0 1 y108 (y108.length : Int) 0)) else (none)) else (none)) = some (r1, r2) := H
    have A7 := Aside0.mk A70
    clear A70
    by_cases c8 : 0 ≤ (l0.length : Int)
    ·rw [if_pos c8] at H
     have c8b0 := eq_true c8
     have c8b1 : decide (0 ≤ (l0.length : Int)) = true := decide_eq_true c8
     clear c8
     by_cases c9 : (l0.length : Int) ≤ (t105.length : Int)
     ·rw [if_pos c9] at H
      have c9b0 := eq_true c9
      have c9b1 : decide ((l0.length : Int) ≤ (t105.length : Int)) = true := decide_eq_true c9
      clear c9
      obtain ⟨y108, hy108⟩ : ∃ y_ : List Int, y_ = (t105.take ((l0.length : Int) : Int).toNat) := ⟨_, rfl⟩
      replace H : (pair_Encode.l0 kj1 l0 1 y108 (y108.length : Int) 0) = some (r1, r2) := by first | (rw [hy108]; with_reducible exact H) | (have H2_ := (Option.bind_some _ _).symm.trans H; rw [hy108]; with_reducible exact H2_) | (have H2_ := (Option.bind_some _ _).symm.trans H; with_reducible exact H2_) | with_reducible exact H | (rw [hy108]; exact H) | exact H
      have Ny108 := Aside0.mk hy108
      clear hy108
      have H' := Aside0.mk H
      clear H
      go_wp2_with (first | ((with_reducible refine gate_callee (f := 24) rfl ?_); refine goesL_ (some 20) rfl rfl Try.func24 (by kernel_rfl) rfl #[] rfl gl_ ?_; (with_reducible refine (pair_primes.calls  t105 _ A7.out).mono ?_); rintro e w10 ⟨v106, rfl, ho0, hb⟩; refine ⟨_, rfl, ?_⟩; have n0_ := A_ (Kd.R_lower ho0 (below_size (bk_ HB.out))); have n1_ := A_ (below_step (bk_ HB.out) hb); clear HB; have HO107 := n0_; have HB := n1_; clear n0_ n1_; (try clear hb); (try clear hb2); (try clear hk); (try clear hi); (try clear ho0); obtain ⟨Ao12, co12, eo12⟩ := Kd.R_slice HO107.out; subst eo12; have q11 : ((l0.length : Int) : Int) ≤ ((t105.length : Int) : Int) := od_; obtain ⟨i011, hi011, _, hsz11, _⟩ := info_parts info3; have hroom11 : t105.length ≤ co12 := (Kd.R_reads' HO107.out).2.1; have hC11 : Kd.C (Kd.int .i64) _ Ao12 t105.length t105 := (Kd.R_reads' HO107.out).2.2; have hcut11 := cut_to (P := Try.prog) 22 3 .i64 Try.underlying22 hi011 Ao12 t105.length co12 (l0.length : Int) (od_) q11 hroom11; have hr11 := Kd.C_take (m := ((l0.length : Int) : Int).toNat) hC11 (by omega); have hy11 : y108.length = ((l0.length : Int) : Int).toNat := (by rw [Ny108.out, List.length_take]; omega); rw [← Ny108.out] at hr11; rw [← hy11] at hcut11; have HR111 := Aside0.mk hr11; have HC111 := A_ (show y108.length ≤ co12 from by omega); clear hr11 hC11 hroom11 hi011 hsz11; have KY11 := Aside0.mk hy11; clear hy11; have KL11 := A_ (show ((l0.length : Int) : Int).toNat ≤ t105.length from by omega); replace q11 := eq_true q11))
      go_loopg [4, 25] kj1 (fun kq v4 v25 w' => ∃ (x4_2 : Int) (x25_2 : Int), v4 = .int .i64 x4_2 ∧ v25 = .int .i64 x25_2 ∧ Aside0 (pair_Encode.l0 kq l0 x4_2 y108 (y108.length : Int) x25_2 = some (r1, r2)) ∧ Aside0 (kq ≤ kj1) ∧ Aside0 (Kd.C (Kd.int .i64) w' Ao12 y108.length y108) ∧ Aside0 (Below w.heap.size w w'))
      case atStart => exact ⟨(1), (0), jr_, jr_, H', ⟨Nat.le_refl _⟩, ⟨by repeat (first | (with_reducible exact HR111.out) | (with_reducible refine Kd.C_alloc ?_ _) | (with_reducible refine Kd.C_drewN ?_ _) | (with_reducible refine Kd.C_drew ?_) | exact HR111.out)⟩, ⟨bk_ HB.out⟩⟩
      case round =>
       clear H'
       (try clear c6); (try clear c8); (try clear c8b0); (try clear c8b1); (try clear c9); (try clear c9b0); (try clear c9b1); (try clear q11); (try clear q11)
       obtain ⟨x4_2, x25_2, rfl, rfl, HA, HK2, HR111, HB⟩ := hrel
       cases gk with
       | zero => exact absurd HA.out (by simp [pair_Encode.l0])
       | succ k2 =>
        have H := HA.out
        clear HA
        simp only [pair_Encode.l0] at H
        by_cases c13 : x25_2 < (y108.length : Int)
        ·rw [if_pos c13] at H
         have c13b0 : decide (x25_2 < (y108.length : Int)) = true := decide_eq_true c13
         clear c13
         by_cases c14 : 0 ≤ x25_2
         ·rw [if_pos c14] at H
          have c14b0 : decide (0 ≤ x25_2) = true := decide_eq_true c14
          clear c14
          by_cases c15 : x25_2 < (y108.length : Int)
          ·rw [if_pos c15] at H
           have c15b0 : decide (x25_2 < (y108.length : Int)) = true := decide_eq_true c15
           clear c15
           by_cases c16 : x25_2 < (l0.length : Int)
           ·rw [if_pos c16] at H
            have c16b0 : decide (x25_2 < (l0.length : Int)) = true := decide_eq_true c16
            clear c16
            have H' := Aside0.mk H
            clear H
            have p112 : 0 ≤ (x25_2 : Int) := od_
            have q112 : x25_2 < (y108.length : Int) := od_
            obtain ⟨ad112, e112, hx112_0⟩ := Kd.at_int HR111.out x25_2 p112 q112
            cases e112
            replace p112 := eq_true p112
            replace q112 := eq_true q112
            have p113 : 0 ≤ (x25_2 : Int) := od_
            have q113 : x25_2 < (l0.length : Int) := od_
            obtain ⟨ad113, e113, hx113_0⟩ := Kd.at_int HR0.out x25_2 p113 q113
            cases e113
            replace hx113_0 := lf_ HB.out hx113_0
            replace p113 := eq_true p113
            replace q113 := eq_true q113
            go_wp2
            go_loopg [4, 34] k2 (fun kq v4 v34 w' => ∃ (x4_3 : Int) (x34_3 : Int), v4 = .int .i64 x4_3 ∧ v34 = .int .i64 x34_3 ∧ Aside0 (pair_Encode.l1 kq l0 x4_3 (rd y108 x25_2) y108 (y108.length : Int) x25_2 (rd l0 x25_2) x34_3 = some (r1, r2)) ∧ Aside0 (kq ≤ k2) ∧ Aside0 (Kd.C (Kd.int .i64) w' (some ad112) y108.length y108) ∧ Aside0 (Below w.heap.size w w'))
            case atStart => exact ⟨(x4_2), (0), jr_, jr_, H', ⟨Nat.le_refl _⟩, ⟨by repeat (first | (with_reducible exact HR111.out) | (with_reducible refine Kd.C_alloc ?_ _) | (with_reducible refine Kd.C_drewN ?_ _) | (with_reducible refine Kd.C_drew ?_) | exact HR111.out)⟩, ⟨bk_ HB.out⟩⟩
            case round =>
             clear H'
             (try clear c6); (try clear c8); (try clear c8b0); (try clear c8b1); (try clear c9); (try clear c9b0); (try clear c9b1); (try clear q11); (try clear c13); (try clear c13b0); (try clear c14); (try clear c14b0); (try clear c15); (try clear c15b0); (try clear c16); (try clear c16b0); (try clear hx112_0); (try clear hx113_0); (try clear p112); (try clear p113); (try clear q11); (try clear q112); (try clear q113)
             obtain ⟨x4_3, x34_3, rfl, rfl, HA, HK3, HR111, HB⟩ := hrel
             cases gk with
             | zero => exact absurd HA.out (by simp [pair_Encode.l1])
             | succ k3 =>
              have H := HA.out
              clear HA
              simp only [pair_Encode.l1] at H
              by_cases c17 : x34_3 < (rd l0 x25_2)
              ·rw [if_pos c17] at H
               have c17b0 : decide (x34_3 < (rd l0 x25_2)) = true := decide_eq_true c17
               clear c17
               by_cases c18 : (rd y108 x25_2) = 0
               ·rw [if_pos c18] at H
                exact absurd H (by simp)
               ·rw [if_neg c18] at H
                have c18b0 : ((rd y108 x25_2) == 0) = false := beq_eq_false_iff_ne.mpr c18
                have c18b1 : ((rd y108 x25_2) != 0) = true := bne_iff_ne.mpr c18
                by_cases c19 : x4_3 > (wrap64 (Int.tdiv (1152921504606846976 : Int) (rd y108 x25_2)))
                ·rw [if_pos c19] at H
                 have c19b0 : decide ((wrap64 (Int.tdiv (1152921504606846976 : Int) (rd y108 x25_2))) < x4_3) = true := decide_eq_true c19
                 clear c19
                 simp only [Option.some.injEq, Prod.mk.injEq] at H
                 obtain ⟨rfl, rfl⟩ := H
                 go_wp2
                 go_ret2
                 exact ⟨er_, bk_ HB.out⟩
                ·rw [if_neg c19] at H
                 have c19b0 : decide ((wrap64 (Int.tdiv (1152921504606846976 : Int) (rd y108 x25_2))) < x4_3) = false := decide_eq_false c19
                 clear c19
                 have H' := Aside0.mk H
                 clear H
                 go_wp2
                 go_roundg k3
                 case measure => have := HJ1.out; have := HK2.out; have := HK3.out; omega
                 case rel => exact ⟨(wrap64 (x4_3 * (rd y108 x25_2))), (wrap64 (x34_3 + 1)), jr_, jr_, H', ⟨by have := HJ1.out; have := HK2.out; have := HK3.out; omega⟩, ⟨by repeat (first | (with_reducible exact HR111.out) | (with_reducible refine Kd.C_alloc ?_ _) | (with_reducible refine Kd.C_drewN ?_ _) | (with_reducible refine Kd.C_drew ?_) | exact HR111.out)⟩, ⟨bk_ HB.out⟩⟩
              ·rw [if_neg c17] at H
               have c17b0 : decide (x34_3 < (rd l0 x25_2)) = false := decide_eq_false c17
               clear c17
               have H' := Aside0.mk H
               clear H
               go_wp2
               go_roundg k3
               case measure => have := HJ1.out; have := HK2.out; have := HK3.out; omega
               case rel => exact ⟨(x4_3), (wrap64 (x25_2 + 1)), jr_, jr_, H', ⟨by have := HJ1.out; have := HK2.out; have := HK3.out; omega⟩, ⟨by repeat (first | (with_reducible exact HR111.out) | (with_reducible refine Kd.C_alloc ?_ _) | (with_reducible refine Kd.C_drewN ?_ _) | (with_reducible refine Kd.C_drew ?_) | exact HR111.out)⟩, ⟨bk_ HB.out⟩⟩
           ·rw [if_neg c16] at H
            exact absurd H (by simp)
          ·rw [if_neg c15] at H
           exact absurd H (by simp)
         ·rw [if_neg c14] at H
          exact absurd H (by simp)
        ·rw [if_neg c13] at H
         have c13b0 : decide (x25_2 < (y108.length : Int)) = false := decide_eq_false c13
         clear c13
         simp only [Option.some.injEq, Prod.mk.injEq] at H
         obtain ⟨rfl, rfl⟩ := H
         go_wp2
         go_ret2
         exact ⟨er_, bk_ HB.out⟩
     ·rw [if_neg c9] at H
      exact absurd H (by simp)
    ·rw [if_neg c8] at H
     exact absurd H (by simp)

/-! ### pair_Decode: function 9 -/
mutual
def pair_Decode.j0 : Nat → Int → Int → Bool → Option (List Int × Int)
 | 0, _, _, _ => none
 | k + 1, x0, x1, x22 => if x22 = true then (some (([] : List Int), 2)) else (if 0 ≤ x1 then (if (x1 : Int).toNat ≤ 35184372088832 then ((pair_primes.f).bind fun t117 => (if x1 ≤ (t117.length : Int) then ((some (t117.take (x1 : Int).toNat : List Int)).bind fun y120 => (pair_Decode.l0 k x0 (List.replicate (x1 : Int).toNat 0) y120 (y120.length : Int) 0)) else (none))) else (none)) else (none))
def pair_Decode.l0 : Nat → Int → List Int → List Int → Int → Int → Option (List Int × Int)
 | 0, _, _, _, _, _ => none
 | k + 1, x0, x6, x27, x28, x29 => if x29 < x28 then (if 0 ≤ x29 then (if x29 < (x27.length : Int) then (pair_Decode.l1 k x0 x6 x29 (rd x27 x29) x27 x28 x29) else (none)) else (none)) else (if x0 = 1 then (some (x6, 0)) else (some (([] : List Int), 6)))
def pair_Decode.l1 : Nat → Int → List Int → Int → Int → List Int → Int → Int → Option (List Int × Int)
 | 0, _, _, _, _, _, _, _ => none
 | k + 1, x0, x6, x7, x8, x27, x28, x29 => if x8 = 0 then (none) else (if (Int.tmod x0 x8) = 0 then (if 0 ≤ x7 then (if x7 < (x6.length : Int) then (pair_Decode.l1 k (wrap64 (Int.tdiv x0 x8)) (x6.set (x7 : Int).toNat (wrap64 ((rd x6 x7) + 1))) x7 x8 x27 x28 x29) else (none)) else (none)) else (pair_Decode.l0 k x0 x6 x27 x28 (wrap64 (x29 + 1))))
end
def pair_Decode.f (k : Nat) (a0 : Int) (a1 : Int) : Option (List Int × Int) := if a0 < 1 then (pair_Decode.j0 k a0 a1 true) else (if a0 > 1152921504606846976 then (pair_Decode.j0 k a0 a1 true) else (if a1 < 1 then (pair_Decode.j0 k a0 a1 true) else (pair_Decode.j0 k a0 a1 (decide (a1 > 6)))))
theorem pair_Decode.mono_l : ∀ k, (∀ y0 y1 y2, LeO (pair_Decode.j0 k y0 y1 y2) (pair_Decode.j0 (k + 1) y0 y1 y2)) ∧ (∀ y0 y1 y2 y3 y4, LeO (pair_Decode.l0 k y0 y1 y2 y3 y4) (pair_Decode.l0 (k + 1) y0 y1 y2 y3 y4)) ∧ (∀ y0 y1 y2 y3 y4 y5 y6, LeO (pair_Decode.l1 k y0 y1 y2 y3 y4 y5 y6) (pair_Decode.l1 (k + 1) y0 y1 y2 y3 y4 y5 y6))
 | 0 => ⟨fun _ _ _ r h => by simp [pair_Decode.j0] at h, fun _ _ _ _ _ r h => by simp [pair_Decode.l0] at h, fun _ _ _ _ _ _ _ r h => by simp [pair_Decode.l1] at h⟩
 | k + 1 => by
  obtain ⟨ih0, ih1, ih2⟩ := pair_Decode.mono_l k
  refine ⟨?_, ?_, ?_⟩
  ·intro y0 y1 y2
   unfold pair_Decode.j0
   repeat' first
   | (with_reducible exact ih0 _ _ _)
   | (with_reducible exact ih1 _ _ _ _ _)
   | (with_reducible exact ih2 _ _ _ _ _ _ _)
   | (with_reducible exact LeO.refl _)
   | (with_reducible exact LeO.none _)
   | (with_reducible refine LeO.ite ?_ ?_)
   | (with_reducible refine LeO.bind ?_ (fun _ => ?_))
   | exact ih0 _ _ _
   | exact ih1 _ _ _ _ _
   | exact ih2 _ _ _ _ _ _ _
   | exact LeO.none _
   | refine LeO.ite ?_ ?_
   | refine LeO.bind ?_ (fun _ => ?_)
  ·intro y0 y1 y2 y3 y4
   unfold pair_Decode.l0
   repeat' first
   | (with_reducible exact ih0 _ _ _)
   | (with_reducible exact ih1 _ _ _ _ _)
   | (with_reducible exact ih2 _ _ _ _ _ _ _)
   | (with_reducible exact LeO.refl _)
   | (with_reducible exact LeO.none _)
   | (with_reducible refine LeO.ite ?_ ?_)
   | (with_reducible refine LeO.bind ?_ (fun _ => ?_))
   | exact ih0 _ _ _
   | exact ih1 _ _ _ _ _
   | exact ih2 _ _ _ _ _ _ _
   | exact LeO.none _
   | refine LeO.ite ?_ ?_
   | refine LeO.bind ?_ (fun _ => ?_)
  ·intro y0 y1 y2 y3 y4 y5 y6
   unfold pair_Decode.l1
   repeat' first
   | (with_reducible exact ih0 _ _ _)
   | (with_reducible exact ih1 _ _ _ _ _)
   | (with_reducible exact ih2 _ _ _ _ _ _ _)
   | (with_reducible exact LeO.refl _)
   | (with_reducible exact LeO.none _)
   | (with_reducible refine LeO.ite ?_ ?_)
   | (with_reducible refine LeO.bind ?_ (fun _ => ?_))
   | exact ih0 _ _ _
   | exact ih1 _ _ _ _ _
   | exact ih2 _ _ _ _ _ _ _
   | exact LeO.none _
   | refine LeO.ite ?_ ?_
   | refine LeO.bind ?_ (fun _ => ?_)
theorem pair_Decode.mono : ∀ a0 a1 k, LeO (pair_Decode.f k a0 a1) (pair_Decode.f (k + 1) a0 a1) := by
 intro a0 a1 k
 obtain ⟨ih0, ih1, ih2⟩ := pair_Decode.mono_l k
 unfold pair_Decode.f
 repeat' first
   | (with_reducible exact ih0 _ _ _)
   | (with_reducible exact ih1 _ _ _ _ _)
   | (with_reducible exact ih2 _ _ _ _ _ _ _)
   | (with_reducible exact LeO.refl _)
   | (with_reducible exact LeO.none _)
   | (with_reducible refine LeO.ite ?_ ?_)
   | (with_reducible refine LeO.bind ?_ (fun _ => ?_))
   | exact ih0 _ _ _
   | exact ih1 _ _ _ _ _
   | exact ih2 _ _ _ _ _ _ _
   | exact LeO.none _
   | refine LeO.ite ?_ ?_
   | refine LeO.bind ?_ (fun _ => ?_)
set_option maxHeartbeats 8000000 in
set_option maxRecDepth 100000 in
theorem pair_Decode.calls (k : Nat) (a0 : Int) (a1 : Int) (r1 : List Int) (r2 : Int) (w : World) (h : pair_Decode.f k a0 a1 = some (r1, r2)) :
  Calls Try.prog 9 #[.int .i64 a0, .int .i64 a1] w fun e w' => ∃ v0_ : Value, e = .returned (.tuple #[v0_, .int .i64 r2]) ∧ Kd.R (Kd.int .i64) 3 w' w.heap.size (fun _ => True) v0_ r1 ∧ Below w.heap.size w w' := by
 have HB := A_ (Below.refl w.heap.size w)
 have H : (if a0 < 1 then (pair_Decode.j0 k a0 a1 true) else (if a0 > 1152921504606846976 then (pair_Decode.j0 k a0 a1 true) else (if a1 < 1 then (pair_Decode.j0 k a0 a1 true) else (pair_Decode.j0 k a0 a1 (decide (a1 > 6)))))) = some (r1, r2) := h
 clear h
 have HC3 := Aside0.mk H
 clear H
 go_enter Try.func9, Try.ntmps9
 go_upto_region 1 with (fail)
 go_cut [22] (fun v22 wc => ∃ (kq : Nat) (x22_2 : Bool), v22 = .bool x22_2 ∧ Aside0 (pair_Decode.j0 kq a0 a1 x22_2 = some (r1, r2)) ∧ Aside0 (kq ≤ k) ∧ Aside0 (Below w.heap.size w wc))
 case first =>
  have H := HC3.out
  clear HC3
  by_cases c4 : a0 < 1
  ·rw [if_pos c4] at H
   have c4b0 : decide (a0 < 1) = true := decide_eq_true c4
   clear c4
   (first | rw [c4b0] | (simp only [i64_w, i32_w]; rw [c4b0]) | skip)
   have H' := Aside0.mk H
   clear H
   go_wp2
   go_meet
   case rel => exact ⟨_, (true), jr_, H', ⟨by first | omega | exact Nat.le_refl _⟩, ⟨bk_ HB.out⟩⟩
  ·rw [if_neg c4] at H
   have c4b0 : decide (a0 < 1) = false := decide_eq_false c4
   clear c4
   (first | rw [c4b0] | (simp only [i64_w, i32_w]; rw [c4b0]) | skip)
   by_cases c5 : a0 > 1152921504606846976
   ·rw [if_pos c5] at H
    have c5b0 : decide (1152921504606846976 < a0) = true := decide_eq_true c5
    clear c5
    have H' := Aside0.mk H
    clear H
    go_wp2
    go_meet
    case rel => exact ⟨_, (true), jr_, H', ⟨by first | omega | exact Nat.le_refl _⟩, ⟨bk_ HB.out⟩⟩
   ·rw [if_neg c5] at H
    have c5b0 : decide (1152921504606846976 < a0) = false := decide_eq_false c5
    clear c5
    by_cases c6 : a1 < 1
    ·rw [if_pos c6] at H
     have c6b0 : decide (a1 < 1) = true := decide_eq_true c6
     clear c6
     have H' := Aside0.mk H
     clear H
     go_wp2
     go_meet
     case rel => exact ⟨_, (true), jr_, H', ⟨by first | omega | exact Nat.le_refl _⟩, ⟨bk_ HB.out⟩⟩
    ·rw [if_neg c6] at H
     have c6b0 : decide (a1 < 1) = false := decide_eq_false c6
     clear c6
     have H' := Aside0.mk H
     clear H
     go_wp2
     go_meet
     case rel => exact ⟨_, (decide (a1 > 6)), jr_, H', ⟨by first | omega | exact Nat.le_refl _⟩, ⟨bk_ HB.out⟩⟩
 case rest =>
  clear HC3
  obtain ⟨kq, x22_2, rfl, HA, HJ2, HB⟩ := hcut
  cases kq with
  | zero => exact absurd HA.out (by simp [pair_Decode.j0])
  | succ kj2 =>
   have H := HA.out
   clear HA
   simp only [pair_Decode.j0] at H
   by_cases c7 : x22_2 = true
   ·subst c7
    have H1 : (some (([] : List Int), 2)) = some (r1, r2) := by rw [if_pos rfl] at H; exact H
    clear H
    have H := H1
    clear H1
    simp only [Option.some.injEq, Prod.mk.injEq] at H
    obtain ⟨rfl, rfl⟩ := H
    go_wp2
    go_ret2
    exact ⟨_, er_, by first | exact Kd.R_nil _ _ _ _ _ | exact Kd.N_nil _ _ _ _ _ | exact Kd.V_nil _ _ _ _ _ | exact Kd.Q_nil _ _ _ _ _ | exact Kd.S_nil _ _ _ _ _, bk_ HB.out⟩
   ·replace c7 := Bool.eq_false_iff.mpr c7
    subst c7
    have H1 : (if 0 ≤ a1 then (if (a1 : Int).toNat ≤ 35184372088832 then ((pair_primes.f).bind fun t117 => (if a1 ≤ (t117.length : Int) then ((some (t117.take (a1 : Int).toNat : List Int)).bind fun y120 => (pair_Decode.l0 kj2 a0 (List.replicate (a1 : Int).toNat 0) y120 (y120.length : Int) 0)) else (none))) else (none)) else (none)) = some (r1, r2) := by rw [if_neg (show ¬ (false = true) by decide)] at H; exact H
    clear H
    have H := H1
    clear H1
    by_cases c8 : 0 ≤ a1
    ·rw [if_pos c8] at H
     have c8b0 := eq_true c8
     have c8b1 : decide (0 ≤ a1) = true := decide_eq_true c8
     clear c8
     by_cases c9 : (a1 : Int).toNat ≤ 35184372088832
     ·rw [if_pos c9] at H
      have c9b0 := eq_true c9
      have c9b1 : decide ((a1 : Int).toNat ≤ 35184372088832) = true := decide_eq_true c9
      clear c9
      obtain ⟨y114, hy114⟩ : ∃ y_ : List Int, y_ = (List.replicate (a1 : Int).toNat 0) := ⟨_, rfl⟩
      replace H : ((pair_primes.f).bind fun t117 => (if a1 ≤ (t117.length : Int) then ((some (t117.take (a1 : Int).toNat : List Int)).bind fun y120 => (pair_Decode.l0 kj2 a0 y114 y120 (y120.length : Int) 0)) else (none))) = some (r1, r2) := by first | (rw [hy114]; with_reducible exact H) | (have H2_ := (Option.bind_some _ _).symm.trans H; rw [hy114]; with_reducible exact H2_) | (have H2_ := (Option.bind_some _ _).symm.trans H; with_reducible exact H2_) | with_reducible exact H | (rw [hy114]; exact H) | exact H
      have Ny114 := Aside0.mk hy114
      clear hy114
      replace H := Option.bind_eq_some_iff.mp H
      obtain ⟨t117, A100, H⟩ := H
      replace H : (if a1 ≤ (t117.length : Int) then ((some (t117.take (a1 : Int).toNat : List Int)).bind fun y120 => (pair_Decode.l0 kj2 a0 y114 y120 (y120.length : Int) 0)) else (none)) = some (r1, r2) := H
      have A10 := Aside0.mk A100
      clear A100
      have c11b0 := eq_true (od_ : 0 ≤ a1)
      by_cases c12 : a1 ≤ (t117.length : Int)
      ·rw [if_pos c12] at H
       have c12b0 := eq_true c12
       have c12b1 : decide (a1 ≤ (t117.length : Int)) = true := decide_eq_true c12
       clear c12
       obtain ⟨y120, hy120⟩ : ∃ y_ : List Int, y_ = (t117.take (a1 : Int).toNat) := ⟨_, rfl⟩
       replace H : (pair_Decode.l0 kj2 a0 y114 y120 (y120.length : Int) 0) = some (r1, r2) := by first | (rw [hy120]; with_reducible exact H) | (have H2_ := (Option.bind_some _ _).symm.trans H; rw [hy120]; with_reducible exact H2_) | (have H2_ := (Option.bind_some _ _).symm.trans H; with_reducible exact H2_) | with_reducible exact H | (rw [hy120]; exact H) | exact H
       have Ny120 := Aside0.mk hy120
       clear hy120
       have H' := Aside0.mk H
       clear H
       go_wp2_with (first | ((with_reducible refine gate_dst (N := 24) rfl ?_); refine Kd.R_make (Kd.int .i64) _ 3 rfl (N := 24) rfl 22 _ _ rfl a1 rfl rfl Try.underlying22 (.int .i64 0) 8 info3 rfl (by decide) (by omega) 0 (ok := fun _ => True) (okp := fun _ => True) rfl (fun _ hk => hk) trivial (od_) (Nat.le_trans (Nat.mul_le_mul_right _ (od_ : a1.toNat ≤ 35184372088832)) (by omega)) (Below.refl _ _) (Nat.le_refl _) ?_; intro v115 w13 ho14 hb hg_ hnew_; clear hg_ hnew_; (first | rw [← Ny114.out] at ho14 | (simp only [Int.reduceToNat] at ho14; rw [← Ny114.out] at ho14)); have n0_ := A_ (Kd.R_lower ho14 (below_size (bk_ HB.out))); have n1_ := A_ (below_step (bk_ HB.out) hb); clear HB; have HO116 := n0_; have HB := n1_; clear n0_ n1_ hb ho14) | ((with_reducible refine gate_callee (f := 24) rfl ?_); refine goesL_ (some 25) rfl rfl Try.func24 (by kernel_rfl) rfl #[] rfl gl_ ?_; (with_reducible refine (pair_primes.calls  t117 _ A10.out).mono ?_); rintro e w15 ⟨v118, rfl, ho0, hb⟩; refine ⟨_, rfl, ?_⟩; have n0_ := A_ (Kd.R_elder' (rk_ HO116.out) (Kd.R_base ho0) hb); have n1_ := A_ (Kd.R_lower (Kd.R_new' ho0 (Kd.R_lt (rk_ HO116.out))) (below_size (bk_ HB.out))); have n2_ := A_ (below_step (bk_ HB.out) hb); clear HO116 HB; have HO116 := n0_; have HO119 := n1_; have HB := n2_; clear n0_ n1_ n2_; (try clear hb); (try clear hb2); (try clear hk); (try clear hi); (try clear ho0); obtain ⟨Ao17, co17, eo17⟩ := Kd.R_slice HO119.out; subst eo17; have q16 : (a1 : Int) ≤ ((t117.length : Int) : Int) := od_; obtain ⟨i016, hi016, _, hsz16, _⟩ := info_parts info3; have hroom16 : t117.length ≤ co17 := (Kd.R_reads' HO119.out).2.1; have hC16 : Kd.C (Kd.int .i64) _ Ao17 t117.length t117 := (Kd.R_reads' HO119.out).2.2; have hcut16 := cut_to (P := Try.prog) 22 3 .i64 Try.underlying22 hi016 Ao17 t117.length co17 a1 (od_) q16 hroom16; have hr16 := Kd.C_take (m := (a1 : Int).toNat) hC16 (by omega); have hy16 : y120.length = (a1 : Int).toNat := (by rw [Ny120.out, List.length_take]; omega); rw [← Ny120.out] at hr16; rw [← hy16] at hcut16; have HR123 := Aside0.mk hr16; have HCK := Aside0.mk (fun W' (hk_ : Kept w15 W' (fun k => (v115 : Value).ownBlock = some k)) => (show Kd.C (Kd.int .i64) W' _ y120.length y120 from (by have h_ := Kd.C_take (m := (a1 : Int).toNat) (Kd.C_kept_own HO119.out (fun k hk he => hk.2 he.symm) W' hk_) (by omega); rw [← Ny120.out] at h_; exact h_))); have HC123 := A_ (show y120.length ≤ co17 from by omega); clear hr16 hC16 hroom16 hi016 hsz16; have KY16 := Aside0.mk hy16; clear hy16; have KL16 := A_ (show (a1 : Int).toNat ≤ t117.length from by omega); replace q16 := eq_true q16))
       go_loopg [0, 29] kj2 (fun kq v0 v29 w' => ∃ (x0_2 : Int) (x6_2 : List Int) (x29_2 : Int), v0 = .int .i64 x0_2 ∧ v29 = .int .i64 x29_2 ∧ Aside0 (pair_Decode.l0 kq x0_2 x6_2 y120 (y120.length : Int) x29_2 = some (r1, r2)) ∧ Aside0 (kq ≤ kj2) ∧ Aside0 (Kd.R (Kd.int .i64) 3 w' w.heap.size (fun _ => True) v115 x6_2) ∧ Aside0 (Below w.heap.size w w') ∧ Aside0 (Kept w15 w' (fun k => (v115 : Value).ownBlock = some k)))
       case atStart => exact ⟨(a0), (y114), (0), jr_, jr_, H', ⟨Nat.le_refl _⟩, ⟨by (with_reducible repeat (first | apply Kd.R_alloc | apply Kd.R_drewN | apply Kd.R_drew)); exact Kd.R_mono HO116.out (fun _ hk => trivial)⟩, ⟨bk_ HB.out⟩, ⟨Kept.refl _ _⟩⟩
       case round =>
        clear H'
        (try clear c7); (try clear c8); (try clear c8b0); (try clear c8b1); (try clear c9); (try clear c9b0); (try clear c9b1); (try clear c11b0); (try clear c12); (try clear c12b0); (try clear c12b1); (try clear q16); (try clear q16)
        obtain ⟨x0_2, x6_2, x29_2, rfl, rfl, HA, HK2, HO_6, HB, HKP⟩ := hrel
        cases gk with
        | zero => exact absurd HA.out (by simp [pair_Decode.l0])
        | succ k2 =>
         have H := HA.out
         clear HA
         simp only [pair_Decode.l0] at H
         by_cases c18 : x29_2 < (y120.length : Int)
         ·rw [if_pos c18] at H
          have c18b0 : decide (x29_2 < (y120.length : Int)) = true := decide_eq_true c18
          clear c18
          by_cases c19 : 0 ≤ x29_2
          ·rw [if_pos c19] at H
           have c19b0 : decide (0 ≤ x29_2) = true := decide_eq_true c19
           clear c19
           by_cases c20 : x29_2 < (y120.length : Int)
           ·rw [if_pos c20] at H
            have c20b0 : decide (x29_2 < (y120.length : Int)) = true := decide_eq_true c20
            clear c20
            have H' := Aside0.mk H
            clear H
            have p124 : 0 ≤ (x29_2 : Int) := od_
            have q124 : x29_2 < (y120.length : Int) := od_
            obtain ⟨ad124, e124, hx124_0⟩ := Kd.at_int (HCK.out _ HKP.out) x29_2 p124 q124
            cases e124
            replace p124 := eq_true p124
            replace q124 := eq_true q124
            go_wp2
            go_loopg [0] k2 (fun kq v0 w' => ∃ (x0_3 : Int) (x6_3 : List Int), v0 = .int .i64 x0_3 ∧ Aside0 (pair_Decode.l1 kq x0_3 x6_3 x29_2 (rd y120 x29_2) y120 (y120.length : Int) x29_2 = some (r1, r2)) ∧ Aside0 (kq ≤ k2) ∧ Aside0 (Kd.R (Kd.int .i64) 3 w' w.heap.size (fun _ => True) v115 x6_3) ∧ Aside0 (Below w.heap.size w w') ∧ Aside0 (Kept w15 w' (fun k => (v115 : Value).ownBlock = some k)))
            case atStart => exact ⟨(x0_2), (x6_2), jr_, H', ⟨Nat.le_refl _⟩, ⟨rk_ HO_6.out⟩, ⟨bk_ HB.out⟩, ⟨HKP.out⟩⟩
            case round =>
             clear H'
             (try clear c7); (try clear c8); (try clear c8b0); (try clear c8b1); (try clear c9); (try clear c9b0); (try clear c9b1); (try clear c11b0); (try clear c12); (try clear c12b0); (try clear c12b1); (try clear q16); (try clear c18); (try clear c18b0); (try clear c19); (try clear c19b0); (try clear c20); (try clear c20b0); (try clear hx124_0); (try clear p124); (try clear q124); (try clear q16)
             obtain ⟨x0_3, x6_3, rfl, HA, HK3, HO_6, HB, HKP⟩ := hrel
             cases gk with
             | zero => exact absurd HA.out (by simp [pair_Decode.l1])
             | succ k3 =>
              have H := HA.out
              clear HA
              simp only [pair_Decode.l1] at H
              by_cases c21 : (rd y120 x29_2) = 0
              ·rw [if_pos c21] at H
               exact absurd H (by simp)
              ·rw [if_neg c21] at H
               have c21b0 : ((rd y120 x29_2) == 0) = false := beq_eq_false_iff_ne.mpr c21
               have c21b1 : ((rd y120 x29_2) != 0) = true := bne_iff_ne.mpr c21
               by_cases c22 : (Int.tmod x0_3 (rd y120 x29_2)) = 0
               ·rw [if_pos c22] at H
                have c22b0 : ((Int.tmod x0_3 (rd y120 x29_2)) == 0) = true := beq_iff_eq.mpr c22
                have c22b1 : ((Int.tmod x0_3 (rd y120 x29_2)) != 0) = false := bne_eq_false_iff_eq.mpr c22
                clear c22
                by_cases c23 : 0 ≤ x29_2
                ·rw [if_pos c23] at H
                 have c23b0 : decide (0 ≤ x29_2) = true := decide_eq_true c23
                 clear c23
                 by_cases c24 : x29_2 < (x6_3.length : Int)
                 ·rw [if_pos c24] at H
                  have c24b0 : decide (x29_2 < (x6_3.length : Int)) = true := decide_eq_true c24
                  clear c24
                  obtain ⟨y126, hy126⟩ : ∃ y_ : List Int, y_ = (x6_3.set (x29_2 : Int).toNat (wrap64 ((rd x6_3 x29_2) + 1))) := ⟨_, rfl⟩
                  replace H : (pair_Decode.l1 k3 (wrap64 (Int.tdiv x0_3 (rd y120 x29_2))) y126 x29_2 (rd y120 x29_2) y120 (y120.length : Int) x29_2) = some (r1, r2) := by first | (rw [hy126]; with_reducible exact H) | (have H2_ := (Option.bind_some _ _).symm.trans H; rw [hy126]; with_reducible exact H2_) | (have H2_ := (Option.bind_some _ _).symm.trans H; with_reducible exact H2_) | with_reducible exact H | (rw [hy126]; exact H) | exact H
                  have Ny126 := Aside0.mk hy126
                  clear hy126
                  have H' := Aside0.mk H
                  clear H
                  obtain ⟨Ao26, co26, eo26⟩ := Kd.R_slice HO_6.out
                  subst eo26
                  have p125 : 0 ≤ (x29_2 : Int) := od_
                  have q125 : x29_2 < (x6_3.length : Int) := od_
                  obtain ⟨ad125, e125, hx125_0⟩ := Kd.at_int (Kd.R_reads' HO_6.out).2.2 x29_2 p125 q125
                  cases e125
                  replace p125 := eq_true p125
                  replace q125 := eq_true q125
                  have p25 : 0 ≤ (x29_2 : Int) := od_
                  have q25 : (x29_2 : Int) < ((x6_3.length : Int) : Int) := od_
                  obtain ⟨go25, co25, eo25, gb25, gl25, cl25, HG25⟩ := Kd.R_form HO_6.out (by omega)
                  (first | cases eo25 | (injection eo25 with ea_ en_ ec_; (first | subst ea_ | (injection ea_ with ea_; subst ea_)); subst ec_; clear en_))
                  have GB25 := Aside0.mk gb25
                  have GG25 := Aside0.mk HG25
                  clear gb25 gl25 HG25
                  (first | simp only [add_plain] at hx125_0 | skip)
                  obtain ⟨hx25_0, hf25_0⟩ := Kd.R_celln 0 HO_6.out (x29_2 : Int) p25 q25
                  replace p25 := eq_true p25
                  replace q25 := eq_true q25
                  have HP27 := Kd.R_putg HO_6.out (x29_2 : Int) (wrap64 ((rd x6_3 x29_2) + 1))
                  go_wp2_with (first | ((with_reducible refine gate_store (t := 3) (p := 46) rfl ?_); refine store_event (t := 3) (p := 46) (v := ?vo_w28) (w1 := (wr.setCell ⟨go25, (x29_2 : Int).toNat, none⟩ (.int .i64 (wrap64 ((rd x6_3 x29_2) + 1))))) ?hg ?ho ?hn ?hr ?_; (case ho => rfl); (case hg => rfl); (case hn => rfl); (case hr => first | (go_simp; done) | (go_simp; rfl)); intro w28 hw; have hg : wr.grownBy w28 (some go25) := (by rw [hw]; exact HP27.2); have hp_ : Kd.R (Kd.int .i64) 3 w28 w.heap.size (fun _ => True) (.slice (some ⟨go25, 0, none⟩) x6_3.length co26) y126 := (by rw [hw, Ny126.out]; exact HP27.1); clear HP27; have n0_ := A_ (hp_); have n1_ := A_ ((by rw [hw]; exact below_set (HB.out) GB25.out : Below w.heap.size w w28)); have n9_ := A_ ((by rw [hw]; exact HKP.out.setCell (.inl (by simp [Value.ownBlock])) _ : Kept w15 w28 (fun k => (Value.slice (some ⟨go25, 0, none⟩) x6_3.length co26).ownBlock = some k))); clear HKP; have HKP := n9_; clear n9_; clear HO_6 HB; have HO_6 := n0_; have HB := n1_; clear n0_ n1_ hg hw hp_))
                  go_roundg k3
                  case measure => have := HJ2.out; have := HK2.out; have := HK3.out; omega
                  case rel => exact ⟨(wrap64 (Int.tdiv x0_3 (rd y120 x29_2))), (y126), jr_, H', ⟨by have := HJ2.out; have := HK2.out; have := HK3.out; omega⟩, ⟨rk_ HO_6.out⟩, ⟨bk_ HB.out⟩, ⟨HKP.out⟩⟩
                 ·rw [if_neg c24] at H
                  exact absurd H (by simp)
                ·rw [if_neg c23] at H
                 exact absurd H (by simp)
               ·rw [if_neg c22] at H
                have c22b0 : ((Int.tmod x0_3 (rd y120 x29_2)) == 0) = false := beq_eq_false_iff_ne.mpr c22
                have c22b1 : ((Int.tmod x0_3 (rd y120 x29_2)) != 0) = true := bne_iff_ne.mpr c22
                have H' := Aside0.mk H
                clear H
                go_wp2
                go_roundg k3
                case measure => have := HJ2.out; have := HK2.out; have := HK3.out; omega
                case rel => exact ⟨(x0_3), (x6_3), (wrap64 (x29_2 + 1)), jr_, jr_, H', ⟨by have := HJ2.out; have := HK2.out; have := HK3.out; omega⟩, ⟨rk_ HO_6.out⟩, ⟨bk_ HB.out⟩, ⟨HKP.out⟩⟩
           ·rw [if_neg c20] at H
            exact absurd H (by simp)
          ·rw [if_neg c19] at H
           exact absurd H (by simp)
         ·rw [if_neg c18] at H
          have c18b0 : decide (x29_2 < (y120.length : Int)) = false := decide_eq_false c18
          clear c18
          by_cases c29 : x0_2 = 1
          ·rw [if_pos c29] at H
           have c29b0 : (x0_2 == 1) = true := beq_iff_eq.mpr c29
           have c29b1 : (x0_2 != 1) = false := bne_eq_false_iff_eq.mpr c29
           clear c29
           simp only [Option.some.injEq, Prod.mk.injEq] at H
           obtain ⟨rfl, rfl⟩ := H
           go_wp2
           go_ret2
           exact ⟨_, er_, rk_ HO_6.out, bk_ HB.out⟩
          ·rw [if_neg c29] at H
           have c29b0 : (x0_2 == 1) = false := beq_eq_false_iff_ne.mpr c29
           have c29b1 : (x0_2 != 1) = true := bne_iff_ne.mpr c29
           simp only [Option.some.injEq, Prod.mk.injEq] at H
           obtain ⟨rfl, rfl⟩ := H
           go_wp2
           go_ret2
           exact ⟨_, er_, by first | exact Kd.R_nil _ _ _ _ _ | exact Kd.N_nil _ _ _ _ _ | exact Kd.V_nil _ _ _ _ _ | exact Kd.Q_nil _ _ _ _ _ | exact Kd.S_nil _ _ _ _ _, bk_ HB.out⟩
      ·rw [if_neg c12] at H
       exact absurd H (by simp)
     ·rw [if_neg c9] at H
      exact absurd H (by simp)
    ·rw [if_neg c8] at H
     exact absurd H (by simp)

end Go.Proofs.Ytkbekdjoaibhbaa.PPairRuns
