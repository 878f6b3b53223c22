/- The statement LeapLong: the law standstill's standstill/standstilllaw04.LeapLong answers true for every input and leaves its arguments as they were, by the walk of its code and the plain law YtdkcociababjdaaPureLeapLong. No condition. -/
import Derived.Test.YtdkcociababjdaaRows
import Derived.Test.YtdkcociababjdaaPLeapLongx11
import Derived.Test.YtdkcociababjdaaPureLeapLong
import Derived.Test.YtdkcociababjdaaTWOpen
import Derived.WalkKit
import Derived.ProofKit
import Derived.OpenShut
import Derived.ShutString
import Derived.ChangeOld
import Derived.Below
import Derived.SizedLaws
namespace Go.Proofs.Ytdkcociababjdaa.leapLong
open Go.ChangeShapes Go.WideShapes Go.ChangeAt Go.RowKit Go.Proofs.Ytdkcociababjdaa.PLeapLong Go.Proofs.YtdkcociababjdaaWOpen Go.Proofs.YtdkcociababjdaaW.PrintWords
open Go.ChangeMaps (open_string shut_string)
set_option linter.unusedVariables false
theorem own : ownKnob Try.prog.godebug = none := by kernel_rfl
theorem laidOut : laidOutB Try.prog = true := by kernel_rfl
theorem opens_T37 {H : Type} {enc : TypeId × Value → H} {W : World} : Opens enc Try.prog W 37 k37 inv37 := by
  intro fuel cs x h hw
  obtain ⟨hl, hf⟩ := trod_fields Try.underlying37 h hw
  have hl' : cs.length = 3 := hl.trans (by kernel_rfl)
  obtain ⟨v0, v1, v2, rfl⟩ : ∃ v0 v1 v2, cs = [v0, v1, v2] := by
    clear hf h hw
    match cs, hl' with
    | [v0, v1, v2], _ => exact ⟨v0, v1, v2, rfl⟩
  obtain ⟨n0, y0, h0, w0⟩ := hf 0 _ rfl
  obtain ⟨a0, K0, I0⟩ := (opens_int Try.underlying3) n0 [v0] y0 (by have e : Try.prog.cellsOf 3 = 1 := (by kernel_rfl); simpa [e] using h0) w0
  injection K0 with e0 _
  subst e0
  obtain ⟨n1, y1, h1, w1⟩ := hf 1 _ rfl
  obtain ⟨a1, K1, I1⟩ := (opens_int Try.underlying3) n1 [v1] y1 (by have e : Try.prog.cellsOf 3 = 1 := (by kernel_rfl); simpa [e] using h1) w1
  injection K1 with e1 _
  subst e1
  obtain ⟨n2, y2, h2, w2⟩ := hf 2 _ rfl
  obtain ⟨a2, K2, I2⟩ := (opens_int Try.underlying3) n2 [v2] y2 (by have e : Try.prog.cellsOf 3 = 1 := (by kernel_rfl); simpa [e] using h2) w2
  injection K2 with e2 _
  subst e2
  exact ⟨⟨a0, a1, a2⟩, k37_mk W ⟨a0, a1, a2⟩, I0, I1, I2⟩
theorem opens_T24 {H : Type} {enc : TypeId × Value → H} {W : World} : Opens enc Try.prog W 24 k24 inv24 := by
  intro fuel cs x h hw
  obtain ⟨hl, hf⟩ := trod_fields Try.underlying24 h hw
  have hl' : cs.length = 3 := hl.trans (by kernel_rfl)
  obtain ⟨v0, v1, v2, rfl⟩ : ∃ v0 v1 v2, cs = [v0, v1, v2] := by
    clear hf h hw
    match cs, hl' with
    | [v0, v1, v2], _ => exact ⟨v0, v1, v2, rfl⟩
  obtain ⟨n0, y0, h0, w0⟩ := hf 0 _ rfl
  obtain ⟨a0, K0, I0⟩ := (opens_int Try.underlying3) n0 [v0] y0 (by have e : Try.prog.cellsOf 3 = 1 := (by kernel_rfl); simpa [e] using h0) w0
  injection K0 with e0 _
  subst e0
  obtain ⟨n1, y1, h1, w1⟩ := hf 1 _ rfl
  obtain ⟨a1, K1, I1⟩ := (opens_int Try.underlying3) n1 [v1] y1 (by have e : Try.prog.cellsOf 3 = 1 := (by kernel_rfl); simpa [e] using h1) w1
  injection K1 with e1 _
  subst e1
  obtain ⟨n2, y2, h2, w2⟩ := hf 2 _ rfl
  obtain ⟨a2, K2, I2⟩ := (opens_slice (B := 24) Try.underlying22 (opens_slice (B := 24) Try.underlying38 opens_T37 (by kernel_rfl) (by kernel_rfl)) (by kernel_rfl) (by kernel_rfl)) n2 [v2] y2 (by have e : Try.prog.cellsOf 22 = 1 := (by kernel_rfl); simpa [e] using h2) w2
  obtain ⟨A2, c2, e2, L2, G2⟩ := K2
  injection e2 with e2 _
  subst e2
  exact ⟨⟨a0, a1, a2⟩, k24_mk W ⟨a0, a1, a2⟩ L2 G2, I0, I1, I2⟩
theorem opens_T75 {H : Type} {enc : TypeId × Value → H} {W : World} : Opens enc Try.prog W 75 k75 inv75 := by
  intro fuel cs x h hw
  obtain ⟨hl, hf⟩ := trod_fields Try.underlying75 h hw
  have hl' : cs.length = 2 := hl.trans (by kernel_rfl)
  obtain ⟨v0, v1, rfl⟩ : ∃ v0 v1, cs = [v0, v1] := by
    clear hf h hw
    match cs, hl' with
    | [v0, v1], _ => exact ⟨v0, v1, rfl⟩
  obtain ⟨n0, y0, h0, w0⟩ := hf 0 _ rfl
  obtain ⟨a0, K0, I0⟩ := (opens_int Try.underlying3) n0 [v0] y0 (by have e : Try.prog.cellsOf 3 = 1 := (by kernel_rfl); simpa [e] using h0) w0
  injection K0 with e0 _
  subst e0
  obtain ⟨n1, y1, h1, w1⟩ := hf 1 _ rfl
  obtain ⟨a1, K1, I1⟩ := (opens_int Try.underlying3) n1 [v1] y1 (by have e : Try.prog.cellsOf 3 = 1 := (by kernel_rfl); simpa [e] using h1) w1
  injection K1 with e1 _
  subst e1
  exact ⟨⟨a0, a1⟩, k75_mk W ⟨a0, a1⟩, I0, I1⟩
theorem opens_T27 {H : Type} {enc : TypeId × Value → H} {W : World} : Opens enc Try.prog W 27 k27 inv27 := by
  intro fuel cs x h hw
  obtain ⟨hl, hf⟩ := trod_fields Try.underlying27 h hw
  have hl' : cs.length = 5 := hl.trans (by kernel_rfl)
  obtain ⟨v0, v1, v2, v3, v4, rfl⟩ : ∃ v0 v1 v2 v3 v4, cs = [v0, v1, v2, v3, v4] := by
    clear hf h hw
    match cs, hl' with
    | [v0, v1, v2, v3, v4], _ => exact ⟨v0, v1, v2, v3, v4, rfl⟩
  obtain ⟨n0, y0, h0, w0⟩ := hf 0 _ rfl
  obtain ⟨a0, K0, I0⟩ := (opens_int Try.underlying3) n0 [v0] y0 (by have e : Try.prog.cellsOf 3 = 1 := (by kernel_rfl); simpa [e] using h0) w0
  injection K0 with e0 _
  subst e0
  obtain ⟨n1, y1, h1, w1⟩ := hf 1 _ rfl
  obtain ⟨a1, K1, I1⟩ := (opens_int Try.underlying3) n1 [v1] y1 (by have e : Try.prog.cellsOf 3 = 1 := (by kernel_rfl); simpa [e] using h1) w1
  injection K1 with e1 _
  subst e1
  obtain ⟨n2, y2, h2, w2⟩ := hf 2 _ rfl
  obtain ⟨a2, K2, I2⟩ := (opens_int Try.underlying3) n2 [v2] y2 (by have e : Try.prog.cellsOf 3 = 1 := (by kernel_rfl); simpa [e] using h2) w2
  injection K2 with e2 _
  subst e2
  obtain ⟨n3, y3, h3, w3⟩ := hf 3 _ rfl
  obtain ⟨a3, K3, I3⟩ := (opens_slice (B := 16) Try.underlying25 opens_T75 (by kernel_rfl) (by kernel_rfl)) n3 [v3] y3 (by have e : Try.prog.cellsOf 25 = 1 := (by kernel_rfl); simpa [e] using h3) w3
  obtain ⟨A3, c3, e3, L3, G3⟩ := K3
  injection e3 with e3 _
  subst e3
  obtain ⟨n4, y4, h4, w4⟩ := hf 4 _ rfl
  obtain ⟨a4, K4, I4⟩ := (opens_slice (B := 16) Try.underlying25 opens_T75 (by kernel_rfl) (by kernel_rfl)) n4 [v4] y4 (by have e : Try.prog.cellsOf 25 = 1 := (by kernel_rfl); simpa [e] using h4) w4
  obtain ⟨A4, c4, e4, L4, G4⟩ := K4
  injection e4 with e4 _
  subst e4
  exact ⟨⟨a0, a1, a2, a3, a4⟩, k27_mk W ⟨a0, a1, a2, a3, a4⟩ L3 G3 L4 G4, I0, I1, I2, I3, I4⟩
set_option maxRecDepth 100000 in
theorem lifted (os : Os) (started : os.Started) (H : Type) (enc : TypeId × Value → H) :
    ReturnsInHanded {} Try.checked os 3 .any (Rows.leapLongSpec.pre6 enc Try.prog Try.f3 Rows.leapLongRow.domain false) (Rows.leapLongSpec.post enc Try.prog Try.f3 false true false false) := by
  refine returnsInHanded_of_change_sized (C := Try.checked) own started (by kernel_rfl) Try.func3
    (ChangeSpec.witness6 (enc := enc) (C := Try.checked) false ⟨#[], #[.agg #[.int .i64 0, .int .i64 0, .slice none 0 0], .agg #[.int .i64 0, .int .i64 0, .int .i64 0, .slice none 0 0, .slice none 0 0], .int .u64 0], []⟩ 8 (by kernel_rfl) (by kernel_rfl) (by kernel_rfl) (by kernel_rfl)) ?_
  intro W base args ds gs before hval0 hW hcnd hsz0 _
  have hsz : (DataW.weightsEach Try.prog (Try.f3.params.toList ++ Rows.leapLongSpec.plain.varTypes Try.prog) (ds ++ gs)).all (· ≤ reachBytes) = true := hsz0
  have hval : ∀ (j : Nat) t v, Try.f3.params[j]? = some t → args[j]? = some v → Value.okWide Try.prog W .any base t v := hval0
  have hW' := hW
  obtain ⟨p, q, hA0, hV, rfl, hfz, hnd⟩ := hW
  have hA : DataW.TrodAll enc Try.prog W 0 (fun _ => true) true Try.f3.params.toList args.toList ds p := hA0
  rw [Try.params3] at hA hval hsz
  obtain ⟨v0, vs0, d0, ds0, p0, q0, hargs, rfl, rfl, h0, r0⟩ := trodAll_cons hA
  obtain ⟨v1, vs1, d1, ds1, p1, q1, rfl, rfl, rfl, h1, r1⟩ := trodAll_cons r0
  obtain ⟨v2, vs2, d2, ds2, p2, q2, rfl, rfl, rfl, h2, r2⟩ := trodAll_cons r1
  obtain ⟨rfl, rfl, rfl⟩ := trodAll_nil r2
  obtain rfl : args = #[v0, v1, v2] := by cases args; simp_all
  obtain ⟨rfl, rfl⟩ := trodVars_none hV
  have k0 := h0
  have lt0 : ∀ x ∈ p0, x.block < W.heap.size := by obtain ⟨m, hm⟩ := k0; exact DataW.trod_lt m _ _ _ hm
  have wt0 : ∀ m ∈ d0.weights Try.prog 24, m ≤ reachBytes := fun m hm => by simpa using List.all_eq_true.1 hsz m (DataW.weights_mem_each (j := 0) (t := 24) rfl rfl m hm)
  obtain ⟨fuel0, hf0⟩ := h0
  obtain ⟨cs0, rfl, -⟩ := okWide_struct Try.underlying24 (hval 0 24 v0 rfl rfl)
  obtain ⟨x0, K0, I0⟩ := opens_T24 fuel0 _ _ hf0 wt0
  obtain ⟨A0_2, c0_2, e0, L0_2, G0_2⟩ := k24_open K0
  have e0' : cs0 = #[.int .i64 x0.f0, .int .i64 x0.f1, .slice A0_2 x0.f2.length c0_2] := by have := congrArg List.toArray e0; simpa [Value.cells] using this
  subst e0'
  clear e0 hf0
  obtain ⟨I0_0, I0_1, I0_2⟩ := I0
  have k1 := h1
  have lt1 : ∀ x ∈ p1, x.block < W.heap.size := by obtain ⟨m, hm⟩ := k1; exact DataW.trod_lt m _ _ _ hm
  have wt1 : ∀ m ∈ d1.weights Try.prog 27, m ≤ reachBytes := fun m hm => by simpa using List.all_eq_true.1 hsz m (DataW.weights_mem_each (j := 1) (t := 27) rfl rfl m hm)
  obtain ⟨fuel1, hf1⟩ := h1
  obtain ⟨cs1, rfl, -⟩ := okWide_struct Try.underlying27 (hval 1 27 v1 rfl rfl)
  obtain ⟨x1, K1, I1⟩ := opens_T27 fuel1 _ _ hf1 wt1
  obtain ⟨A1_3, c1_3, A1_4, c1_4, e1, L1_3, G1_3, L1_4, G1_4⟩ := k27_open K1
  have e1' : cs1 = #[.int .i64 x1.f0, .int .i64 x1.f1, .int .i64 x1.f2, .slice A1_3 x1.f3.length c1_3, .slice A1_4 x1.f4.length c1_4] := by have := congrArg List.toArray e1; simpa [Value.cells] using this
  subst e1'
  clear e1 hf1
  obtain ⟨I1_0, I1_1, I1_2, I1_3, I1_4⟩ := I1
  obtain ⟨a2, rfl, rfl, rfl, w2⟩ := open_int Try.underlying28 (hval 2 28 v2 rfl rfl) h2
  clear hA0 hval0 hsz0 hsz
  obtain ⟨k_, hk_⟩ := Pure.LeapLong x0.f0 x0.f1 x0.f2 x1.f0 x1.f1 x1.f2 x1.f3 x1.f4 a2 I0_0 I0_1 I0_2 I1_0 I1_1 I1_2 I1_3 I1_4 w2
  refine (standstilllaw04_LeapLong.calls k_ x0.f0 x0.f1 A0_2 c0_2 x0.f2 x1.f0 x1.f1 x1.f2 A1_3 c1_3 x1.f3 A1_4 c1_4 x1.f4 a2 true W G0_2 L0_2 G1_3 L1_3 G1_4 L1_4 hk_).mono fun e W' ⟨he, bel0⟩ => ?_
  have bel : Below W.heap.size W W' := bel0
  clear bel0
  subst he
  exact ⟨_, rfl, _, _, _, [], _, [], hW', trodAll_mk1 (shut_bool Try.underlying4 _), (trodAll_cons_mk (Below.trod laidOut (by kernel_rfl) (of_decide_eq_true (by kernel_rfl)) k0 bel lt0) (trodAll_cons_mk (Below.trod laidOut (by kernel_rfl) (of_decide_eq_true (by kernel_rfl)) k1 bel lt1) (trodAll_cons_mk (shut_int Try.underlying28 w2) trodAll_mk0))), rfl, bel.frame _, fun h => by cases h⟩
theorem over : Rows.leapLongRow.holds Try.pinned (OpenSpec.ofChange Rows.leapLongSpec) :=
  OpenClaim.holds_of_wide 3 Try.f3 rfl rfl rfl rfl rfl rfl rfl ⟨rfl, rfl, rfl, rfl, rfl⟩ rfl rfl rfl rfl rfl (by kernel_rfl) Try.func3 (by kernel_rfl)
    (of_decide_eq_true (by kernel_rfl)) (by unfold Func.isWrapper; first | (rw [if_pos (by decide +kernel)]; kernel_rfl) | (rw [if_neg (by decide +kernel)]; exact ⟨rfl, rfl⟩))
    (fun os started H enc _ => lifted os started H enc)
theorem proved : Rows.LeapLongSaid := over
#print axioms proved
end Go.Proofs.Ytdkcociababjdaa.leapLong
namespace Go.Proofs.Ytdkcociababjdaa
/-- The row, under a short name, for the claim. -/
theorem leapLong_holds : Rows.LeapLongSaid := leapLong.proved
end Go.Proofs.Ytdkcociababjdaa
