/- The statement BlockParts: the law standstill's standstill/standstilllaw05.BlockParts answers true for every input and leaves its arguments as they were, by the walk of its code and the plain law YtcdejoaekkcknaaPureBlockParts. No condition. -/
import Derived.Test.YtcdejoaekkcknaaRows
import Derived.Test.YtcdejoaekkcknaaPBlockPartsx8
import Derived.Test.YtcdejoaekkcknaaPureBlockParts
import Derived.Test.YtcdejoaekkcknaaWOpen
import Derived.WalkKit
import Derived.ProofKit
import Derived.OpenShut
import Derived.ShutString
import Derived.ChangeOld
import Derived.Below
import Derived.SizedLaws
namespace Go.Proofs.Ytcdejoaekkcknaa.blockParts
open Go.ChangeShapes Go.WideShapes Go.ChangeAt Go.RowKit Go.Proofs.Ytcdejoaekkcknaa.PBlockParts Go.Proofs.YtcdejoaekkcknaaWOpen Go.Proofs.YtcdejoaekkcknaaW.PrintWords
open Go.ChangeMaps (open_string shut_string)
set_option linter.unusedVariables false
theorem own : ownKnob Try.prog.godebug = none := by kernel_rfl
theorem laidOut : laidOutB Try.prog = true := by kernel_rfl
theorem opens_T57 {H : Type} {enc : TypeId × Value → H} {W : World} : Opens enc Try.prog W 57 k57 inv57 := by
  intro fuel cs x h hw
  obtain ⟨hl, hf⟩ := trod_fields Try.underlying57 h hw
  have hl' : cs.length = 3 := hl.trans (by kernel_rfl)
  obtain ⟨v0, v1, v2, rfl⟩ : ∃ v0 v1 v2, cs = [v0, v1, v2] := by
    clear hf h hw
    match cs, hl' with
    | [v0, v1, v2], _ => exact ⟨v0, v1, v2, rfl⟩
  obtain ⟨n0, y0, h0, w0⟩ := hf 0 _ rfl
  obtain ⟨a0, K0, I0⟩ := (opens_int Try.underlying3) n0 [v0] y0 (by have e : Try.prog.cellsOf 3 = 1 := (by kernel_rfl); simpa [e] using h0) w0
  injection K0 with e0 _
  subst e0
  obtain ⟨n1, y1, h1, w1⟩ := hf 1 _ rfl
  obtain ⟨a1, K1, I1⟩ := (opens_int Try.underlying3) n1 [v1] y1 (by have e : Try.prog.cellsOf 3 = 1 := (by kernel_rfl); simpa [e] using h1) w1
  injection K1 with e1 _
  subst e1
  obtain ⟨n2, y2, h2, w2⟩ := hf 2 _ rfl
  obtain ⟨a2, K2, I2⟩ := (opens_int Try.underlying3) n2 [v2] y2 (by have e : Try.prog.cellsOf 3 = 1 := (by kernel_rfl); simpa [e] using h2) w2
  injection K2 with e2 _
  subst e2
  exact ⟨⟨a0, a1, a2⟩, k57_mk W ⟨a0, a1, a2⟩, I0, I1, I2⟩
theorem opens_T24 {H : Type} {enc : TypeId × Value → H} {W : World} : Opens enc Try.prog W 24 k24 inv24 := by
  intro fuel cs x h hw
  obtain ⟨hl, hf⟩ := trod_fields Try.underlying24 h hw
  have hl' : cs.length = 3 := hl.trans (by kernel_rfl)
  obtain ⟨v0, v1, v2, rfl⟩ : ∃ v0 v1 v2, cs = [v0, v1, v2] := by
    clear hf h hw
    match cs, hl' with
    | [v0, v1, v2], _ => exact ⟨v0, v1, v2, rfl⟩
  obtain ⟨n0, y0, h0, w0⟩ := hf 0 _ rfl
  obtain ⟨a0, K0, I0⟩ := (opens_int Try.underlying3) n0 [v0] y0 (by have e : Try.prog.cellsOf 3 = 1 := (by kernel_rfl); simpa [e] using h0) w0
  injection K0 with e0 _
  subst e0
  obtain ⟨n1, y1, h1, w1⟩ := hf 1 _ rfl
  obtain ⟨a1, K1, I1⟩ := (opens_int Try.underlying3) n1 [v1] y1 (by have e : Try.prog.cellsOf 3 = 1 := (by kernel_rfl); simpa [e] using h1) w1
  injection K1 with e1 _
  subst e1
  obtain ⟨n2, y2, h2, w2⟩ := hf 2 _ rfl
  obtain ⟨a2, K2, I2⟩ := (opens_slice (B := 24) Try.underlying22 (opens_slice (B := 24) Try.underlying54 opens_T57 (by kernel_rfl) (by kernel_rfl)) (by kernel_rfl) (by kernel_rfl)) n2 [v2] y2 (by have e : Try.prog.cellsOf 22 = 1 := (by kernel_rfl); simpa [e] using h2) w2
  obtain ⟨A2, c2, e2, L2, G2⟩ := K2
  injection e2 with e2 _
  subst e2
  exact ⟨⟨a0, a1, a2⟩, k24_mk W ⟨a0, a1, a2⟩ L2 G2, I0, I1, I2⟩
set_option maxRecDepth 100000 in
theorem lifted (os : Os) (started : os.Started) (H : Type) (enc : TypeId × Value → H) :
    ReturnsInHanded {} Try.checked os 4 .any (Rows.blockPartsSpec.pre6 enc Try.prog Try.f4 Rows.blockPartsRow.domain false) (Rows.blockPartsSpec.post enc Try.prog Try.f4 false true false false) := by
  refine returnsInHanded_of_change_sized (C := Try.checked) own started (by kernel_rfl) Try.func4
    (ChangeSpec.witness6 (enc := enc) (C := Try.checked) false ⟨#[], #[.agg #[.int .i64 0, .int .i64 0, .slice none 0 0], .int .i64 0, .int .i64 0, .slice none 0 0, .int .u8 0], []⟩ 8 (by kernel_rfl) (by kernel_rfl) (by kernel_rfl) (by kernel_rfl)) ?_
  intro W base args ds gs before hval0 hW hcnd hsz0 _
  have hsz : (DataW.weightsEach Try.prog (Try.f4.params.toList ++ Rows.blockPartsSpec.plain.varTypes Try.prog) (ds ++ gs)).all (· ≤ reachBytes) = true := hsz0
  have hval : ∀ (j : Nat) t v, Try.f4.params[j]? = some t → args[j]? = some v → Value.okWide Try.prog W .any base t v := hval0
  have hW' := hW
  obtain ⟨p, q, hA0, hV, rfl, hfz, hnd⟩ := hW
  have hA : DataW.TrodAll enc Try.prog W 0 (fun _ => true) true Try.f4.params.toList args.toList ds p := hA0
  rw [Try.params4] at hA hval hsz
  obtain ⟨v0, vs0, d0, ds0, p0, q0, hargs, rfl, rfl, h0, r0⟩ := trodAll_cons hA
  obtain ⟨v1, vs1, d1, ds1, p1, q1, rfl, rfl, rfl, h1, r1⟩ := trodAll_cons r0
  obtain ⟨v2, vs2, d2, ds2, p2, q2, rfl, rfl, rfl, h2, r2⟩ := trodAll_cons r1
  obtain ⟨v3, vs3, d3, ds3, p3, q3, rfl, rfl, rfl, h3, r3⟩ := trodAll_cons r2
  obtain ⟨v4, vs4, d4, ds4, p4, q4, rfl, rfl, rfl, h4, r4⟩ := trodAll_cons r3
  obtain ⟨rfl, rfl, rfl⟩ := trodAll_nil r4
  obtain rfl : args = #[v0, v1, v2, v3, v4] := by cases args; simp_all
  obtain ⟨rfl, rfl⟩ := trodVars_none hV
  have k0 := h0
  have lt0 : ∀ x ∈ p0, x.block < W.heap.size := by obtain ⟨m, hm⟩ := k0; exact DataW.trod_lt m _ _ _ hm
  have wt0 : ∀ m ∈ d0.weights Try.prog 24, m ≤ reachBytes := fun m hm => by simpa using List.all_eq_true.1 hsz m (DataW.weights_mem_each (j := 0) (t := 24) rfl rfl m hm)
  obtain ⟨fuel0, hf0⟩ := h0
  obtain ⟨cs0, rfl, -⟩ := okWide_struct Try.underlying24 (hval 0 24 v0 rfl rfl)
  obtain ⟨x0, K0, I0⟩ := opens_T24 fuel0 _ _ hf0 wt0
  obtain ⟨A0_2, c0_2, e0, L0_2, G0_2⟩ := k24_open K0
  have e0' : cs0 = #[.int .i64 x0.f0, .int .i64 x0.f1, .slice A0_2 x0.f2.length c0_2] := by have := congrArg List.toArray e0; simpa [Value.cells] using this
  subst e0'
  clear e0 hf0
  obtain ⟨I0_0, I0_1, I0_2⟩ := I0
  obtain ⟨a1, rfl, rfl, rfl, w1⟩ := open_int Try.underlying3 (hval 1 3 v1 rfl rfl) h1
  obtain ⟨a2, rfl, rfl, rfl, w2⟩ := open_int Try.underlying3 (hval 2 3 v2 rfl rfl) h2
  have k3 := h3
  have lt3 : ∀ x ∈ p3, x.block < W.heap.size := by obtain ⟨m, hm⟩ := k3; exact DataW.trod_lt m _ _ _ hm
  have wt3 : ∀ m ∈ d3.weights Try.prog 25, m ≤ reachBytes := fun m hm => by simpa using List.all_eq_true.1 hsz m (DataW.weights_mem_each (j := 3) (t := 25) rfl rfl m hm)
  obtain ⟨fuel3, hf3⟩ := h3
  obtain ⟨x3, len3, cap3, rfl⟩ := okWide_slice Try.underlying25 (hval 3 25 v3 rfl rfl)
  obtain ⟨l3, K3, I3⟩ := (opens_slice (B := 8) Try.underlying25 (opens_int Try.underlying3) (by kernel_rfl) (by kernel_rfl)) fuel3 _ _ hf3 wt3
  obtain ⟨A3, c3, e3, L3, G3⟩ := K3
  have e3' : (Value.slice x3 len3 cap3) = .slice A3 l3.length c3 := by simpa [Value.cells] using e3
  rw [e3'] at hW' k3 ⊢
  clear e3 e3' hf3
  obtain ⟨a4, rfl, rfl, rfl, w4⟩ := open_int Try.underlying5 (hval 4 5 v4 rfl rfl) h4
  clear hA0 hval0 hsz0 hsz
  obtain ⟨k_, hk_⟩ := Pure.BlockParts x0.f0 x0.f1 x0.f2 a1 a2 l3 a4 I0_0 I0_1 I0_2 w1 w2 I3 w4
  refine (standstilllaw05_BlockParts.calls k_ x0.f0 x0.f1 A0_2 c0_2 x0.f2 a1 a2 A3 c3 l3 a4 true W G0_2 L0_2 G3 L3 hk_).mono fun e W' ⟨he, bel0⟩ => ?_
  have bel : Below W.heap.size W W' := bel0
  clear bel0
  subst he
  exact ⟨_, rfl, _, _, _, [], _, [], hW', trodAll_mk1 (shut_bool Try.underlying4 _), (trodAll_cons_mk (Below.trod laidOut (by kernel_rfl) (of_decide_eq_true (by kernel_rfl)) k0 bel lt0) (trodAll_cons_mk (shut_int Try.underlying3 w1) (trodAll_cons_mk (shut_int Try.underlying3 w2) (trodAll_cons_mk (Below.trod laidOut (by kernel_rfl) (of_decide_eq_true (by kernel_rfl)) k3 bel lt3) (trodAll_cons_mk (shut_int Try.underlying5 w4) trodAll_mk0))))), rfl, bel.frame _, fun h => by cases h⟩
theorem over : Rows.blockPartsRow.holds Try.pinned (OpenSpec.ofChange Rows.blockPartsSpec) :=
  OpenClaim.holds_of_wide 4 Try.f4 rfl rfl rfl rfl rfl rfl rfl ⟨rfl, rfl, rfl, rfl, rfl⟩ rfl rfl rfl rfl rfl (by kernel_rfl) Try.func4 (by kernel_rfl)
    (of_decide_eq_true (by kernel_rfl)) (by unfold Func.isWrapper; first | (rw [if_pos (by decide +kernel)]; kernel_rfl) | (rw [if_neg (by decide +kernel)]; exact ⟨rfl, rfl⟩))
    (fun os started H enc _ => lifted os started H enc)
theorem proved : Rows.BlockPartsSaid := over
#print axioms proved
end Go.Proofs.Ytcdejoaekkcknaa.blockParts
namespace Go.Proofs.Ytcdejoaekkcknaa
/-- The row, under a short name, for the claim. -/
theorem blockParts_holds : Rows.BlockPartsSaid := blockParts.proved
end Go.Proofs.Ytcdejoaekkcknaa
