/- The statement PairRuns: the law standstill's standstill/standstilllaw08.PairRuns answers true for every input and leaves its arguments as they were, by the walk of its code and the plain law YtkbekdjoaibhbaaPurePairRuns. No condition. -/
import Derived.Test.YtkbekdjoaibhbaaRows
import Derived.Test.YtkbekdjoaibhbaaPPairRunsx15
import Derived.Test.YtkbekdjoaibhbaaPurePairRuns
import Derived.Test.YtkbekdjoaibhbaaTWOpen
import Derived.WalkKit
import Derived.ProofKit
import Derived.OpenShut
import Derived.ShutString
import Derived.ChangeOld
import Derived.Below
import Derived.SizedLaws
namespace Go.Proofs.Ytkbekdjoaibhbaa.pairRuns
open Go.ChangeShapes Go.WideShapes Go.ChangeAt Go.RowKit Go.Proofs.Ytkbekdjoaibhbaa.PPairRuns Go.Proofs.YtkbekdjoaibhbaaWOpen Go.Proofs.YtkbekdjoaibhbaaW.PrintWords
open Go.ChangeMaps (open_string shut_string)
set_option linter.unusedVariables false
theorem own : ownKnob Try.prog.godebug = none := by kernel_rfl
theorem laidOut : laidOutB Try.prog = true := by kernel_rfl
theorem opens_T45 {H : Type} {enc : TypeId × Value → H} {W : World} : Opens enc Try.prog W 45 k45 inv45 := by
  intro fuel cs x h hw
  obtain ⟨hl, hf⟩ := trod_fields Try.underlying45 h hw
  have hl' : cs.length = 4 := hl.trans (by kernel_rfl)
  obtain ⟨v0, v1, v2, v3, rfl⟩ : ∃ v0 v1 v2 v3, cs = [v0, v1, v2, v3] := by
    clear hf h hw
    match cs, hl' with
    | [v0, v1, v2, v3], _ => exact ⟨v0, v1, v2, v3, rfl⟩
  obtain ⟨n0, y0, h0, w0⟩ := hf 0 _ rfl
  obtain ⟨a0, K0, I0⟩ := (opens_int Try.underlying3) n0 [v0] y0 (by have e : Try.prog.cellsOf 3 = 1 := (by kernel_rfl); simpa [e] using h0) w0
  injection K0 with e0 _
  subst e0
  obtain ⟨n1, y1, h1, w1⟩ := hf 1 _ rfl
  obtain ⟨a1, K1, I1⟩ := (opens_int Try.underlying3) n1 [v1] y1 (by have e : Try.prog.cellsOf 3 = 1 := (by kernel_rfl); simpa [e] using h1) w1
  injection K1 with e1 _
  subst e1
  obtain ⟨n2, y2, h2, w2⟩ := hf 2 _ rfl
  obtain ⟨a2, K2, I2⟩ := (opens_int Try.underlying3) n2 [v2] y2 (by have e : Try.prog.cellsOf 3 = 1 := (by kernel_rfl); simpa [e] using h2) w2
  injection K2 with e2 _
  subst e2
  obtain ⟨n3, y3, h3, w3⟩ := hf 3 _ rfl
  obtain ⟨a3, K3, I3⟩ := (opens_int Try.underlying3) n3 [v3] y3 (by have e : Try.prog.cellsOf 3 = 1 := (by kernel_rfl); simpa [e] using h3) w3
  injection K3 with e3 _
  subst e3
  exact ⟨⟨a0, a1, a2, a3⟩, k45_mk W ⟨a0, a1, a2, a3⟩, I0, I1, I2, I3⟩
theorem opens_T38 {H : Type} {enc : TypeId × Value → H} {W : World} : Opens enc Try.prog W 38 k38 inv38 := by
  intro fuel cs x h hw
  obtain ⟨hl, hf⟩ := trod_fields Try.underlying38 h hw
  have hl' : cs.length = 2 := hl.trans (by kernel_rfl)
  obtain ⟨v0, v1, rfl⟩ : ∃ v0 v1, cs = [v0, v1] := by
    clear hf h hw
    match cs, hl' with
    | [v0, v1], _ => exact ⟨v0, v1, rfl⟩
  obtain ⟨n0, y0, h0, w0⟩ := hf 0 _ rfl
  obtain ⟨a0, K0, I0⟩ := (opens_int Try.underlying3) n0 [v0] y0 (by have e : Try.prog.cellsOf 3 = 1 := (by kernel_rfl); simpa [e] using h0) w0
  injection K0 with e0 _
  subst e0
  obtain ⟨n1, y1, h1, w1⟩ := hf 1 _ rfl
  obtain ⟨a1, K1, I1⟩ := (opens_slice (B := 32) Try.underlying36 opens_T45 (by kernel_rfl) (by kernel_rfl)) n1 [v1] y1 (by have e : Try.prog.cellsOf 36 = 1 := (by kernel_rfl); simpa [e] using h1) w1
  obtain ⟨A1, c1, e1, L1, G1⟩ := K1
  injection e1 with e1 _
  subst e1
  exact ⟨⟨a0, a1⟩, k38_mk W ⟨a0, a1⟩ L1 G1, I0, I1⟩
set_option maxRecDepth 100000 in
theorem lifted (os : Os) (started : os.Started) (H : Type) (enc : TypeId × Value → H) :
    ReturnsInHanded {} Try.checked os 6 .any (Rows.pairRunsSpec.pre6 enc Try.prog Try.f6 Rows.pairRunsRow.domain false) (Rows.pairRunsSpec.post enc Try.prog Try.f6 false true false false) := by
  refine returnsInHanded_of_change_sized (C := Try.checked) own started (by kernel_rfl) Try.func6
    (ChangeSpec.witness6 (enc := enc) (C := Try.checked) false ⟨#[], #[.agg #[.int .i64 0, .slice none 0 0], .slice none 0 0, .int .u8 0], []⟩ 8 (by kernel_rfl) (by kernel_rfl) (by kernel_rfl) (by kernel_rfl)) ?_
  intro W base args ds gs before hval0 hW hcnd hsz0 _
  have hsz : (DataW.weightsEach Try.prog (Try.f6.params.toList ++ Rows.pairRunsSpec.plain.varTypes Try.prog) (ds ++ gs)).all (· ≤ reachBytes) = true := hsz0
  have hval : ∀ (j : Nat) t v, Try.f6.params[j]? = some t → args[j]? = some v → Value.okWide Try.prog W .any base t v := hval0
  have hW' := hW
  obtain ⟨p, q, hA0, hV, rfl, hfz, hnd⟩ := hW
  have hA : DataW.TrodAll enc Try.prog W 0 (fun _ => true) true Try.f6.params.toList args.toList ds p := hA0
  rw [Try.params6] at hA hval hsz
  obtain ⟨v0, vs0, d0, ds0, p0, q0, hargs, rfl, rfl, h0, r0⟩ := trodAll_cons hA
  obtain ⟨v1, vs1, d1, ds1, p1, q1, rfl, rfl, rfl, h1, r1⟩ := trodAll_cons r0
  obtain ⟨v2, vs2, d2, ds2, p2, q2, rfl, rfl, rfl, h2, r2⟩ := trodAll_cons r1
  obtain ⟨rfl, rfl, rfl⟩ := trodAll_nil r2
  obtain rfl : args = #[v0, v1, v2] := by cases args; simp_all
  obtain ⟨rfl, rfl⟩ := trodVars_none hV
  have k0 := h0
  have lt0 : ∀ x ∈ p0, x.block < W.heap.size := by obtain ⟨m, hm⟩ := k0; exact DataW.trod_lt m _ _ _ hm
  have wt0 : ∀ m ∈ d0.weights Try.prog 38, m ≤ reachBytes := fun m hm => by simpa using List.all_eq_true.1 hsz m (DataW.weights_mem_each (j := 0) (t := 38) rfl rfl m hm)
  obtain ⟨fuel0, hf0⟩ := h0
  obtain ⟨cs0, rfl, -⟩ := okWide_struct Try.underlying38 (hval 0 38 v0 rfl rfl)
  obtain ⟨x0, K0, I0⟩ := opens_T38 fuel0 _ _ hf0 wt0
  obtain ⟨A0_1, c0_1, e0, L0_1, G0_1⟩ := k38_open K0
  have e0' : cs0 = #[.int .i64 x0.f0, .slice A0_1 x0.f1.length c0_1] := by have := congrArg List.toArray e0; simpa [Value.cells] using this
  subst e0'
  clear e0 hf0
  obtain ⟨I0_0, I0_1⟩ := I0
  have k1 := h1
  have lt1 : ∀ x ∈ p1, x.block < W.heap.size := by obtain ⟨m, hm⟩ := k1; exact DataW.trod_lt m _ _ _ hm
  have wt1 : ∀ m ∈ d1.weights Try.prog 22, m ≤ reachBytes := fun m hm => by simpa using List.all_eq_true.1 hsz m (DataW.weights_mem_each (j := 1) (t := 22) rfl rfl m hm)
  obtain ⟨fuel1, hf1⟩ := h1
  obtain ⟨x1, len1, cap1, rfl⟩ := okWide_slice Try.underlying22 (hval 1 22 v1 rfl rfl)
  obtain ⟨l1, K1, I1⟩ := (opens_slice (B := 8) Try.underlying22 (opens_int Try.underlying3) (by kernel_rfl) (by kernel_rfl)) fuel1 _ _ hf1 wt1
  obtain ⟨A1, c1, e1, L1, G1⟩ := K1
  have e1' : (Value.slice x1 len1 cap1) = .slice A1 l1.length c1 := by simpa [Value.cells] using e1
  rw [e1'] at hW' k1 ⊢
  clear e1 e1' hf1
  obtain ⟨a2, rfl, rfl, rfl, w2⟩ := open_int Try.underlying5 (hval 2 5 v2 rfl rfl) h2
  clear hA0 hval0 hsz0 hsz
  obtain ⟨k_, hk_⟩ := Pure.PairRuns x0.f0 x0.f1 l1 a2 I0_0 I0_1 I1 w2
  refine (standstilllaw08_PairRuns.calls k_ x0.f0 A0_1 c0_1 x0.f1 A1 c1 l1 a2 true W G0_1 L0_1 G1 L1 hk_).mono fun e W' ⟨he, bel0⟩ => ?_
  have bel : Below W.heap.size W W' := bel0
  clear bel0
  subst he
  exact ⟨_, rfl, _, _, _, [], _, [], hW', trodAll_mk1 (shut_bool Try.underlying4 _), (trodAll_cons_mk (Below.trod laidOut (by kernel_rfl) (of_decide_eq_true (by kernel_rfl)) k0 bel lt0) (trodAll_cons_mk (Below.trod laidOut (by kernel_rfl) (of_decide_eq_true (by kernel_rfl)) k1 bel lt1) (trodAll_cons_mk (shut_int Try.underlying5 w2) trodAll_mk0))), rfl, bel.frame _, fun h => by cases h⟩
theorem over : Rows.pairRunsRow.holds Try.pinned (OpenSpec.ofChange Rows.pairRunsSpec) :=
  OpenClaim.holds_of_wide 6 Try.f6 rfl rfl rfl rfl rfl rfl rfl ⟨rfl, rfl, rfl, rfl, rfl⟩ rfl rfl rfl rfl rfl (by kernel_rfl) Try.func6 (by kernel_rfl)
    (of_decide_eq_true (by kernel_rfl)) (by unfold Func.isWrapper; first | (rw [if_pos (by decide +kernel)]; kernel_rfl) | (rw [if_neg (by decide +kernel)]; exact ⟨rfl, rfl⟩))
    (fun os started H enc _ => lifted os started H enc)
theorem proved : Rows.PairRunsSaid := over
#print axioms proved
end Go.Proofs.Ytkbekdjoaibhbaa.pairRuns
namespace Go.Proofs.Ytkbekdjoaibhbaa
/-- The row, under a short name, for the claim. -/
theorem pairRuns_holds : Rows.PairRunsSaid := pairRuns.proved
end Go.Proofs.Ytkbekdjoaibhbaa
