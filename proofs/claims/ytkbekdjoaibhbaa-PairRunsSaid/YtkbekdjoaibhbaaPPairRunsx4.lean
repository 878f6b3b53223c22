-- out of a turned copy of the print, by a program of this session; Lean checks it
import Derived.Test.YtkbekdjoaibhbaaPPairRunsx0
namespace Go.Proofs.Ytkbekdjoaibhbaa.PPairRuns
open Go.RowKit Go.Proofs.YtkbekdjoaibhbaaW.PrintWords Go.Proofs.YtkbekdjoaibhbaaW.PrintLast Go.Proofs.YtkbekdjoaibhbaaW.PrintMore
attribute [local go_sem] max2_int min2_int max_two min_two max_three min_three max_four min_four   -- for this text's walks alone
set_option linter.unusedVariables false
set_option linter.unusedSimpArgs false

attribute [local go_sem] isSome_put_
/-! ### pair.maker (by hand) -/
def IsMk (w : World) (base : Nat) (S : Nat → Prop) (g : Nat) (l : List S45) : Prop := base ≤ g ∧ S g ∧ ∃ v, w.heap[g]? = some (.cells #[v] 60 (0, 0)) ∧ Kd.R k45 45 w base (fun k => S k ∧ k ≠ g) v l
theorem IsMk.drewN {w : World} {base : Nat} {S : Nat → Prop} {g : Nat} {l : List S45} (h : IsMk w base S g l) (m : Nat) : IsMk (w.drewN m) base S g l := by
  obtain ⟨a, b, v, c, d⟩ := h
  exact ⟨a, b, v, c, Kd.R_drewN d _⟩
theorem IsMk.below {w w' : World} {base : Nat} {S : Nat → Prop} {g : Nat} {l : List S45} (h : IsMk w base S g l) (hb : Below w.heap.size w w') : IsMk w' base S g l := by
  obtain ⟨a, b, v, c, d⟩ := h
  exact ⟨a, b, v, blk_below c hb, Kd.R_below d hb⟩
theorem IsMk.mono {w : World} {base : Nat} {S S' : Nat → Prop} {g : Nat} {l : List S45} (h : IsMk w base S g l) (hs : ∀ k, S k → S' k) : IsMk w base S' g l := by
  obtain ⟨a, b, v, c, d⟩ := h
  exact ⟨a, hs _ b, v, c, Kd.R_mono d (fun k hk => ⟨hs k hk.1, hk.2⟩)⟩
theorem IsMk.shrink {w : World} {base : Nat} {S : Nat → Prop} {g : Nat} {l : List S45} (h : IsMk w base S g l) : IsMk w base (fun k => S k ∧ base ≤ k ∧ k < w.heap.size) g l := by
  obtain ⟨a, b, v, c, d⟩ := h
  exact ⟨a, ⟨b, a, blk_lt c⟩, v, c, Kd.R_mono (Kd.R_bound d) (fun k hk => ⟨⟨hk.1.1, hk.2.1, hk.2.2.1⟩, hk.1.2⟩)⟩
theorem IsMk.kept {w w' : World} {base : Nat} {S S2 : Nat → Prop} {g : Nat} {l : List S45} (h : IsMk w base S g l) (hk : Kept w w' S2) (hd : ∀ k, S k → ¬ S2 k) : IsMk w' base S g l := by
  obtain ⟨a, b, v, c, d⟩ := h
  exact ⟨a, b, v, blk_kept c hk (hd g b), Kd.R_kept d hk (fun k hk => hd k hk.1)⟩
def MkW (w0 w w' : World) (base : Nat) (S : Nat → Prop) (g : Nat) (l : List S45) : Prop := IsMk w' base S g l ∧ Below base w0 w' ∧ Kept w w' S
def mkBegin (l : List S45) : List S45 := l ++ [⟨0, 1, (l.length : Int) + 1, 0⟩, ⟨1, 1, (l.length : Int) + 2, (l.length : Int) + 2⟩]
def mkIncs (at_ tt times : Int) : Nat → Int → List S45 → List S45
  | 0, _, l => l
  | d + 1, i, l => mkIncs at_ tt times d (i + 1) (l ++ [⟨0, tt, if i = times - 1 then at_ else at_ + 2 + i, 0⟩])
def mkMany (l : List S45) (fr tt times thn : Int) : List S45 := mkIncs (l.length : Int) tt times times.toNat 0 (l ++ [⟨1, fr, (l.length : Int) + 1, thn⟩])
theorem mkIncs_length (at_ tt times : Int) : ∀ (d : Nat) (i : Int) (l : List S45), (mkIncs at_ tt times d i l).length = l.length + d
  | 0, _, _ => rfl
  | d + 1, i, l => by
    unfold mkIncs
    rw [mkIncs_length at_ tt times d, List.length_append]
    simp
    omega
theorem mkMany_length (l : List S45) (fr tt times thn : Int) : (mkMany l fr tt times thn).length = l.length + 1 + times.toNat := by
  unfold mkMany
  rw [mkIncs_length, List.length_append]
  simp
theorem mkBegin_length (l : List S45) : (mkBegin l).length = l.length + 2 := by
  unfold mkBegin
  simp
def mkInc (l : List S45) (q next : Int) : List S45 := mkMany (mkMany (mkBegin l) 0 1 q ((((mkBegin l).length : Int) + 1) + q)) 1 0 1 next
theorem mkInc_length (l : List S45) (q next : Int) : (mkInc l q next).length = l.length + 5 + q.toNat := by
  unfold mkInc
  rw [mkMany_length, mkMany_length, mkBegin_length]
  simp
  omega
def mkDecs (at_ dn rest q : Int) : Nat → Int → List S45 → List S45
  | 0, _, l => l
  | d + 1, i, l => mkDecs at_ dn rest q d (i + 1) (l ++ [⟨1, 0, at_ + i + 1, if i = 0 then dn else rest + q - 1 - i⟩])
def mkUps (rest : Int) : Nat → Int → List S45 → List S45
  | 0, _, l => l
  | d + 1, i, l => mkUps rest d (i + 1) (l ++ [⟨0, 0, rest + i + 1, 0⟩])
theorem mkDecs_length (at_ dn rest q : Int) : ∀ (d : Nat) (i : Int) (l : List S45), (mkDecs at_ dn rest q d i l).length = l.length + d
  | 0, _, _ => rfl
  | d + 1, i, l => by
    unfold mkDecs
    rw [mkDecs_length at_ dn rest q d, List.length_append]
    simp
    omega
theorem mkUps_length (rest : Int) : ∀ (d : Nat) (i : Int) (l : List S45), (mkUps rest d i l).length = l.length + d
  | 0, _, _ => rfl
  | d + 1, i, l => by
    unfold mkUps
    rw [mkUps_length rest d, List.length_append]
    simp
    omega
def mkDec (l : List S45) (q next zero : Int) : List S45 :=
  let b := mkBegin l
  let at_ : Int := b.length
  let dn := at_ + q + 1
  let rest := dn + 2
  mkMany (mkUps rest (q - 1).toNat 0 (mkMany (mkDecs at_ dn rest q q.toNat 0 b ++ [⟨0, 1, at_, 0⟩]) 1 0 1 next)) 1 0 q zero
theorem mk_w {x : Int} (h : -9000000000000000000 ≤ x ∧ x ≤ 9000000000000000000) : IntKind.i64.wrap x = x := by
  rw [i64_w]
  unfold wrap64
  omega
set_option maxHeartbeats 4000000 in
set_option maxRecDepth 100000 in
set_option maxHeartbeats 8000000 in
set_option maxRecDepth 100000 in
theorem mk_put (w0 w : World) (base : Nat) (S : Nat → Prop) (g : Nat) (l x : List S45) (A : Option Addr) (c : Nat) (h : IsMk w base S g l) (hB : Below base w0 w) (hs : base ≤ w.heap.size) (hF : ∀ k, w.heap.size ≤ k → S k) (hl : l.length ≤ 1000000000 + 2000) (hx : Kd.C k45 w A x.length x) (hxl : x.length ≤ 10) :
    Calls Try.prog 29 #[.pointer (some ⟨g, 0, none⟩), .slice A x.length c] w fun e w' => e = .returned (.int .i64 (l.length : Int)) ∧ MkW w0 w w' base S g (l ++ x) := by
  obtain ⟨hg, hS, v, hb, hr⟩ := h
  obtain ⟨A1, c1, rfl⟩ := Kd.R_slice hr
  have HK := Aside0.mk hb
  have HR := Aside0.mk hr
  have HX := Aside0.mk hx
  have HB := Aside0.mk hB
  have HS := Aside0.mk hs
  have HF := Aside0.mk hF
  have HG := Aside0.mk hg
  have HSG := Aside0.mk hS
  have HL := Aside0.mk hl
  have HXL := Aside0.mk hxl
  have hc0 := (blk_cell hb 0).trans rfl
  clear hb hr hx hB hs hF hg hS hl hxl
  go_enter Try.func29, Try.ntmps29
  go_wp2_with (first | ((with_reducible refine gate_builtin (b := .append) (xs := #[.tmp 15, .tmp 16]) rfl ?_); (try (refine gate_guard (by rfl) ?_; dsimp only)); at_builtin; refine Kd.R_append_rows k45 (w0 := w0) base rfl (.tmp 15) (.tmp 16) 36 45 (.agg #[(.int .i64 0), (.int .i64 0), (.int .i64 0), (.int .i64 0)]) 32 rfl Try.underlying36 info45 rfl (by decide) (by omega) (.slice A1 l.length c1) l x _ _ _ (fun k => S k ∧ k ≠ g) (fun _ => False) rfl rfl ?aO ?aR (fun _ _ h => h) (fun _ h => h.elim) (fun k hk => ⟨HF.out k hk, fun e => by have := blk_lt HK.out; have : w.heap.size ≤ k := hk; omega⟩) ?aB ?aS ?aL ?_; (case aR => exact HX.out); (case aB => exact HB.out); (case aO => exact HR.out); (case aS => exact HS.out); (case aL => have := HL.out; have := HXL.out; simp; omega); intro v2 w2 ho2 hb2 hg2 hat2; obtain ⟨A2, c2, rfl⟩ := Kd.R_slice ho2; have HR2 := Aside0.mk ho2; have HB2 := Aside0.mk hb2; have HKP2 := Aside0.mk (Kept.of_grown hg2 (Kept.refl w S) (fun k hk => .inl (HR.out.1 k hk).1)); have HK2 := Aside0.mk (blk_grown HK.out hg2 (Kd.R_ne HR.out HK.out (by decide))); have hz2 := (blk_cell HK2.out 0).trans rfl; have hf2 := blk_frozen HK2.out 0; clear ho2 hb2 hg2 hat2 hc0))
  go_ret
  exact ⟨rfl, ⟨HG.out, HSG.out, _, by simpa using blk_set HK2.out 0 _, Kd.R_far HR2.out (fun k hk => hk.2) _⟩, HB2.out.setCell HG.out _, HKP2.out.setCell (.inl HSG.out) _⟩
set_option maxHeartbeats 4000000 in
set_option maxRecDepth 100000 in
set_option maxHeartbeats 8000000 in
set_option maxRecDepth 100000 in
theorem mk_begin (w0 w : World) (base : Nat) (S : Nat → Prop) (g : Nat) (l : List S45) (h : IsMk w base S g l) (hB : Below base w0 w) (hs : base ≤ w.heap.size) (hF : ∀ k, w.heap.size ≤ k → S k) (hl : l.length ≤ 1000000000) :
    Calls Try.prog 35 #[.pointer (some ⟨g, 0, none⟩)] w fun e w' => e = .returned (.tuple #[]) ∧ MkW w0 w w' base S g (mkBegin l) := by
  have e1 : IntKind.i64.wrap ((l.length : Int) + 1) = (l.length : Int) + 1 := (mk_w (by omega)).trans (by omega)
  have e1' := (i64_w _).symm.trans e1
  have e2 : IntKind.i64.wrap ((l.length : Int) + 2) = (l.length : Int) + 2 := (mk_w (by omega)).trans (by omega)
  have e2' := (i64_w _).symm.trans e2
  have HI := Aside0.mk h
  have HB := Aside0.mk hB
  have HS := Aside0.mk hs
  have HF := Aside0.mk hF
  have HL := Aside0.mk hl
  have HKP := Aside0.mk (Kept.refl w S)
  clear h hB hs hF hl
  obtain ⟨hg, hS, v, hb, hr⟩ := HI.out
  obtain ⟨A0, c0, rfl⟩ := Kd.R_slice hr
  have hc0 := (blk_cell hb 0).trans rfl
  clear hb hr hg hS
  go_enter Try.func35, Try.ntmps35
  go_wp2_with (first | ((with_reducible refine gate_dst (N := 17) rfl ?_); (try (refine gate_guard (by rfl) ?_; dsimp only)); refine Kd.R_lit k45 _ 45 ?hg (N := 17) ?hd (xs := [(⟨0, 1, (l.length : Int) + 1, 0⟩ : S45), (⟨1, 1, (l.length : Int) + 2, (l.length : Int) + 2⟩ : S45)]) (inner := [.int .i64 (0), .int .i64 (1), .int .i64 ((l.length : Int) + 1), .int .i64 (0), .int .i64 (1), .int .i64 (1), .int .i64 ((l.length : Int) + 2), .int .i64 ((l.length : Int) + 2)]) (ok := fun _ => True) (okp := fun _ => True) ?hr ?hp (fun _ hk => hk) trivial (Below.refl _ _) (Nat.le_refl _) (by simp) ?_; (case hd => rfl); (case hg => rfl); (case hr => first | (go_simp; done) | (go_simp; rfl)); (case hp => exact (Reps.c4 (show Kd.M k45 _ _ _ (⟨0, 1, (l.length : Int) + 1, 0⟩ : S45) [.int .i64 (0), .int .i64 (1), .int .i64 ((l.length : Int) + 1), .int .i64 (0)] from (k45_mkM _ _ _ (⟨0, 1, (l.length : Int) + 1, 0⟩ : S45))) (Reps.c4 (show Kd.M k45 _ _ _ (⟨1, 1, (l.length : Int) + 2, (l.length : Int) + 2⟩ : S45) [.int .i64 (1), .int .i64 (1), .int .i64 ((l.length : Int) + 2), .int .i64 ((l.length : Int) + 2)] from (k45_mkM _ _ _ (⟨1, 1, (l.length : Int) + 2, (l.length : Int) + 2⟩ : S45))) (Reps.none _ _)))); intro v1 w1 ho1 hb1 hg_ hnew_; clear hg_ hnew_; obtain ⟨A1, c1, rfl⟩ := Kd.R_slice ho1; have HO1 := Aside0.mk (Kd.R_reads' ho1).2.2; have HB1 := Aside0.mk hb1; clear ho1 hb1) | fail)
  refine (mk_put w0 w1 base S g (l) [(⟨0, 1, (l.length : Int) + 1, 0⟩ : S45), (⟨1, 1, (l.length : Int) + 2, (l.length : Int) + 2⟩ : S45)] A1 c1 (HI.out.below HB1.out) (below_then HB.out (Nat.le_trans HS.out HKP.out.1) HB1.out) (Nat.le_trans (Nat.le_trans HS.out HKP.out.1) HB1.out.size) (fun k hk => HF.out k (Nat.le_trans (Nat.le_trans HKP.out.1 HB1.out.size) hk)) (Nat.le_trans HL.out (by omega)) HO1.out (by simp)).mono ?_
  rintro e w2 ⟨rfl, hi2, hb2, hk2⟩
  have HKP2 := Aside0.mk ((HKP.out.below HB1.out).then_ hk2 (fun _ h => .inl h))
  have HI2 := Aside0.mk hi2
  have HB2 := Aside0.mk hb2
  clear hi2 hb2 hk2 HI HB HKP HB1 HO1
  have HI := HI2
  have HB := HB2
  have HKP := HKP2
  clear HI2 HB2 HKP2
  go_wp2
  first | refine bodyPost_end (results_none rfl _ _ _) rfl ?_ | refine bodyPost_ret (results_none rfl _ _ _) rfl ?_
  exact ⟨rfl, HI.out, HB.out, HKP.out⟩
set_option maxHeartbeats 4000000 in
set_option maxRecDepth 100000 in
set_option maxHeartbeats 8000000 in
set_option maxRecDepth 100000 in
theorem mk_many (w0 w : World) (base : Nat) (S : Nat → Prop) (g : Nat) (l : List S45) (fr tt times thn : Int) (h : IsMk w base S g l) (hB : Below base w0 w) (hs : base ≤ w.heap.size) (hF : ∀ k, w.heap.size ≤ k → S k) (hl : l.length ≤ 1000000000) (ht0 : 0 ≤ times) (ht1 : times ≤ 1000) :
    Calls Try.prog 36 #[.pointer (some ⟨g, 0, none⟩), .int .i64 fr, .int .i64 tt, .int .i64 times, .int .i64 thn] w fun e w' => e = .returned (.tuple #[]) ∧ MkW w0 w w' base S g (mkMany l fr tt times thn) := by
  have e1 : IntKind.i64.wrap ((l.length : Int) + 1) = (l.length : Int) + 1 := (mk_w (by omega)).trans (by omega)
  have e1' := (i64_w _).symm.trans e1
  have e2 : IntKind.i64.wrap ((l.length : Int) + 2) = (l.length : Int) + 2 := (mk_w (by omega)).trans (by omega)
  have e2' := (i64_w _).symm.trans e2
  obtain ⟨t1, hT⟩ : ∃ z, z = times - 1 := ⟨_, rfl⟩
  have e3 : IntKind.i64.wrap (times - 1) = t1 := (mk_w (by omega)).trans (by omega)
  have e3' := (i64_w _).symm.trans e3
  have HI := Aside0.mk h
  have HB := Aside0.mk hB
  have HS := Aside0.mk hs
  have HF := Aside0.mk hF
  have HL := Aside0.mk hl
  have HKP := Aside0.mk (Kept.refl w S)
  clear h hB hs hF hl
  obtain ⟨hg, hS, v, hb, hr⟩ := HI.out
  obtain ⟨A0, c0, rfl⟩ := Kd.R_slice hr
  have hc0 := (blk_cell hb 0).trans rfl
  clear hb hr hg hS
  have HT := Aside0.mk ht0
  have HT1 := Aside0.mk ht1
  have HTT := Aside0.mk hT
  clear ht0 ht1 hT
  obtain ⟨R, hR⟩ : ∃ R, mkMany l fr tt times thn = R := ⟨_, rfl⟩
  rw [hR]
  unfold mkMany at hR
  have H := Aside0.mk hR
  clear hR
  go_enter Try.func36, Try.ntmps36
  go_wp2_with (first | ((with_reducible refine gate_dst (N := 24) rfl ?_); (try (refine gate_guard (by rfl) ?_; dsimp only)); refine Kd.R_lit k45 _ 45 ?hg (N := 24) ?hd (xs := [(⟨1, fr, (l.length : Int) + 1, thn⟩ : S45)]) (inner := [.int .i64 (1), .int .i64 (fr), .int .i64 ((l.length : Int) + 1), .int .i64 (thn)]) (ok := fun _ => True) (okp := fun _ => True) ?hr ?hp (fun _ hk => hk) trivial (Below.refl _ _) (Nat.le_refl _) (by simp) ?_; (case hd => rfl); (case hg => rfl); (case hr => first | (go_simp; done) | (go_simp; rfl)); (case hp => exact (Reps.c4 (show Kd.M k45 _ _ _ (⟨1, fr, (l.length : Int) + 1, thn⟩ : S45) [.int .i64 (1), .int .i64 (fr), .int .i64 ((l.length : Int) + 1), .int .i64 (thn)] from (k45_mkM _ _ _ (⟨1, fr, (l.length : Int) + 1, thn⟩ : S45))) (Reps.none _ _))); intro v1 w1 ho1 hb1 hg_ hnew_; clear hg_ hnew_; obtain ⟨A1, c1, rfl⟩ := Kd.R_slice ho1; have HO1 := Aside0.mk (Kd.R_reads' ho1).2.2; have HB1 := Aside0.mk hb1; clear ho1 hb1) | fail)
  refine (mk_put w0 w1 base S g (l) [(⟨1, fr, (l.length : Int) + 1, thn⟩ : S45)] A1 c1 (HI.out.below HB1.out) (below_then HB.out (Nat.le_trans HS.out HKP.out.1) HB1.out) (Nat.le_trans (Nat.le_trans HS.out HKP.out.1) HB1.out.size) (fun k hk => HF.out k (Nat.le_trans (Nat.le_trans HKP.out.1 HB1.out.size) hk)) (Nat.le_trans HL.out (by omega)) HO1.out (by simp)).mono ?_
  rintro e w2 ⟨rfl, hi2, hb2, hk2⟩
  have HKP2 := Aside0.mk ((HKP.out.below HB1.out).then_ hk2 (fun _ h => .inl h))
  have HI2 := Aside0.mk hi2
  have HB2 := Aside0.mk hb2
  clear hi2 hb2 hk2 HI HB HKP HB1 HO1
  have HI := HI2
  have HB := HB2
  have HKP := HKP2
  clear HI2 HB2 HKP2
  clear hc0
  go_wp2
  go_loopg [27] (times.toNat) (fun kq v27 w' => ∃ (i : Int) (cd : List S45), v27 = .int .i64 i ∧ Aside0 (0 ≤ i ∧ i + (kq : Int) = times ∧ (cd.length : Int) = (l.length : Int) + 1 + i) ∧ Aside0 (mkIncs (l.length : Int) tt times kq i cd = R) ∧ Aside0 (IsMk w' base S g cd) ∧ Aside0 (Below base w0 w') ∧ Aside0 (Kept w w' S))
  case atStart => exact ⟨0, _, rfl, ⟨by have := HT.out; omega, by have := HT.out; omega, by simp⟩, H, HI, HB, HKP⟩
  case round =>
    clear H HI HB HKP
    obtain ⟨i, cd, rfl, HN, H, HI, HB, HKP⟩ := hrel
    obtain ⟨hi0, hi1, hi2⟩ := HN.out
    have hb1 := HT1.out
    have hb2 := HL.out
    have h := H.out
    clear H
    cases gk with
    | zero =>
      have hin : ¬ i < times := by omega
      have hd : decide (i < times) = false := decide_eq_false hin
      replace hin := eq_false hin
      simp only [mkIncs] at h
      subst h
      clear hi0 hi1 hi2 hb1 hb2
      go_wp2
      first | refine bodyPost_end (results_none rfl _ _ _) rfl ?_ | refine bodyPost_ret (results_none rfl _ _ _) rfl ?_
      exact ⟨rfl, HI.out, HB.out, HKP.out⟩
    | succ d =>
      have hin : i < times := by omega
      have hd : decide (i < times) = true := decide_eq_true hin
      have hcl : cd.length ≤ 1000000000 + 2000 := by omega
      have HCL := Aside0.mk hcl
      simp only [mkIncs] at h
      rw [← HTT.out] at h
      have e4 : IntKind.i64.wrap ((l.length : Int) + 2 + i) = (l.length : Int) + 2 + i := (mk_w (by omega)).trans (by omega)
      have e4' := (i64_w _).symm.trans e4
      have e5 : IntKind.i64.wrap (i + 1) = i + 1 := (mk_w (by omega)).trans (by omega)
      have e5' := (i64_w _).symm.trans e5
      replace hin := eq_true hin
      have HI0 := Aside0.mk hi0
      have HI1 := Aside0.mk hi1
      have HI2' := Aside0.mk hi2
      clear hi0 hi1 hi2 hb1 hb2 hcl HN
      by_cases ct : i = t1
      · rw [if_pos ct] at h
        have ctb : (i == t1) = true := beq_iff_eq.mpr ct
        have H := Aside0.mk h
        clear h ct
        go_wp2_with (first | ((with_reducible refine gate_dst (N := 43) rfl ?_); (try (refine gate_guard (by rfl) ?_; dsimp only)); refine Kd.R_lit k45 _ 45 ?hg (N := 43) ?hd (xs := [(⟨0, tt, (l.length : Int), 0⟩ : S45)]) (inner := [.int .i64 (0), .int .i64 (tt), .int .i64 ((l.length : Int)), .int .i64 (0)]) (ok := fun _ => True) (okp := fun _ => True) ?hr ?hp (fun _ hk => hk) trivial (Below.refl _ _) (Nat.le_refl _) (by simp) ?_; (case hd => rfl); (case hg => rfl); (case hr => first | (go_simp; done) | (go_simp; rfl)); (case hp => exact (Reps.c4 (show Kd.M k45 _ _ _ (⟨0, tt, (l.length : Int), 0⟩ : S45) [.int .i64 (0), .int .i64 (tt), .int .i64 ((l.length : Int)), .int .i64 (0)] from (k45_mkM _ _ _ (⟨0, tt, (l.length : Int), 0⟩ : S45))) (Reps.none _ _))); intro v1 w1 ho1 hb1 hg_ hnew_; clear hg_ hnew_; obtain ⟨A1, c1, rfl⟩ := Kd.R_slice ho1; have HO1 := Aside0.mk (Kd.R_reads' ho1).2.2; have HB1 := Aside0.mk hb1; clear ho1 hb1) | fail)
        refine (mk_put w0 w1 base S g (cd) [(⟨0, tt, (l.length : Int), 0⟩ : S45)] A1 c1 (HI.out.below HB1.out) (below_then HB.out (Nat.le_trans HS.out HKP.out.1) HB1.out) (Nat.le_trans (Nat.le_trans HS.out HKP.out.1) HB1.out.size) (fun k hk => HF.out k (Nat.le_trans (Nat.le_trans HKP.out.1 HB1.out.size) hk)) (HCL.out) HO1.out (by simp)).mono ?_
        rintro e w2 ⟨rfl, hi2, hb2, hk2⟩
        have HKP2 := Aside0.mk ((HKP.out.below HB1.out).then_ hk2 (fun _ h => .inl h))
        have HI2 := Aside0.mk hi2
        have HB2 := Aside0.mk hb2
        clear hi2 hb2 hk2 HI HB HKP HB1 HO1
        have HI := HI2
        have HB := HB2
        have HKP := HKP2
        clear HI2 HB2 HKP2
        go_wp2
        go_roundg d
        case measure => have := HI1.out; omega
        case rel => exact ⟨i + 1, _, rfl, ⟨by have := HI0.out; omega, by have := HI1.out; omega, by have := HI2'.out; simp; omega⟩, H, HI, HB, HKP⟩
      · rw [if_neg ct] at h
        have ctb : (i == t1) = false := beq_eq_false_iff_ne.mpr ct
        have H := Aside0.mk h
        clear h ct
        go_wp2_with (first | ((with_reducible refine gate_dst (N := 43) rfl ?_); (try (refine gate_guard (by rfl) ?_; dsimp only)); refine Kd.R_lit k45 _ 45 ?hg (N := 43) ?hd (xs := [(⟨0, tt, (l.length : Int) + 2 + i, 0⟩ : S45)]) (inner := [.int .i64 (0), .int .i64 (tt), .int .i64 ((l.length : Int) + 2 + i), .int .i64 (0)]) (ok := fun _ => True) (okp := fun _ => True) ?hr ?hp (fun _ hk => hk) trivial (Below.refl _ _) (Nat.le_refl _) (by simp) ?_; (case hd => rfl); (case hg => rfl); (case hr => first | (go_simp; done) | (go_simp; rfl)); (case hp => exact (Reps.c4 (show Kd.M k45 _ _ _ (⟨0, tt, (l.length : Int) + 2 + i, 0⟩ : S45) [.int .i64 (0), .int .i64 (tt), .int .i64 ((l.length : Int) + 2 + i), .int .i64 (0)] from (k45_mkM _ _ _ (⟨0, tt, (l.length : Int) + 2 + i, 0⟩ : S45))) (Reps.none _ _))); intro v1 w1 ho1 hb1 hg_ hnew_; clear hg_ hnew_; obtain ⟨A1, c1, rfl⟩ := Kd.R_slice ho1; have HO1 := Aside0.mk (Kd.R_reads' ho1).2.2; have HB1 := Aside0.mk hb1; clear ho1 hb1) | fail)
        refine (mk_put w0 w1 base S g (cd) [(⟨0, tt, (l.length : Int) + 2 + i, 0⟩ : S45)] A1 c1 (HI.out.below HB1.out) (below_then HB.out (Nat.le_trans HS.out HKP.out.1) HB1.out) (Nat.le_trans (Nat.le_trans HS.out HKP.out.1) HB1.out.size) (fun k hk => HF.out k (Nat.le_trans (Nat.le_trans HKP.out.1 HB1.out.size) hk)) (HCL.out) HO1.out (by simp)).mono ?_
        rintro e w2 ⟨rfl, hi2, hb2, hk2⟩
        have HKP2 := Aside0.mk ((HKP.out.below HB1.out).then_ hk2 (fun _ h => .inl h))
        have HI2 := Aside0.mk hi2
        have HB2 := Aside0.mk hb2
        clear hi2 hb2 hk2 HI HB HKP HB1 HO1
        have HI := HI2
        have HB := HB2
        have HKP := HKP2
        clear HI2 HB2 HKP2
        go_wp2
        go_roundg d
        case measure => have := HI1.out; omega
        case rel => exact ⟨i + 1, _, rfl, ⟨by have := HI0.out; omega, by have := HI1.out; omega, by have := HI2'.out; simp; omega⟩, H, HI, HB, HKP⟩
set_option maxHeartbeats 4000000 in
set_option maxRecDepth 100000 in
set_option maxHeartbeats 8000000 in
set_option maxRecDepth 100000 in
theorem mk_inc (w0 w : World) (base : Nat) (S : Nat → Prop) (g : Nat) (l : List S45) (q next : Int) (h : IsMk w base S g l) (hB : Below base w0 w) (hs : base ≤ w.heap.size) (hF : ∀ k, w.heap.size ≤ k → S k) (hl : l.length ≤ 100000000) (hq0 : 0 ≤ q) (hq1 : q ≤ 1000) :
    Calls Try.prog 27 #[.pointer (some ⟨g, 0, none⟩), .int .i64 q, .int .i64 next] w fun e w' => e = .returned (.tuple #[]) ∧ MkW w0 w w' base S g (mkInc l q next) := by
  obtain ⟨R, hR⟩ : ∃ R, mkInc l q next = R := ⟨_, rfl⟩
  rw [hR]
  obtain ⟨b, hb⟩ : ∃ b, mkBegin l = b := ⟨_, rfl⟩
  have hbl : b.length = l.length + 2 := by rw [← hb]; exact mkBegin_length l
  unfold mkInc at hR
  rw [hb] at hR
  have HR := Aside0.mk hR
  have HBL := Aside0.mk hbl
  have HBB := Aside0.mk hb
  have HQ0 := Aside0.mk hq0
  have HQ1 := Aside0.mk hq1
  clear hR
  have e1 : IntKind.i64.wrap ((b.length : Int) + 1) = (b.length : Int) + 1 := (mk_w (by omega)).trans (by omega)
  have e1' := (i64_w _).symm.trans e1
  have e2 : IntKind.i64.wrap ((b.length : Int) + 1 + q) = (b.length : Int) + 1 + q := (mk_w (by omega)).trans (by omega)
  have e2' := (i64_w _).symm.trans e2
  have hlm : (mkMany b 0 1 q ((b.length : Int) + 1 + q)).length ≤ 1000000000 := by rw [mkMany_length]; omega
  have HLM := Aside0.mk hlm
  clear hlm hq0 hq1 hbl hb
  have HI := Aside0.mk h
  have HB := Aside0.mk hB
  have HS := Aside0.mk hs
  have HF := Aside0.mk hF
  have HL := Aside0.mk hl
  have HKP := Aside0.mk (Kept.refl w S)
  clear h hB hs hF hl
  go_enter Try.func27, Try.ntmps27
  go_wp2_with fail
  refine (mk_begin w0 _ base S g (l)  HI.out HB.out (Nat.le_trans HS.out HKP.out.1) (fun k hk => HF.out k (Nat.le_trans HKP.out.1 hk)) (by have := HL.out; omega)).mono ?_
  rintro e w2 ⟨rfl, hi2, hb2, hk2⟩
  have HKP2 := Aside0.mk (HKP.out.then_ hk2 (fun _ h => .inl h))
  have HI2 := Aside0.mk hi2
  have HB2 := Aside0.mk hb2
  clear hi2 hb2 hk2 HI HB HKP
  have HI := HI2
  have HB := HB2
  have HKP := HKP2
  clear HI2 HB2 HKP2
  rw [HBB.out] at HI
  obtain ⟨hg, hS, v, hb, hr⟩ := HI.out
  obtain ⟨A0, c0, rfl⟩ := Kd.R_slice hr
  have hc0 := (blk_cell hb 0).trans rfl
  clear hb hr hg hS
  go_wp2_with fail
  refine (mk_many w0 _ base S g (b) 0 1 q ((b.length : Int) + 1 + q) HI.out HB.out (Nat.le_trans HS.out HKP.out.1) (fun k hk => HF.out k (Nat.le_trans HKP.out.1 hk)) (by have := HL.out; have := HBL.out; omega) HQ0.out HQ1.out).mono ?_
  rintro e w2 ⟨rfl, hi2, hb2, hk2⟩
  have HKP2 := Aside0.mk (HKP.out.then_ hk2 (fun _ h => .inl h))
  have HI2 := Aside0.mk hi2
  have HB2 := Aside0.mk hb2
  clear hi2 hb2 hk2 HI HB HKP
  have HI := HI2
  have HB := HB2
  have HKP := HKP2
  clear HI2 HB2 HKP2
  clear hc0
  go_wp2_with fail
  refine (mk_many w0 _ base S g (mkMany b 0 1 q ((b.length : Int) + 1 + q)) 1 0 1 next HI.out HB.out (Nat.le_trans HS.out HKP.out.1) (fun k hk => HF.out k (Nat.le_trans HKP.out.1 hk)) (HLM.out) (by omega) (by omega)).mono ?_
  rintro e w2 ⟨rfl, hi2, hb2, hk2⟩
  have HKP2 := Aside0.mk (HKP.out.then_ hk2 (fun _ h => .inl h))
  have HI2 := Aside0.mk hi2
  have HB2 := Aside0.mk hb2
  clear hi2 hb2 hk2 HI HB HKP
  have HI := HI2
  have HB := HB2
  have HKP := HKP2
  clear HI2 HB2 HKP2
  go_wp2
  first | refine bodyPost_end (results_none rfl _ _ _) rfl ?_ | refine bodyPost_ret (results_none rfl _ _ _) rfl ?_
  exact ⟨rfl, by rw [← HR.out]; exact HI.out, HB.out, HKP.out⟩
set_option maxHeartbeats 4000000 in
set_option maxRecDepth 100000 in
set_option maxHeartbeats 8000000 in
set_option maxRecDepth 100000 in
theorem mk_dec (w0 w : World) (base : Nat) (S : Nat → Prop) (g : Nat) (l : List S45) (q next zero : Int) (h : IsMk w base S g l) (hB : Below base w0 w) (hs : base ≤ w.heap.size) (hF : ∀ k, w.heap.size ≤ k → S k) (hl : l.length ≤ 100000000) (hq0 : 1 ≤ q) (hq1 : q ≤ 1000) :
    Calls Try.prog 28 #[.pointer (some ⟨g, 0, none⟩), .int .i64 q, .int .i64 next, .int .i64 zero] w fun e w' => e = .returned (.tuple #[]) ∧ MkW w0 w w' base S g (mkDec l q next zero) := by
  obtain ⟨R, hR⟩ : ∃ R, mkDec l q next zero = R := ⟨_, rfl⟩
  rw [hR]
  obtain ⟨b, hb⟩ : ∃ b, mkBegin l = b := ⟨_, rfl⟩
  have hbl : b.length = l.length + 2 := by rw [← hb]; exact mkBegin_length l
  unfold mkDec at hR
  rw [hb] at hR
  have HR := Aside0.mk hR
  have HBL := Aside0.mk hbl
  have HBB := Aside0.mk hb
  have HQ0 := Aside0.mk hq0
  have HQ1 := Aside0.mk hq1
  clear hR
  have hR := HR.out
  clear HR
  simp only at hR
  obtain ⟨dn, hdn⟩ : ∃ z : Int, (b.length : Int) + q + 1 = z := ⟨_, rfl⟩
  rw [hdn] at hR
  obtain ⟨rs, hrs⟩ : ∃ z : Int, dn + 2 = z := ⟨_, rfl⟩
  rw [hrs] at hR
  obtain ⟨q1, hq⟩ : ∃ z : Int, q - 1 = z := ⟨_, rfl⟩
  rw [hq] at hR
  obtain ⟨l1, hl1⟩ : ∃ z, mkDecs (b.length : Int) dn rs q q.toNat 0 b = z := ⟨_, rfl⟩
  rw [hl1] at hR
  have hll1 : l1.length = b.length + q.toNat := by rw [← hl1]; exact mkDecs_length _ _ _ _ _ _ _
  obtain ⟨l2, hl2⟩ : ∃ z, l1 ++ [(⟨0, 1, (b.length : Int), 0⟩ : S45)] = z := ⟨_, rfl⟩
  rw [hl2] at hR
  have hll2 : l2.length = l1.length + 1 := by rw [← hl2]; simp
  obtain ⟨l3, hl3⟩ : ∃ z, mkMany l2 1 0 1 next = z := ⟨_, rfl⟩
  rw [hl3] at hR
  have hll3 : l3.length = l2.length + 2 := by rw [← hl3]; exact mkMany_length _ _ _ _ _
  obtain ⟨l4, hl4⟩ : ∃ z, mkUps rs q1.toNat 0 l3 = z := ⟨_, rfl⟩
  rw [hl4] at hR
  have hll4 : l4.length = l3.length + q1.toNat := by rw [← hl4]; exact mkUps_length _ _ _ _
  have HR := Aside0.mk hR
  have H1 := Aside0.mk hl1
  have H2 := Aside0.mk hl2
  have H3 := Aside0.mk hl3
  have H4 := Aside0.mk hl4
  have HLL := Aside0.mk (show l1.length ≤ 1000000000 ∧ l2.length ≤ 1000000000 ∧ l3.length ≤ 1000000000 ∧ l4.length ≤ 1000000000 ∧ b.length ≤ 1000000000 ∧ 1 + q1 = q by omega)
  have HD := Aside0.mk (show (b.length : Int) + q + 1 = dn ∧ dn + 2 = rs from ⟨hdn, hrs⟩)
  have HL3 := Aside0.mk hll3
  clear hR hl1 hl2 hl3 hl4 hll1 hll2 hll3 hll4
  have e1 : IntKind.i64.wrap ((b.length : Int) + q) = (b.length : Int) + q := (mk_w (by omega)).trans (by omega)
  have e1' := (i64_w _).symm.trans e1
  have e2 : IntKind.i64.wrap ((b.length : Int) + q + 1) = dn := (mk_w (by omega)).trans (by omega)
  have e2' := (i64_w _).symm.trans e2
  have e3 : IntKind.i64.wrap (dn + 2) = rs := (mk_w (by omega)).trans (by omega)
  have e3' := (i64_w _).symm.trans e3
  have e4 : IntKind.i64.wrap (rs + q) = rs + q := (mk_w (by omega)).trans (by omega)
  have e4' := (i64_w _).symm.trans e4
  have e5 : IntKind.i64.wrap (rs + q - 1) = rs + q - 1 := (mk_w (by omega)).trans (by omega)
  have e5' := (i64_w _).symm.trans e5
  have e6 : IntKind.i64.wrap (q - 1) = q1 := (mk_w (by omega)).trans (by omega)
  have e6' := (i64_w _).symm.trans e6
  clear hdn hrs hq hq0 hq1 hbl hb
  have HI := Aside0.mk h
  have HB := Aside0.mk hB
  have HS := Aside0.mk hs
  have HF := Aside0.mk hF
  have HL := Aside0.mk hl
  have HKP := Aside0.mk (Kept.refl w S)
  clear h hB hs hF hl
  go_enter Try.func28, Try.ntmps28
  go_wp2_with fail
  refine (mk_begin w0 _ base S g (l)  HI.out HB.out (Nat.le_trans HS.out HKP.out.1) (fun k hk => HF.out k (Nat.le_trans HKP.out.1 hk)) (by have := HL.out; omega)).mono ?_
  rintro e w2 ⟨rfl, hi2, hb2, hk2⟩
  have HKP2 := Aside0.mk (HKP.out.then_ hk2 (fun _ h => .inl h))
  have HI2 := Aside0.mk hi2
  have HB2 := Aside0.mk hb2
  clear hi2 hb2 hk2 HI HB HKP
  have HI := HI2
  have HB := HB2
  have HKP := HKP2
  clear HI2 HB2 HKP2
  rw [HBB.out] at HI
  obtain ⟨hg, hS, v, hb, hr⟩ := HI.out
  obtain ⟨A0, c0, rfl⟩ := Kd.R_slice hr
  have hc0 := (blk_cell hb 0).trans rfl
  clear hb hr hg hS
  go_wp2_with fail
  clear hc0
  go_loopg [28] (q.toNat) (fun kq v28 w' => ∃ (i : Int) (cd : List S45), v28 = .int .i64 i ∧ Aside0 (0 ≤ i ∧ i + (kq : Int) = q ∧ (cd.length : Int) = (b.length : Int) + i) ∧ Aside0 (mkDecs (b.length : Int) dn rs q kq i cd = l1) ∧ Aside0 (IsMk w' base S g cd) ∧ Aside0 (Below base w0 w') ∧ Aside0 (Kept w w' S))
  case atStart => exact ⟨0, _, rfl, ⟨by have := HQ0.out; have := HLL.out; omega⟩, H1, HI, HB, HKP⟩
  case round =>
    clear HI HB HKP
    obtain ⟨i, cd, rfl, HN, H, HI, HB, HKP⟩ := hrel
    obtain ⟨hi0, hi1, hi2⟩ := HN.out
    have hb1 := HQ1.out
    have hb2 := HLL.out
    have hb3 := HD.out
    have h := H.out
    clear H
    cases gk with
    | succ d =>
      have hin : i < q := by omega
      have hd : decide (i < q) = true := decide_eq_true hin
      have hcl : cd.length ≤ 1000000000 + 2000 := by omega
      have HCL := Aside0.mk hcl
      simp only [mkDecs] at h
      have f1 : IntKind.i64.wrap ((b.length : Int) + i) = (b.length : Int) + i := (mk_w (by omega)).trans (by omega)
      have f1' := (i64_w _).symm.trans f1
      have f2 : IntKind.i64.wrap ((b.length : Int) + i + 1) = (b.length : Int) + i + 1 := (mk_w (by omega)).trans (by omega)
      have f2' := (i64_w _).symm.trans f2
      have f3 : IntKind.i64.wrap (rs + q - 1 - i) = rs + q - 1 - i := (mk_w (by omega)).trans (by omega)
      have f3' := (i64_w _).symm.trans f3
      have f4 : IntKind.i64.wrap (i + 1) = i + 1 := (mk_w (by omega)).trans (by omega)
      have f4' := (i64_w _).symm.trans f4
      replace hin := eq_true hin
      have HI0 := Aside0.mk hi0
      have HI1 := Aside0.mk hi1
      have HI2' := Aside0.mk hi2
      clear hi0 hi1 hi2 hb1 hb2 hb3 hcl HN
      by_cases ct : i = 0
      · rw [if_pos ct] at h
        have ctb : (i == (0 : Int)) = true := beq_iff_eq.mpr ct
        have H := Aside0.mk h
        clear h ct
        go_wp2_with (first | ((with_reducible refine gate_dst (N := 48) rfl ?_); (try (refine gate_guard (by rfl) ?_; dsimp only)); refine Kd.R_lit k45 _ 45 ?hg (N := 48) ?hd (xs := [(⟨1, 0, (b.length : Int) + i + 1, dn⟩ : S45)]) (inner := [.int .i64 (1), .int .i64 (0), .int .i64 ((b.length : Int) + i + 1), .int .i64 (dn)]) (ok := fun _ => True) (okp := fun _ => True) ?hr ?hp (fun _ hk => hk) trivial (Below.refl _ _) (Nat.le_refl _) (by simp) ?_; (case hd => rfl); (case hg => rfl); (case hr => first | (go_simp; done) | (go_simp; rfl)); (case hp => exact (Reps.c4 (show Kd.M k45 _ _ _ (⟨1, 0, (b.length : Int) + i + 1, dn⟩ : S45) [.int .i64 (1), .int .i64 (0), .int .i64 ((b.length : Int) + i + 1), .int .i64 (dn)] from (k45_mkM _ _ _ (⟨1, 0, (b.length : Int) + i + 1, dn⟩ : S45))) (Reps.none _ _))); intro v1 w1 ho1 hb1 hg_ hnew_; clear hg_ hnew_; obtain ⟨A1, c1, rfl⟩ := Kd.R_slice ho1; have HO1 := Aside0.mk (Kd.R_reads' ho1).2.2; have HB1 := Aside0.mk hb1; clear ho1 hb1) | fail)
        have HB1' := Aside0.mk (below_step (below_alloc (Below.refl wr.heap.size wr) _) HB1.out)
        clear HB1
        have HB1 := HB1'
        clear HB1'
        refine (mk_put w0 w1 base S g (cd) [(⟨1, 0, (b.length : Int) + i + 1, dn⟩ : S45)] A1 c1 (HI.out.below HB1.out) (below_then HB.out (Nat.le_trans HS.out HKP.out.1) HB1.out) (Nat.le_trans (Nat.le_trans HS.out HKP.out.1) HB1.out.size) (fun k hk => HF.out k (Nat.le_trans (Nat.le_trans HKP.out.1 HB1.out.size) hk)) (HCL.out) HO1.out (by simp)).mono ?_
        rintro e w2 ⟨rfl, hi2, hb2, hk2⟩
        have HKP2 := Aside0.mk ((HKP.out.below HB1.out).then_ hk2 (fun _ h => .inl h))
        have HI2 := Aside0.mk hi2
        have HB2 := Aside0.mk hb2
        clear hi2 hb2 hk2 HI HB HKP HB1 HO1
        have HI := HI2
        have HB := HB2
        have HKP := HKP2
        clear HI2 HB2 HKP2
        go_wp2
        go_roundg d
        case measure => have := HI1.out; omega
        case rel => exact ⟨i + 1, _, rfl, ⟨by have := HI0.out; omega, by have := HI1.out; omega, by have := HI2'.out; simp; omega⟩, H, HI, HB, HKP⟩
      · rw [if_neg ct] at h
        have ctb : (i == (0 : Int)) = false := beq_eq_false_iff_ne.mpr ct
        have H := Aside0.mk h
        clear h ct
        go_wp2_with (first | ((with_reducible refine gate_dst (N := 48) rfl ?_); (try (refine gate_guard (by rfl) ?_; dsimp only)); refine Kd.R_lit k45 _ 45 ?hg (N := 48) ?hd (xs := [(⟨1, 0, (b.length : Int) + i + 1, rs + q - 1 - i⟩ : S45)]) (inner := [.int .i64 (1), .int .i64 (0), .int .i64 ((b.length : Int) + i + 1), .int .i64 (rs + q - 1 - i)]) (ok := fun _ => True) (okp := fun _ => True) ?hr ?hp (fun _ hk => hk) trivial (Below.refl _ _) (Nat.le_refl _) (by simp) ?_; (case hd => rfl); (case hg => rfl); (case hr => first | (go_simp; done) | (go_simp; rfl)); (case hp => exact (Reps.c4 (show Kd.M k45 _ _ _ (⟨1, 0, (b.length : Int) + i + 1, rs + q - 1 - i⟩ : S45) [.int .i64 (1), .int .i64 (0), .int .i64 ((b.length : Int) + i + 1), .int .i64 (rs + q - 1 - i)] from (k45_mkM _ _ _ (⟨1, 0, (b.length : Int) + i + 1, rs + q - 1 - i⟩ : S45))) (Reps.none _ _))); intro v1 w1 ho1 hb1 hg_ hnew_; clear hg_ hnew_; obtain ⟨A1, c1, rfl⟩ := Kd.R_slice ho1; have HO1 := Aside0.mk (Kd.R_reads' ho1).2.2; have HB1 := Aside0.mk hb1; clear ho1 hb1) | fail)
        have HB1' := Aside0.mk (below_step (below_alloc (Below.refl wr.heap.size wr) _) HB1.out)
        clear HB1
        have HB1 := HB1'
        clear HB1'
        refine (mk_put w0 w1 base S g (cd) [(⟨1, 0, (b.length : Int) + i + 1, rs + q - 1 - i⟩ : S45)] A1 c1 (HI.out.below HB1.out) (below_then HB.out (Nat.le_trans HS.out HKP.out.1) HB1.out) (Nat.le_trans (Nat.le_trans HS.out HKP.out.1) HB1.out.size) (fun k hk => HF.out k (Nat.le_trans (Nat.le_trans HKP.out.1 HB1.out.size) hk)) (HCL.out) HO1.out (by simp)).mono ?_
        rintro e w2 ⟨rfl, hi2, hb2, hk2⟩
        have HKP2 := Aside0.mk ((HKP.out.below HB1.out).then_ hk2 (fun _ h => .inl h))
        have HI2 := Aside0.mk hi2
        have HB2 := Aside0.mk hb2
        clear hi2 hb2 hk2 HI HB HKP HB1 HO1
        have HI := HI2
        have HB := HB2
        have HKP := HKP2
        clear HI2 HB2 HKP2
        go_wp2
        go_roundg d
        case measure => have := HI1.out; omega
        case rel => exact ⟨i + 1, _, rfl, ⟨by have := HI0.out; omega, by have := HI1.out; omega, by have := HI2'.out; simp; omega⟩, H, HI, HB, HKP⟩
    | zero =>
      have hin : ¬ i < q := by omega
      have hd : decide (i < q) = false := decide_eq_false hin
      replace hin := eq_false hin
      simp only [mkDecs] at h
      subst h
      clear hi0 hi1 hi2 hb1 hb2 hb3 HN
      skip
      go_wp2_with (first | ((with_reducible refine gate_dst (N := 54) rfl ?_); (try (refine gate_guard (by rfl) ?_; dsimp only)); refine Kd.R_lit k45 _ 45 ?hg (N := 54) ?hd (xs := [(⟨0, 1, (b.length : Int), 0⟩ : S45)]) (inner := [.int .i64 (0), .int .i64 (1), .int .i64 ((b.length : Int)), .int .i64 (0)]) (ok := fun _ => True) (okp := fun _ => True) ?hr ?hp (fun _ hk => hk) trivial (Below.refl _ _) (Nat.le_refl _) (by simp) ?_; (case hd => rfl); (case hg => rfl); (case hr => first | (go_simp; done) | (go_simp; rfl)); (case hp => exact (Reps.c4 (show Kd.M k45 _ _ _ (⟨0, 1, (b.length : Int), 0⟩ : S45) [.int .i64 (0), .int .i64 (1), .int .i64 ((b.length : Int)), .int .i64 (0)] from (k45_mkM _ _ _ (⟨0, 1, (b.length : Int), 0⟩ : S45))) (Reps.none _ _))); intro v1 w1 ho1 hb1 hg_ hnew_; clear hg_ hnew_; obtain ⟨A1, c1, rfl⟩ := Kd.R_slice ho1; have HO1 := Aside0.mk (Kd.R_reads' ho1).2.2; have HB1 := Aside0.mk hb1; clear ho1 hb1) | fail)
      refine (mk_put w0 w1 base S g (cd) [(⟨0, 1, (b.length : Int), 0⟩ : S45)] A1 c1 (HI.out.below HB1.out) (below_then HB.out (Nat.le_trans HS.out HKP.out.1) HB1.out) (Nat.le_trans (Nat.le_trans HS.out HKP.out.1) HB1.out.size) (fun k hk => HF.out k (Nat.le_trans (Nat.le_trans HKP.out.1 HB1.out.size) hk)) (Nat.le_trans HLL.out.1 (by omega)) HO1.out (by simp)).mono ?_
      rintro e w2 ⟨rfl, hi2, hb2, hk2⟩
      have HKP2 := Aside0.mk ((HKP.out.below HB1.out).then_ hk2 (fun _ h => .inl h))
      have HI2 := Aside0.mk hi2
      have HB2 := Aside0.mk hb2
      clear hi2 hb2 hk2 HI HB HKP HB1 HO1
      have HI := HI2
      have HB := HB2
      have HKP := HKP2
      clear HI2 HB2 HKP2
      rw [H2.out] at HI
      go_wp2_with fail
      refine (mk_many w0 _ base S g (l2) 1 0 1 next HI.out HB.out (Nat.le_trans HS.out HKP.out.1) (fun k hk => HF.out k (Nat.le_trans HKP.out.1 hk)) (HLL.out.2.1) (by omega) (by omega)).mono ?_
      rintro e w2 ⟨rfl, hi2, hb2, hk2⟩
      have HKP2 := Aside0.mk (HKP.out.then_ hk2 (fun _ h => .inl h))
      have HI2 := Aside0.mk hi2
      have HB2 := Aside0.mk hb2
      clear hi2 hb2 hk2 HI HB HKP
      have HI := HI2
      have HB := HB2
      have HKP := HKP2
      clear HI2 HB2 HKP2
      rw [H3.out] at HI
      go_wp2_with fail
      go_loopg [61] (q1.toNat) (fun kq v61 w' => ∃ (i : Int) (cd : List S45), v61 = .int .i64 i ∧ Aside0 (0 ≤ i ∧ i + (kq : Int) = q1 ∧ (cd.length : Int) = (l3.length : Int) + i) ∧ Aside0 (mkUps rs kq i cd = l4) ∧ Aside0 (IsMk w' base S g cd) ∧ Aside0 (Below base w0 w') ∧ Aside0 (Kept w w' S))
      case atStart => exact ⟨0, _, rfl, ⟨by have h1 := HQ0.out; have h2 := HLL.out; omega⟩, H4, HI, HB, HKP⟩
      case round =>
        clear HI HB HKP
        obtain ⟨i, cd, rfl, HN, H, HI, HB, HKP⟩ := hrel
        obtain ⟨hi0, hi1, hi2⟩ := HN.out
        have hb1 := HQ1.out
        have hb2 := HLL.out
        have hb3 := HD.out
        have h := H.out
        clear H
        cases gk with
        | succ d =>
          have hin : i < q1 := by omega
          have hd : decide (i < q1) = true := decide_eq_true hin
          have hcl : cd.length ≤ 1000000000 + 2000 := by omega
          have HCL := Aside0.mk hcl
          simp only [mkUps] at h
          have g1 : IntKind.i64.wrap (rs + i) = rs + i := (mk_w (by omega)).trans (by omega)
          have g1' := (i64_w _).symm.trans g1
          have g2 : IntKind.i64.wrap (rs + i + 1) = rs + i + 1 := (mk_w (by omega)).trans (by omega)
          have g2' := (i64_w _).symm.trans g2
          have g4 : IntKind.i64.wrap (i + 1) = i + 1 := (mk_w (by omega)).trans (by omega)
          have g4' := (i64_w _).symm.trans g4
          replace hin := eq_true hin
          have HI0 := Aside0.mk hi0
          have HI1 := Aside0.mk hi1
          have HI2' := Aside0.mk hi2
          clear hi0 hi1 hi2 hb1 hb2 hb3 hcl HN
          have H := Aside0.mk h
          clear h
          go_wp2_with (first | ((with_reducible refine gate_dst (N := 70) rfl ?_); (try (refine gate_guard (by rfl) ?_; dsimp only)); refine Kd.R_lit k45 _ 45 ?hg (N := 70) ?hd (xs := [(⟨0, 0, rs + i + 1, 0⟩ : S45)]) (inner := [.int .i64 (0), .int .i64 (0), .int .i64 (rs + i + 1), .int .i64 (0)]) (ok := fun _ => True) (okp := fun _ => True) ?hr ?hp (fun _ hk => hk) trivial (Below.refl _ _) (Nat.le_refl _) (by simp) ?_; (case hd => rfl); (case hg => rfl); (case hr => first | (go_simp; done) | (go_simp; rfl)); (case hp => exact (Reps.c4 (show Kd.M k45 _ _ _ (⟨0, 0, rs + i + 1, 0⟩ : S45) [.int .i64 (0), .int .i64 (0), .int .i64 (rs + i + 1), .int .i64 (0)] from (k45_mkM _ _ _ (⟨0, 0, rs + i + 1, 0⟩ : S45))) (Reps.none _ _))); intro v1 w1 ho1 hb1 hg_ hnew_; clear hg_ hnew_; obtain ⟨A1, c1, rfl⟩ := Kd.R_slice ho1; have HO1 := Aside0.mk (Kd.R_reads' ho1).2.2; have HB1 := Aside0.mk hb1; clear ho1 hb1) | fail)
          refine (mk_put w0 w1 base S g (cd) [(⟨0, 0, rs + i + 1, 0⟩ : S45)] A1 c1 (HI.out.below HB1.out) (below_then HB.out (Nat.le_trans HS.out HKP.out.1) HB1.out) (Nat.le_trans (Nat.le_trans HS.out HKP.out.1) HB1.out.size) (fun k hk => HF.out k (Nat.le_trans (Nat.le_trans HKP.out.1 HB1.out.size) hk)) (HCL.out) HO1.out (by simp)).mono ?_
          rintro e w2 ⟨rfl, hi2, hb2, hk2⟩
          have HKP2 := Aside0.mk ((HKP.out.below HB1.out).then_ hk2 (fun _ h => .inl h))
          have HI2 := Aside0.mk hi2
          have HB2 := Aside0.mk hb2
          clear hi2 hb2 hk2 HI HB HKP HB1 HO1
          have HI := HI2
          have HB := HB2
          have HKP := HKP2
          clear HI2 HB2 HKP2
          go_wp2
          go_roundg d
          case measure => have := HI1.out; omega
          case rel => exact ⟨i + 1, _, rfl, ⟨by have := HI0.out; omega, by have := HI1.out; omega, by have := HI2'.out; simp; omega⟩, H, HI, HB, HKP⟩
        | zero =>
          have hin : ¬ i < q1 := by omega
          have hd : decide (i < q1) = false := decide_eq_false hin
          replace hin := eq_false hin
          simp only [mkUps] at h
          subst h
          clear hi0 hi1 hi2 hb1 hb2 hb3 HN
          go_wp2_with fail
          refine (mk_many w0 _ base S g (cd) 1 0 q zero HI.out HB.out (Nat.le_trans HS.out HKP.out.1) (fun k hk => HF.out k (Nat.le_trans HKP.out.1 hk)) (HLL.out.2.2.2.1) (by have := HQ0.out; omega) HQ1.out).mono ?_
          rintro e w2 ⟨rfl, hi2, hb2, hk2⟩
          have HKP2 := Aside0.mk (HKP.out.then_ hk2 (fun _ h => .inl h))
          have HI2 := Aside0.mk hi2
          have HB2 := Aside0.mk hb2
          clear hi2 hb2 hk2 HI HB HKP
          have HI := HI2
          have HB := HB2
          have HKP := HKP2
          clear HI2 HB2 HKP2
          go_wp2
          first | refine bodyPost_end (results_none rfl _ _ _) rfl ?_ | refine bodyPost_ret (results_none rfl _ _ _) rfl ?_
          exact ⟨rfl, by rw [← HR.out]; exact HI.out, HB.out, HKP.out⟩

-- pair_maker_begin: told with put

-- pair_maker_many: told with put

-- pair_maker_inc: told with put

-- pair_maker_dec: told with put

end Go.Proofs.Ytkbekdjoaibhbaa.PPairRuns
