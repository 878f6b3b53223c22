-- out of a turned copy of the print, by a program of this session; Lean checks it
import Derived.Test.YtkbekdjoaibhbaaPPairRunsx0
import Derived.Test.YtkbekdjoaibhbaaPPairRunsx2
import Derived.Test.YtkbekdjoaibhbaaPPairRunsx3
import Derived.Test.YtkbekdjoaibhbaaPPairRunsx4
namespace Go.Proofs.Ytkbekdjoaibhbaa.PPairRuns
open Go.RowKit Go.Proofs.YtkbekdjoaibhbaaW.PrintWords Go.Proofs.YtkbekdjoaibhbaaW.PrintLast Go.Proofs.YtkbekdjoaibhbaaW.PrintMore
attribute [local go_sem] max2_int min2_int max_two min_two max_three min_three max_four min_four   -- for this text's walks alone
set_option linter.unusedVariables false
set_option linter.unusedSimpArgs false

attribute [local go_sem] isSome_put_
/-! ### pair_Two: function 14 (by hand) -/
def twoGo (code : List S45) : Nat → Int → List Int → List S45 → Option (List Int × List S45)
  | 0, _, pts, cd => some (pts, cd)
  | d + 1, i, pts, cd =>
    if cd.length ≤ 100000000 ∧ pts.length ≤ 100000000 then
      if (rd_T45 code i).f0 = 0 then
        if (0 ≤ (rd_T45 code i).f1 ∧ (rd_T45 code i).f1 < 6) ∧ 0 ≤ (rd_T45 code i).f2 ∧ (rd_T45 code i).f2 ≤ 1000000000 then twoGo code d (i + 1) (pts ++ [(cd.length : Int)]) (mkInc cd (rd ([2, 3, 5, 7, 11, 13] : List Int) (rd_T45 code i).f1) (-1 - (rd_T45 code i).f2)) else none
      else if (rd_T45 code i).f0 = 1 then
        if (0 ≤ (rd_T45 code i).f1 ∧ (rd_T45 code i).f1 < 6) ∧ (0 ≤ (rd_T45 code i).f2 ∧ (rd_T45 code i).f2 ≤ 1000000000) ∧ 0 ≤ (rd_T45 code i).f3 ∧ (rd_T45 code i).f3 ≤ 1000000000 then twoGo code d (i + 1) (pts ++ [(cd.length : Int)]) (mkDec cd (rd ([2, 3, 5, 7, 11, 13] : List Int) (rd_T45 code i).f1) (-1 - (rd_T45 code i).f2) (-1 - (rd_T45 code i).f3)) else none
      else twoGo code d (i + 1) (pts ++ [(cd.length : Int)]) (cd ++ [⟨2, 0, 0, 0⟩])
    else none
def fix2 (pts : List Int) (i : Int) (cd : List S45) : Option (List S45) :=
  if (rd_T45 cd i).f2 < 0 then (if -1000000000 ≤ (rd_T45 cd i).f2 ∧ -1 - (rd_T45 cd i).f2 < (pts.length : Int) then some (cd.set i.toNat ⟨(rd_T45 cd i).f0, (rd_T45 cd i).f1, rd pts (-1 - (rd_T45 cd i).f2), (rd_T45 cd i).f3⟩) else none) else some cd
def fix3 (pts : List Int) (i : Int) (cd : List S45) : Option (List S45) :=
  if (rd_T45 cd i).f3 < 0 then (if -1000000000 ≤ (rd_T45 cd i).f3 ∧ -1 - (rd_T45 cd i).f3 < (pts.length : Int) then some (cd.set i.toNat ⟨(rd_T45 cd i).f0, (rd_T45 cd i).f1, (rd_T45 cd i).f2, rd pts (-1 - (rd_T45 cd i).f3)⟩) else none) else some cd
def twoFix (pts : List Int) : Nat → Int → List S45 → Option (List S45)
  | 0, _, cd => some cd
  | d + 1, i, cd => (fix2 pts i cd).bind fun c1 => (fix3 pts i c1).bind fun c2 => twoFix pts d (i + 1) c2
theorem fix2_length {pts : List Int} {i : Int} {cd c1 : List S45} (h : fix2 pts i cd = some c1) : c1.length = cd.length := by
  unfold fix2 at h
  split at h
  · split at h
    · obtain rfl := Option.some.inj h
      exact List.length_set ..
    · cases h
  · obtain rfl := Option.some.inj h
    rfl
theorem fix3_length {pts : List Int} {i : Int} {cd c1 : List S45} (h : fix3 pts i cd = some c1) : c1.length = cd.length := by
  unfold fix3 at h
  split at h
  · split at h
    · obtain rfl := Option.some.inj h
      exact List.length_set ..
    · cases h
  · obtain rfl := Option.some.inj h
    rfl
def pair_Two.f (k : Nat) (a0_0 : Int) (l0_1 : List S45) : Option (Int × List S45 × List Int × Int) :=
  if l0_1.length ≤ 100000000 then (counter_Valid.f k a0_0 l0_1).bind fun v => if v = true then (if 6 < a0_0 then some (0, [], [], 2) else (twoGo l0_1 l0_1.length 0 [] []).bind fun z => if 2000 < z.2.length then some (0, [], [], 4) else (twoFix z.1 z.2.length 0 z.2).bind fun cd => some (2, cd, z.1, 0)) else some (0, [], [], 1) else none
theorem pair_Two.mono : ∀ a0 a1 k, LeO (pair_Two.f k a0 a1) (pair_Two.f (k + 1) a0 a1) := by
  intro a0 a1 k
  unfold pair_Two.f
  exact LeO.ite (LeO.bind (counter_Valid.mono _ _ _) (fun _ => LeO.refl _)) (LeO.refl _)
theorem Rn_own {w : World} {e base : Nat} {ok : Nat → Prop} {v : Value} {xs : List Int} (h : Kd.R (Kd.int .i64) e w base ok v xs) : Kd.R (Kd.int .i64) e w base (fun k => v.ownBlock = some k) v xs := by
  obtain ⟨h0, inner, ho, hr⟩ := h
  exact ⟨fun k hk => hk, inner, ho, hr.imp_ (fun _ _ hp => hp)⟩
theorem Ri_own {w : World} {e base : Nat} {ok : Nat → Prop} {v : Value} {xs : List S45} (h : Kd.R k45 e w base ok v xs) : Kd.R k45 e w base (fun k => v.ownBlock = some k) v xs := by
  obtain ⟨h0, inner, ho, hr⟩ := h
  exact ⟨fun k hk => hk, inner, ho, hr.imp_ (fun _ _ hp => hp)⟩
theorem rdp {x : Int} (h0 : 0 ≤ x) (h1 : x < 6) : 1 ≤ rd ([2, 3, 5, 7, 11, 13] : List Int) x ∧ rd ([2, 3, 5, 7, 11, 13] : List Int) x ≤ 1000 := by
  rcases (by omega : x = 0 ∨ x = 1 ∨ x = 2 ∨ x = 3 ∨ x = 4 ∨ x = 5) with rfl | rfl | rfl | rfl | rfl | rfl <;> decide
theorem IsMk.grown {w W : World} {base g : Nat} {l : List S45} {row row2 : Option Nat} (h : IsMk w base (fun k => some k ≠ row) g l) (hg : w.grownBy W row) (hat : row2 = row ∨ ∃ b, row2 = some b ∧ w.heap.size ≤ b) : IsMk W base (fun k => some k ≠ row2) g l := by
  have hk : Kept w W (fun k => row = some k) := Kept.of_grown hg (Kept.refl w _) (fun k hk => .inl hk)
  refine (IsMk.kept h.shrink hk (fun k hk e => hk.1 e.symm)).mono (fun k hk => ?_)
  rcases hat with e | ⟨b, e, hb⟩
  · rw [e]; exact hk.1
  · rw [e]
    intro e2
    have h1 := hk.2.2
    injection e2 with e2
    omega
def FxS (w W : World) (base gm z1 gr cc n : Nat) (VP : Value) (pts : List Int) (OB : Obj) (c : List S45) : Prop :=
  Kd.R k45 45 W base (fun k => some k ≠ VP.ownBlock ∧ k ≠ gm) (.slice (some ⟨gr, 0, none⟩) n cc) c ∧ W.heap[gm]? = some (.cells #[.slice (some ⟨gr, 0, none⟩) n cc] 60 (0, 0)) ∧ Kd.R (Kd.int .i64) 3 W base (fun _ => True) VP pts ∧ Below w.heap.size w W ∧ W.heap[z1]? = some OB
theorem fx_cell {w W : World} {base gm z1 gr cc n : Nat} {VP : Value} {pts : List Int} {OB : Obj} {c : List S45} (h : FxS w W base gm z1 gr cc n VP pts OB c) (i : Int) (h0 : 0 ≤ i) (h1 : i < n) : W.cell? ⟨gr, i.toNat * 4 + 2, none⟩ = some (.int .i64 (rd_T45 c i).f2) ∧ W.cell? ⟨gr, i.toNat * 4 + 3, none⟩ = some (.int .i64 (rd_T45 c i).f3) ∧ (∀ j, W.frozen? ⟨gr, i.toNat * 4 + j, none⟩ = false) ∧ W.cell? ⟨gm, 0, none⟩ = some (.slice (some ⟨gr, 0, none⟩) n cc) := by
  obtain ⟨HR, HM, HP, HB, HZ⟩ := h
  obtain ⟨ce, hcl, hM, hcc, hfr⟩ := Kd.R_elem HR z45 i h0 h1
  obtain rfl := k45_openM hM
  exact ⟨hcc 2 _ rfl, hcc 3 _ rfl, fun j => hfr j, (blk_cell HM 0).trans rfl⟩
theorem fx_put {w W : World} {base gm z1 gr cc n : Nat} {VP : Value} {pts : List Int} {OB : Obj} {c : List S45} (h : FxS w W base gm z1 gr cc n VP pts OB c) (hb : w.heap.size ≤ base) (hz : z1 < base) (i : Int) (j : Nat) (u : Value) (c' : List S45) (hR : Kd.R k45 45 (W.setCell ⟨gr, i.toNat * 4 + j, none⟩ u) base (fun k => some k ≠ VP.ownBlock ∧ k ≠ gm) (.slice (some ⟨gr, 0, none⟩) n cc) c') : FxS w (W.setCell ⟨gr, i.toNat * 4 + j, none⟩ u) base gm z1 gr cc n VP pts OB c' := by
  obtain ⟨HR, HM, HP, HB, HZ⟩ := h
  have hok := HR.1 gr rfl
  have hbg := Kd.R_base HR gr rfl
  exact ⟨hR, blk_far HM (fun e => hok.2 e.symm) _, Kd.R_mono (Kd.R_far (Rn_own HP) (fun k hk e => hok.1 (by rw [hk]; exact congrArg some e.symm)) _) (fun _ _ => trivial), below_set HB (Nat.le_trans hb hbg), (Below.heap_setCell W ⟨gr, i.toNat * 4 + j, none⟩ u z1 (Nat.ne_of_lt (Nat.lt_of_lt_of_le hz hbg))).trans HZ⟩
theorem fx_set2 {w W : World} {base gm z1 gr cc n : Nat} {VP : Value} {pts : List Int} {OB : Obj} {c : List S45} (h : FxS w W base gm z1 gr cc n VP pts OB c) (hb : w.heap.size ≤ base) (hz : z1 < base) (i : Int) (h0 : 0 ≤ i) (h1 : i < n) (v : Int) : FxS w (W.setCell ⟨gr, i.toNat * 4 + 2, none⟩ (.int .i64 v)) base gm z1 gr cc n VP pts OB (c.set i.toNat ⟨(rd_T45 c i).f0, (rd_T45 c i).f1, v, (rd_T45 c i).f3⟩) := by
  refine fx_put h hb hz i 2 _ _ ?_
  obtain ⟨HR, -⟩ := h
  obtain ⟨ce, hcl, hM, hcc, hfr⟩ := Kd.R_elem HR z45 i h0 h1
  obtain rfl := k45_openM hM
  exact (Kd.R_seg HR i h0 h1 (seg := [.int .i64 v]) (j := 2) hcl hcc (show 3 ≤ 4 from by decide) (x' := (⟨(rd_T45 c i).f0, (rd_T45 c i).f1, v, (rd_T45 c i).f3⟩ : S45)) (k45_mkM _ _ _ (⟨(rd_T45 c i).f0, (rd_T45 c i).f1, v, (rd_T45 c i).f3⟩ : S45)) (fun _ hk => hk)).1
theorem fx_set3 {w W : World} {base gm z1 gr cc n : Nat} {VP : Value} {pts : List Int} {OB : Obj} {c : List S45} (h : FxS w W base gm z1 gr cc n VP pts OB c) (hb : w.heap.size ≤ base) (hz : z1 < base) (i : Int) (h0 : 0 ≤ i) (h1 : i < n) (v : Int) : FxS w (W.setCell ⟨gr, i.toNat * 4 + 3, none⟩ (.int .i64 v)) base gm z1 gr cc n VP pts OB (c.set i.toNat ⟨(rd_T45 c i).f0, (rd_T45 c i).f1, (rd_T45 c i).f2, v⟩) := by
  refine fx_put h hb hz i 3 _ _ ?_
  obtain ⟨HR, -⟩ := h
  obtain ⟨ce, hcl, hM, hcc, hfr⟩ := Kd.R_elem HR z45 i h0 h1
  obtain rfl := k45_openM hM
  exact (Kd.R_seg HR i h0 h1 (seg := [.int .i64 v]) (j := 3) hcl hcc (show 4 ≤ 4 from by decide) (x' := (⟨(rd_T45 c i).f0, (rd_T45 c i).f1, (rd_T45 c i).f2, v⟩ : S45)) (k45_mkM _ _ _ (⟨(rd_T45 c i).f0, (rd_T45 c i).f1, (rd_T45 c i).f2, v⟩ : S45)) (fun _ hk => hk)).1
set_option maxHeartbeats 4000000 in
set_option maxRecDepth 100000 in
set_option maxHeartbeats 8000000 in
set_option maxRecDepth 100000 in
theorem pair_Two.calls (k : Nat) (a0_0 : Int) (A0_1 : Option Addr) (c0_1 : Nat) (l0_1 : List S45) (r1 : Int) (r2 : List S45) (r3 : List Int) (r4 : Int) (w : World) (hr0_1 : Kd.C k45 w A0_1 l0_1.length l0_1) (hc0_1 : l0_1.length ≤ c0_1) (h : pair_Two.f k a0_0 l0_1 = some (r1, r2, r3, r4)) :
    Calls Try.prog 14 #[.agg #[.int .i64 a0_0, .slice A0_1 l0_1.length c0_1]] w fun e w' => ∃ v1_ v2_ : Value, e = .returned (.tuple #[.agg #[.int .i64 r1, v1_], v2_, .int .i64 r4]) ∧ Kd.R k45 45 w' w.heap.size (fun _ => True) v1_ r2 ∧ Kd.R (Kd.int .i64) 3 w' w.heap.size (fun _ => True) v2_ r3 ∧ Below w.heap.size w w' := by
  have hu38 := Try.underlying38
  have hu45 := Try.underlying45
  have hu60 := Try.underlying60
  unfold pair_Two.f at h
  by_cases hlc : l0_1.length ≤ 100000000
  rotate_left
  · rw [if_neg hlc] at h
    cases h
  rw [if_pos hlc] at h
  have HLC := Aside0.mk hlc
  clear hlc
  obtain ⟨v, hv, h⟩ := Option.bind_eq_some_iff.1 h
  have H := Aside0.mk h
  have HV := Aside0.mk (fun (W : World) (hW : Below w.heap.size w W) => counter_Valid.calls k a0_0 A0_1 c0_1 l0_1 v W (Kd.C_below hr0_1 hW) hc0_1 hv)
  have HR0 := Aside0.mk hr0_1
  have HC0 := Aside0.mk hc0_1
  clear h hv hr0_1 hc0_1
  go_enter Try.func14, Try.ntmps14
  go_wp2_with fail
  obtain ⟨w1, hW1⟩ : ∃ W : World, W = ((w.alloc (.cells #[.int .i64 a0_0, .slice A0_1 l0_1.length c0_1] 38)).alloc (.cells #[.int .i64 0, .slice none 0 0] 38)) := ⟨_, rfl⟩
  have hBW1 : Below w.heap.size w w1 := by rw [hW1]; exact below_alloc (below_alloc (Below.refl _ _) _) _
  have hb0 : w1.heap[w.heap.size]? = some (.cells #[.int .i64 a0_0, .slice A0_1 l0_1.length c0_1] 38 (0, 0)) := by rw [hW1]; exact blk_alloc (blk_new _ _) _
  have hb1 : w1.heap[w.heap.size + 1]? = some (.cells #[.int .i64 0, .slice none 0 0] 38 (0, 0)) := by rw [hW1]; have h_ := blk_new (w.alloc (.cells #[.int .i64 a0_0, .slice A0_1 l0_1.length c0_1] 38)) (.cells #[.int .i64 0, .slice none 0 0] 38); simpa using h_
  rw [← hW1]
  clear hW1
  obtain ⟨z1, hz1⟩ : ∃ z, w.heap.size + 1 = z := ⟨_, rfl⟩
  rw [hz1] at hb1 ⊢
  obtain ⟨z0, hz0⟩ : ∃ z, w.heap.size = z := ⟨_, rfl⟩
  have HZ := Aside0.mk (show w.heap.size ≤ z1 by omega)
  rw [hz0] at hb0
  try rw [hz0]
  clear hz0 hz1
  refine (HV.out _ hBW1).mono ?_
  rintro e w2 ⟨rfl, hB2⟩
  have HB := Aside0.mk (below_step hBW1 hB2)
  have HB0 := Aside0.mk (blk_below hb0 hB2)
  have HB1 := Aside0.mk (blk_below hb1 hB2)
  clear hb0 hb1 hBW1 hB2 HV
  have h := H.out
  clear H
  cases v with
  | false =>
    rw [if_neg (by simp)] at h
    simp only [Option.some.injEq, Prod.mk.injEq] at h
    obtain ⟨rfl, rfl, rfl, rfl⟩ := h
    have hz00 := (blk_cell HB0.out 0).trans rfl
    have hz01 := (blk_cell HB0.out 1).trans rfl
    have hz10 := (blk_cell HB1.out 0).trans rfl
    have hz11 := (blk_cell HB1.out 1).trans rfl
    have hf10 := blk_frozen HB1.out 0
    have hf11 := blk_frozen HB1.out 1
    go_wp2
    refine bodyPost_ret (results_list (rs := [.cell 2 38, .tmp 3, .tmp 4]) (vs := [.agg #[.int .i64 0, .slice none 0 0], .slice none 0 0, .int .i64 1]) rfl (by simp) (Vals.cell z1 38 #[.int .i64 0, .slice none 0 0] (0, 0) _ rfl (by refine blk_put (cs := #[.int .i64 0, .slice none 0 0]) ?_ 1 _ rfl; refine blk_put (cs := #[.int .i64 0, .slice none 0 0]) ?_ 0 _ rfl; exact HB1.out) Try.underlying38 rfl (by kernel_rfl) (Vals.tmp (Vals.tmp Vals.nil)))) rfl ?_
    exact ⟨_, _, rfl, Kd.R_nil _ _ _ _ _, Kd.R_nil _ _ _ _ _, below_set (below_set HB.out HZ.out) HZ.out⟩
  | true =>
  rw [if_pos rfl] at h
  by_cases c6 : 6 < a0_0
  · rw [if_pos c6] at h
    have c6b : decide (6 < a0_0) = true := decide_eq_true c6
    replace c6 := eq_true c6
    simp only [Option.some.injEq, Prod.mk.injEq] at h
    obtain ⟨rfl, rfl, rfl, rfl⟩ := h
    have hz00 := (blk_cell HB0.out 0).trans rfl
    have hz01 := (blk_cell HB0.out 1).trans rfl
    have hz10 := (blk_cell HB1.out 0).trans rfl
    have hz11 := (blk_cell HB1.out 1).trans rfl
    have hf10 := blk_frozen HB1.out 0
    have hf11 := blk_frozen HB1.out 1
    go_wp2
    refine bodyPost_ret (results_list (rs := [.cell 2 38, .tmp 3, .tmp 4]) (vs := [.agg #[.int .i64 0, .slice none 0 0], .slice none 0 0, .int .i64 2]) rfl (by simp) (Vals.cell z1 38 #[.int .i64 0, .slice none 0 0] (0, 0) _ rfl (by refine blk_put (cs := #[.int .i64 0, .slice none 0 0]) ?_ 1 _ rfl; refine blk_put (cs := #[.int .i64 0, .slice none 0 0]) ?_ 0 _ rfl; exact HB1.out) Try.underlying38 rfl (by kernel_rfl) (Vals.tmp (Vals.tmp Vals.nil)))) rfl ?_
    exact ⟨_, _, rfl, Kd.R_nil _ _ _ _ _, Kd.R_nil _ _ _ _ _, below_set (below_set HB.out HZ.out) HZ.out⟩
  rw [if_neg c6] at h
  have c6b : decide (6 < a0_0) = false := decide_eq_false c6
  replace c6 := eq_false c6
  obtain ⟨⟨pt, cd0⟩, hg0, h⟩ := Option.bind_eq_some_iff.1 h
  simp only at h
  have H := Aside0.mk h
  have HG0 := Aside0.mk hg0
  clear h hg0
  obtain ⟨gm, hgm⟩ : ∃ z, z = w2.heap.size := ⟨_, rfl⟩
  obtain ⟨wx, hWX⟩ : ∃ W : World, W = w2.alloc (.cells #[.slice none 0 0] 60) := ⟨_, rfl⟩
  have hbx : Below w2.heap.size w2 wx := by rw [hWX]; exact below_alloc (Below.refl _ _) _
  have hmx : wx.heap[gm]? = some (.cells #[.slice none 0 0] 60 (0, 0)) := by rw [hWX, hgm]; exact blk_new _ _
  obtain ⟨base, hbase⟩ : ∃ z, z = w2.heap.size := ⟨_, rfl⟩
  have HZB := Aside0.mk (show w.heap.size ≤ base ∧ z0 < base ∧ z1 < base ∧ base ≤ w2.heap.size from by rw [hbase]; exact ⟨HB.out.size, blk_lt HB0.out, blk_lt HB1.out, Nat.le_refl _⟩)
  rw [← hbase] at hbx
  have HBX := Aside0.mk hbx
  have HI := Aside0.mk (show IsMk wx base (fun k => some k ≠ (Value.slice none 0 0).ownBlock) gm [] from ⟨by rw [hbase, hgm]; exact Nat.le_refl _, by simp [Value.ownBlock], _, hmx, Kd.R_nil _ _ _ _ _⟩)
  have HP := Aside0.mk (show Kd.R (Kd.int .i64) 3 wx base (fun _ => True) (.slice none 0 0) [] from Kd.R_nil _ _ _ _ _)
  have hz00 := (blk_cell HB0.out 0).trans rfl
  have hz01 := (blk_cell HB0.out 1).trans rfl
  have hz10 := (blk_cell HB1.out 0).trans rfl
  have hz11 := (blk_cell HB1.out 1).trans rfl
  have hf10 := blk_frozen HB1.out 0
  have hf11 := blk_frozen HB1.out 1
  have hzx := (blk_cell (blk_alloc HB0.out (.cells #[.slice none 0 0] 60)) 1).trans rfl
  go_wp2_with fail
  clear hzx
  rw [← hWX, ← hgm]
  clear hWX hgm hbx hmx hbase
  clear hz00 hz01 hz10 hz11 hf10 hf11
  skip
  go_loopg [6, 24] (l0_1.length) (fun kq v6 v24 w' => ∃ (i : Int) (pts : List Int) (cd : List S45), v24 = .int .i64 i ∧ Aside0 (0 ≤ i ∧ i + (kq : Int) = (l0_1.length : Int)) ∧ Aside0 (twoGo l0_1 kq i pts cd = some (pt, cd0)) ∧ Aside0 (IsMk w' base (fun k => some k ≠ v6.ownBlock) gm cd) ∧ Aside0 (Kd.R (Kd.int .i64) 3 w' base (fun _ => True) v6 pts) ∧ Aside0 (Below base w2 w'))
  case atStart => exact ⟨0, [], [], rfl, ⟨by omega⟩, HG0, HI, HP, HBX⟩
  case round =>
    clear HG0 HI HP HBX
    obtain ⟨i, pts, cd, rfl, HN, HG, HI, HP, HBX⟩ := hrel
    obtain ⟨hi0, hi1⟩ := HN.out
    obtain ⟨Av, cv, rfl⟩ := Kd.R_slice HP.out
    cases gk with
    | succ d =>
      have hin : i < (l0_1.length : Int) := by omega
      have hd : decide (i < (l0_1.length : Int)) = true := decide_eq_true hin
      have h := HG.out
      clear HG
      simp only [twoGo] at h
      by_cases cg : cd.length ≤ 100000000 ∧ pts.length ≤ 100000000
      rotate_left
      · rw [if_neg cg] at h
        cases h
      rw [if_pos cg] at h
      obtain ⟨cg1, cg2⟩ := cg
      have HCG := Aside0.mk cg1
      have HPG := Aside0.mk cg2
      obtain ⟨ad, ea, hx0, hx1, hx2, hx3⟩ := at_T45 (Kd.C_below HR0.out (Below.trans HB.out (Below.mono HBX.out HZB.out.1))) i hi0 hin
      cases ea
      obtain ⟨⟨x0, x1, x2, x3⟩, hx⟩ : ∃ x, rd_T45 l0_1 i = x := ⟨_, rfl⟩
      rw [hx] at h hx0 hx1 hx2 hx3
      simp only at h hx0 hx1 hx2 hx3
      have hiw : IntKind.i64.wrap (i + 1) = i + 1 := mk_w (by have := HN.out; have := HLC.out; omega)
      have hiw' := (i64_w _).symm.trans hiw
      have H9 := Aside0.mk h
      have hi0t := eq_true hi0
      replace hin := eq_true hin
      clear h hx cg1 cg2 hi1
      obtain ⟨w9, hW9⟩ : ∃ W : World, W = wr.alloc (.cells #[.int .i64 x0, .int .i64 x1, .int .i64 x2, .int .i64 x3] 45) := ⟨_, rfl⟩
      obtain ⟨gx, hgx⟩ : ∃ z, z = wr.heap.size := ⟨_, rfl⟩
      have hb9 : Below wr.heap.size wr w9 := by rw [hW9]; exact below_alloc (Below.refl _ _) _
      have HX9 := Aside0.mk (show w9.heap[gx]? = some (.cells #[.int .i64 x0, .int .i64 x1, .int .i64 x2, .int .i64 x3] 45 (0, 0)) by rw [hW9, hgx]; exact blk_new _ _)
      have HI9 := Aside0.mk (HI.out.below hb9)
      have HP9 := Aside0.mk (Kd.R_below HP.out hb9)
      have HSB := Aside0.mk (Nat.le_trans (Nat.le_of_lt (blk_lt HI9.out.2.2.choose_spec.1)) (Nat.le_refl _) : gm ≤ w9.heap.size)
      have HBX9 := Aside0.mk (below_then HBX.out (Nat.le_trans HZB.out.2.2.2 HBX.out.size) hb9)
      skip
      obtain ⟨hg9, hS9, vc, hb9c, hr9⟩ := HI9.out
      obtain ⟨Ac, cc, rfl⟩ := Kd.R_slice hr9
      have hc9 := (blk_cell hb9c 0).trans rfl
      clear hb9 hg9 hS9 hb9c hr9 HI HP HBX HSB
      subst hW9
      subst hgx
      by_cases o0 : x0 = 0
      · have h := H9.out
        clear H9
        rw [if_pos o0] at h
        by_cases kq : (0 ≤ x1 ∧ x1 < 6) ∧ 0 ≤ x2 ∧ x2 ≤ 1000000000
        rotate_left
        · rw [if_neg kq] at h
          cases h
        rw [if_pos kq] at h
        obtain ⟨⟨p0, p1⟩, p2, p3⟩ := kq
        have o0b : (x0 == (0 : Int)) = true := beq_iff_eq.mpr o0
        obtain ⟨nx, hnx⟩ : ∃ z, -1 - x2 = z := ⟨_, rfl⟩
        rw [hnx] at h
        have e1 : IntKind.i64.wrap (-1 - x2) = nx := (mk_w (by omega)).trans hnx
        have e1' := (i64_w _).symm.trans e1
        obtain ⟨q, hq⟩ : ∃ q, rd ([2, 3, 5, 7, 11, 13] : List Int) x1 = q := ⟨_, rfl⟩
        have hqb := rdp p0 p1
        rw [hq] at h hqb
        have hx1hi : x1 < ((([2, 3, 5, 7, 11, 13] : List Int)).length : Int) := p1
        have HQ := Aside0.mk hqb
        have HPX := Aside0.mk (show 0 ≤ x1 ∧ x1 < ((([2, 3, 5, 7, 11, 13] : List Int)).length : Int) from ⟨p0, p1⟩)
        have p0t := eq_true p0
        have p1t := eq_true p1
        have HH := Aside0.mk h
        clear h o0 p2 p3 hnx hqb hx1hi p0 p1
        go_wp2_with (first | ((with_reducible refine gate_dst (N := 34) rfl ?_); (try (refine gate_guard (by rfl) ?_; dsimp only)); refine Kd.R_lit (Kd.int .i64) _ 3 ?hg (N := 34) ?hd (xs := [((cd.length : Int))]) (inner := [.int .i64 ((cd.length : Int))]) (ok := fun _ => True) (okp := fun _ => True) ?hr ?hp (fun _ hk => hk) trivial (Below.refl _ _) (Nat.le_refl _) (by simp) ?_; (case hd => rfl); (case hg => rfl); (case hr => first | (go_simp; done) | (go_simp; rfl)); (case hp => exact (Reps.one (show Kd.M (Kd.int .i64) _ _ _ ((cd.length : Int)) [.int .i64 ((cd.length : Int))] from rfl) (Reps.none _ _))); intro v1 w10 ho1 hb1 hg_ hnew_; clear hg_ hnew_; obtain ⟨A1, c1, rfl⟩ := Kd.R_slice ho1; have HO1 := Aside0.mk (Kd.R_reads' ho1).2.2; have HBL := Aside0.mk hb1; clear ho1 hb1) | ((with_reducible refine gate_builtin (b := .append) (xs := #[.tmp 28, .tmp 34]) rfl ?_); (try (refine gate_guard (by rfl) ?_; dsimp only)); at_builtin; refine Kd.R_append_rows (Kd.int .i64) (w0 := w2) base rfl (.tmp 28) (.tmp 34) 22 3 (.int .i64 0) 8 rfl Try.underlying22 info3 rfl (by decide) (by omega) (.slice Av pts.length cv) pts [(cd.length : Int)] _ _ _ (fun _ => True) (fun _ => False) rfl rfl ?aO ?aR (fun _ _ h => h) (fun _ h => h.elim) (fun _ _ => trivial) ?aB ?aS ?aL ?_; (case aR => exact HO1.out); (case aB => exact below_then HBX9.out (Nat.le_trans HZB.out.2.2.2 HBX9.out.size) HBL.out); (case aO => exact Kd.R_below HP9.out HBL.out); (case aS => exact Nat.le_trans (Nat.le_trans HZB.out.2.2.2 HBX9.out.size) HBL.out.size); (case aL => have := HPG.out; simp; omega); intro v2 w11 ho2 hb2 hg2 hat2; have HP2 := Aside0.mk ho2; have HBX2 := Aside0.mk hb2; have HI2 := Aside0.mk (IsMk.grown (HI9.out.below HBL.out) hg2 hat2); have HX2 := Aside0.mk (blk_grown (blk_below HX9.out HBL.out) hg2 (Kd.R_ne (Kd.R_below HP9.out HBL.out) (blk_below HX9.out HBL.out) (by decide))); obtain ⟨A2, c2, rfl⟩ := Kd.R_slice ho2; clear ho2 hb2 hg2 hat2 HI9 HP9 HX9 HBX9 HBL HO1 hc9; obtain ⟨gx, hgx⟩ : ∃ z, wr.heap.size = z := ⟨_, rfl⟩; rw [hgx] at HX2; (try rw [hgx]); clear hgx; have hq0 := (blk_cell HX2.out 0).trans rfl) | fail)
        have hq1 := (blk_cell HX2.out 1).trans rfl
        have hq2 := (blk_cell HX2.out 2).trans rfl
        have hq3 := (blk_cell HX2.out 3).trans rfl
        have HF2 := Aside0.mk (show ∀ k, w11.heap.size ≤ k → some k ≠ (Value.slice A2 (pts ++ [(cd.length : Int)]).length c2).ownBlock from fun k hk e => absurd (Kd.R_lt HP2.out k e.symm) (Nat.not_lt.2 hk))
        refine start_ (n := 10) (S := fun w' => w'.cell? ⟨gx, 1, none⟩ = some (.int .i64 x1) ∧ w'.cell? ⟨gx, 2, none⟩ = some (.int .i64 x2)) (ds := [9]) #[false, false, false, false, false, false, false, false, false, false] (by kernel_rfl) rfl rfl ⟨hq1, hq2⟩ (fun hHeld => ?_)
        refine pure_ (i := 0) (N := some 44) (v := ?_) (a' := ?_) #[true, false, false, false, false, false, false, false, false, false] rfl rfl (by kernel_rfl) (fun _ _ _ h => h) (Or.inl ⟨by rfl, ?_⟩) ?_ ?_
        rotate_left
        · intro w'
          go_simp
          with_reducible rfl
        rotate_left
        · simp only [Act.put, List.setIfInBounds_toArray, List.set_cons_zero, List.set_cons_succ, i64_w, i32_w]
          rfl
        refine pure_ (i := 2) (N := some 46) (v := ?_) (a' := ?_) #[true, false, true, false, false, false, false, false, false, false] rfl rfl (by kernel_rfl) (fun _ _ _ h => h) (Or.inl ⟨by rfl, ?_⟩) ?_ ?_
        rotate_left
        · intro w'
          go_simp
          with_reducible rfl
        rotate_left
        · simp only [Act.put, List.setIfInBounds_toArray, List.set_cons_zero, List.set_cons_succ, i64_w, i32_w]
          rfl
        refine pure_ (i := 6) (N := some 50) (v := ?_) (a' := ?_) #[true, false, true, false, false, false, true, false, false, false] rfl rfl (by kernel_rfl) (fun _ _ _ h => h) (Or.inl ⟨by rfl, ?_⟩) ?_ ?_
        rotate_left
        · intro w'
          go_simp
          with_reducible rfl
        rotate_left
        · simp only [Act.put, List.setIfInBounds_toArray, List.set_cons_zero, List.set_cons_succ, i64_w, i32_w]
          rfl
        refine take_ (i := 3) (N := some 47) (v := ?_) (a' := ?_) #[true, false, true, true, false, false, true, false, false, false] rfl rfl (by kernel_rfl) (fun _ _ _ h => h) (Or.inl ⟨by rfl, ?_⟩) hHeld ?_ ?_
        rotate_left
        · rintro w' ⟨s0, s1⟩
          go_simp
          with_reducible rfl
        rotate_left
        · simp only [Act.put, List.setIfInBounds_toArray, List.set_cons_zero, List.set_cons_succ, i64_w, i32_w]
          rfl
        refine take_ (i := 7) (N := some 51) (v := ?_) (a' := ?_) #[true, false, true, true, false, false, true, true, false, false] rfl rfl (by kernel_rfl) (fun _ _ _ h => h) (Or.inl ⟨by rfl, ?_⟩) hHeld ?_ ?_
        rotate_left
        · rintro w' ⟨s0, s1⟩
          go_simp
          with_reducible rfl
        rotate_left
        · simp only [Act.put, List.setIfInBounds_toArray, List.set_cons_zero, List.set_cons_succ, i64_w, i32_w]
          rfl
        refine pure_ (i := 8) (N := some 52) (v := ?_) (a' := ?_) #[true, false, true, true, false, false, true, true, true, false] rfl rfl (by kernel_rfl) (fun _ _ _ h => h) (Or.inl ⟨by rfl, ?_⟩) ?_ ?_
        rotate_left
        · intro w'
          go_simp
          with_reducible rfl
        rotate_left
        · simp only [Act.put, List.setIfInBounds_toArray, List.set_cons_zero, List.set_cons_succ, i64_w, i32_w]
          rfl
        refine one_ (i := 1) (N := some 45) #[true, true, true, true, false, false, true, true, true, false] rfl rfl (by kernel_rfl) (by decide) (fun K hK => ?_)
        refine goes_ Try.func24 (by kernel_rfl) rfl #[] (by rfl) rfl rfl (by first | rfl | (simp only [List.map_toArray, List.map_cons, List.map_nil]; done) | (simp only [List.map_toArray, List.map_cons, List.map_nil]; rfl)) ?_
        with_reducible refine (pair_primes.calls ([2, 3, 5, 7, 11, 13] : List Int) w11.drew rfl).mono ?_
        rintro e w12 ⟨v12, rfl, ho12, hB12⟩
        refine ⟨_, rfl, ?_⟩
        obtain ⟨A12, c12, rfl⟩ := Kd.R_slice ho12
        obtain ⟨ad12, ea12, hx12⟩ := Kd.at_int (Kd.R_reads' ho12).2.2 x1 HPX.out.1 HPX.out.2
        cases ea12
        rw [hq] at hx12
        have HE12 := Aside0.mk (below_step (show Below w11.heap.size w11 w11.drew from below_drew (Below.refl _ _)) hB12)
        clear ho12 hB12
        refine hK.out _ _ ⟨(lf_ HE12.out hq1), (lf_ HE12.out hq2)⟩ (fun hHeld => ?_)
        clear hK K
        refine norm_ (a' := ?_) ?_ ?_
        rotate_left
        · show Act.put _ (some 45) _ = _
          simp only [Act.put, List.setIfInBounds_toArray, List.set_cons_zero, List.set_cons_succ, i64_w, i32_w]
          rfl
        refine pure_ (i := 4) (N := some 48) (v := ?_) (a' := ?_) #[true, true, true, true, true, false, true, true, true, false] rfl rfl (by kernel_rfl) (fun _ _ _ h => h) (Or.inl ⟨by rfl, ?_⟩) ?_ ?_
        rotate_left
        · intro w'
          go_simp
          with_reducible rfl
        rotate_left
        · simp only [Act.put, List.setIfInBounds_toArray, List.set_cons_zero, List.set_cons_succ, i64_w, i32_w]
          rfl
        refine one_ (i := 5) (N := some 49) #[true, true, true, true, true, true, true, true, true, false] rfl rfl (by kernel_rfl) (by decide) (fun K hK => ?_)
        refine value_ (w1 := ?_) (v := ?_) (by rfl) rfl ?_ ?_
        rotate_left 2
        · go_simp
          constructor
          · rfl
          · rfl
        refine hK.out _ _ ⟨(lf_ HE12.out hq1), (lf_ HE12.out hq2)⟩ (fun hHeld => ?_)
        clear hK K
        refine norm_ (a' := ?_) ?_ ?_
        rotate_left
        · show Act.put _ (some 49) _ = _
          simp only [Act.put, List.setIfInBounds_toArray, List.set_cons_zero, List.set_cons_succ, i64_w, i32_w]
          rfl
        refine last_ (i := 9) (N := some 53) #[true, true, true, true, true, true, true, true, true, true] rfl rfl (by kernel_rfl) (by decide) (fun K hK => ?_)
        refine goes_ Try.func27 (by kernel_rfl) rfl #[.pointer (some ⟨gm, 0, none⟩), .int .i64 q, .int .i64 nx] (by rfl) rfl rfl (by first | rfl | (simp only [List.map_toArray, List.map_cons, List.map_nil]; done) | (simp only [List.map_toArray, List.map_cons, List.map_nil]; rfl)) ?_
        with_reducible refine (mk_inc w2 w12 base (fun k => some k ≠ (Value.slice A2 (pts ++ [(cd.length : Int)]).length c2).ownBlock) gm cd q nx (HI2.out.below HE12.out) (below_then HBX2.out (Nat.le_trans HZB.out.2.2.2 HBX2.out.size) HE12.out) (Nat.le_trans (Nat.le_trans HZB.out.2.2.2 HBX2.out.size) HE12.out.size) (fun k hk => HF2.out k (Nat.le_trans HE12.out.size hk)) HCG.out (by have := HQ.out; omega) HQ.out.2).mono ?_
        rintro e w13 ⟨rfl, hi13, hB13, hk13⟩
        refine ⟨_, rfl, ?_⟩
        refine hK.out _ _ ?_
        clear hK K
        refine norm_ (a' := ?_) ?_ ?_
        rotate_left
        · show Act.put _ (some 53) _ = _
          simp only [Act.put, List.setIfInBounds_toArray, List.set_cons_zero, List.set_cons_succ, i64_w, i32_w]
          rfl
        refine done_ (by kernel_rfl) ?_
        have HP := Aside0.mk (Kd.R_mono (ok' := fun _ => True) (Kd.R_kept (Rn_own (Kd.R_below HP2.out HE12.out)) hk13 (fun k hk hs => hs hk.symm)) (fun _ _ => trivial))
        have HI := Aside0.mk hi13
        have HBX := Aside0.mk hB13
        have hlen : (pts ++ [(cd.length : Int)]).length = pts.length + 1 := by simp
        rw [hlen] at HI HP
        clear hk13 hi13 hB13 hlen
        go_wp2
        go_roundg d
        case measure => have := HN.out; omega
        case rel => exact ⟨i + 1, pts ++ [(cd.length : Int)], mkInc cd q nx, rfl, ⟨by have := HN.out; omega⟩, HH, HI, HP, HBX⟩
      by_cases o1 : x0 = 1
      · have h := H9.out
        clear H9
        rw [if_neg o0, if_pos o1] at h
        by_cases kq : (0 ≤ x1 ∧ x1 < 6) ∧ (0 ≤ x2 ∧ x2 ≤ 1000000000) ∧ 0 ≤ x3 ∧ x3 ≤ 1000000000
        rotate_left
        · rw [if_neg kq] at h
          cases h
        rw [if_pos kq] at h
        obtain ⟨⟨p0, p1⟩, ⟨p2, p3⟩, p4, p5⟩ := kq
        have o1b : (x0 == (1 : Int)) = true := beq_iff_eq.mpr o1
        obtain ⟨nx, hnx⟩ : ∃ z, -1 - x2 = z := ⟨_, rfl⟩
        rw [hnx] at h
        have e1 : IntKind.i64.wrap (-1 - x2) = nx := (mk_w (by omega)).trans hnx
        have e1' := (i64_w _).symm.trans e1
        obtain ⟨q, hq⟩ : ∃ q, rd ([2, 3, 5, 7, 11, 13] : List Int) x1 = q := ⟨_, rfl⟩
        have hqb := rdp p0 p1
        rw [hq] at h hqb
        have hx1hi : x1 < ((([2, 3, 5, 7, 11, 13] : List Int)).length : Int) := p1
        have HQ := Aside0.mk hqb
        have HPX := Aside0.mk (show 0 ≤ x1 ∧ x1 < ((([2, 3, 5, 7, 11, 13] : List Int)).length : Int) from ⟨p0, p1⟩)
        have p0t := eq_true p0
        have p1t := eq_true p1
        obtain ⟨nz, hnz⟩ : ∃ z, -1 - x3 = z := ⟨_, rfl⟩
        rw [hnz] at h
        have e2 : IntKind.i64.wrap (-1 - x3) = nz := (mk_w (by omega)).trans hnz
        have e2' := (i64_w _).symm.trans e2
        have o0b : (x0 == (0 : Int)) = false := beq_eq_false_iff_ne.mpr o0
        clear p4 p5 hnz o0
        have HH := Aside0.mk h
        clear h o1 p2 p3 hnx hqb hx1hi p0 p1
        go_wp2_with (first | ((with_reducible refine gate_dst (N := 34) rfl ?_); (try (refine gate_guard (by rfl) ?_; dsimp only)); refine Kd.R_lit (Kd.int .i64) _ 3 ?hg (N := 34) ?hd (xs := [((cd.length : Int))]) (inner := [.int .i64 ((cd.length : Int))]) (ok := fun _ => True) (okp := fun _ => True) ?hr ?hp (fun _ hk => hk) trivial (Below.refl _ _) (Nat.le_refl _) (by simp) ?_; (case hd => rfl); (case hg => rfl); (case hr => first | (go_simp; done) | (go_simp; rfl)); (case hp => exact (Reps.one (show Kd.M (Kd.int .i64) _ _ _ ((cd.length : Int)) [.int .i64 ((cd.length : Int))] from rfl) (Reps.none _ _))); intro v1 w10 ho1 hb1 hg_ hnew_; clear hg_ hnew_; obtain ⟨A1, c1, rfl⟩ := Kd.R_slice ho1; have HO1 := Aside0.mk (Kd.R_reads' ho1).2.2; have HBL := Aside0.mk hb1; clear ho1 hb1) | ((with_reducible refine gate_builtin (b := .append) (xs := #[.tmp 28, .tmp 34]) rfl ?_); (try (refine gate_guard (by rfl) ?_; dsimp only)); at_builtin; refine Kd.R_append_rows (Kd.int .i64) (w0 := w2) base rfl (.tmp 28) (.tmp 34) 22 3 (.int .i64 0) 8 rfl Try.underlying22 info3 rfl (by decide) (by omega) (.slice Av pts.length cv) pts [(cd.length : Int)] _ _ _ (fun _ => True) (fun _ => False) rfl rfl ?aO ?aR (fun _ _ h => h) (fun _ h => h.elim) (fun _ _ => trivial) ?aB ?aS ?aL ?_; (case aR => exact HO1.out); (case aB => exact below_then HBX9.out (Nat.le_trans HZB.out.2.2.2 HBX9.out.size) HBL.out); (case aO => exact Kd.R_below HP9.out HBL.out); (case aS => exact Nat.le_trans (Nat.le_trans HZB.out.2.2.2 HBX9.out.size) HBL.out.size); (case aL => have := HPG.out; simp; omega); intro v2 w11 ho2 hb2 hg2 hat2; have HP2 := Aside0.mk ho2; have HBX2 := Aside0.mk hb2; have HI2 := Aside0.mk (IsMk.grown (HI9.out.below HBL.out) hg2 hat2); have HX2 := Aside0.mk (blk_grown (blk_below HX9.out HBL.out) hg2 (Kd.R_ne (Kd.R_below HP9.out HBL.out) (blk_below HX9.out HBL.out) (by decide))); obtain ⟨A2, c2, rfl⟩ := Kd.R_slice ho2; clear ho2 hb2 hg2 hat2 HI9 HP9 HX9 HBX9 HBL HO1 hc9; obtain ⟨gx, hgx⟩ : ∃ z, wr.heap.size = z := ⟨_, rfl⟩; rw [hgx] at HX2; (try rw [hgx]); clear hgx; have hq0 := (blk_cell HX2.out 0).trans rfl) | fail)
        have hq1 := (blk_cell HX2.out 1).trans rfl
        have hq2 := (blk_cell HX2.out 2).trans rfl
        have hq3 := (blk_cell HX2.out 3).trans rfl
        have HF2 := Aside0.mk (show ∀ k, w11.heap.size ≤ k → some k ≠ (Value.slice A2 (pts ++ [(cd.length : Int)]).length c2).ownBlock from fun k hk e => absurd (Kd.R_lt HP2.out k e.symm) (Nat.not_lt.2 hk))
        refine start_ (n := 13) (S := fun w' => w'.cell? ⟨gx, 1, none⟩ = some (.int .i64 x1) ∧ w'.cell? ⟨gx, 2, none⟩ = some (.int .i64 x2) ∧ w'.cell? ⟨gx, 3, none⟩ = some (.int .i64 x3)) (ds := [12]) #[false, false, false, false, false, false, false, false, false, false, false, false, false] (by kernel_rfl) rfl rfl ⟨hq1, hq2, hq3⟩ (fun hHeld => ?_)
        refine pure_ (i := 0) (N := some 56) (v := ?_) (a' := ?_) #[true, false, false, false, false, false, false, false, false, false, false, false, false] rfl rfl (by kernel_rfl) (fun _ _ _ h => h) (Or.inl ⟨by rfl, ?_⟩) ?_ ?_
        rotate_left
        · intro w'
          go_simp
          with_reducible rfl
        rotate_left
        · simp only [Act.put, List.setIfInBounds_toArray, List.set_cons_zero, List.set_cons_succ, i64_w, i32_w]
          rfl
        refine pure_ (i := 2) (N := some 58) (v := ?_) (a' := ?_) #[true, false, true, false, false, false, false, false, false, false, false, false, false] rfl rfl (by kernel_rfl) (fun _ _ _ h => h) (Or.inl ⟨by rfl, ?_⟩) ?_ ?_
        rotate_left
        · intro w'
          go_simp
          with_reducible rfl
        rotate_left
        · simp only [Act.put, List.setIfInBounds_toArray, List.set_cons_zero, List.set_cons_succ, i64_w, i32_w]
          rfl
        refine pure_ (i := 6) (N := some 62) (v := ?_) (a' := ?_) #[true, false, true, false, false, false, true, false, false, false, false, false, false] rfl rfl (by kernel_rfl) (fun _ _ _ h => h) (Or.inl ⟨by rfl, ?_⟩) ?_ ?_
        rotate_left
        · intro w'
          go_simp
          with_reducible rfl
        rotate_left
        · simp only [Act.put, List.setIfInBounds_toArray, List.set_cons_zero, List.set_cons_succ, i64_w, i32_w]
          rfl
        refine pure_ (i := 9) (N := some 65) (v := ?_) (a' := ?_) #[true, false, true, false, false, false, true, false, false, true, false, false, false] rfl rfl (by kernel_rfl) (fun _ _ _ h => h) (Or.inl ⟨by rfl, ?_⟩) ?_ ?_
        rotate_left
        · intro w'
          go_simp
          with_reducible rfl
        rotate_left
        · simp only [Act.put, List.setIfInBounds_toArray, List.set_cons_zero, List.set_cons_succ, i64_w, i32_w]
          rfl
        refine take_ (i := 3) (N := some 59) (v := ?_) (a' := ?_) #[true, false, true, true, false, false, true, false, false, true, false, false, false] rfl rfl (by kernel_rfl) (fun _ _ _ h => h) (Or.inl ⟨by rfl, ?_⟩) hHeld ?_ ?_
        rotate_left
        · rintro w' ⟨s0, s1, s2⟩
          go_simp
          with_reducible rfl
        rotate_left
        · simp only [Act.put, List.setIfInBounds_toArray, List.set_cons_zero, List.set_cons_succ, i64_w, i32_w]
          rfl
        refine take_ (i := 7) (N := some 63) (v := ?_) (a' := ?_) #[true, false, true, true, false, false, true, true, false, true, false, false, false] rfl rfl (by kernel_rfl) (fun _ _ _ h => h) (Or.inl ⟨by rfl, ?_⟩) hHeld ?_ ?_
        rotate_left
        · rintro w' ⟨s0, s1, s2⟩
          go_simp
          with_reducible rfl
        rotate_left
        · simp only [Act.put, List.setIfInBounds_toArray, List.set_cons_zero, List.set_cons_succ, i64_w, i32_w]
          rfl
        refine pure_ (i := 8) (N := some 64) (v := ?_) (a' := ?_) #[true, false, true, true, false, false, true, true, true, true, false, false, false] rfl rfl (by kernel_rfl) (fun _ _ _ h => h) (Or.inl ⟨by rfl, ?_⟩) ?_ ?_
        rotate_left
        · intro w'
          go_simp
          with_reducible rfl
        rotate_left
        · simp only [Act.put, List.setIfInBounds_toArray, List.set_cons_zero, List.set_cons_succ, i64_w, i32_w]
          rfl
        refine take_ (i := 10) (N := some 66) (v := ?_) (a' := ?_) #[true, false, true, true, false, false, true, true, true, true, true, false, false] rfl rfl (by kernel_rfl) (fun _ _ _ h => h) (Or.inl ⟨by rfl, ?_⟩) hHeld ?_ ?_
        rotate_left
        · rintro w' ⟨s0, s1, s2⟩
          go_simp
          with_reducible rfl
        rotate_left
        · simp only [Act.put, List.setIfInBounds_toArray, List.set_cons_zero, List.set_cons_succ, i64_w, i32_w]
          rfl
        refine pure_ (i := 11) (N := some 67) (v := ?_) (a' := ?_) #[true, false, true, true, false, false, true, true, true, true, true, true, false] rfl rfl (by kernel_rfl) (fun _ _ _ h => h) (Or.inl ⟨by rfl, ?_⟩) ?_ ?_
        rotate_left
        · intro w'
          go_simp
          with_reducible rfl
        rotate_left
        · simp only [Act.put, List.setIfInBounds_toArray, List.set_cons_zero, List.set_cons_succ, i64_w, i32_w]
          rfl
        refine one_ (i := 1) (N := some 57) #[true, true, true, true, false, false, true, true, true, true, true, true, false] rfl rfl (by kernel_rfl) (by decide) (fun K hK => ?_)
        refine goes_ Try.func24 (by kernel_rfl) rfl #[] (by rfl) rfl rfl (by first | rfl | (simp only [List.map_toArray, List.map_cons, List.map_nil]; done) | (simp only [List.map_toArray, List.map_cons, List.map_nil]; rfl)) ?_
        with_reducible refine (pair_primes.calls ([2, 3, 5, 7, 11, 13] : List Int) w11.drew rfl).mono ?_
        rintro e w12 ⟨v12, rfl, ho12, hB12⟩
        refine ⟨_, rfl, ?_⟩
        obtain ⟨A12, c12, rfl⟩ := Kd.R_slice ho12
        obtain ⟨ad12, ea12, hx12⟩ := Kd.at_int (Kd.R_reads' ho12).2.2 x1 HPX.out.1 HPX.out.2
        cases ea12
        rw [hq] at hx12
        have HE12 := Aside0.mk (below_step (show Below w11.heap.size w11 w11.drew from below_drew (Below.refl _ _)) hB12)
        clear ho12 hB12
        refine hK.out _ _ ⟨(lf_ HE12.out hq1), (lf_ HE12.out hq2), (lf_ HE12.out hq3)⟩ (fun hHeld => ?_)
        clear hK K
        refine norm_ (a' := ?_) ?_ ?_
        rotate_left
        · show Act.put _ (some 57) _ = _
          simp only [Act.put, List.setIfInBounds_toArray, List.set_cons_zero, List.set_cons_succ, i64_w, i32_w]
          rfl
        refine pure_ (i := 4) (N := some 60) (v := ?_) (a' := ?_) #[true, true, true, true, true, false, true, true, true, true, true, true, false] rfl rfl (by kernel_rfl) (fun _ _ _ h => h) (Or.inl ⟨by rfl, ?_⟩) ?_ ?_
        rotate_left
        · intro w'
          go_simp
          with_reducible rfl
        rotate_left
        · simp only [Act.put, List.setIfInBounds_toArray, List.set_cons_zero, List.set_cons_succ, i64_w, i32_w]
          rfl
        refine one_ (i := 5) (N := some 61) #[true, true, true, true, true, true, true, true, true, true, true, true, false] rfl rfl (by kernel_rfl) (by decide) (fun K hK => ?_)
        refine value_ (w1 := ?_) (v := ?_) (by rfl) rfl ?_ ?_
        rotate_left 2
        · go_simp
          constructor
          · rfl
          · rfl
        refine hK.out _ _ ⟨(lf_ HE12.out hq1), (lf_ HE12.out hq2), (lf_ HE12.out hq3)⟩ (fun hHeld => ?_)
        clear hK K
        refine norm_ (a' := ?_) ?_ ?_
        rotate_left
        · show Act.put _ (some 61) _ = _
          simp only [Act.put, List.setIfInBounds_toArray, List.set_cons_zero, List.set_cons_succ, i64_w, i32_w]
          rfl
        refine last_ (i := 12) (N := some 68) #[true, true, true, true, true, true, true, true, true, true, true, true, true] rfl rfl (by kernel_rfl) (by decide) (fun K hK => ?_)
        refine goes_ Try.func28 (by kernel_rfl) rfl #[.pointer (some ⟨gm, 0, none⟩), .int .i64 q, .int .i64 nx, .int .i64 nz] (by rfl) rfl rfl (by first | rfl | (simp only [List.map_toArray, List.map_cons, List.map_nil]; done) | (simp only [List.map_toArray, List.map_cons, List.map_nil]; rfl)) ?_
        with_reducible refine (mk_dec w2 w12 base (fun k => some k ≠ (Value.slice A2 (pts ++ [(cd.length : Int)]).length c2).ownBlock) gm cd q nx nz (HI2.out.below HE12.out) (below_then HBX2.out (Nat.le_trans HZB.out.2.2.2 HBX2.out.size) HE12.out) (Nat.le_trans (Nat.le_trans HZB.out.2.2.2 HBX2.out.size) HE12.out.size) (fun k hk => HF2.out k (Nat.le_trans HE12.out.size hk)) HCG.out (by have := HQ.out; omega) HQ.out.2).mono ?_
        rintro e w13 ⟨rfl, hi13, hB13, hk13⟩
        refine ⟨_, rfl, ?_⟩
        refine hK.out _ _ ?_
        clear hK K
        refine norm_ (a' := ?_) ?_ ?_
        rotate_left
        · show Act.put _ (some 68) _ = _
          simp only [Act.put, List.setIfInBounds_toArray, List.set_cons_zero, List.set_cons_succ, i64_w, i32_w]
          rfl
        refine done_ (by kernel_rfl) ?_
        have HP := Aside0.mk (Kd.R_mono (ok' := fun _ => True) (Kd.R_kept (Rn_own (Kd.R_below HP2.out HE12.out)) hk13 (fun k hk hs => hs hk.symm)) (fun _ _ => trivial))
        have HI := Aside0.mk hi13
        have HBX := Aside0.mk hB13
        have hlen : (pts ++ [(cd.length : Int)]).length = pts.length + 1 := by simp
        rw [hlen] at HI HP
        clear hk13 hi13 hB13 hlen
        go_wp2
        go_roundg d
        case measure => have := HN.out; omega
        case rel => exact ⟨i + 1, pts ++ [(cd.length : Int)], mkDec cd q nx nz, rfl, ⟨by have := HN.out; omega⟩, HH, HI, HP, HBX⟩
      have h := H9.out
      clear H9
      rw [if_neg o0, if_neg o1] at h
      have o0b : (x0 == (0 : Int)) = false := beq_eq_false_iff_ne.mpr o0
      have o1b : (x0 == (1 : Int)) = false := beq_eq_false_iff_ne.mpr o1
      have HH := Aside0.mk h
      clear h o0 o1
      go_wp2_with (first | ((with_reducible refine gate_dst (N := 34) rfl ?_); (try (refine gate_guard (by rfl) ?_; dsimp only)); refine Kd.R_lit (Kd.int .i64) _ 3 ?hg (N := 34) ?hd (xs := [((cd.length : Int))]) (inner := [.int .i64 ((cd.length : Int))]) (ok := fun _ => True) (okp := fun _ => True) ?hr ?hp (fun _ hk => hk) trivial (Below.refl _ _) (Nat.le_refl _) (by simp) ?_; (case hd => rfl); (case hg => rfl); (case hr => first | (go_simp; done) | (go_simp; rfl)); (case hp => exact (Reps.one (show Kd.M (Kd.int .i64) _ _ _ ((cd.length : Int)) [.int .i64 ((cd.length : Int))] from rfl) (Reps.none _ _))); intro v1 w10 ho1 hb1 hg_ hnew_; clear hg_ hnew_; obtain ⟨A1, c1, rfl⟩ := Kd.R_slice ho1; have HO1 := Aside0.mk (Kd.R_reads' ho1).2.2; have HBL := Aside0.mk hb1; clear ho1 hb1) | ((with_reducible refine gate_builtin (b := .append) (xs := #[.tmp 28, .tmp 34]) rfl ?_); (try (refine gate_guard (by rfl) ?_; dsimp only)); at_builtin; refine Kd.R_append_rows (Kd.int .i64) (w0 := w2) base rfl (.tmp 28) (.tmp 34) 22 3 (.int .i64 0) 8 rfl Try.underlying22 info3 rfl (by decide) (by omega) (.slice Av pts.length cv) pts [(cd.length : Int)] _ _ _ (fun _ => True) (fun _ => False) rfl rfl ?aO ?aR (fun _ _ h => h) (fun _ h => h.elim) (fun _ _ => trivial) ?aB ?aS ?aL ?_; (case aR => exact HO1.out); (case aB => exact below_then HBX9.out (Nat.le_trans HZB.out.2.2.2 HBX9.out.size) HBL.out); (case aO => exact Kd.R_below HP9.out HBL.out); (case aS => exact Nat.le_trans (Nat.le_trans HZB.out.2.2.2 HBX9.out.size) HBL.out.size); (case aL => have := HPG.out; simp; omega); intro v2 w11 ho2 hb2 hg2 hat2; have HP2 := Aside0.mk ho2; have HBX2 := Aside0.mk hb2; have HI2 := Aside0.mk (IsMk.grown (HI9.out.below HBL.out) hg2 hat2); have HX2 := Aside0.mk (blk_grown (blk_below HX9.out HBL.out) hg2 (Kd.R_ne (Kd.R_below HP9.out HBL.out) (blk_below HX9.out HBL.out) (by decide))); obtain ⟨A2, c2, rfl⟩ := Kd.R_slice ho2; clear ho2 hb2 hg2 hat2 HI9 HP9 HX9 HBX9 HBL HO1 hc9; obtain ⟨gx, hgx⟩ : ∃ z, wr.heap.size = z := ⟨_, rfl⟩; rw [hgx] at HX2; (try rw [hgx]); clear hgx; have hq0 := (blk_cell HX2.out 0).trans rfl) | ((with_reducible refine gate_dst (N := 40) rfl ?_); (try (refine gate_guard (by rfl) ?_; dsimp only)); refine Kd.R_lit k45 _ 45 ?hg (N := 40) ?hd (xs := [(⟨2, 0, 0, 0⟩ : S45)]) (inner := [.int .i64 (2), .int .i64 (0), .int .i64 (0), .int .i64 (0)]) (ok := fun _ => True) (okp := fun _ => True) ?hr ?hp (fun _ hk => hk) trivial (Below.refl _ _) (Nat.le_refl _) (by simp) ?_; (case hd => rfl); (case hg => rfl); (case hr => first | (go_simp; done) | (go_simp; rfl)); (case hp => exact (Reps.c4 (show Kd.M k45 _ _ _ (⟨2, 0, 0, 0⟩ : S45) [.int .i64 (2), .int .i64 (0), .int .i64 (0), .int .i64 (0)] from (k45_mkM _ _ _ (⟨2, 0, 0, 0⟩ : S45))) (Reps.none _ _))); intro v1 w12 ho1 hb1 hg_ hnew_; clear hg_ hnew_; obtain ⟨A12, c12, rfl⟩ := Kd.R_slice ho1; have HO12 := Aside0.mk (Kd.R_reads' ho1).2.2; have HE12 := Aside0.mk hb1; clear ho1 hb1) | fail)
      have HF2 := Aside0.mk (show ∀ k, w11.heap.size ≤ k → some k ≠ (Value.slice A2 (pts ++ [(cd.length : Int)]).length c2).ownBlock from fun k hk e => absurd (Kd.R_lt HP2.out k e.symm) (Nat.not_lt.2 hk))
      refine (mk_put w2 w12 base (fun k => some k ≠ (Value.slice A2 (pts ++ [(cd.length : Int)]).length c2).ownBlock) gm cd [(⟨2, 0, 0, 0⟩ : S45)] A12 c12 (HI2.out.below HE12.out) (below_then HBX2.out (Nat.le_trans HZB.out.2.2.2 HBX2.out.size) HE12.out) (Nat.le_trans (Nat.le_trans HZB.out.2.2.2 HBX2.out.size) HE12.out.size) (fun k hk => HF2.out k (Nat.le_trans HE12.out.size hk)) (Nat.le_trans HCG.out (by omega)) HO12.out (by simp)).mono ?_
      rintro e w13 ⟨rfl, hi13, hB13, hk13⟩
      have HP := Aside0.mk (Kd.R_mono (ok' := fun _ => True) (Kd.R_kept (Rn_own (Kd.R_below HP2.out HE12.out)) hk13 (fun k hk hs => hs hk.symm)) (fun _ _ => trivial))
      have HI := Aside0.mk hi13
      have HBX := Aside0.mk hB13
      have hlen : (pts ++ [(cd.length : Int)]).length = pts.length + 1 := by simp
      rw [hlen] at HI HP
      clear hk13 hi13 hB13 hlen
      go_wp2
      go_roundg d
      case measure => have := HN.out; omega
      case rel => exact ⟨i + 1, pts ++ [(cd.length : Int)], cd ++ [⟨2, 0, 0, 0⟩], rfl, ⟨by have := HN.out; omega⟩, HH, HI, HP, HBX⟩
    | zero =>
      have hin : ¬ i < (l0_1.length : Int) := by omega
      have hd : decide (i < (l0_1.length : Int)) = false := decide_eq_false hin
      replace hin := eq_false hin
      have hg := HG.out
      clear HG
      simp only [twoGo, Option.some.injEq, Prod.mk.injEq] at hg
      obtain ⟨rfl, rfl⟩ := hg
      have h := H.out
      clear H
      skip
      obtain ⟨hgm, hSm, vc, hbm, hrm⟩ := HI.out
      obtain ⟨Ac, cc, rfl⟩ := Kd.R_slice hrm
      have HM := Aside0.mk hbm
      have HR := Aside0.mk hrm
      have HSG := Aside0.mk hSm
      have HGM := Aside0.mk hgm
      have HB1_ := Aside0.mk ((HBX.out.block z1 HZB.out.2.2.1).trans HB1.out)
      have HB_ := Aside0.mk (Below.trans HB.out (Below.mono HBX.out HZB.out.1))
      clear HB1 HB HB0
      have HB1 := HB1_
      have HB := HB_
      clear HB1_ HB_ hgm hSm hbm hrm HI HBX
      have hz10 := (blk_cell HB1.out 0).trans rfl
      have hz11 := (blk_cell HB1.out 1).trans rfl
      have hf10 := blk_frozen HB1.out 0
      have hf11 := blk_frozen HB1.out 1
      have hc0 := (blk_cell HM.out 0).trans rfl
      by_cases c2k : 2000 < cd.length
      · rw [if_pos c2k] at h
        have k1 : decide (2000 < cd.length) = true := decide_eq_true c2k
        have k2 : decide ((2000 : Int) < (cd.length : Int)) = true := decide_eq_true (by omega)
        have k3 : ((2000 : Int) < (cd.length : Int)) = True := eq_true (by omega)
        replace c2k := eq_true c2k
        simp only [Option.some.injEq, Prod.mk.injEq] at h
        obtain ⟨rfl, rfl, rfl, rfl⟩ := h
        go_wp2
        refine bodyPost_ret (results_list (rs := [.cell 2 38, .tmp 3, .tmp 4]) (vs := [.agg #[.int .i64 0, .slice none 0 0], .slice none 0 0, .int .i64 4]) rfl (by simp) (Vals.cell z1 38 #[.int .i64 0, .slice none 0 0] (0, 0) _ rfl (by refine blk_put (cs := #[.int .i64 0, .slice none 0 0]) ?_ 1 _ rfl; refine blk_put (cs := #[.int .i64 0, .slice none 0 0]) ?_ 0 _ rfl; exact HB1.out) Try.underlying38 rfl (by kernel_rfl) (Vals.tmp (Vals.tmp Vals.nil)))) rfl ?_
        exact ⟨_, _, rfl, Kd.R_nil _ _ _ _ _, Kd.R_nil _ _ _ _ _, below_set (below_set HB.out HZ.out) HZ.out⟩
      rw [if_neg c2k] at h
      have HCL := Aside0.mk (show cd.length ≤ 2000 by omega)
      have k1 : decide (2000 < cd.length) = false := decide_eq_false c2k
      have k2 : decide ((2000 : Int) < (cd.length : Int)) = false := decide_eq_false (by omega)
      have k3 : ((2000 : Int) < (cd.length : Int)) = False := eq_false (by omega)
      replace c2k := eq_false c2k
      obtain ⟨cdr, hfx, h⟩ := Option.bind_eq_some_iff.1 h
      simp only [Option.some.injEq, Prod.mk.injEq] at h
      obtain ⟨rfl, rfl, rfl, rfl⟩ := h
      have HFX := Aside0.mk hfx
      clear hfx
      go_wp2
      clear hz10 hz11 hf10 hf11 hc0 k1 k2 k3 c2k
      go_loopg [82] (cd.length) (fun kq v82 w' => ∃ (i : Int) (c1 : List S45), v82 = .int .i64 i ∧ Aside0 (0 ≤ i ∧ i + (kq : Int) = (cd.length : Int) ∧ c1.length = cd.length) ∧ Aside0 (twoFix pts kq i c1 = some cdr) ∧ Aside0 (Kd.R k45 45 w' base (fun k => some k ≠ (Value.slice Av pts.length cv).ownBlock ∧ k ≠ gm) (.slice Ac cd.length cc) c1) ∧ Aside0 (w'.heap[gm]? = some (.cells #[.slice Ac cd.length cc] 60 (0, 0))) ∧ Aside0 (Kd.R (Kd.int .i64) 3 w' base (fun _ => True) (.slice Av pts.length cv) pts) ∧ Aside0 (Below w.heap.size w w') ∧ Aside0 (w'.heap[z1]? = some (.cells #[.int .i64 0, .slice none 0 0] 38 (0, 0))))
      case atStart => exact ⟨0, cd, rfl, ⟨by omega⟩, HFX, HR, HM, HP, HB, HB1⟩
      case round =>
        clear HFX HR HM HP HB HB1 hi0 hi1 HN
        obtain ⟨i, c1, rfl, HN, HFX, HR, HM, HP, HB, HB1⟩ := hrel
        obtain ⟨hi0, hi1, hi2⟩ := HN.out
        cases gk with
        | zero =>
          have hin : ¬ i < (cd.length : Int) := by omega
          have hd : decide (i < (cd.length : Int)) = false := decide_eq_false hin
          replace hin := eq_false hin
          have hg := HFX.out
          clear HFX
          simp only [twoFix, Option.some.injEq] at hg
          subst hg
          have hz10 := (blk_cell HB1.out 0).trans rfl
          have hz11 := (blk_cell HB1.out 1).trans rfl
          have hf10 := blk_frozen HB1.out 0
          have hf11 := blk_frozen HB1.out 1
          have hc0 := (blk_cell HM.out 0).trans rfl
          skip
          skip
          go_wp2
          refine bodyPost_ret (results_list (rs := [.cell 2 38, .tmp 3, .tmp 4]) (vs := [.agg #[.int .i64 2, .slice Ac cd.length cc], .slice Av pts.length cv, .int .i64 0]) rfl (by simp) (Vals.cell z1 38 #[.int .i64 2, .slice Ac cd.length cc] (0, 0) _ rfl (by refine blk_put (cs := #[.int .i64 2, .slice none 0 0]) ?_ 1 _ rfl; refine blk_put (cs := #[.int .i64 0, .slice none 0 0]) ?_ 0 _ rfl; exact HB1.out) Try.underlying38 rfl (by kernel_rfl) (Vals.tmp (Vals.tmp Vals.nil)))) rfl ?_
          exact ⟨_, _, rfl, Kd.R_mono (Kd.R_far (Kd.R_far (Kd.R_lower (Kd.R_types HR.out HB1.out (by decide)) HZB.out.1) (fun k hk => hk.2) _) (fun k hk => hk.2) _) (fun _ _ => trivial), Kd.R_mono (Kd.R_far (Kd.R_far (Kd.R_lower (Kd.R_types (Rn_own HP.out) HB1.out (by decide)) HZB.out.1) (fun k hk => hk.2) _) (fun k hk => hk.2) _) (fun _ _ => trivial), below_set (below_set HB.out HZ.out) HZ.out⟩
        | succ d =>
          have hin : i < (cd.length : Int) := by omega
          have hd : decide (i < (cd.length : Int)) = true := decide_eq_true hin
          have hiw : IntKind.i64.wrap (i + 1) = i + 1 := mk_w (by have := HCL.out; omega)
          have hiw' := (i64_w _).symm.trans hiw
          have hf := HFX.out
          clear HFX
          simp only [twoFix] at hf
          obtain ⟨c2, hf2, hf⟩ := Option.bind_eq_some_iff.1 hf
          obtain ⟨c3, hf3, hf⟩ := Option.bind_eq_some_iff.1 hf
          have HF3 := Aside0.mk hf3
          have HFF := Aside0.mk hf
          obtain ⟨gr, ccap, hv9, -⟩ := Kd.R_form HR.out (by omega)
          injection hv9 with e1 e2 e3
          subst e1
          subst e3
          clear e2 hf hf3
          have HX := Aside0.mk (show FxS w wr base gm z1 gr cc cd.length (.slice Av pts.length cv) pts (.cells #[.int .i64 0, .slice none 0 0] 38 (0, 0)) c1 from ⟨HR.out, HM.out, HP.out, HB.out, HB1.out⟩)
          have HII := Aside0.mk hi0
          have HIN := Aside0.mk hin
          have HI1 := Aside0.mk hi1
          have HL1 := Aside0.mk hi2
          have hi0t := eq_true hi0
          have hint := eq_true hin
          obtain ⟨hy2, -, -, hc0⟩ := fx_cell HX.out i hi0 hin
          obtain ⟨x2, hx2⟩ : ∃ x, (rd_T45 c1 i).f2 = x := ⟨_, rfl⟩
          rw [hx2] at hy2
          unfold fix2 at hf2
          rw [hx2] at hf2
          have HX2 := Aside0.mk hx2
          clear HR HM HP HB HB1 hi0 hi1 hin HN hx2
          by_cases cx2 : x2 < 0
          · rw [if_pos cx2] at hf2
            have cx2b : decide (x2 < 0) = true := decide_eq_true cx2
            by_cases cg2 : -1000000000 ≤ x2 ∧ -1 - x2 < (pts.length : Int)
            rotate_left
            · rw [if_neg cg2] at hf2
              cases hf2
            rw [if_pos cg2] at hf2
            obtain ⟨cg2a, cg2b⟩ := cg2
            obtain ⟨j2, hj2⟩ : ∃ z, -1 - x2 = z := ⟨_, rfl⟩
            have ej2 : IntKind.i64.wrap (-1 - x2) = j2 := (mk_w (by omega)).trans hj2
            have ej2' := (i64_w _).symm.trans ej2
            rw [hj2] at hf2 cg2b
            have jn2 : 0 ≤ j2 := by omega
            obtain ⟨adp2, ea, hxp2⟩ := Kd.at_int (Kd.R_reads' HX.out.2.2.1).2.2 j2 jn2 cg2b
            first | subst ea | (injection ea with ea; subst ea)
            obtain ⟨v2, hv2⟩ : ∃ z, rd pts j2 = z := ⟨_, rfl⟩
            rw [hv2] at hxp2 hf2
            have fr2 := (fx_cell HX.out i HII.out HIN.out).2.2.1 2
            have HXn := Aside0.mk (fx_set2 HX.out (Nat.le_trans HZB.out.1 (Nat.le_refl _)) HZB.out.2.2.1 i HII.out HIN.out v2)
            replace cg2b := eq_true cg2b
            replace jn2 := eq_true jn2
            replace cx2 := eq_true cx2
            clear cg2a hj2 hv2
            obtain rfl := Option.some.inj hf2
            clear hf2
            have hf3 := HF3.out
            clear HF3
            unfold fix3 at hf3
            obtain ⟨-, hy3, -, hc0n⟩ := fx_cell HXn.out i HII.out HIN.out
            obtain ⟨x3, hx3⟩ : ∃ x, (rd_T45 (c1.set i.toNat ⟨(rd_T45 c1 i).f0, (rd_T45 c1 i).f1, v2, (rd_T45 c1 i).f3⟩) i).f3 = x := ⟨_, rfl⟩
            rw [hx3] at hy3 hf3
            clear hx3
            by_cases cx3 : x3 < 0
            · rw [if_pos cx3] at hf3
              have cx3b : decide (x3 < 0) = true := decide_eq_true cx3
              by_cases cg3 : -1000000000 ≤ x3 ∧ -1 - x3 < (pts.length : Int)
              rotate_left
              · rw [if_neg cg3] at hf3
                cases hf3
              rw [if_pos cg3] at hf3
              obtain ⟨cg3a, cg3b⟩ := cg3
              obtain ⟨j3, hj3⟩ : ∃ z, -1 - x3 = z := ⟨_, rfl⟩
              have ej3 : IntKind.i64.wrap (-1 - x3) = j3 := (mk_w (by omega)).trans hj3
              have ej3' := (i64_w _).symm.trans ej3
              rw [hj3] at hf3 cg3b
              have jn3 : 0 ≤ j3 := by omega
              obtain ⟨adp3, ea, hxp3⟩ := Kd.at_int (Kd.R_reads' HXn.out.2.2.1).2.2 j3 jn3 cg3b
              first | subst ea | (injection ea with ea; subst ea)
              obtain ⟨v3, hv3⟩ : ∃ z, rd pts j3 = z := ⟨_, rfl⟩
              rw [hv3] at hxp3 hf3
              have fr3 := (fx_cell HXn.out i HII.out HIN.out).2.2.1 3
              have HXn := Aside0.mk (fx_set3 HXn.out (Nat.le_trans HZB.out.1 (Nat.le_refl _)) HZB.out.2.2.1 i HII.out HIN.out v3)
              replace cg3b := eq_true cg3b
              replace jn3 := eq_true jn3
              replace cx3 := eq_true cx3
              clear cg3a hj3 hv3
              obtain rfl := Option.some.inj hf3
              clear hf3
              go_wp2
              go_roundg d
              case measure => have := HI1.out; omega
              case rel => exact ⟨i + 1, _, rfl, ⟨by have := HII.out; omega, by have := HI1.out; omega, by have := HL1.out; simp [this]⟩, HFF, ⟨HXn.out.1⟩, ⟨HXn.out.2.1⟩, ⟨HXn.out.2.2.1⟩, ⟨HXn.out.2.2.2.1⟩, ⟨HXn.out.2.2.2.2⟩⟩
            · rw [if_neg cx3] at hf3
              have cx3b : decide (x3 < 0) = false := decide_eq_false cx3
              replace cx3 := eq_false cx3
              obtain rfl := Option.some.inj hf3
              clear hf3
              go_wp2
              go_roundg d
              case measure => have := HI1.out; omega
              case rel => exact ⟨i + 1, _, rfl, ⟨by have := HII.out; omega, by have := HI1.out; omega, by have := HL1.out; simp [this]⟩, HFF, ⟨HXn.out.1⟩, ⟨HXn.out.2.1⟩, ⟨HXn.out.2.2.1⟩, ⟨HXn.out.2.2.2.1⟩, ⟨HXn.out.2.2.2.2⟩⟩
          · rw [if_neg cx2] at hf2
            have cx2b : decide (x2 < 0) = false := decide_eq_false cx2
            replace cx2 := eq_false cx2
            obtain rfl := Option.some.inj hf2
            clear hf2
            have HXn := HX
            have hf3 := HF3.out
            clear HF3
            unfold fix3 at hf3
            obtain ⟨-, hy3, -, hc0n⟩ := fx_cell HXn.out i HII.out HIN.out
            obtain ⟨x3, hx3⟩ : ∃ x, (rd_T45 c1 i).f3 = x := ⟨_, rfl⟩
            rw [hx3] at hy3 hf3
            clear hx3
            by_cases cx3 : x3 < 0
            · rw [if_pos cx3] at hf3
              have cx3b : decide (x3 < 0) = true := decide_eq_true cx3
              by_cases cg3 : -1000000000 ≤ x3 ∧ -1 - x3 < (pts.length : Int)
              rotate_left
              · rw [if_neg cg3] at hf3
                cases hf3
              rw [if_pos cg3] at hf3
              obtain ⟨cg3a, cg3b⟩ := cg3
              obtain ⟨j3, hj3⟩ : ∃ z, -1 - x3 = z := ⟨_, rfl⟩
              have ej3 : IntKind.i64.wrap (-1 - x3) = j3 := (mk_w (by omega)).trans hj3
              have ej3' := (i64_w _).symm.trans ej3
              rw [hj3] at hf3 cg3b
              have jn3 : 0 ≤ j3 := by omega
              obtain ⟨adp3, ea, hxp3⟩ := Kd.at_int (Kd.R_reads' HXn.out.2.2.1).2.2 j3 jn3 cg3b
              first | subst ea | (injection ea with ea; subst ea)
              obtain ⟨v3, hv3⟩ : ∃ z, rd pts j3 = z := ⟨_, rfl⟩
              rw [hv3] at hxp3 hf3
              have fr3 := (fx_cell HXn.out i HII.out HIN.out).2.2.1 3
              have HXn := Aside0.mk (fx_set3 HXn.out (Nat.le_trans HZB.out.1 (Nat.le_refl _)) HZB.out.2.2.1 i HII.out HIN.out v3)
              replace cg3b := eq_true cg3b
              replace jn3 := eq_true jn3
              replace cx3 := eq_true cx3
              clear cg3a hj3 hv3
              obtain rfl := Option.some.inj hf3
              clear hf3
              go_wp2
              go_roundg d
              case measure => have := HI1.out; omega
              case rel => exact ⟨i + 1, _, rfl, ⟨by have := HII.out; omega, by have := HI1.out; omega, by have := HL1.out; simp [this]⟩, HFF, ⟨HXn.out.1⟩, ⟨HXn.out.2.1⟩, ⟨HXn.out.2.2.1⟩, ⟨HXn.out.2.2.2.1⟩, ⟨HXn.out.2.2.2.2⟩⟩
            · rw [if_neg cx3] at hf3
              have cx3b : decide (x3 < 0) = false := decide_eq_false cx3
              replace cx3 := eq_false cx3
              obtain rfl := Option.some.inj hf3
              clear hf3
              go_wp2
              go_roundg d
              case measure => have := HI1.out; omega
              case rel => exact ⟨i + 1, _, rfl, ⟨by have := HII.out; omega, by have := HI1.out; omega, by have := HL1.out; simp [this]⟩, HFF, ⟨HXn.out.1⟩, ⟨HXn.out.2.1⟩, ⟨HXn.out.2.2.1⟩, ⟨HXn.out.2.2.2.1⟩, ⟨HXn.out.2.2.2.2⟩⟩

/-! ### standstillref06_index: function 30 -/
def standstillref06_index.f (a0_0 : Int) (l0_1 : List (S45)) (a1 : Int) : Option (Bool) := if a1 ≥ 0 then (some (decide (a1 < (l0_1.length : Int)))) else (some false)
set_option maxHeartbeats 8000000 in
set_option maxRecDepth 100000 in
theorem standstillref06_index.calls (a0_0 : Int) (A0_1 : Option Addr) (c0_1 : Nat) (l0_1 : List (S45)) (a1 : Int) (r : Bool) (w : World) (hr0_1 : Kd.C k45 w A0_1 l0_1.length l0_1) (hc0_1 : l0_1.length ≤ c0_1) (h : standstillref06_index.f a0_0 l0_1 a1 = some r) :
  Calls Try.prog 30 #[.agg #[.int .i64 a0_0, .slice A0_1 l0_1.length c0_1], .int .i64 a1] w fun e w' => e = .returned (.bool r) ∧ Below w.heap.size w w' := by
 have hu38 := Try.underlying38
 have HR0_1 := Aside0.mk hr0_1
 have HC0_1 := Aside0.mk hc0_1
 clear hr0_1 hc0_1
 have HB := A_ (Below.refl w.heap.size w)
 have H : (if a1 ≥ 0 then (some (decide (a1 < (l0_1.length : Int)))) else (some false)) = some r := h
 clear h
 by_cases c3 : a1 ≥ 0
 ·rw [if_pos c3] at H
  have c3b0 : decide (0 ≤ a1) = true := decide_eq_true c3
  clear c3
  obtain rfl := Option.some.inj H
  go_enter Try.func30, Try.ntmps30
  go_wp2_with (first | ((with_reducible refine gate_dst (N := 2) rfl ?_); (try (refine gate_guard (by rfl) ?_; dsimp only)); refine box_event ?hg (N := 2) ?hd (cs := #[.int .i64 a0_0, .slice A0_1 l0_1.length c0_1]) (t := 38) ?hr ?_; (case hd => rfl); (case hg => rfl); (case hr => first | (go_simp; done) | (go_simp; rfl)); intro gb130 hg w4 hbox hb; have n0_ := A_ (below_step (bk_ HB.out) hb); have n1_ := A_ (hbox); have n2_ := A_ (bz_ hg (bk_ HB.out)); have n3_ := A_ (bz_ hg (bk_ HB.out)); clear HB; have HB := n0_; have BK130 := n1_; have GW130 := n2_; have GE130 := n3_; clear n0_ n1_ n2_ n3_ hb hbox hg; obtain ⟨hcz5_0, hcz5_1⟩ := bc2_ BK130.out; have hfz5_0 := blk_frozen BK130.out 0; have hfz5_1 := blk_frozen BK130.out 1))
  go_ret
  exact ⟨er_, bk_ HB.out⟩
 ·rw [if_neg c3] at H
  have c3b0 : decide (0 ≤ a1) = false := decide_eq_false c3
  clear c3
  obtain rfl := Option.some.inj H
  go_enter Try.func30, Try.ntmps30
  go_wp2_with (first | ((with_reducible refine gate_dst (N := 2) rfl ?_); (try (refine gate_guard (by rfl) ?_; dsimp only)); refine box_event ?hg (N := 2) ?hd (cs := #[.int .i64 a0_0, .slice A0_1 l0_1.length c0_1]) (t := 38) ?hr ?_; (case hd => rfl); (case hg => rfl); (case hr => first | (go_simp; done) | (go_simp; rfl)); intro gb130 hg w6 hbox hb; have n0_ := A_ (below_step (bk_ HB.out) hb); have n2_ := A_ (bz_ hg (bk_ HB.out)); have n3_ := A_ (bz_ hg (bk_ HB.out)); clear HB; have HB := n0_; have GW130 := n2_; have GE130 := n3_; clear n0_ n2_ n3_ hb hbox hg))
  go_ret
  exact ⟨er_, bk_ HB.out⟩

end Go.Proofs.Ytkbekdjoaibhbaa.PPairRuns
