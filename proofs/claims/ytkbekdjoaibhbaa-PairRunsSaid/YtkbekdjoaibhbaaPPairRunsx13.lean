-- out of a turned copy of the print, by a program of this session; Lean checks it
import Derived.Test.YtkbekdjoaibhbaaPPairRunsx0
import Derived.Test.YtkbekdjoaibhbaaPPairRunsx11
import Derived.Test.YtkbekdjoaibhbaaPPairRunsx12
namespace Go.Proofs.Ytkbekdjoaibhbaa.PPairRuns
open Go.RowKit Go.Proofs.YtkbekdjoaibhbaaW.PrintWords Go.Proofs.YtkbekdjoaibhbaaW.PrintLast Go.Proofs.YtkbekdjoaibhbaaW.PrintMore
attribute [local go_sem] max2_int min2_int max_two min_two max_three min_three max_four min_four   -- for this text's walks alone
set_option linter.unusedVariables false
set_option linter.unusedSimpArgs false

attribute [local go_sem] isSome_put_
/-! ### counter_Until: function 32 (by hand) -/
def crunE (P : Int → Option Bool) (code : List S45) : Nat → Int → List Int → Int → Option (Int × List Int × Int × Bool × Bool)
  | 0, p, l, i => some (p, l, i, true, false)
  | d + 1, p, l, i =>
    if 0 ≤ p ∧ p < (code.length : Int) then
      if (rd_T45 code p).f0 = 2 then some (p, l, i, true, false)
      else if 0 ≤ (rd_T45 code p).f1 ∧ (rd_T45 code p).f1 < (l.length : Int) then
        if (rd_T45 code p).f0 = 0 then
          if rd l (rd_T45 code p).f1 = 1152921504606846976 then some (0, [], 0, false, false)
          else ((P ((rd_T45 code p).f2)).bind fun m => if m = true then some ((rd_T45 code p).f2, (l.set (rd_T45 code p).f1.toNat (wrap64 (rd l (rd_T45 code p).f1 + 1))), i + 1, true, true) else crunE P code d ((rd_T45 code p).f2) (l.set (rd_T45 code p).f1.toNat (wrap64 (rd l (rd_T45 code p).f1 + 1))) (i + 1))
        else if (rd_T45 code p).f0 = 1 then
          if rd l (rd_T45 code p).f1 = 0 then ((P ((rd_T45 code p).f3)).bind fun m => if m = true then some ((rd_T45 code p).f3, l, i + 1, true, true) else crunE P code d ((rd_T45 code p).f3) l (i + 1))
          else ((P ((rd_T45 code p).f2)).bind fun m => if m = true then some ((rd_T45 code p).f2, (l.set (rd_T45 code p).f1.toNat (wrap64 (rd l (rd_T45 code p).f1 - 1))), i + 1, true, true) else crunE P code d ((rd_T45 code p).f2) (l.set (rd_T45 code p).f1.toNat (wrap64 (rd l (rd_T45 code p).f1 - 1))) (i + 1))
        else none
      else none
    else none
theorem untilg (W w1 : World) (gm : Nat) (b : Bool) (hB : Below W.heap.size W w1) (hl : gm < w1.heap.size) : W.grownBy (w1.setCell ⟨gm, 0, none⟩ (.bool b)) (some gm) :=
  ⟨hB.os, hB.tape, hB.output, by simpa using hB.size, fun k hk hne => (Below.heap_setCell w1 ⟨gm, 0, none⟩ _ k (fun e => hne (by rw [e]))).trans (hB.block k hk)⟩
set_option maxHeartbeats 8000000 in
set_option maxRecDepth 100000 in
theorem until_clo (k : Nat) (points : List Int) (A2 : Option Addr) (c2 : Nat) (at_ : Int) (b : Bool) (i : Int) (b0 : Bool) (g6 gm : Nat) (W : World) (h6 : W.heap[g6]? = some (.cells #[.slice A2 points.length c2] 22 (0, 0))) (hm : W.heap[gm]? = some (.cells #[.bool b0] 4 (0, 0))) (hr : Kd.C (Kd.int .i64) W A2 points.length points) (hc : points.length ≤ c2) (h : slices_BinarySearch_int_int.f k points at_ = some (i, b)) :
    Calls Try.prog 40 #[.int .i64 at_, .pointer (some ⟨g6, 0, none⟩), .pointer (some ⟨gm, 0, none⟩)] W fun e w' => e = .returned (.bool b) ∧ w'.heap[gm]? = some (.cells #[.bool b] 4 (0, 0)) ∧ W.grownBy w' (some gm) := by
  have hz6 := (blk_cell h6 0).trans rfl
  have HM := Aside0.mk hm
  have HS := Aside0.mk (fun W1 h1 => slices_BinarySearch_int_int.calls k A2 c2 points at_ i b W1 h1 hc h)
  have HR := Aside0.mk hr
  clear h6 hm hr h hc
  go_enter Try.func40, Try.ntmps40
  go_wp2_with fail
  refine (HS.out W HR.out).mono ?_
  rintro e w1 ⟨rfl, hD⟩
  have hB : Below W.heap.size W w1 := hD.below
  clear hD
  have HM1 := Aside0.mk (blk_below HM.out hB)
  have hy0 := (blk_cell HM1.out 0).trans rfl
  have hy1 := blk_frozen HM1.out 0
  clear HM HS
  go_wp2
  go_ret
  exact ⟨rfl, by simpa using blk_set HM1.out 0 (.bool b), untilg W w1 gm b hB (blk_lt HM1.out)⟩
set_option maxHeartbeats 4000000 in
set_option maxRecDepth 100000 in
set_option maxHeartbeats 8000000 in
set_option maxRecDepth 100000 in
theorem crunE_calls (kB : Nat) (points : List Int) (A2 : Option Addr) (c2 : Nat) (g6 gm : Nat) (w0 : World) (a0_0 : Int) (A0_1 : Option Addr) (c0_1 : Nat) (l0_1 : List S45) (a1_0 : Int) (A1_1 : Option Addr) (c1_1 : Nat) (l1_1 : List Int) (n : Int) (r1 : Int) (r2 : List Int) (r3 : Int) (r4 r5 : Bool) (w : World) (hw0 : Below w0.heap.size w0 w) (hgm : w0.heap.size ≤ gm) (hg6 : g6 < w0.heap.size) (hmb : w.heap[gm]? = some (.cells #[.bool false] 4 (0, 0))) (h6 : w0.heap[g6]? = some (.cells #[.slice A2 points.length c2] 22 (0, 0))) (hr2 : Kd.C (Kd.int .i64) w0 A2 points.length points) (hc2 : points.length ≤ c2) (hr0_1 : Kd.C k45 w0 A0_1 l0_1.length l0_1) (hc0_1 : l0_1.length ≤ c0_1) (hr1_1 : Kd.C (Kd.int .i64) w0 A1_1 l1_1.length l1_1) (hc1_1 : l1_1.length ≤ c1_1) (hlim : slices_Clone_int_int.f l1_1 = some l1_1) (hn0 : 0 ≤ n) (hn1 : n ≤ 1000000) (h : crunE (fun at_ => (slices_BinarySearch_int_int.f kB points at_).map (·.2)) l0_1 n.toNat a1_0 l1_1 0 = some (r1, r2, r3, r4, r5)) :
    Calls Try.prog 38 #[.agg #[.int .i64 a0_0, .slice A0_1 l0_1.length c0_1], .agg #[.int .i64 a1_0, .slice A1_1 l1_1.length c1_1], .int .i64 n, .func (.func 40) #[] #[.pointer (some ⟨g6, 0, none⟩), .pointer (some ⟨gm, 0, none⟩)]] w fun e w' => ∃ v_ : Value, e = .returned (.tuple #[.agg #[.int .i64 r1, v_], .int .i64 r3, .bool r4]) ∧ Kd.R (Kd.int .i64) 3 w' w.heap.size (fun _ => True) v_ r2 ∧ Below w0.heap.size w0 w' ∧ w'.heap[gm]? = some (.cells #[.bool r5] 4 (0, 0)) := by
  have hu24 := Try.underlying38
  have hu27 := Try.underlying47
  have hu33 := Try.underlying45
  have hu70 := Try.underlying81
  have HR0_1 := Aside0.mk hr0_1
  have HC0_1 := Aside0.mk hc0_1
  clear hr0_1 hc0_1
  have hsz0 := hw0.size
  have hgl := blk_lt hmb
  have H6 := Aside0.mk h6
  have HR2 := Aside0.mk hr2
  have HC2 := Aside0.mk hc2
  have HMB := Aside0.mk hmb
  have HW0 := Aside0.mk hw0
  clear h6 hr2 hc2 hmb hw0
  have HR1_1 := Aside0.mk hr1_1
  have HC1_1 := Aside0.mk hc1_1
  clear hr1_1 hc1_1
  have H := Aside0.mk h
  clear h
  go_enter Try.func38, Try.ntmps38
  go_wp2
  have hcl : ∀ W0 : World, Kd.C (Kd.int .i64) W0 A1_1 l1_1.length l1_1 → Calls Try.prog 43 #[.slice A1_1 l1_1.length c1_1] W0 fun e w' => ∃ v0_ : Value, e = .returned (v0_) ∧ Kd.R (Kd.int .i64) 3 w' W0.heap.size (fun _ => True) v0_ l1_1 ∧ Below W0.heap.size W0 w' := fun W0 h0 => slices_Clone_int_int.calls A1_1 c1_1 l1_1 l1_1 W0 h0 HC1_1.out hlim
  obtain ⟨W1, hW1⟩ : ∃ W1 : World, W1 = (((w.alloc (.cells #[.int .i64 a0_0, .slice A0_1 l0_1.length c0_1] 38)).alloc (.cells #[.int .i64 a1_0, .slice A1_1 l1_1.length c1_1] 47)).alloc (.cells #[.int .i64 0, .slice none 0 0] 47)) := ⟨_, rfl⟩
  have hBW1 : Below w0.heap.size w0 W1 := by rw [hW1]; exact below_alloc (below_alloc (below_alloc HW0.out _) _) _
  have hbM : W1.heap[gm]? = some (.cells #[.bool false] 4 (0, 0)) := by rw [hW1]; exact blk_alloc (blk_alloc (blk_alloc HMB.out _) _) _
  have hb4 : W1.heap[w.heap.size]? = some (.cells #[.int .i64 a0_0, .slice A0_1 l0_1.length c0_1] 38 (0, 0)) := by rw [hW1]; exact blk_alloc (blk_alloc (blk_new _ _) _) _
  have hb5 : W1.heap[w.heap.size + 1]? = some (.cells #[.int .i64 a1_0, .slice A1_1 l1_1.length c1_1] 47 (0, 0)) := by rw [hW1]; exact blk_alloc (by have h_ := blk_new (w.alloc (.cells #[.int .i64 a0_0, .slice A0_1 l0_1.length c0_1] 38)) (.cells #[.int .i64 a1_0, .slice A1_1 l1_1.length c1_1] 47); simpa using h_) _
  have hb8 : W1.heap[w.heap.size + 1 + 1]? = some (.cells #[.int .i64 0, .slice none 0 0] 47 (0, 0)) := by rw [hW1]; have h_ := blk_new ((w.alloc (.cells #[.int .i64 a0_0, .slice A0_1 l0_1.length c0_1] 38)).alloc (.cells #[.int .i64 a1_0, .slice A1_1 l1_1.length c1_1] 47)) (.cells #[.int .i64 0, .slice none 0 0] 47); simpa using h_
  have hsz : W1.heap.size = w.heap.size + 1 + 1 + 1 := by rw [hW1]; simp
  rw [← hW1]
  clear hW1
  have hC2 := Aside0.mk (Kd.C_below (Kd.C_below HR1_1.out hBW1) (below_drew (Below.refl _ W1)))
  have HB := Aside0.mk (below_drew hBW1)
  have HB4 := Aside0.mk (blk_drew hb4)
  have HB8 := Aside0.mk (blk_drew hb8)
  have HM := Aside0.mk (blk_drew hbM)
  have HCL := Aside0.mk hcl
  have hc0 : W1.cell? ⟨w.heap.size + 1, 0, none⟩ = some (.int .i64 a1_0) := (blk_cell hb5 0).trans rfl
  have hc1 : W1.cell? ⟨w.heap.size + 1, 1, none⟩ = some (.slice A1_1 l1_1.length c1_1) := (blk_cell hb5 1).trans rfl
  have HSZ2 : Aside0 (W1.drew.heap.size = w.heap.size + 1 + 1 + 1) := Aside0.mk hsz
  clear hcl hBW1 hsz hb4 hb5 hb8 hbM HW0 HMB
  go_region_held3 (fun w' => w'.cell? ⟨w.heap.size + 1, 0, none⟩ = some (.int .i64 a1_0) ∧ w'.cell? ⟨w.heap.size + 1, 1, none⟩ = some (.slice A1_1 l1_1.length c1_1))
    (first | go_keep | (refine ⟨(hB2.cell (World.block_lt_of_cell? _ _ hc0)).trans hc0, (hB2.cell (World.block_lt_of_cell? _ _ hc1)).trans hc1⟩))
    ((go_at_call 43; refine (HCL.out _ (hC2.out)).mono ?_; rintro e w2 ⟨v0, rfl, hR, hB2⟩; obtain ⟨A9, c9, rfl⟩ := Kd.R_slice hR))
  have HR := Aside0.mk (Kd.R_lower hR (by rw [HSZ2.out]; omega : w.heap.size ≤ _))
  have HRB := Aside0.mk (fun k hk => Kd.R_base hR k hk : ∀ k, (Value.slice A9 l1_1.length c9).ownBlock = some k → W1.drew.heap.size ≤ k)
  replace HB := Aside0.mk (below_step HB.out hB2)
  replace HB4 := Aside0.mk (blk_below HB4.out hB2)
  replace HB8 := Aside0.mk (blk_below HB8.out hB2)
  replace HM := Aside0.mk (blk_below HM.out hB2)
  clear hR hB2
  go_wp2_with (first | (go_at_call 44; refine (actions_calls _).mono ?_; rintro e w3 ⟨rfl, hB3⟩))
  replace HB := Aside0.mk (below_alloc (below_step HB.out hB3) (.cells #[.func (.func 47) #[] #[], .func (.func 48) #[] #[]] 81))
  replace HB4 := Aside0.mk (blk_alloc (blk_below HB4.out hB3) (.cells #[.func (.func 47) #[] #[], .func (.func 48) #[] #[]] 81))
  replace HB8 := Aside0.mk (blk_alloc (blk_below HB8.out hB3) (.cells #[.func (.func 47) #[] #[], .func (.func 48) #[] #[]] 81))
  replace HM := Aside0.mk (blk_alloc (blk_below HM.out hB3) (.cells #[.func (.func 47) #[] #[], .func (.func 48) #[] #[]] 81))
  have HB13 := Aside0.mk (blk_new w3 (.cells #[.func (.func 47) #[] #[], .func (.func 48) #[] #[]] 81))
  have HRL := Aside0.mk (fun k hk => Nat.lt_of_lt_of_le (Kd.R_lt HR.out k hk) (hB3.size) : ∀ k, (Value.slice A9 l1_1.length c9).ownBlock = some k → k < w3.heap.size)
  replace HR := Aside0.mk (Kd.R_alloc (Kd.R_below HR.out hB3) (.cells #[.func (.func 47) #[] #[], .func (.func 48) #[] #[]] 81))
  have HRK : ∀ k, (Value.slice A9 l1_1.length c9).ownBlock = some k → w.heap.size + 1 + 1 < k ∧ k < w3.heap.size := fun k hk => ⟨by have := HRB.out k hk; have := HSZ2.out; omega, HRL.out k hk⟩
  replace HR := Aside0.mk (Kd.R_of_own (h1 := fun _ => rfl) (Kd.own_of_R HR.out) HRK)
  clear HRK HRL HRB
  clear hB3
  obtain ⟨g13, hg13⟩ : ∃ g, g = w3.heap.size := ⟨_, rfl⟩
  rw [← hg13] at HB13 HR
  rw [← hg13]
  obtain ⟨W4, hW4⟩ : ∃ W : World, W = w3.alloc (.cells #[.func (.func 47) #[] #[], .func (.func 48) #[] #[]] 81) := ⟨_, rfl⟩
  rw [← hW4] at HB HB4 HB8 HB13 HR HM
  rw [← hW4]
  clear hW4 hg13 hc0 hc1 hC2 HCL
  go_loopg [11, 25] (n.toNat) (fun kq v11 v25 w' => ∃ (p i : Int) (l : List Int), v11 = .int .i64 p ∧ v25 = .int .i64 i ∧ Aside0 (0 ≤ i ∧ i ≤ n ∧ (n - i).toNat = kq) ∧ Aside0 (crunE (fun at_ => (slices_BinarySearch_int_int.f kB points at_).map (·.2)) l0_1 kq p l i = some (r1, r2, r3, r4, r5)) ∧ Aside0 (Kd.R (Kd.int .i64) 3 w' w.heap.size (fun k => w.heap.size + 1 + 1 < k ∧ k < g13) (.slice A9 l1_1.length c9) l) ∧ Aside0 (l.length = l1_1.length) ∧ Aside0 (w'.heap[w.heap.size]? = some (.cells #[.int .i64 a0_0, .slice A0_1 l0_1.length c0_1] 38 (0, 0))) ∧ Aside0 (w'.heap[w.heap.size + 1 + 1]? = some (.cells #[.int .i64 0, .slice none 0 0] 47 (0, 0))) ∧ Aside0 (w'.heap[g13]? = some (.cells #[.func (.func 47) #[] #[], .func (.func 48) #[] #[]] 81 (0, 0))) ∧ Aside0 (Below w0.heap.size w0 w') ∧ Aside0 (w'.heap[gm]? = some (.cells #[.bool false] 4 (0, 0))))
  case atStart => exact ⟨a1_0, 0, l1_1, rfl, rfl, ⟨by omega, by omega, by omega⟩, H, HR, ⟨rfl⟩, HB4, HB8, HB13, HB, HM⟩
  case round =>
    clear H HR HB4 HB8 HB13 HB HM
    obtain ⟨p, i, l, rfl, rfl, HI, H, HR, HLL, HB4, HB8, HB13, HB, HM⟩ := hrel
    obtain ⟨hi0, hi1, hi2⟩ := HI.out
    cases gk with
    | zero =>
      have hin : i = n := by omega
      subst hin
      have h := H.out
      simp only [crunE, Option.some.injEq, Prod.mk.injEq] at h
      obtain ⟨rfl, rfl, rfl, rfl, rfl⟩ := h
      clear H
      have hz80 := (blk_cell HB8.out 0).trans rfl
      have hz81 := (blk_cell HB8.out 1).trans rfl
      have hf80 := blk_frozen HB8.out 0
      have hf81 := blk_frozen HB8.out 1
      go_wp2
      refine bodyPost_ret (results_list (rs := [.cell 8 47, .tmp 9, .tmp 10]) (vs := [.agg #[.int .i64 p, .slice A9 l1_1.length c9], .int .i64 i, .bool true]) rfl (by simp) (Vals.cell (w.heap.size + 1 + 1) 47 #[.int .i64 p, .slice A9 l1_1.length c9] (0, 0) _ rfl (by refine blk_put (cs := #[.int .i64 p, .slice none 0 0]) ?_ 1 _ rfl; refine blk_put (cs := #[.int .i64 0, .slice none 0 0]) ?_ 0 _ rfl; exact HB8.out) Try.underlying47 rfl (by kernel_rfl) (Vals.tmp (Vals.tmp Vals.nil)))) rfl ?_
      exact ⟨_, rfl, Kd.R_mono (Kd.R_far (Kd.R_far HR.out (fun k hk => by simp; omega) _) (fun k hk => by simp; omega) _) (fun _ _ => trivial), below_set (below_set HB.out (by omega)) (by omega), blk_far (p := ⟨w.heap.size + 1 + 1, 1, none⟩) (blk_far (p := ⟨w.heap.size + 1 + 1, 0, none⟩) HM.out (by show gm ≠ w.heap.size + 1 + 1; omega) _) (by show gm ≠ w.heap.size + 1 + 1; omega) _⟩
    | succ d =>
      have hin : i < n := by omega
      have h := H.out
      simp only [crunE] at h
      by_cases hp : 0 ≤ p ∧ p < (l0_1.length : Int)
      rotate_left
      · rw [if_neg hp] at h; cases h
      rw [if_pos hp] at h
      obtain ⟨hp0, hp1⟩ := hp
      obtain ⟨ad, rfl, hx0, hx1, hx2, hx3⟩ := at_T45 HR0_1.out p hp0 hp1
      replace hx0 := (HB.out.cell (World.block_lt_of_cell? w0 _ hx0)).trans hx0
      replace hx1 := (HB.out.cell (World.block_lt_of_cell? w0 _ hx1)).trans hx1
      replace hx2 := (HB.out.cell (World.block_lt_of_cell? w0 _ hx2)).trans hx2
      replace hx3 := (HB.out.cell (World.block_lt_of_cell? w0 _ hx3)).trans hx3
      have hz40 := (blk_cell HB4.out 0).trans rfl
      have hz41 := (blk_cell HB4.out 1).trans rfl
      have hz80 := (blk_cell HB8.out 0).trans rfl
      have hz81 := (blk_cell HB8.out 1).trans rfl
      have hf80 := blk_frozen HB8.out 0
      have hf81 := blk_frozen HB8.out 1
      have hl4 := blk_lt HB4.out
      have hl8 := blk_lt HB8.out
      have hl13 := blk_lt HB13.out
      by_cases hh : (rd_T45 l0_1 p).f0 = 2
      · rw [if_pos hh] at h
        simp only [Option.some.injEq, Prod.mk.injEq] at h
        obtain ⟨rfl, rfl, rfl, rfl, rfl⟩ := h
        have hh1 : ((rd_T45 l0_1 p).f0 == 2) = true := by rw [hh]; rfl
        clear H hh
        go_wp2
        refine bodyPost_ret (results_list (rs := [.cell 8 47, .tmp 9, .tmp 10]) (vs := [.agg #[.int .i64 p, .slice A9 l1_1.length c9], .int .i64 i, .bool true]) rfl (by simp) (Vals.cell (w.heap.size + 1 + 1) 47 #[.int .i64 p, .slice A9 l1_1.length c9] (0, 0) _ rfl (by refine blk_alloc ?_ _; refine blk_put (cs := #[.int .i64 p, .slice none 0 0]) ?_ 1 _ rfl; refine blk_put (cs := #[.int .i64 0, .slice none 0 0]) ?_ 0 _ rfl; exact HB8.out) Try.underlying47 rfl (by kernel_rfl) (Vals.tmp (Vals.tmp Vals.nil)))) rfl ?_
        exact ⟨_, rfl, Kd.R_alloc (Kd.R_mono (Kd.R_far (Kd.R_far HR.out (fun k hk => by simp; omega) _) (fun k hk => by simp; omega) _) (fun _ _ => trivial)) _, below_alloc (below_set (below_set HB.out (by omega)) (by omega)) _, blk_alloc (blk_far (p := ⟨w.heap.size + 1 + 1, 1, none⟩) (blk_far (p := ⟨w.heap.size + 1 + 1, 0, none⟩) HM.out (by show gm ≠ w.heap.size + 1 + 1; omega) _) (by show gm ≠ w.heap.size + 1 + 1; omega) _) _⟩
      rw [if_neg hh] at h
      have hh1 : ((rd_T45 l0_1 p).f0 == 2) = false := beq_eq_false_iff_ne.mpr hh
      by_cases hr : 0 ≤ (rd_T45 l0_1 p).f1 ∧ (rd_T45 l0_1 p).f1 < (l.length : Int)
      rotate_left
      · rw [if_neg hr] at h; cases h
      rw [if_pos hr] at h
      obtain ⟨hr0, hr1⟩ := hr
      obtain ⟨g9, cap9, hv9, -⟩ := Kd.R_form HR.out (by omega)
      injection hv9 with e1 e2 e3
      subst e1
      clear e2 e3
      rw [HLL.out] at hr1
      have HK := Aside0.mk h
      clear h hh H
      by_cases h0 : (rd_T45 l0_1 p).f0 = 0
      · replace HK := Aside0.mk ((if_pos h0).symm.trans HK.out)
        rw [h0] at hx0
        clear h0
        clear hh1
        go_wp2
        have hg9 := HR.out.1 g9 rfl
        have hne15 : some wr.heap.size ≠ some g9 := by intro e; injection e; omega
        have hne13 : some g13 ≠ some g9 := by intro e; injection e; omega
        have hneM : some gm ≠ some g9 := by intro e; injection e; omega
        have hnm4 : some w.heap.size ≠ some gm := by intro e; injection e; omega
        have hnm8 : some (w.heap.size + 1 + 1) ≠ some gm := by intro e; injection e; omega
        have hnm13 : some g13 ≠ some gm := by intro e; injection e; omega
        have hne4 : some w.heap.size ≠ some g9 := by intro e; injection e; omega
        have hne8 : some (w.heap.size + 1 + 1) ≠ some g9 := by intro e; injection e; omega
        obtain ⟨W5, hW5⟩ : ∃ W : World, W = wr.alloc (.cells #[.int .i64 0, .int .i64 (rd_T45 l0_1 p).f1, .int .i64 (rd_T45 l0_1 p).f2, .int .i64 (rd_T45 l0_1 p).f3] 45) := ⟨_, rfl⟩
        rw [← hW5]
        have hB15 := blk_new wr (.cells #[.int .i64 0, .int .i64 (rd_T45 l0_1 p).f1, .int .i64 (rd_T45 l0_1 p).f2, .int .i64 (rd_T45 l0_1 p).f3] 45)
        rw [← hW5] at hB15
        replace HB := Aside0.mk (below_drew (below_alloc HB.out (.cells #[.int .i64 0, .int .i64 (rd_T45 l0_1 p).f1, .int .i64 (rd_T45 l0_1 p).f2, .int .i64 (rd_T45 l0_1 p).f3] 45)))
        replace HB4 := Aside0.mk (blk_drew (blk_alloc HB4.out (.cells #[.int .i64 0, .int .i64 (rd_T45 l0_1 p).f1, .int .i64 (rd_T45 l0_1 p).f2, .int .i64 (rd_T45 l0_1 p).f3] 45)))
        replace HB8 := Aside0.mk (blk_drew (blk_alloc HB8.out (.cells #[.int .i64 0, .int .i64 (rd_T45 l0_1 p).f1, .int .i64 (rd_T45 l0_1 p).f2, .int .i64 (rd_T45 l0_1 p).f3] 45)))
        replace HB13 := Aside0.mk (blk_drew (blk_alloc HB13.out (.cells #[.int .i64 0, .int .i64 (rd_T45 l0_1 p).f1, .int .i64 (rd_T45 l0_1 p).f2, .int .i64 (rd_T45 l0_1 p).f3] 45)))
        replace HR := Aside0.mk (Kd.R_drew (Kd.R_alloc HR.out (.cells #[.int .i64 0, .int .i64 (rd_T45 l0_1 p).f1, .int .i64 (rd_T45 l0_1 p).f2, .int .i64 (rd_T45 l0_1 p).f3] 45)))
        replace HM := Aside0.mk (blk_drew (blk_alloc HM.out (.cells #[.int .i64 0, .int .i64 (rd_T45 l0_1 p).f1, .int .i64 (rd_T45 l0_1 p).f2, .int .i64 (rd_T45 l0_1 p).f3] 45)))
        rw [← hW5] at HB HB4 HB8 HB13 HR HM
        clear hW5
        have hy0 : W5.cell? ⟨wr.heap.size, 0, none⟩ = some (.int .i64 0) := (blk_cell hB15 0).trans rfl
        have hy1 : W5.cell? ⟨wr.heap.size, 1, none⟩ = some (.int .i64 (rd_T45 l0_1 p).f1) := (blk_cell hB15 1).trans rfl
        have hy2 : W5.cell? ⟨wr.heap.size, 2, none⟩ = some (.int .i64 (rd_T45 l0_1 p).f2) := (blk_cell hB15 2).trans rfl
        have hy3 : W5.cell? ⟨wr.heap.size, 3, none⟩ = some (.int .i64 (rd_T45 l0_1 p).f3) := (blk_cell hB15 3).trans rfl
        have hv : W5.cell? ⟨g13, 0, none⟩ = some (.func (.func 47) #[] #[]) := (blk_cell HB13.out 0).trans rfl
        clear hB15 hx0 hx1 hx2 hx3 hz40 hz41 hz80 hz81 hf80 hf81
        by_cases hm : rd l (rd_T45 l0_1 p).f1 = 1152921504606846976
        · replace HK := ((if_pos hm).symm.trans HK.out)
          simp only [Option.some.injEq, Prod.mk.injEq] at HK
          obtain ⟨rfl, rfl, rfl, rfl, rfl⟩ := HK
          have HCL := Aside0.mk (act1_big 0 (rd_T45 l0_1 p).f1 (rd_T45 l0_1 p).f2 (rd_T45 l0_1 p).f3 g9 l1_1.length c9 l _ _ _ HR.out hr0 hr1 hm)
          clear hm
          go_region_held3 (fun w' => w'.cell? ⟨wr.heap.size, 0, none⟩ = some (.int .i64 0) ∧ w'.cell? ⟨wr.heap.size, 1, none⟩ = some (.int .i64 (rd_T45 l0_1 p).f1) ∧ w'.cell? ⟨wr.heap.size, 2, none⟩ = some (.int .i64 (rd_T45 l0_1 p).f2) ∧ w'.cell? ⟨wr.heap.size, 3, none⟩ = some (.int .i64 (rd_T45 l0_1 p).f3) ∧ w'.cell? ⟨g13, 0, none⟩ = some (.func (.func 47) #[] #[]))
            (first | go_keep | (refine ⟨(hB6.cell (World.block_lt_of_cell? _ _ hy0)).trans hy0, (hB6.cell (World.block_lt_of_cell? _ _ hy1)).trans hy1, (hB6.cell (World.block_lt_of_cell? _ _ hy2)).trans hy2, (hB6.cell (World.block_lt_of_cell? _ _ hy3)).trans hy3, (hB6.cell (World.block_lt_of_cell? _ _ hv)).trans hv⟩))
            ((go_at_call 47; refine HCL.out.mono ?_; rintro e w6 ⟨rfl, hB6⟩))
          replace HB8 := blk_below HB8.out hB6
          have hz80 := (blk_cell HB8 0).trans rfl
          have hz81 := (blk_cell HB8 1).trans rfl
          have hf80 := blk_frozen HB8 0
          have hf81 := blk_frozen HB8 1
          go_wp2
          refine bodyPost_ret (results_list (rs := [.cell 8 47, .tmp 9, .tmp 10]) (vs := [.agg #[.int .i64 0, .slice none 0 0], .int .i64 0, .bool false]) rfl (by simp) (Vals.cell (w.heap.size + 1 + 1) 47 #[.int .i64 0, .slice none 0 0] (0, 0) _ rfl (by refine blk_put (cs := #[.int .i64 0, .slice none 0 0]) ?_ 1 _ rfl; refine blk_put (cs := #[.int .i64 0, .slice none 0 0]) ?_ 0 _ rfl; exact HB8) Try.underlying47 rfl (by kernel_rfl) (Vals.tmp (Vals.tmp Vals.nil)))) rfl ?_
          exact ⟨_, rfl, Kd.R_nil _ _ _ _ _, below_set (below_set (below_step HB.out hB6) (by omega)) (by omega), blk_far (p := ⟨w.heap.size + 1 + 1, 1, none⟩) (blk_far (p := ⟨w.heap.size + 1 + 1, 0, none⟩) (blk_below HM.out hB6) (by show gm ≠ w.heap.size + 1 + 1; omega) _) (by show gm ≠ w.heap.size + 1 + 1; omega) _⟩
        · replace HK := Aside0.mk ((if_neg hm).symm.trans HK.out)
          have HCL := Aside0.mk (act1_ok 0 (rd_T45 l0_1 p).f1 (rd_T45 l0_1 p).f2 (rd_T45 l0_1 p).f3 g9 l1_1.length c9 l _ _ _ HR.out hr0 hr1 hm)
          clear hm
          go_region_held3 (fun w' => w'.cell? ⟨wr.heap.size, 0, none⟩ = some (.int .i64 0) ∧ w'.cell? ⟨wr.heap.size, 1, none⟩ = some (.int .i64 (rd_T45 l0_1 p).f1) ∧ w'.cell? ⟨wr.heap.size, 2, none⟩ = some (.int .i64 (rd_T45 l0_1 p).f2) ∧ w'.cell? ⟨wr.heap.size, 3, none⟩ = some (.int .i64 (rd_T45 l0_1 p).f3) ∧ w'.cell? ⟨g13, 0, none⟩ = some (.func (.func 47) #[] #[]))
            (first | go_keep | (refine ⟨(hg6.cell_far _ (World.block_lt_of_cell? _ _ hy0) hne15).trans hy0, (hg6.cell_far _ (World.block_lt_of_cell? _ _ hy1) hne15).trans hy1, (hg6.cell_far _ (World.block_lt_of_cell? _ _ hy2) hne15).trans hy2, (hg6.cell_far _ (World.block_lt_of_cell? _ _ hy3) hne15).trans hy3, (hg6.cell_far _ (World.block_lt_of_cell? _ _ hv) hne13).trans hv⟩))
            ((go_at_call 47; refine HCL.out.mono ?_; rintro e w6 ⟨rfl, hR6, hg6⟩))
          have hkk := HK.out
          clear HK
          obtain ⟨m, hm, hk⟩ := Option.bind_eq_some_iff.1 hkk
          obtain ⟨⟨bi, bm⟩, hbs, hbm⟩ := Option.map_eq_some_iff.1 hm
          simp only at hbm
          subst hbm
          have HK := Aside0.mk hk
          have HBS := Aside0.mk hbs
          clear hkk hm hk hbs
          have HB46 := Aside0.mk (blk_grown HB4.out hg6 hne4)
          have HB86 := Aside0.mk (blk_grown HB8.out hg6 hne8)
          have HB136 := Aside0.mk (blk_grown HB13.out hg6 hne13)
          have HM6 := Aside0.mk (blk_grown HM.out hg6 hneM)
          have HB6 := Aside0.mk (HB.out.grown hg6 (below_size HB.out) (by intro k hk; injection hk; omega))
          have HR6 := Aside0.mk hR6
          have HL6 := Aside0.mk (show (l.set (rd_T45 l0_1 p).f1.toNat (wrap64 (rd l (rd_T45 l0_1 p).f1 + 1))).length = l1_1.length by rw [List.length_set]; exact HLL.out)
          clear hg6 hR6
          have HC6 := Aside0.mk (until_clo kB points A2 c2 (rd_T45 l0_1 p).f2 bm bi false g6 gm w6 ((HB6.out.block g6 hg6).trans H6.out) HM6.out (Kd.C_below HR2.out HB6.out) HC2.out HBS.out)
          clear HB4 HB8 HB13 HM HB HR HBS
          go_wp2_with fail
          refine HC6.out.mono ?_
          rintro e w7 ⟨rfl, hm7, hg7⟩
          have HB47 := Aside0.mk (blk_grown HB46.out hg7 hnm4)
          have HB87 := Aside0.mk (blk_grown HB86.out hg7 hnm8)
          have HB137 := Aside0.mk (blk_grown HB136.out hg7 hnm13)
          have HB7 := Aside0.mk (HB6.out.grown hg7 (below_size HB6.out) (by intro k hk; injection hk; omega))
          have HR7 := Aside0.mk (Kd.R_grown HR6.out hg7 (fun k hk => by intro e; injection e; omega))
          have HM7 := Aside0.mk hm7
          clear hm7 hg7 HB46 HB86 HB136 HB6 HR6 HM6 HC6
          cases bm with
          | true =>
            have h := HK.out
            simp only [if_true, Option.some.injEq, Prod.mk.injEq] at h
            obtain ⟨rfl, rfl, rfl, rfl, rfl⟩ := h
            clear HK
            have hz80 := (blk_cell HB87.out 0).trans rfl
            have hz81 := (blk_cell HB87.out 1).trans rfl
            have hf80 := blk_frozen HB87.out 0
            have hf81 := blk_frozen HB87.out 1
            go_wp2
            refine bodyPost_ret (results_list (rs := [.cell 8 47, .tmp 9, .tmp 10]) (vs := [.agg #[.int .i64 (rd_T45 l0_1 p).f2, .slice (some ⟨g9, 0, none⟩) l1_1.length c9], .int .i64 (i + 1), .bool true]) rfl (by simp) (Vals.cell (w.heap.size + 1 + 1) 47 #[.int .i64 (rd_T45 l0_1 p).f2, .slice (some ⟨g9, 0, none⟩) l1_1.length c9] (0, 0) _ rfl (by refine blk_put (cs := #[.int .i64 (rd_T45 l0_1 p).f2, .slice none 0 0]) ?_ 1 _ rfl; refine blk_put (cs := #[.int .i64 0, .slice none 0 0]) ?_ 0 _ rfl; exact HB87.out) Try.underlying47 rfl (by kernel_rfl) (Vals.tmp (Vals.tmp Vals.nil)))) rfl ?_
            exact ⟨_, rfl, Kd.R_mono (Kd.R_far (Kd.R_far HR7.out (fun k hk => by simp; omega) _) (fun k hk => by simp; omega) _) (fun _ _ => trivial), below_set (below_set HB7.out (by omega)) (by omega), blk_far (p := ⟨w.heap.size + 1 + 1, 1, none⟩) (blk_far (p := ⟨w.heap.size + 1 + 1, 0, none⟩) HM7.out (by show gm ≠ w.heap.size + 1 + 1; omega) _) (by show gm ≠ w.heap.size + 1 + 1; omega) _⟩
          | false =>
            have h := HK.out
            simp only [Bool.false_eq_true, if_false] at h
            have HK := Aside0.mk h
            clear h
            go_wp2
            go_roundg d
            case measure => omega
            case rel => exact ⟨(rd_T45 l0_1 p).f2, i + 1, _, rfl, rfl, ⟨by omega, by omega, by omega⟩, HK, HR7, HL6, HB47, HB87, HB137, HB7, HM7⟩
      · replace HK := Aside0.mk ((if_neg h0).symm.trans HK.out)
        by_cases h1 : (rd_T45 l0_1 p).f0 = 1
        rotate_left
        · have h := HK.out; rw [if_neg h1] at h; cases h
        replace HK := Aside0.mk ((if_pos h1).symm.trans HK.out)
        rw [h1] at hx0
        clear h0 h1
        clear hh1
        go_wp2
        have hg9 := HR.out.1 g9 rfl
        have hne15 : some wr.heap.size ≠ some g9 := by intro e; injection e; omega
        have hne13 : some g13 ≠ some g9 := by intro e; injection e; omega
        have hneM : some gm ≠ some g9 := by intro e; injection e; omega
        have hnm4 : some w.heap.size ≠ some gm := by intro e; injection e; omega
        have hnm8 : some (w.heap.size + 1 + 1) ≠ some gm := by intro e; injection e; omega
        have hnm13 : some g13 ≠ some gm := by intro e; injection e; omega
        have hne4 : some w.heap.size ≠ some g9 := by intro e; injection e; omega
        have hne8 : some (w.heap.size + 1 + 1) ≠ some g9 := by intro e; injection e; omega
        obtain ⟨W5, hW5⟩ : ∃ W : World, W = wr.alloc (.cells #[.int .i64 1, .int .i64 (rd_T45 l0_1 p).f1, .int .i64 (rd_T45 l0_1 p).f2, .int .i64 (rd_T45 l0_1 p).f3] 45) := ⟨_, rfl⟩
        rw [← hW5]
        have hB15 := blk_new wr (.cells #[.int .i64 1, .int .i64 (rd_T45 l0_1 p).f1, .int .i64 (rd_T45 l0_1 p).f2, .int .i64 (rd_T45 l0_1 p).f3] 45)
        rw [← hW5] at hB15
        replace HB := Aside0.mk (below_drew (below_alloc HB.out (.cells #[.int .i64 1, .int .i64 (rd_T45 l0_1 p).f1, .int .i64 (rd_T45 l0_1 p).f2, .int .i64 (rd_T45 l0_1 p).f3] 45)))
        replace HB4 := Aside0.mk (blk_drew (blk_alloc HB4.out (.cells #[.int .i64 1, .int .i64 (rd_T45 l0_1 p).f1, .int .i64 (rd_T45 l0_1 p).f2, .int .i64 (rd_T45 l0_1 p).f3] 45)))
        replace HB8 := Aside0.mk (blk_drew (blk_alloc HB8.out (.cells #[.int .i64 1, .int .i64 (rd_T45 l0_1 p).f1, .int .i64 (rd_T45 l0_1 p).f2, .int .i64 (rd_T45 l0_1 p).f3] 45)))
        replace HB13 := Aside0.mk (blk_drew (blk_alloc HB13.out (.cells #[.int .i64 1, .int .i64 (rd_T45 l0_1 p).f1, .int .i64 (rd_T45 l0_1 p).f2, .int .i64 (rd_T45 l0_1 p).f3] 45)))
        replace HR := Aside0.mk (Kd.R_drew (Kd.R_alloc HR.out (.cells #[.int .i64 1, .int .i64 (rd_T45 l0_1 p).f1, .int .i64 (rd_T45 l0_1 p).f2, .int .i64 (rd_T45 l0_1 p).f3] 45)))
        replace HM := Aside0.mk (blk_drew (blk_alloc HM.out (.cells #[.int .i64 1, .int .i64 (rd_T45 l0_1 p).f1, .int .i64 (rd_T45 l0_1 p).f2, .int .i64 (rd_T45 l0_1 p).f3] 45)))
        rw [← hW5] at HB HB4 HB8 HB13 HR HM
        clear hW5
        have hy0 : W5.cell? ⟨wr.heap.size, 0, none⟩ = some (.int .i64 1) := (blk_cell hB15 0).trans rfl
        have hy1 : W5.cell? ⟨wr.heap.size, 1, none⟩ = some (.int .i64 (rd_T45 l0_1 p).f1) := (blk_cell hB15 1).trans rfl
        have hy2 : W5.cell? ⟨wr.heap.size, 2, none⟩ = some (.int .i64 (rd_T45 l0_1 p).f2) := (blk_cell hB15 2).trans rfl
        have hy3 : W5.cell? ⟨wr.heap.size, 3, none⟩ = some (.int .i64 (rd_T45 l0_1 p).f3) := (blk_cell hB15 3).trans rfl
        have hv : W5.cell? ⟨g13, 1, none⟩ = some (.func (.func 48) #[] #[]) := (blk_cell HB13.out 1).trans rfl
        clear hB15 hx0 hx1 hx2 hx3 hz40 hz41 hz80 hz81 hf80 hf81
        by_cases hm : rd l (rd_T45 l0_1 p).f1 = 0
        · replace HK := Aside0.mk ((if_pos hm).symm.trans HK.out)
          have HCL := Aside0.mk (act2_zero 1 (rd_T45 l0_1 p).f1 (rd_T45 l0_1 p).f2 (rd_T45 l0_1 p).f3 g9 l1_1.length c9 l _ _ _ HR.out hr0 hr1 hm)
          clear hm
          go_region_held3 (fun w' => w'.cell? ⟨wr.heap.size, 0, none⟩ = some (.int .i64 1) ∧ w'.cell? ⟨wr.heap.size, 1, none⟩ = some (.int .i64 (rd_T45 l0_1 p).f1) ∧ w'.cell? ⟨wr.heap.size, 2, none⟩ = some (.int .i64 (rd_T45 l0_1 p).f2) ∧ w'.cell? ⟨wr.heap.size, 3, none⟩ = some (.int .i64 (rd_T45 l0_1 p).f3) ∧ w'.cell? ⟨g13, 1, none⟩ = some (.func (.func 48) #[] #[]))
            (first | go_keep | (refine ⟨(hB6.cell (World.block_lt_of_cell? _ _ hy0)).trans hy0, (hB6.cell (World.block_lt_of_cell? _ _ hy1)).trans hy1, (hB6.cell (World.block_lt_of_cell? _ _ hy2)).trans hy2, (hB6.cell (World.block_lt_of_cell? _ _ hy3)).trans hy3, (hB6.cell (World.block_lt_of_cell? _ _ hv)).trans hv⟩))
            ((go_at_call 48; refine HCL.out.mono ?_; rintro e w6 ⟨rfl, hB6⟩))
          have hkk := HK.out
          clear HK
          obtain ⟨m, hm, hk⟩ := Option.bind_eq_some_iff.1 hkk
          obtain ⟨⟨bi, bm⟩, hbs, hbm⟩ := Option.map_eq_some_iff.1 hm
          simp only at hbm
          subst hbm
          have HK := Aside0.mk hk
          have HBS := Aside0.mk hbs
          clear hkk hm hk hbs
          have HB46 := Aside0.mk (blk_below HB4.out hB6)
          have HB86 := Aside0.mk (blk_below HB8.out hB6)
          have HB136 := Aside0.mk (blk_below HB13.out hB6)
          have HM6 := Aside0.mk (blk_below HM.out hB6)
          have HB6 := Aside0.mk (below_step HB.out hB6)
          have HR6 := Aside0.mk (Kd.R_below HR.out hB6)
          have HL6 := HLL
          clear hB6
          have HC6 := Aside0.mk (until_clo kB points A2 c2 (rd_T45 l0_1 p).f3 bm bi false g6 gm w6 ((HB6.out.block g6 hg6).trans H6.out) HM6.out (Kd.C_below HR2.out HB6.out) HC2.out HBS.out)
          clear HB4 HB8 HB13 HM HB HR HBS
          go_wp2_with fail
          refine HC6.out.mono ?_
          rintro e w7 ⟨rfl, hm7, hg7⟩
          have HB47 := Aside0.mk (blk_grown HB46.out hg7 hnm4)
          have HB87 := Aside0.mk (blk_grown HB86.out hg7 hnm8)
          have HB137 := Aside0.mk (blk_grown HB136.out hg7 hnm13)
          have HB7 := Aside0.mk (HB6.out.grown hg7 (below_size HB6.out) (by intro k hk; injection hk; omega))
          have HR7 := Aside0.mk (Kd.R_grown HR6.out hg7 (fun k hk => by intro e; injection e; omega))
          have HM7 := Aside0.mk hm7
          clear hm7 hg7 HB46 HB86 HB136 HB6 HR6 HM6 HC6
          cases bm with
          | true =>
            have h := HK.out
            simp only [if_true, Option.some.injEq, Prod.mk.injEq] at h
            obtain ⟨rfl, rfl, rfl, rfl, rfl⟩ := h
            clear HK
            have hz80 := (blk_cell HB87.out 0).trans rfl
            have hz81 := (blk_cell HB87.out 1).trans rfl
            have hf80 := blk_frozen HB87.out 0
            have hf81 := blk_frozen HB87.out 1
            go_wp2
            refine bodyPost_ret (results_list (rs := [.cell 8 47, .tmp 9, .tmp 10]) (vs := [.agg #[.int .i64 (rd_T45 l0_1 p).f3, .slice (some ⟨g9, 0, none⟩) l1_1.length c9], .int .i64 (i + 1), .bool true]) rfl (by simp) (Vals.cell (w.heap.size + 1 + 1) 47 #[.int .i64 (rd_T45 l0_1 p).f3, .slice (some ⟨g9, 0, none⟩) l1_1.length c9] (0, 0) _ rfl (by refine blk_put (cs := #[.int .i64 (rd_T45 l0_1 p).f3, .slice none 0 0]) ?_ 1 _ rfl; refine blk_put (cs := #[.int .i64 0, .slice none 0 0]) ?_ 0 _ rfl; exact HB87.out) Try.underlying47 rfl (by kernel_rfl) (Vals.tmp (Vals.tmp Vals.nil)))) rfl ?_
            exact ⟨_, rfl, Kd.R_mono (Kd.R_far (Kd.R_far HR7.out (fun k hk => by simp; omega) _) (fun k hk => by simp; omega) _) (fun _ _ => trivial), below_set (below_set HB7.out (by omega)) (by omega), blk_far (p := ⟨w.heap.size + 1 + 1, 1, none⟩) (blk_far (p := ⟨w.heap.size + 1 + 1, 0, none⟩) HM7.out (by show gm ≠ w.heap.size + 1 + 1; omega) _) (by show gm ≠ w.heap.size + 1 + 1; omega) _⟩
          | false =>
            have h := HK.out
            simp only [Bool.false_eq_true, if_false] at h
            have HK := Aside0.mk h
            clear h
            go_wp2
            go_roundg d
            case measure => omega
            case rel => exact ⟨(rd_T45 l0_1 p).f3, i + 1, _, rfl, rfl, ⟨by omega, by omega, by omega⟩, HK, HR7, HL6, HB47, HB87, HB137, HB7, HM7⟩
        · replace HK := Aside0.mk ((if_neg hm).symm.trans HK.out)
          have HCL := Aside0.mk (act2_ok 1 (rd_T45 l0_1 p).f1 (rd_T45 l0_1 p).f2 (rd_T45 l0_1 p).f3 g9 l1_1.length c9 l _ _ _ HR.out hr0 hr1 hm)
          clear hm
          go_region_held3 (fun w' => w'.cell? ⟨wr.heap.size, 0, none⟩ = some (.int .i64 1) ∧ w'.cell? ⟨wr.heap.size, 1, none⟩ = some (.int .i64 (rd_T45 l0_1 p).f1) ∧ w'.cell? ⟨wr.heap.size, 2, none⟩ = some (.int .i64 (rd_T45 l0_1 p).f2) ∧ w'.cell? ⟨wr.heap.size, 3, none⟩ = some (.int .i64 (rd_T45 l0_1 p).f3) ∧ w'.cell? ⟨g13, 1, none⟩ = some (.func (.func 48) #[] #[]))
            (first | go_keep | (refine ⟨(hg6.cell_far _ (World.block_lt_of_cell? _ _ hy0) hne15).trans hy0, (hg6.cell_far _ (World.block_lt_of_cell? _ _ hy1) hne15).trans hy1, (hg6.cell_far _ (World.block_lt_of_cell? _ _ hy2) hne15).trans hy2, (hg6.cell_far _ (World.block_lt_of_cell? _ _ hy3) hne15).trans hy3, (hg6.cell_far _ (World.block_lt_of_cell? _ _ hv) hne13).trans hv⟩))
            ((go_at_call 48; refine HCL.out.mono ?_; rintro e w6 ⟨rfl, hR6, hg6⟩))
          have hkk := HK.out
          clear HK
          obtain ⟨m, hm, hk⟩ := Option.bind_eq_some_iff.1 hkk
          obtain ⟨⟨bi, bm⟩, hbs, hbm⟩ := Option.map_eq_some_iff.1 hm
          simp only at hbm
          subst hbm
          have HK := Aside0.mk hk
          have HBS := Aside0.mk hbs
          clear hkk hm hk hbs
          have HB46 := Aside0.mk (blk_grown HB4.out hg6 hne4)
          have HB86 := Aside0.mk (blk_grown HB8.out hg6 hne8)
          have HB136 := Aside0.mk (blk_grown HB13.out hg6 hne13)
          have HM6 := Aside0.mk (blk_grown HM.out hg6 hneM)
          have HB6 := Aside0.mk (HB.out.grown hg6 (below_size HB.out) (by intro k hk; injection hk; omega))
          have HR6 := Aside0.mk hR6
          have HL6 := Aside0.mk (show (l.set (rd_T45 l0_1 p).f1.toNat (wrap64 (rd l (rd_T45 l0_1 p).f1 - 1))).length = l1_1.length by rw [List.length_set]; exact HLL.out)
          clear hg6 hR6
          have HC6 := Aside0.mk (until_clo kB points A2 c2 (rd_T45 l0_1 p).f2 bm bi false g6 gm w6 ((HB6.out.block g6 hg6).trans H6.out) HM6.out (Kd.C_below HR2.out HB6.out) HC2.out HBS.out)
          clear HB4 HB8 HB13 HM HB HR HBS
          go_wp2_with fail
          refine HC6.out.mono ?_
          rintro e w7 ⟨rfl, hm7, hg7⟩
          have HB47 := Aside0.mk (blk_grown HB46.out hg7 hnm4)
          have HB87 := Aside0.mk (blk_grown HB86.out hg7 hnm8)
          have HB137 := Aside0.mk (blk_grown HB136.out hg7 hnm13)
          have HB7 := Aside0.mk (HB6.out.grown hg7 (below_size HB6.out) (by intro k hk; injection hk; omega))
          have HR7 := Aside0.mk (Kd.R_grown HR6.out hg7 (fun k hk => by intro e; injection e; omega))
          have HM7 := Aside0.mk hm7
          clear hm7 hg7 HB46 HB86 HB136 HB6 HR6 HM6 HC6
          cases bm with
          | true =>
            have h := HK.out
            simp only [if_true, Option.some.injEq, Prod.mk.injEq] at h
            obtain ⟨rfl, rfl, rfl, rfl, rfl⟩ := h
            clear HK
            have hz80 := (blk_cell HB87.out 0).trans rfl
            have hz81 := (blk_cell HB87.out 1).trans rfl
            have hf80 := blk_frozen HB87.out 0
            have hf81 := blk_frozen HB87.out 1
            go_wp2
            refine bodyPost_ret (results_list (rs := [.cell 8 47, .tmp 9, .tmp 10]) (vs := [.agg #[.int .i64 (rd_T45 l0_1 p).f2, .slice (some ⟨g9, 0, none⟩) l1_1.length c9], .int .i64 (i + 1), .bool true]) rfl (by simp) (Vals.cell (w.heap.size + 1 + 1) 47 #[.int .i64 (rd_T45 l0_1 p).f2, .slice (some ⟨g9, 0, none⟩) l1_1.length c9] (0, 0) _ rfl (by refine blk_put (cs := #[.int .i64 (rd_T45 l0_1 p).f2, .slice none 0 0]) ?_ 1 _ rfl; refine blk_put (cs := #[.int .i64 0, .slice none 0 0]) ?_ 0 _ rfl; exact HB87.out) Try.underlying47 rfl (by kernel_rfl) (Vals.tmp (Vals.tmp Vals.nil)))) rfl ?_
            exact ⟨_, rfl, Kd.R_mono (Kd.R_far (Kd.R_far HR7.out (fun k hk => by simp; omega) _) (fun k hk => by simp; omega) _) (fun _ _ => trivial), below_set (below_set HB7.out (by omega)) (by omega), blk_far (p := ⟨w.heap.size + 1 + 1, 1, none⟩) (blk_far (p := ⟨w.heap.size + 1 + 1, 0, none⟩) HM7.out (by show gm ≠ w.heap.size + 1 + 1; omega) _) (by show gm ≠ w.heap.size + 1 + 1; omega) _⟩
          | false =>
            have h := HK.out
            simp only [Bool.false_eq_true, if_false] at h
            have HK := Aside0.mk h
            clear h
            go_wp2
            go_roundg d
            case measure => omega
            case rel => exact ⟨(rd_T45 l0_1 p).f2, i + 1, _, rfl, rfl, ⟨by omega, by omega, by omega⟩, HK, HR7, HL6, HB47, HB87, HB137, HB7, HM7⟩
theorem wrapI {x : Int} (h : -9223372036854775808 ≤ x ∧ x ≤ 9223372036854775807) : wrap64 x = x := by
  unfold wrap64
  omega
def pgo (cl : Int) (points : List Int) : Nat → Int → Bool
  | 0, _ => true
  | d + 1, i => if rd points i < 0 then false else if cl ≤ rd points i then false else if 0 < i then (if rd points i ≤ rd points (i - 1) then false else pgo cl points d (i + 1)) else pgo cl points d (i + 1)
def counter_Until.f (k : Nat) (a0_0 : Int) (l0_1 : List S45) (a1_0 : Int) (l1_1 : List Int) (l2 : List Int) (a3 : Int) : Option (Int × List Int × Int × Int) :=
  if l2.length < 17592186044416 then (counter_Fits.f k a0_0 l0_1 a1_0 l1_1).bind fun b => if b = true then (if pgo (l0_1.length : Int) l2 l2.length 0 = true then (if a3 < 1 then some (0, [], 0, 2) else if 1000000 < a3 then some (0, [], 0, 2) else if l1_1.length < 17592186044416 then (crunE (fun at_ => (slices_BinarySearch_int_int.f k l2 at_).map (·.2)) l0_1 a3.toNat a1_0 l1_1 0).bind fun z => if z.2.2.2.1 = true then (if z.2.2.2.2 = true then some (z.1, z.2.1, z.2.2.1, 0) else some (0, [], 0, 6)) else some (0, [], 0, 4) else none) else some (0, [], 0, 2)) else some (0, [], 0, 1) else none
theorem crunE_mono {P Q : Int → Option Bool} (h : ∀ a, LeO (P a) (Q a)) (code : List S45) : ∀ (d : Nat) (p : Int) (l : List Int) (i : Int), LeO (crunE P code d p l i) (crunE Q code d p l i)
  | 0, _, _, _ => LeO.refl _
  | d + 1, p, l, i => by
    have ih := crunE_mono h code d
    unfold crunE
    repeat' first
      | (with_reducible exact LeO.refl _)
      | (with_reducible exact ih _ _ _)
      | (with_reducible exact h _)
      | (with_reducible refine LeO.ite ?_ ?_)
      | (with_reducible refine LeO.bind ?_ (fun _ => ?_))
theorem LeO_map {α β : Type} {a b : Option α} (f : α → β) (h : LeO a b) : LeO (a.map f) (b.map f) := by
  intro r hr
  obtain ⟨x, hx, rfl⟩ := Option.map_eq_some_iff.1 hr
  rw [h x hx]
  rfl
theorem counter_Until.mono : ∀ a0 a1 a2 a3 a4 a5 k, LeO (counter_Until.f k a0 a1 a2 a3 a4 a5) (counter_Until.f (k + 1) a0 a1 a2 a3 a4 a5) := by
  intro a0 a1 a2 a3 a4 a5 k
  unfold counter_Until.f
  refine LeO.ite (LeO.bind (counter_Fits.mono _ _ _ _ _) (fun _ => LeO.ite (LeO.ite (LeO.ite (LeO.refl _) (LeO.ite (LeO.refl _) (LeO.ite (LeO.bind (crunE_mono (fun a => LeO_map _ (slices_BinarySearch_int_int.mono _ _ _)) _ _ _ _ _) (fun _ => LeO.refl _)) (LeO.refl _)))) (LeO.refl _)) (LeO.refl _))) (LeO.refl _)
set_option maxHeartbeats 4000000 in
set_option maxRecDepth 100000 in
set_option maxHeartbeats 8000000 in
set_option maxRecDepth 100000 in
theorem counter_Until.calls (k : Nat) (a0_0 : Int) (A0_1 : Option Addr) (c0_1 : Nat) (l0_1 : List S45) (a1_0 : Int) (A1_1 : Option Addr) (c1_1 : Nat) (l1_1 : List Int) (A2 : Option Addr) (c2 : Nat) (l2 : List Int) (a3 : Int) (r1 : Int) (r2 : List Int) (r3 : Int) (r4 : Int) (w : World) (hr0_1 : Kd.C k45 w A0_1 l0_1.length l0_1) (hc0_1 : l0_1.length ≤ c0_1) (hr1_1 : Kd.C (Kd.int .i64) w A1_1 l1_1.length l1_1) (hc1_1 : l1_1.length ≤ c1_1) (hr2 : Kd.C (Kd.int .i64) w A2 l2.length l2) (hc2 : l2.length ≤ c2) (h : counter_Until.f k a0_0 l0_1 a1_0 l1_1 l2 a3 = some (r1, r2, r3, r4)) :
    Calls Try.prog 32 #[.agg #[.int .i64 a0_0, .slice A0_1 l0_1.length c0_1], .agg #[.int .i64 a1_0, .slice A1_1 l1_1.length c1_1], .slice A2 l2.length c2, .int .i64 a3] w fun e w' => ∃ v1_ : Value, e = .returned (.tuple #[.agg #[.int .i64 r1, v1_], .int .i64 r3, .int .i64 r4]) ∧ Kd.R (Kd.int .i64) 3 w' w.heap.size (fun _ => True) v1_ r2 ∧ Below w.heap.size w w' := by
  have hu24 := Try.underlying38
  have hu27 := Try.underlying47
  have HR0_1 := Aside0.mk hr0_1
  have HC0_1 := Aside0.mk hc0_1
  have HR1_1 := Aside0.mk hr1_1
  have HC1_1 := Aside0.mk hc1_1
  have HR2 := Aside0.mk hr2
  have HC2 := Aside0.mk hc2
  clear hr0_1 hc0_1 hr1_1 hc1_1 hr2 hc2
  unfold counter_Until.f at h
  by_cases hl2 : l2.length < 17592186044416
  rotate_left
  · rw [if_neg hl2] at h
    cases h
  rw [if_pos hl2] at h
  obtain ⟨b, hb, h⟩ := Option.bind_eq_some_iff.1 h
  have hF : ∀ W : World, Below w.heap.size w W → Calls Try.prog 37 #[.agg #[.int .i64 a0_0, .slice A0_1 l0_1.length c0_1], .agg #[.int .i64 a1_0, .slice A1_1 l1_1.length c1_1]] W fun e w' => e = .returned (.bool b) ∧ Below W.heap.size W w' := fun W hW => counter_Fits.calls k a0_0 A0_1 c0_1 l0_1 a1_0 A1_1 c1_1 l1_1 b W (Kd.C_below HR0_1.out hW) HC0_1.out (Kd.C_below HR1_1.out hW) HC1_1.out hb
  have HF := Aside0.mk hF
  have H := Aside0.mk h
  clear h hF hb
  go_enter Try.func32, Try.ntmps32
  go_wp2_with fail
  obtain ⟨W1, hW1⟩ : ∃ W1 : World, W1 = ((((w.alloc (.cells #[.int .i64 a0_0, .slice A0_1 l0_1.length c0_1] 38)).alloc (.cells #[.int .i64 a1_0, .slice A1_1 l1_1.length c1_1] 47)).alloc (.cells #[.slice A2 l2.length c2] 22)).alloc (.cells #[.int .i64 0, .slice none 0 0] 47)) := ⟨_, rfl⟩
  have hBW1 : Below w.heap.size w W1 := by rw [hW1]; exact below_alloc (below_alloc (below_alloc (below_alloc (Below.refl _ _) _) _) _) _
  have hb0 : W1.heap[w.heap.size]? = some (.cells #[.int .i64 a0_0, .slice A0_1 l0_1.length c0_1] 38 (0, 0)) := by rw [hW1]; exact blk_alloc (blk_alloc (blk_alloc (blk_new _ _) _) _) _
  have hb1 : W1.heap[w.heap.size + 1]? = some (.cells #[.int .i64 a1_0, .slice A1_1 l1_1.length c1_1] 47 (0, 0)) := by rw [hW1]; exact blk_alloc (blk_alloc (by have h_ := blk_new (w.alloc (.cells #[.int .i64 a0_0, .slice A0_1 l0_1.length c0_1] 38)) (.cells #[.int .i64 a1_0, .slice A1_1 l1_1.length c1_1] 47); simpa using h_) _) _
  have hb2 : W1.heap[w.heap.size + 1 + 1]? = some (.cells #[.slice A2 l2.length c2] 22 (0, 0)) := by rw [hW1]; exact blk_alloc (by have h_ := blk_new ((w.alloc (.cells #[.int .i64 a0_0, .slice A0_1 l0_1.length c0_1] 38)).alloc (.cells #[.int .i64 a1_0, .slice A1_1 l1_1.length c1_1] 47)) (.cells #[.slice A2 l2.length c2] 22); simpa using h_) _
  have hb3 : W1.heap[w.heap.size + 1 + 1 + 1]? = some (.cells #[.int .i64 0, .slice none 0 0] 47 (0, 0)) := by rw [hW1]; have h_ := blk_new (((w.alloc (.cells #[.int .i64 a0_0, .slice A0_1 l0_1.length c0_1] 38)).alloc (.cells #[.int .i64 a1_0, .slice A1_1 l1_1.length c1_1] 47)).alloc (.cells #[.slice A2 l2.length c2] 22)) (.cells #[.int .i64 0, .slice none 0 0] 47); simpa using h_
  rw [← hW1]
  clear hW1
  obtain ⟨z3, hz3⟩ : ∃ z, w.heap.size + 1 + 1 + 1 = z := ⟨_, rfl⟩
  rw [hz3] at hb3 ⊢
  obtain ⟨z2, hz2⟩ : ∃ z, w.heap.size + 1 + 1 = z := ⟨_, rfl⟩
  rw [hz2] at hb2 ⊢
  obtain ⟨z1, hz1⟩ : ∃ z, w.heap.size + 1 = z := ⟨_, rfl⟩
  rw [hz1] at hb1 ⊢
  obtain ⟨z0, hz0⟩ : ∃ z, w.heap.size = z := ⟨_, rfl⟩
  rw [hz0] at hb0 ⊢
  have HZ := Aside0.mk (show w.heap.size ≤ z3 ∧ z0 < z3 ∧ z1 < z3 ∧ z2 < z3 from by omega)
  clear hz0 hz1 hz2 hz3
  refine (HF.out _ hBW1).mono ?_
  rintro e w2 ⟨rfl, hB2⟩
  have HB := Aside0.mk (below_step hBW1 hB2)
  have HB0 := Aside0.mk (blk_below hb0 hB2)
  have HB1 := Aside0.mk (blk_below hb1 hB2)
  have HB2 := Aside0.mk (blk_below hb2 hB2)
  have HB3 := Aside0.mk (blk_below hb3 hB2)
  clear hb0 hb1 hb2 hb3 hBW1 hB2 HF
  cases b with
  | false =>
    have h := H.out
    clear H
    rw [if_neg (by simp)] at h
    simp only [Option.some.injEq, Prod.mk.injEq] at h
    obtain ⟨rfl, rfl, rfl, rfl⟩ := h
    have hz00 := (blk_cell HB0.out 0).trans rfl
    have hz01 := (blk_cell HB0.out 1).trans rfl
    have hz10 := (blk_cell HB1.out 0).trans rfl
    have hz11 := (blk_cell HB1.out 1).trans rfl
    have hz20 := (blk_cell HB2.out 0).trans rfl
    have hz30 := (blk_cell HB3.out 0).trans rfl
    have hz31 := (blk_cell HB3.out 1).trans rfl
    have hf30 := blk_frozen HB3.out 0
    have hf31 := blk_frozen HB3.out 1
    go_wp2
    refine bodyPost_ret (results_list (rs := [.cell 8 47, .tmp 9, .tmp 10]) (vs := [.agg #[.int .i64 0, .slice none 0 0], .int .i64 0, .int .i64 1]) rfl (by simp) (Vals.cell z3 47 #[.int .i64 0, .slice none 0 0] (0, 0) _ rfl (by refine blk_put (cs := #[.int .i64 0, .slice none 0 0]) ?_ 1 _ rfl; refine blk_put (cs := #[.int .i64 0, .slice none 0 0]) ?_ 0 _ rfl; exact HB3.out) Try.underlying47 rfl (by kernel_rfl) (Vals.tmp (Vals.tmp Vals.nil)))) rfl ?_
    exact ⟨_, rfl, Kd.R_nil _ _ _ _ _, below_set (below_set HB.out HZ.out.1) HZ.out.1⟩
  | true =>
  have h := H.out
  clear H
  rw [if_pos rfl] at h
  obtain ⟨pv, hpv⟩ : ∃ v, pgo (l0_1.length : Int) l2 l2.length 0 = v := ⟨_, rfl⟩
  rw [hpv] at h
  have H := Aside0.mk h
  have HPV := Aside0.mk hpv
  clear h hpv
  have hz00 := (blk_cell HB0.out 0).trans rfl
  have hz01 := (blk_cell HB0.out 1).trans rfl
  have hz10 := (blk_cell HB1.out 0).trans rfl
  have hz11 := (blk_cell HB1.out 1).trans rfl
  have hz20 := (blk_cell HB2.out 0).trans rfl
  have hz30 := (blk_cell HB3.out 0).trans rfl
  have hz31 := (blk_cell HB3.out 1).trans rfl
  have hf30 := blk_frozen HB3.out 0
  have hf31 := blk_frozen HB3.out 1
  go_wp2_with fail
  clear hz00 hz01 hz10 hz11 hz20 hz30 hz31 hf30 hf31
  go_loopg [24] (l2.length) (fun kq v24 w' => ∃ i : Int, v24 = .int .i64 i ∧ Aside0 (0 ≤ i ∧ i + (kq : Int) = (l2.length : Int)) ∧ Aside0 (pgo (l0_1.length : Int) l2 kq i = pv) ∧ Aside0 (Below w.heap.size w w') ∧ Aside0 (w'.heap[z0]? = some (.cells #[.int .i64 a0_0, .slice A0_1 l0_1.length c0_1] 38 (0, 0))) ∧ Aside0 (w'.heap[z1]? = some (.cells #[.int .i64 a1_0, .slice A1_1 l1_1.length c1_1] 47 (0, 0))) ∧ Aside0 (w'.heap[z2]? = some (.cells #[.slice A2 l2.length c2] 22 (0, 0))) ∧ Aside0 (w'.heap[z3]? = some (.cells #[.int .i64 0, .slice none 0 0] 47 (0, 0))))
  case atStart => exact ⟨0, rfl, ⟨by omega⟩, HPV, HB, HB0, HB1, HB2, HB3⟩
  case round =>
    clear HPV HB HB0 HB1 HB2 HB3
    obtain ⟨i, rfl, HI, HPV, HB, HB0, HB1, HB2, HB3⟩ := hrel
    obtain ⟨hi0, hi1⟩ := HI.out
    cases gk with
    | succ d =>
      have hin : i < (l2.length : Int) := by omega
      have hp := HPV.out
      clear HPV
      simp only [pgo] at hp
      obtain ⟨ad, ea, hx⟩ := Kd.at_int (Kd.C_below HR2.out HB.out) i hi0 hin
      cases ea
      obtain ⟨x, hxx⟩ : ∃ x, rd l2 i = x := ⟨_, rfl⟩
      rw [hxx] at hx hp
      have HXX := Aside0.mk hxx
      clear hxx
      have hiw2 : wrap64 (i + 1) = i + 1 := wrapI (by omega)
      have hiw : IntKind.i64.wrap (i + 1) = i + 1 := (i64_w _).trans hiw2
      have hi0t : (0 ≤ i) = True := eq_true hi0
      have hint : (i < (l2.length : Int)) = True := eq_true hin
      have hind : decide (i < (l2.length : Int)) = true := decide_eq_true hin
      have hz00 := (blk_cell HB0.out 0).trans rfl
      have hz01 := (blk_cell HB0.out 1).trans rfl
      have hz10 := (blk_cell HB1.out 0).trans rfl
      have hz11 := (blk_cell HB1.out 1).trans rfl
      have hz20 := (blk_cell HB2.out 0).trans rfl
      have hz30 := (blk_cell HB3.out 0).trans rfl
      have hz31 := (blk_cell HB3.out 1).trans rfl
      have hf30 := blk_frozen HB3.out 0
      have hf31 := blk_frozen HB3.out 1
      by_cases c1 : x < 0
      · rw [if_pos c1] at hp
        have c1b : decide (x < 0) = true := decide_eq_true c1
        replace c1 := eq_true c1
        subst hp
        have h := H.out
        clear H
        simp only [Bool.false_eq_true, if_false] at h
        simp only [Option.some.injEq, Prod.mk.injEq] at h
        obtain ⟨rfl, rfl, rfl, rfl⟩ := h
        go_wp2
        refine bodyPost_ret (results_list (rs := [.cell 8 47, .tmp 9, .tmp 10]) (vs := [.agg #[.int .i64 0, .slice none 0 0], .int .i64 0, .int .i64 2]) rfl (by simp) (Vals.cell z3 47 #[.int .i64 0, .slice none 0 0] (0, 0) _ rfl (by refine blk_put (cs := #[.int .i64 0, .slice none 0 0]) ?_ 1 _ rfl; refine blk_put (cs := #[.int .i64 0, .slice none 0 0]) ?_ 0 _ rfl; exact HB3.out) Try.underlying47 rfl (by kernel_rfl) (Vals.tmp (Vals.tmp Vals.nil)))) rfl ?_
        exact ⟨_, rfl, Kd.R_nil _ _ _ _ _, below_set (below_set HB.out HZ.out.1) HZ.out.1⟩
      rw [if_neg c1] at hp
      have c1b : decide (x < 0) = false := decide_eq_false c1
      replace c1 := eq_false c1
      by_cases c2 : (l0_1.length : Int) ≤ x
      · rw [if_pos c2] at hp
        have c2b : decide ((l0_1.length : Int) ≤ x) = true := decide_eq_true c2
        replace c2 := eq_true c2
        subst hp
        have h := H.out
        clear H
        simp only [Bool.false_eq_true, if_false] at h
        simp only [Option.some.injEq, Prod.mk.injEq] at h
        obtain ⟨rfl, rfl, rfl, rfl⟩ := h
        go_wp2
        refine bodyPost_ret (results_list (rs := [.cell 8 47, .tmp 9, .tmp 10]) (vs := [.agg #[.int .i64 0, .slice none 0 0], .int .i64 0, .int .i64 2]) rfl (by simp) (Vals.cell z3 47 #[.int .i64 0, .slice none 0 0] (0, 0) _ rfl (by refine blk_put (cs := #[.int .i64 0, .slice none 0 0]) ?_ 1 _ rfl; refine blk_put (cs := #[.int .i64 0, .slice none 0 0]) ?_ 0 _ rfl; exact HB3.out) Try.underlying47 rfl (by kernel_rfl) (Vals.tmp (Vals.tmp Vals.nil)))) rfl ?_
        exact ⟨_, rfl, Kd.R_nil _ _ _ _ _, below_set (below_set HB.out HZ.out.1) HZ.out.1⟩
      rw [if_neg c2] at hp
      have c2b : decide ((l0_1.length : Int) ≤ x) = false := decide_eq_false c2
      replace c2 := eq_false c2
      by_cases c3 : 0 < i
      · rw [if_pos c3] at hp
        have c3b : decide (0 < i) = true := decide_eq_true c3
        obtain ⟨ad2, ea2, hy⟩ := Kd.at_int (Kd.C_below HR2.out HB.out) (i - 1) (by omega) (by omega)
        cases ea2
        obtain ⟨y, hyy⟩ : ∃ y, rd l2 (i - 1) = y := ⟨_, rfl⟩
        rw [hyy] at hy hp
        obtain ⟨j, hj⟩ : ∃ j, i - 1 = j := ⟨_, rfl⟩
        rw [hj] at hy
        have hjw : IntKind.i64.wrap (i - 1) = j := (IntWalk.i64_in _ (by omega)).trans hj
        have hjw2 : wrap64 (i - 1) = j := (i64_w _).symm.trans hjw
        have hj0 : (0 ≤ j) = True := eq_true (by omega)
        have hj1 : (j < (l2.length : Int)) = True := eq_true (by omega)
        replace c3 := eq_true c3
        clear hyy hj
        by_cases c4 : x ≤ y
        · rw [if_pos c4] at hp
          have c4b : decide (x ≤ y) = true := decide_eq_true c4
          replace c4 := eq_true c4
          subst hp
          have h := H.out
          clear H
          simp only [Bool.false_eq_true, if_false] at h
          simp only [Option.some.injEq, Prod.mk.injEq] at h
          obtain ⟨rfl, rfl, rfl, rfl⟩ := h
          go_wp2
          refine bodyPost_ret (results_list (rs := [.cell 8 47, .tmp 9, .tmp 10]) (vs := [.agg #[.int .i64 0, .slice none 0 0], .int .i64 0, .int .i64 2]) rfl (by simp) (Vals.cell z3 47 #[.int .i64 0, .slice none 0 0] (0, 0) _ rfl (by refine blk_put (cs := #[.int .i64 0, .slice none 0 0]) ?_ 1 _ rfl; refine blk_put (cs := #[.int .i64 0, .slice none 0 0]) ?_ 0 _ rfl; exact HB3.out) Try.underlying47 rfl (by kernel_rfl) (Vals.tmp (Vals.tmp Vals.nil)))) rfl ?_
          exact ⟨_, rfl, Kd.R_nil _ _ _ _ _, below_set (below_set HB.out HZ.out.1) HZ.out.1⟩
        rw [if_neg c4] at hp
        have c4b : decide (x ≤ y) = false := decide_eq_false c4
        replace c4 := eq_false c4
        go_wp2_with fail
        go_roundg d
        case measure => omega
        case rel => exact ⟨i + 1, rfl, ⟨by omega⟩, ⟨hp⟩, HB, HB0, HB1, HB2, HB3⟩
      rw [if_neg c3] at hp
      have c3b : decide (0 < i) = false := decide_eq_false c3
      replace c3 := eq_false c3
      go_wp2_with fail
      go_roundg d
      case measure => omega
      case rel => exact ⟨i + 1, rfl, ⟨by omega⟩, ⟨hp⟩, HB, HB0, HB1, HB2, HB3⟩
    | zero =>
      have hp := HPV.out
      clear HPV
      simp only [pgo] at hp
      subst hp
      have h := H.out
      clear H
      rw [if_pos rfl] at h
      have hin : ¬ i < (l2.length : Int) := by omega
      have hind : decide (i < (l2.length : Int)) = false := decide_eq_false hin
      replace hin := eq_false hin
      have hz00 := (blk_cell HB0.out 0).trans rfl
      have hz01 := (blk_cell HB0.out 1).trans rfl
      have hz10 := (blk_cell HB1.out 0).trans rfl
      have hz11 := (blk_cell HB1.out 1).trans rfl
      have hz20 := (blk_cell HB2.out 0).trans rfl
      have hz30 := (blk_cell HB3.out 0).trans rfl
      have hz31 := (blk_cell HB3.out 1).trans rfl
      have hf30 := blk_frozen HB3.out 0
      have hf31 := blk_frozen HB3.out 1
      by_cases k1 : a3 < 1
      · rw [if_pos k1] at h
        have k1b : decide (a3 < 1) = true := decide_eq_true k1
        replace k1 := eq_true k1
        simp only [Option.some.injEq, Prod.mk.injEq] at h
        obtain ⟨rfl, rfl, rfl, rfl⟩ := h
        go_wp2
        refine bodyPost_ret (results_list (rs := [.cell 8 47, .tmp 9, .tmp 10]) (vs := [.agg #[.int .i64 0, .slice none 0 0], .int .i64 0, .int .i64 2]) rfl (by simp) (Vals.cell z3 47 #[.int .i64 0, .slice none 0 0] (0, 0) _ rfl (by refine blk_put (cs := #[.int .i64 0, .slice none 0 0]) ?_ 1 _ rfl; refine blk_put (cs := #[.int .i64 0, .slice none 0 0]) ?_ 0 _ rfl; exact HB3.out) Try.underlying47 rfl (by kernel_rfl) (Vals.tmp (Vals.tmp Vals.nil)))) rfl ?_
        exact ⟨_, rfl, Kd.R_nil _ _ _ _ _, below_set (below_set HB.out HZ.out.1) HZ.out.1⟩
      rw [if_neg k1] at h
      have k1b : decide (a3 < 1) = false := decide_eq_false k1
      by_cases k2 : 1000000 < a3
      · rw [if_pos k2] at h
        have k2b : decide (1000000 < a3) = true := decide_eq_true k2
        replace k1 := eq_false k1
        replace k2 := eq_true k2
        simp only [Option.some.injEq, Prod.mk.injEq] at h
        obtain ⟨rfl, rfl, rfl, rfl⟩ := h
        go_wp2
        refine bodyPost_ret (results_list (rs := [.cell 8 47, .tmp 9, .tmp 10]) (vs := [.agg #[.int .i64 0, .slice none 0 0], .int .i64 0, .int .i64 2]) rfl (by simp) (Vals.cell z3 47 #[.int .i64 0, .slice none 0 0] (0, 0) _ rfl (by refine blk_put (cs := #[.int .i64 0, .slice none 0 0]) ?_ 1 _ rfl; refine blk_put (cs := #[.int .i64 0, .slice none 0 0]) ?_ 0 _ rfl; exact HB3.out) Try.underlying47 rfl (by kernel_rfl) (Vals.tmp (Vals.tmp Vals.nil)))) rfl ?_
        exact ⟨_, rfl, Kd.R_nil _ _ _ _ _, below_set (below_set HB.out HZ.out.1) HZ.out.1⟩
      rw [if_neg k2] at h
      have k2b : decide (1000000 < a3) = false := decide_eq_false k2
      by_cases hlen : l1_1.length < 17592186044416
      rotate_left
      · rw [if_neg hlen] at h
        cases h
      rw [if_pos hlen] at h
      obtain ⟨⟨q1, q2, q3, q4, q5⟩, hz, h⟩ := Option.bind_eq_some_iff.1 h
      have HN := Aside0.mk (show 0 ≤ a3 ∧ a3 ≤ 1000000 by omega)
      replace k1 := eq_false k1
      replace k2 := eq_false k2
      have HQ := Aside0.mk hz
      have HH := Aside0.mk h
      have HLN := Aside0.mk hlen
      clear h hz hlen hin hind
      have HM := Aside0.mk (blk_new wr (.cells #[.bool false] 4))
      have hb4 := below_alloc (Below.refl wr.heap.size wr) (.cells #[.bool false] 4)
      clear hz00 hz01 hz10 hz11 hz20 hz30 hz31 hf30 hf31
      have hz00 := (blk_cell (blk_alloc HB0.out (.cells #[.bool false] 4)) 0).trans rfl
      have hz01 := (blk_cell (blk_alloc HB0.out (.cells #[.bool false] 4)) 1).trans rfl
      have hz10 := (blk_cell (blk_alloc HB1.out (.cells #[.bool false] 4)) 0).trans rfl
      have hz11 := (blk_cell (blk_alloc HB1.out (.cells #[.bool false] 4)) 1).trans rfl
      go_wp2_with fail
      obtain ⟨w4, hW4⟩ : ∃ W : World, wr.alloc (.cells #[.bool false] 4) = W := ⟨_, rfl⟩
      rw [hW4] at HM hb4 ⊢
      obtain ⟨gm, hgm⟩ : ∃ g, wr.heap.size = g := ⟨_, rfl⟩
      have HG := Aside0.mk hgm
      have HG3 := Aside0.mk (blk_lt HB3.out)
      rw [hgm] at HM ⊢
      clear hW4 hgm
      have HC := Aside0.mk (crunE_calls k l2 A2 c2 z2 gm wr a0_0 A0_1 c0_1 l0_1 a1_0 A1_1 c1_1 l1_1 a3 q1 q2 q3 q4 q5 w4 hb4 (Nat.le_of_eq HG.out) (blk_lt HB2.out) HM.out HB2.out (Kd.C_below HR2.out HB.out) HC2.out (Kd.C_below HR0_1.out HB.out) HC0_1.out (Kd.C_below HR1_1.out HB.out) HC1_1.out (by unfold slices_Clone_int_int.f; rw [if_pos HLN.out]) HN.out.1 HN.out.2 HQ.out)
      clear hb4
      clear hz00 hz01 hz10 hz11
      refine HC.out.mono ?_
      rintro e w5 ⟨v5, rfl, hR5, hB5, hM5⟩
      obtain ⟨A9, c9, rfl⟩ := Kd.R_slice hR5
      have HSW := Aside0.mk (show w.heap.size ≤ w4.heap.size from by have h1 := HG.out; have h2 := blk_lt HM.out; have h3 := HB.out.size; omega)
      have HS4 := Aside0.mk (show wr.heap.size ≤ w4.heap.size from by have h1 := HG.out; have h2 := blk_lt HM.out; omega)
      have HR5 := Aside0.mk hR5
      have HRK := Aside0.mk (fun k hk => by have h1 := Kd.R_base hR5 k hk; have h2 := blk_lt HB3.out; have h3 := HS4.out; omega : ∀ k, (Value.slice A9 q2.length c9).ownBlock = some k → z3 < k)
      have HRB := Aside0.mk (fun k hk => by have h1 := Kd.R_base hR5 k hk; have h2 := HS4.out; have h3 := HB.out.size; omega : ∀ k, (Value.slice A9 q2.length c9).ownBlock = some k → w.heap.size ≤ k)
      have HM5 := Aside0.mk hM5
      replace HB3 := Aside0.mk (blk_below HB3.out hB5)
      replace HB := Aside0.mk (below_step HB.out hB5)
      have HG3 := Aside0.mk (show z3 < gm from by have h1 := HG.out; have h2 := HG3.out; omega)
      clear hR5 hB5 hM5 HC HM HQ HB0 HB1 HB2
      have hm0 := (blk_cell HM5.out 0).trans rfl
      have hz30 := (blk_cell HB3.out 0).trans rfl
      have hz31 := (blk_cell HB3.out 1).trans rfl
      have hf30 := blk_frozen HB3.out 0
      have hf31 := blk_frozen HB3.out 1
      have hl3 := blk_lt HB3.out
      have hlm := blk_lt HM5.out
      cases q4 with
      | false =>
        have h := HH.out
        simp at h
        obtain ⟨rfl, rfl, rfl, rfl⟩ := h
        clear HH
        go_wp2
        refine bodyPost_ret (results_list (rs := [.cell 8 47, .tmp 9, .tmp 10]) (vs := [.agg #[.int .i64 0, .slice none 0 0], .int .i64 0, .int .i64 4]) rfl (by simp) (Vals.cell z3 47 #[.int .i64 0, .slice none 0 0] (0, 0) _ rfl (by refine blk_alloc ?_ _; refine blk_put (cs := #[.int .i64 0, .slice none 0 0]) ?_ 1 _ rfl; refine blk_put (cs := #[.int .i64 0, .slice none 0 0]) ?_ 0 _ rfl; exact HB3.out) Try.underlying47 rfl (by kernel_rfl) (Vals.tmp (Vals.tmp Vals.nil)))) rfl ?_
        exact ⟨_, rfl, Kd.R_nil _ _ _ _ _, below_alloc (below_set (below_set HB.out HZ.out.1) HZ.out.1) _⟩
      | true =>
      cases q5 with
      | false =>
        have h := HH.out
        simp at h
        obtain ⟨rfl, rfl, rfl, rfl⟩ := h
        clear HH
        go_wp2
        refine bodyPost_ret (results_list (rs := [.cell 8 47, .tmp 9, .tmp 10]) (vs := [.agg #[.int .i64 0, .slice none 0 0], .int .i64 0, .int .i64 6]) rfl (by simp) (Vals.cell z3 47 #[.int .i64 0, .slice none 0 0] (0, 0) _ rfl (by refine blk_alloc ?_ _; refine blk_put (cs := #[.int .i64 0, .slice none 0 0]) ?_ 1 _ rfl; refine blk_put (cs := #[.int .i64 0, .slice none 0 0]) ?_ 0 _ rfl; exact HB3.out) Try.underlying47 rfl (by kernel_rfl) (Vals.tmp (Vals.tmp Vals.nil)))) rfl ?_
        exact ⟨_, rfl, Kd.R_nil _ _ _ _ _, below_alloc (below_set (below_set HB.out HZ.out.1) HZ.out.1) _⟩
      | true =>
      have h := HH.out
      simp at h
      obtain ⟨rfl, rfl, rfl, rfl⟩ := h
      clear HH
      go_wp2
      refine bodyPost_ret (results_list (rs := [.cell 8 47, .tmp 9, .tmp 10]) (vs := [.agg #[.int .i64 q1, .slice A9 q2.length c9], .int .i64 q3, .int .i64 0]) rfl (by simp) (Vals.cell z3 47 #[.int .i64 q1, .slice A9 q2.length c9] (0, 0) _ rfl (by refine blk_alloc ?_ _; refine blk_put (cs := #[.int .i64 q1, .slice none 0 0]) ?_ 1 _ rfl; refine blk_put (cs := #[.int .i64 0, .slice none 0 0]) ?_ 0 _ rfl; exact HB3.out) Try.underlying47 rfl (by kernel_rfl) (Vals.tmp (Vals.tmp Vals.nil)))) rfl ?_
      exact ⟨_, rfl, Kd.R_alloc (Kd.R_mono (ok := fun k => z3 < k) (Kd.R_far (Kd.R_far (Kd.R_lower (Kd.R_of_own (h1 := fun _ => rfl) (Kd.own_of_R HR5.out) (fun k hk => HRK.out k hk)) HSW.out) (fun k hk => by simp; omega) _) (fun k hk => by simp; omega) _) (fun _ _ => trivial)) _, below_alloc (below_set (below_set HB.out HZ.out.1) HZ.out.1) _⟩

end Go.Proofs.Ytkbekdjoaibhbaa.PPairRuns
