-- out of a turned copy of the print, by a program of this session; Lean checks it
import Derived.Test.YtkbekdjoaibhbaaPPairRunsx0
import Derived.Test.YtkbekdjoaibhbaaPPairRunsx11
namespace Go.Proofs.Ytkbekdjoaibhbaa.PPairRuns
open Go.RowKit Go.Proofs.YtkbekdjoaibhbaaW.PrintWords Go.Proofs.YtkbekdjoaibhbaaW.PrintLast Go.Proofs.YtkbekdjoaibhbaaW.PrintMore
attribute [local go_sem] max2_int min2_int max_two min_two max_three min_three max_four min_four   -- for this text's walks alone
set_option linter.unusedVariables false
set_option linter.unusedSimpArgs false

attribute [local go_sem] isSome_put_
/-! ### counter_run: function 38 (by hand) -/
theorem grown_putalloc (w : World) (g i : Nat) (u : Value) (o : Obj) : w.grownBy ((w.setCell ⟨g, i, none⟩ u).alloc o) (some g) :=
  World.grownBy.trans (b := w.setCell ⟨g, i, none⟩ u) ⟨rfl, rfl, rfl, by simp, fun k _ hk => Below.heap_setCell w ⟨g, i, none⟩ u k (fun e => hk (by rw [e]))⟩ (World.grownBy_alloc _ _ _)
set_option maxHeartbeats 1000000 in
set_option maxRecDepth 100000 in
theorem act1_big (op reg next zero : Int) (g n cap : Nat) (l : List Int) (base : Nat) (ok : Nat → Prop) (w : World) (HO : Kd.R (Kd.int .i64) 3 w base ok (.slice (some ⟨g, 0, none⟩) n cap) l) (h0 : 0 ≤ reg) (h1 : reg < n) (hb : rd l reg = 1152921504606846976) :
    Calls Try.prog 47 #[.agg #[.int .i64 op, .int .i64 reg, .int .i64 next, .int .i64 zero], .slice (some ⟨g, 0, none⟩) n cap] w fun e w' => e = .returned (.tuple #[.int .i64 0, .bool false]) ∧ Below w.heap.size w w' := by
  obtain ⟨hc, hf⟩ := Kd.R_celln 0 HO reg h0 h1
  change w.cell? ⟨g, reg.toNat, none⟩ = some (.int .i64 (rd l reg)) at hc
  rw [hb] at hc
  have hlt := (World.block_lt_of_cell? w _ hc)
  have hc1 : ∀ o, (w.alloc o).cell? ⟨g, reg.toNat, none⟩ = some (.int .i64 1152921504606846976) := fun o => Lib.cell?_alloc_some o hc
  clear HO hb
  have hu33 := Try.underlying45
  go_enter Try.func47, Try.ntmps47
  go_wp2
  go_ret2
  exact ⟨rfl, below_alloc (Below.refl _ _) _⟩
set_option maxHeartbeats 1000000 in
set_option maxRecDepth 100000 in
theorem act1_ok (op reg next zero : Int) (g n cap : Nat) (l : List Int) (base : Nat) (ok : Nat → Prop) (w : World) (HO : Kd.R (Kd.int .i64) 3 w base ok (.slice (some ⟨g, 0, none⟩) n cap) l) (h0 : 0 ≤ reg) (h1 : reg < n) (hb : rd l reg ≠ 1152921504606846976) :
    Calls Try.prog 47 #[.agg #[.int .i64 op, .int .i64 reg, .int .i64 next, .int .i64 zero], .slice (some ⟨g, 0, none⟩) n cap] w fun e w' => e = .returned (.tuple #[.int .i64 next, .bool true]) ∧ Kd.R (Kd.int .i64) 3 w' base ok (.slice (some ⟨g, 0, none⟩) n cap) (l.set reg.toNat (wrap64 (rd l reg + 1))) ∧ w.grownBy w' (some g) := by
  obtain ⟨hc, hf⟩ := Kd.R_celln 0 HO reg h0 h1
  change w.cell? ⟨g, reg.toNat, none⟩ = some (.int .i64 (rd l reg)) at hc
  have hlt := (World.block_lt_of_cell? w _ hc)
  have hc1 : ∀ o, (w.alloc o).cell? ⟨g, reg.toNat, none⟩ = some (.int .i64 (rd l reg)) := fun o => Lib.cell?_alloc_some o hc
  have hb1 : ((rd l reg) == 1152921504606846976) = false := beq_eq_false_iff_ne.mpr hb
  have hu33 := Try.underlying45
  have HA := Aside0.mk HO
  clear HO hb
  go_enter Try.func47, Try.ntmps47
  go_wp2
  go_ret2
  exact ⟨rfl, Kd.R_alloc (Kd.R_putn HA.out reg _) _, grown_putalloc _ _ _ _ _⟩
set_option maxHeartbeats 1000000 in
set_option maxRecDepth 100000 in
theorem act2_zero (op reg next zero : Int) (g n cap : Nat) (l : List Int) (base : Nat) (ok : Nat → Prop) (w : World) (HO : Kd.R (Kd.int .i64) 3 w base ok (.slice (some ⟨g, 0, none⟩) n cap) l) (h0 : 0 ≤ reg) (h1 : reg < n) (hb : rd l reg = 0) :
    Calls Try.prog 48 #[.agg #[.int .i64 op, .int .i64 reg, .int .i64 next, .int .i64 zero], .slice (some ⟨g, 0, none⟩) n cap] w fun e w' => e = .returned (.tuple #[.int .i64 zero, .bool true]) ∧ Below w.heap.size w w' := by
  obtain ⟨hc, hf⟩ := Kd.R_celln 0 HO reg h0 h1
  change w.cell? ⟨g, reg.toNat, none⟩ = some (.int .i64 (rd l reg)) at hc
  rw [hb] at hc
  have hlt := (World.block_lt_of_cell? w _ hc)
  have hc1 : ∀ o, (w.alloc o).cell? ⟨g, reg.toNat, none⟩ = some (.int .i64 0) := fun o => Lib.cell?_alloc_some o hc
  clear HO hb
  have hu33 := Try.underlying45
  go_enter Try.func48, Try.ntmps48
  go_wp2
  go_ret2
  exact ⟨rfl, below_alloc (Below.refl _ _) _⟩
set_option maxHeartbeats 1000000 in
set_option maxRecDepth 100000 in
theorem act2_ok (op reg next zero : Int) (g n cap : Nat) (l : List Int) (base : Nat) (ok : Nat → Prop) (w : World) (HO : Kd.R (Kd.int .i64) 3 w base ok (.slice (some ⟨g, 0, none⟩) n cap) l) (h0 : 0 ≤ reg) (h1 : reg < n) (hb : rd l reg ≠ 0) :
    Calls Try.prog 48 #[.agg #[.int .i64 op, .int .i64 reg, .int .i64 next, .int .i64 zero], .slice (some ⟨g, 0, none⟩) n cap] w fun e w' => e = .returned (.tuple #[.int .i64 next, .bool true]) ∧ Kd.R (Kd.int .i64) 3 w' base ok (.slice (some ⟨g, 0, none⟩) n cap) (l.set reg.toNat (wrap64 (rd l reg - 1))) ∧ w.grownBy w' (some g) := by
  obtain ⟨hc, hf⟩ := Kd.R_celln 0 HO reg h0 h1
  change w.cell? ⟨g, reg.toNat, none⟩ = some (.int .i64 (rd l reg)) at hc
  have hlt := (World.block_lt_of_cell? w _ hc)
  have hc1 : ∀ o, (w.alloc o).cell? ⟨g, reg.toNat, none⟩ = some (.int .i64 (rd l reg)) := fun o => Lib.cell?_alloc_some o hc
  have hb1 : ((rd l reg) == 0) = false := beq_eq_false_iff_ne.mpr hb
  have hu33 := Try.underlying45
  have HA := Aside0.mk HO
  clear HO hb
  go_enter Try.func48, Try.ntmps48
  go_wp2
  go_ret2
  exact ⟨rfl, Kd.R_alloc (Kd.R_putn HA.out reg _) _, grown_putalloc _ _ _ _ _⟩
set_option maxHeartbeats 1000000 in
set_option maxRecDepth 100000 in
theorem actions_calls (w : World) : Calls Try.prog 44 #[] w fun e w' => e = .returned (.agg #[.func (.func 47) #[] #[], .func (.func 48) #[] #[]]) ∧ Below w.heap.size w w' := by
  go_enter Try.func44, Try.ntmps44
  go_wp2
  refine bodyPost_ret (v := .agg #[.func (.func 47) #[] #[], .func (.func 48) #[] #[]]) (by simp [results, Try.results44, go_sem]) rfl ⟨rfl, below_alloc (Below.refl _ _) _⟩
def crun (code : List S45) : Nat → Int → List Int → Int → Option (Int × List Int × Int × Bool)
  | 0, p, l, i => some (p, l, i, true)
  | d + 1, p, l, i =>
    if 0 ≤ p ∧ p < (code.length : Int) then
      if (rd_T45 code p).f0 = 2 then some (p, l, i, true)
      else if 0 ≤ (rd_T45 code p).f1 ∧ (rd_T45 code p).f1 < (l.length : Int) then
        if (rd_T45 code p).f0 = 0 then
          if rd l (rd_T45 code p).f1 = 1152921504606846976 then some (0, [], 0, false)
          else crun code d (rd_T45 code p).f2 (l.set (rd_T45 code p).f1.toNat (wrap64 (rd l (rd_T45 code p).f1 + 1))) (i + 1)
        else if (rd_T45 code p).f0 = 1 then
          if rd l (rd_T45 code p).f1 = 0 then crun code d (rd_T45 code p).f3 l (i + 1)
          else crun code d (rd_T45 code p).f2 (l.set (rd_T45 code p).f1.toNat (wrap64 (rd l (rd_T45 code p).f1 - 1))) (i + 1)
        else none
      else none
    else none
set_option maxHeartbeats 4000000 in
set_option maxRecDepth 100000 in
theorem crun_calls (a0_0 : Int) (A0_1 : Option Addr) (c0_1 : Nat) (l0_1 : List S45) (a1_0 : Int) (A1_1 : Option Addr) (c1_1 : Nat) (l1_1 : List Int) (n : Int) (r1 : Int) (r2 : List Int) (r3 : Int) (r4 : Bool) (w : World) (hr0_1 : Kd.C k45 w A0_1 l0_1.length l0_1) (hc0_1 : l0_1.length ≤ c0_1) (hr1_1 : Kd.C (Kd.int .i64) w A1_1 l1_1.length l1_1) (hc1_1 : l1_1.length ≤ c1_1) (hlim : slices_Clone_int_int.f l1_1 = some l1_1) (hn0 : 0 ≤ n) (hn1 : n ≤ 1000000) (h : crun l0_1 n.toNat a1_0 l1_1 0 = some (r1, r2, r3, r4)) :
    Calls Try.prog 38 #[.agg #[.int .i64 a0_0, .slice A0_1 l0_1.length c0_1], .agg #[.int .i64 a1_0, .slice A1_1 l1_1.length c1_1], .int .i64 n, .func (.func 39) #[] #[]] w fun e w' => ∃ v_ : Value, e = .returned (.tuple #[.agg #[.int .i64 r1, v_], .int .i64 r3, .bool r4]) ∧ Kd.R (Kd.int .i64) 3 w' w.heap.size (fun _ => True) v_ r2 ∧ Below w.heap.size w w' := by
  have hu24 := Try.underlying38
  have hu27 := Try.underlying47
  have hu33 := Try.underlying45
  have hu70 := Try.underlying81
  have HR0_1 := Aside0.mk hr0_1
  have HC0_1 := Aside0.mk hc0_1
  clear hr0_1 hc0_1
  have HR1_1 := Aside0.mk hr1_1
  have HC1_1 := Aside0.mk hc1_1
  clear hr1_1 hc1_1
  have H := Aside0.mk h
  clear h
  go_enter Try.func38, Try.ntmps38
  go_wp2
  have hcl : ∀ W0 : World, Kd.C (Kd.int .i64) W0 A1_1 l1_1.length l1_1 → Calls Try.prog 43 #[.slice A1_1 l1_1.length c1_1] W0 fun e w' => ∃ v0_ : Value, e = .returned (v0_) ∧ Kd.R (Kd.int .i64) 3 w' W0.heap.size (fun _ => True) v0_ l1_1 ∧ Below W0.heap.size W0 w' := fun W0 h0 => slices_Clone_int_int.calls A1_1 c1_1 l1_1 l1_1 W0 h0 HC1_1.out hlim
  obtain ⟨W1, hW1⟩ : ∃ W1 : World, W1 = (((w.alloc (.cells #[.int .i64 a0_0, .slice A0_1 l0_1.length c0_1] 38)).alloc (.cells #[.int .i64 a1_0, .slice A1_1 l1_1.length c1_1] 47)).alloc (.cells #[.int .i64 0, .slice none 0 0] 47)) := ⟨_, rfl⟩
  have hBW1 : Below w.heap.size w W1 := by rw [hW1]; exact below_alloc (below_alloc (below_alloc (Below.refl _ _) _) _) _
  have hb4 : W1.heap[w.heap.size]? = some (.cells #[.int .i64 a0_0, .slice A0_1 l0_1.length c0_1] 38 (0, 0)) := by rw [hW1]; exact blk_alloc (blk_alloc (blk_new _ _) _) _
  have hb5 : W1.heap[w.heap.size + 1]? = some (.cells #[.int .i64 a1_0, .slice A1_1 l1_1.length c1_1] 47 (0, 0)) := by rw [hW1]; exact blk_alloc (by have h_ := blk_new (w.alloc (.cells #[.int .i64 a0_0, .slice A0_1 l0_1.length c0_1] 38)) (.cells #[.int .i64 a1_0, .slice A1_1 l1_1.length c1_1] 47); simpa using h_) _
  have hb8 : W1.heap[w.heap.size + 1 + 1]? = some (.cells #[.int .i64 0, .slice none 0 0] 47 (0, 0)) := by rw [hW1]; have h_ := blk_new ((w.alloc (.cells #[.int .i64 a0_0, .slice A0_1 l0_1.length c0_1] 38)).alloc (.cells #[.int .i64 a1_0, .slice A1_1 l1_1.length c1_1] 47)) (.cells #[.int .i64 0, .slice none 0 0] 47); simpa using h_
  have hsz : W1.heap.size = w.heap.size + 1 + 1 + 1 := by rw [hW1]; simp
  rw [← hW1]
  clear hW1
  have hC2 := Aside0.mk (Kd.C_below (Kd.C_below HR1_1.out hBW1) (below_drew (Below.refl _ W1)))
  have HB := Aside0.mk (below_drew hBW1)
  have HB4 := Aside0.mk (blk_drew hb4)
  have HB8 := Aside0.mk (blk_drew hb8)
  have HCL := Aside0.mk hcl
  have hc0 : W1.cell? ⟨w.heap.size + 1, 0, none⟩ = some (.int .i64 a1_0) := (blk_cell hb5 0).trans rfl
  have hc1 : W1.cell? ⟨w.heap.size + 1, 1, none⟩ = some (.slice A1_1 l1_1.length c1_1) := (blk_cell hb5 1).trans rfl
  have HSZ2 : Aside0 (W1.drew.heap.size = w.heap.size + 1 + 1 + 1) := Aside0.mk hsz
  clear hcl hBW1 hsz hb4 hb5 hb8
  go_region_held3 (fun w' => w'.cell? ⟨w.heap.size + 1, 0, none⟩ = some (.int .i64 a1_0) ∧ w'.cell? ⟨w.heap.size + 1, 1, none⟩ = some (.slice A1_1 l1_1.length c1_1))
    (first | go_keep | (refine ⟨(hB2.cell (World.block_lt_of_cell? _ _ hc0)).trans hc0, (hB2.cell (World.block_lt_of_cell? _ _ hc1)).trans hc1⟩))
    ((go_at_call 43; refine (HCL.out _ (hC2.out)).mono ?_; rintro e w2 ⟨v0, rfl, hR, hB2⟩; obtain ⟨A9, c9, rfl⟩ := Kd.R_slice hR))
  have HR := Aside0.mk (Kd.R_lower hR (by rw [HSZ2.out]; omega : w.heap.size ≤ _))
  have HRB := Aside0.mk (fun k hk => Kd.R_base hR k hk : ∀ k, (Value.slice A9 l1_1.length c9).ownBlock = some k → W1.drew.heap.size ≤ k)
  replace HB := Aside0.mk (below_step HB.out hB2)
  replace HB4 := Aside0.mk (blk_below HB4.out hB2)
  replace HB8 := Aside0.mk (blk_below HB8.out hB2)
  clear hR hB2
  go_wp2_with (first | (go_at_call 44; refine (actions_calls _).mono ?_; rintro e w3 ⟨rfl, hB3⟩))
  replace HB := Aside0.mk (below_alloc (below_step HB.out hB3) (.cells #[.func (.func 47) #[] #[], .func (.func 48) #[] #[]] 81))
  replace HB4 := Aside0.mk (blk_alloc (blk_below HB4.out hB3) (.cells #[.func (.func 47) #[] #[], .func (.func 48) #[] #[]] 81))
  replace HB8 := Aside0.mk (blk_alloc (blk_below HB8.out hB3) (.cells #[.func (.func 47) #[] #[], .func (.func 48) #[] #[]] 81))
  have HB13 := Aside0.mk (blk_new w3 (.cells #[.func (.func 47) #[] #[], .func (.func 48) #[] #[]] 81))
  have HRL := Aside0.mk (fun k hk => Nat.lt_of_lt_of_le (Kd.R_lt HR.out k hk) (hB3.size) : ∀ k, (Value.slice A9 l1_1.length c9).ownBlock = some k → k < w3.heap.size)
  replace HR := Aside0.mk (Kd.R_alloc (Kd.R_below HR.out hB3) (.cells #[.func (.func 47) #[] #[], .func (.func 48) #[] #[]] 81))
  have HRK : ∀ k, (Value.slice A9 l1_1.length c9).ownBlock = some k → w.heap.size + 1 + 1 < k ∧ k < w3.heap.size := fun k hk => ⟨by have := HRB.out k hk; have := HSZ2.out; omega, HRL.out k hk⟩
  replace HR := Aside0.mk (Kd.R_of_own (h1 := fun _ => rfl) (Kd.own_of_R HR.out) HRK)
  clear HRK HRL HRB
  clear hB3
  obtain ⟨g13, hg13⟩ : ∃ g, g = w3.heap.size := ⟨_, rfl⟩
  rw [← hg13] at HB13 HR
  rw [← hg13]
  obtain ⟨W4, hW4⟩ : ∃ W : World, W = w3.alloc (.cells #[.func (.func 47) #[] #[], .func (.func 48) #[] #[]] 81) := ⟨_, rfl⟩
  rw [← hW4] at HB HB4 HB8 HB13 HR
  rw [← hW4]
  clear hW4 hg13 hc0 hc1 hC2 HCL
  go_loopg [11, 25] (n.toNat) (fun kq v11 v25 w' => ∃ (p i : Int) (l : List Int), v11 = .int .i64 p ∧ v25 = .int .i64 i ∧ Aside0 (0 ≤ i ∧ i ≤ n ∧ (n - i).toNat = kq) ∧ Aside0 (crun l0_1 kq p l i = some (r1, r2, r3, r4)) ∧ Aside0 (Kd.R (Kd.int .i64) 3 w' w.heap.size (fun k => w.heap.size + 1 + 1 < k ∧ k < g13) (.slice A9 l1_1.length c9) l) ∧ Aside0 (l.length = l1_1.length) ∧ Aside0 (w'.heap[w.heap.size]? = some (.cells #[.int .i64 a0_0, .slice A0_1 l0_1.length c0_1] 38 (0, 0))) ∧ Aside0 (w'.heap[w.heap.size + 1 + 1]? = some (.cells #[.int .i64 0, .slice none 0 0] 47 (0, 0))) ∧ Aside0 (w'.heap[g13]? = some (.cells #[.func (.func 47) #[] #[], .func (.func 48) #[] #[]] 81 (0, 0))) ∧ Aside0 (Below w.heap.size w w'))
  case atStart => exact ⟨a1_0, 0, l1_1, rfl, rfl, ⟨by omega, by omega, by omega⟩, H, HR, ⟨rfl⟩, HB4, HB8, HB13, HB⟩
  case round =>
    clear H HR HB4 HB8 HB13 HB
    obtain ⟨p, i, l, rfl, rfl, HI, H, HR, HLL, HB4, HB8, HB13, HB⟩ := hrel
    obtain ⟨hi0, hi1, hi2⟩ := HI.out
    cases gk with
    | zero =>
      have hin : i = n := by omega
      subst hin
      have h := H.out
      simp only [crun, Option.some.injEq, Prod.mk.injEq] at h
      obtain ⟨rfl, rfl, rfl, rfl⟩ := h
      clear H
      have hz80 := (blk_cell HB8.out 0).trans rfl
      have hz81 := (blk_cell HB8.out 1).trans rfl
      have hf80 := blk_frozen HB8.out 0
      have hf81 := blk_frozen HB8.out 1
      go_wp2
      refine bodyPost_ret (results_list (rs := [.cell 8 47, .tmp 9, .tmp 10]) (vs := [.agg #[.int .i64 p, .slice A9 l1_1.length c9], .int .i64 i, .bool true]) rfl (by simp) (Vals.cell (w.heap.size + 1 + 1) 47 #[.int .i64 p, .slice A9 l1_1.length c9] (0, 0) _ rfl (by refine blk_put (cs := #[.int .i64 p, .slice none 0 0]) ?_ 1 _ rfl; refine blk_put (cs := #[.int .i64 0, .slice none 0 0]) ?_ 0 _ rfl; exact HB8.out) Try.underlying47 rfl (by kernel_rfl) (Vals.tmp (Vals.tmp Vals.nil)))) rfl ?_
      exact ⟨_, rfl, Kd.R_mono (Kd.R_far (Kd.R_far HR.out (fun k hk => by simp; omega) _) (fun k hk => by simp; omega) _) (fun _ _ => trivial), below_set (below_set HB.out (by omega)) (by omega)⟩
    | succ d =>
      have hin : i < n := by omega
      have h := H.out
      simp only [crun] at h
      by_cases hp : 0 ≤ p ∧ p < (l0_1.length : Int)
      rotate_left
      · rw [if_neg hp] at h; cases h
      rw [if_pos hp] at h
      obtain ⟨hp0, hp1⟩ := hp
      obtain ⟨ad, rfl, hx0, hx1, hx2, hx3⟩ := at_T45 HR0_1.out p hp0 hp1
      replace hx0 := (HB.out.cell (World.block_lt_of_cell? w _ hx0)).trans hx0
      replace hx1 := (HB.out.cell (World.block_lt_of_cell? w _ hx1)).trans hx1
      replace hx2 := (HB.out.cell (World.block_lt_of_cell? w _ hx2)).trans hx2
      replace hx3 := (HB.out.cell (World.block_lt_of_cell? w _ hx3)).trans hx3
      have hz40 := (blk_cell HB4.out 0).trans rfl
      have hz41 := (blk_cell HB4.out 1).trans rfl
      have hz80 := (blk_cell HB8.out 0).trans rfl
      have hz81 := (blk_cell HB8.out 1).trans rfl
      have hf80 := blk_frozen HB8.out 0
      have hf81 := blk_frozen HB8.out 1
      have hl4 := blk_lt HB4.out
      have hl8 := blk_lt HB8.out
      have hl13 := blk_lt HB13.out
      by_cases hh : (rd_T45 l0_1 p).f0 = 2
      · rw [if_pos hh] at h
        simp only [Option.some.injEq, Prod.mk.injEq] at h
        obtain ⟨rfl, rfl, rfl, rfl⟩ := h
        have hh1 : ((rd_T45 l0_1 p).f0 == 2) = true := by rw [hh]; rfl
        clear H hh
        go_wp2
        refine bodyPost_ret (results_list (rs := [.cell 8 47, .tmp 9, .tmp 10]) (vs := [.agg #[.int .i64 p, .slice A9 l1_1.length c9], .int .i64 i, .bool true]) rfl (by simp) (Vals.cell (w.heap.size + 1 + 1) 47 #[.int .i64 p, .slice A9 l1_1.length c9] (0, 0) _ rfl (by refine blk_alloc ?_ _; refine blk_put (cs := #[.int .i64 p, .slice none 0 0]) ?_ 1 _ rfl; refine blk_put (cs := #[.int .i64 0, .slice none 0 0]) ?_ 0 _ rfl; exact HB8.out) Try.underlying47 rfl (by kernel_rfl) (Vals.tmp (Vals.tmp Vals.nil)))) rfl ?_
        exact ⟨_, rfl, Kd.R_alloc (Kd.R_mono (Kd.R_far (Kd.R_far HR.out (fun k hk => by simp; omega) _) (fun k hk => by simp; omega) _) (fun _ _ => trivial)) _, below_alloc (below_set (below_set HB.out (by omega)) (by omega)) _⟩
      rw [if_neg hh] at h
      have hh1 : ((rd_T45 l0_1 p).f0 == 2) = false := beq_eq_false_iff_ne.mpr hh
      by_cases hr : 0 ≤ (rd_T45 l0_1 p).f1 ∧ (rd_T45 l0_1 p).f1 < (l.length : Int)
      rotate_left
      · rw [if_neg hr] at h; cases h
      rw [if_pos hr] at h
      obtain ⟨hr0, hr1⟩ := hr
      obtain ⟨g9, cap9, hv9, -⟩ := Kd.R_form HR.out (by omega)
      injection hv9 with e1 e2 e3
      subst e1
      clear e2 e3
      rw [HLL.out] at hr1
      have HK := Aside0.mk h
      clear h hh H
      by_cases h0 : (rd_T45 l0_1 p).f0 = 0
      · replace HK := Aside0.mk ((if_pos h0).symm.trans HK.out)
        rw [h0] at hx0
        clear h0
        clear hh1
        go_wp2
        have hg9 := HR.out.1 g9 rfl
        have hne15 : some wr.heap.size ≠ some g9 := by intro e; injection e; omega
        have hne13 : some g13 ≠ some g9 := by intro e; injection e; omega
        have hne4 : some w.heap.size ≠ some g9 := by intro e; injection e; omega
        have hne8 : some (w.heap.size + 1 + 1) ≠ some g9 := by intro e; injection e; omega
        obtain ⟨W5, hW5⟩ : ∃ W : World, W = wr.alloc (.cells #[.int .i64 0, .int .i64 (rd_T45 l0_1 p).f1, .int .i64 (rd_T45 l0_1 p).f2, .int .i64 (rd_T45 l0_1 p).f3] 45) := ⟨_, rfl⟩
        rw [← hW5]
        have hB15 := blk_new wr (.cells #[.int .i64 0, .int .i64 (rd_T45 l0_1 p).f1, .int .i64 (rd_T45 l0_1 p).f2, .int .i64 (rd_T45 l0_1 p).f3] 45)
        rw [← hW5] at hB15
        replace HB := Aside0.mk (below_drew (below_alloc HB.out (.cells #[.int .i64 0, .int .i64 (rd_T45 l0_1 p).f1, .int .i64 (rd_T45 l0_1 p).f2, .int .i64 (rd_T45 l0_1 p).f3] 45)))
        replace HB4 := Aside0.mk (blk_drew (blk_alloc HB4.out (.cells #[.int .i64 0, .int .i64 (rd_T45 l0_1 p).f1, .int .i64 (rd_T45 l0_1 p).f2, .int .i64 (rd_T45 l0_1 p).f3] 45)))
        replace HB8 := Aside0.mk (blk_drew (blk_alloc HB8.out (.cells #[.int .i64 0, .int .i64 (rd_T45 l0_1 p).f1, .int .i64 (rd_T45 l0_1 p).f2, .int .i64 (rd_T45 l0_1 p).f3] 45)))
        replace HB13 := Aside0.mk (blk_drew (blk_alloc HB13.out (.cells #[.int .i64 0, .int .i64 (rd_T45 l0_1 p).f1, .int .i64 (rd_T45 l0_1 p).f2, .int .i64 (rd_T45 l0_1 p).f3] 45)))
        replace HR := Aside0.mk (Kd.R_drew (Kd.R_alloc HR.out (.cells #[.int .i64 0, .int .i64 (rd_T45 l0_1 p).f1, .int .i64 (rd_T45 l0_1 p).f2, .int .i64 (rd_T45 l0_1 p).f3] 45)))
        rw [← hW5] at HB HB4 HB8 HB13 HR
        clear hW5
        have hy0 : W5.cell? ⟨wr.heap.size, 0, none⟩ = some (.int .i64 0) := (blk_cell hB15 0).trans rfl
        have hy1 : W5.cell? ⟨wr.heap.size, 1, none⟩ = some (.int .i64 (rd_T45 l0_1 p).f1) := (blk_cell hB15 1).trans rfl
        have hy2 : W5.cell? ⟨wr.heap.size, 2, none⟩ = some (.int .i64 (rd_T45 l0_1 p).f2) := (blk_cell hB15 2).trans rfl
        have hy3 : W5.cell? ⟨wr.heap.size, 3, none⟩ = some (.int .i64 (rd_T45 l0_1 p).f3) := (blk_cell hB15 3).trans rfl
        have hv : W5.cell? ⟨g13, 0, none⟩ = some (.func (.func 47) #[] #[]) := (blk_cell HB13.out 0).trans rfl
        clear hB15 hx0 hx1 hx2 hx3 hz40 hz41 hz80 hz81 hf80 hf81
        by_cases hm : rd l (rd_T45 l0_1 p).f1 = 1152921504606846976
        · replace HK := ((if_pos hm).symm.trans HK.out)
          simp only [Option.some.injEq, Prod.mk.injEq] at HK
          obtain ⟨rfl, rfl, rfl, rfl⟩ := HK
          have HCL := Aside0.mk (act1_big 0 (rd_T45 l0_1 p).f1 (rd_T45 l0_1 p).f2 (rd_T45 l0_1 p).f3 g9 l1_1.length c9 l _ _ _ HR.out hr0 hr1 hm)
          clear hm
          go_region_held3 (fun w' => w'.cell? ⟨wr.heap.size, 0, none⟩ = some (.int .i64 0) ∧ w'.cell? ⟨wr.heap.size, 1, none⟩ = some (.int .i64 (rd_T45 l0_1 p).f1) ∧ w'.cell? ⟨wr.heap.size, 2, none⟩ = some (.int .i64 (rd_T45 l0_1 p).f2) ∧ w'.cell? ⟨wr.heap.size, 3, none⟩ = some (.int .i64 (rd_T45 l0_1 p).f3) ∧ w'.cell? ⟨g13, 0, none⟩ = some (.func (.func 47) #[] #[]))
            (first | go_keep | (refine ⟨(hB6.cell (World.block_lt_of_cell? _ _ hy0)).trans hy0, (hB6.cell (World.block_lt_of_cell? _ _ hy1)).trans hy1, (hB6.cell (World.block_lt_of_cell? _ _ hy2)).trans hy2, (hB6.cell (World.block_lt_of_cell? _ _ hy3)).trans hy3, (hB6.cell (World.block_lt_of_cell? _ _ hv)).trans hv⟩))
            ((go_at_call 47; refine HCL.out.mono ?_; rintro e w6 ⟨rfl, hB6⟩))
          replace HB8 := blk_below HB8.out hB6
          have hz80 := (blk_cell HB8 0).trans rfl
          have hz81 := (blk_cell HB8 1).trans rfl
          have hf80 := blk_frozen HB8 0
          have hf81 := blk_frozen HB8 1
          go_wp2
          refine bodyPost_ret (results_list (rs := [.cell 8 47, .tmp 9, .tmp 10]) (vs := [.agg #[.int .i64 0, .slice none 0 0], .int .i64 0, .bool false]) rfl (by simp) (Vals.cell (w.heap.size + 1 + 1) 47 #[.int .i64 0, .slice none 0 0] (0, 0) _ rfl (by refine blk_put (cs := #[.int .i64 0, .slice none 0 0]) ?_ 1 _ rfl; refine blk_put (cs := #[.int .i64 0, .slice none 0 0]) ?_ 0 _ rfl; exact HB8) Try.underlying47 rfl (by kernel_rfl) (Vals.tmp (Vals.tmp Vals.nil)))) rfl ?_
          exact ⟨_, rfl, Kd.R_nil _ _ _ _ _, below_set (below_set (below_step HB.out hB6) (by omega)) (by omega)⟩
        · replace HK := Aside0.mk ((if_neg hm).symm.trans HK.out)
          have HCL := Aside0.mk (act1_ok 0 (rd_T45 l0_1 p).f1 (rd_T45 l0_1 p).f2 (rd_T45 l0_1 p).f3 g9 l1_1.length c9 l _ _ _ HR.out hr0 hr1 hm)
          clear hm
          go_region_held3 (fun w' => w'.cell? ⟨wr.heap.size, 0, none⟩ = some (.int .i64 0) ∧ w'.cell? ⟨wr.heap.size, 1, none⟩ = some (.int .i64 (rd_T45 l0_1 p).f1) ∧ w'.cell? ⟨wr.heap.size, 2, none⟩ = some (.int .i64 (rd_T45 l0_1 p).f2) ∧ w'.cell? ⟨wr.heap.size, 3, none⟩ = some (.int .i64 (rd_T45 l0_1 p).f3) ∧ w'.cell? ⟨g13, 0, none⟩ = some (.func (.func 47) #[] #[]))
            (first | go_keep | (refine ⟨(hg6.cell_far _ (World.block_lt_of_cell? _ _ hy0) hne15).trans hy0, (hg6.cell_far _ (World.block_lt_of_cell? _ _ hy1) hne15).trans hy1, (hg6.cell_far _ (World.block_lt_of_cell? _ _ hy2) hne15).trans hy2, (hg6.cell_far _ (World.block_lt_of_cell? _ _ hy3) hne15).trans hy3, (hg6.cell_far _ (World.block_lt_of_cell? _ _ hv) hne13).trans hv⟩))
            ((go_at_call 47; refine HCL.out.mono ?_; rintro e w6 ⟨rfl, hR6, hg6⟩))
          go_wp2
          go_roundg d
          case measure => omega
          case rel => exact ⟨(rd_T45 l0_1 p).f2, i + 1, _, rfl, rfl, ⟨by omega, by omega, by omega⟩, HK, ⟨hR6⟩, ⟨by rw [List.length_set]; exact HLL.out⟩, ⟨blk_grown HB4.out hg6 hne4⟩, ⟨blk_grown HB8.out hg6 hne8⟩, ⟨blk_grown HB13.out hg6 hne13⟩, ⟨HB.out.grown hg6 (below_size HB.out) (by intro k hk; injection hk; omega)⟩⟩
      · replace HK := Aside0.mk ((if_neg h0).symm.trans HK.out)
        by_cases h1 : (rd_T45 l0_1 p).f0 = 1
        rotate_left
        · have h := HK.out; rw [if_neg h1] at h; cases h
        replace HK := Aside0.mk ((if_pos h1).symm.trans HK.out)
        rw [h1] at hx0
        clear h0 h1
        clear hh1
        go_wp2
        have hg9 := HR.out.1 g9 rfl
        have hne15 : some wr.heap.size ≠ some g9 := by intro e; injection e; omega
        have hne13 : some g13 ≠ some g9 := by intro e; injection e; omega
        have hne4 : some w.heap.size ≠ some g9 := by intro e; injection e; omega
        have hne8 : some (w.heap.size + 1 + 1) ≠ some g9 := by intro e; injection e; omega
        obtain ⟨W5, hW5⟩ : ∃ W : World, W = wr.alloc (.cells #[.int .i64 1, .int .i64 (rd_T45 l0_1 p).f1, .int .i64 (rd_T45 l0_1 p).f2, .int .i64 (rd_T45 l0_1 p).f3] 45) := ⟨_, rfl⟩
        rw [← hW5]
        have hB15 := blk_new wr (.cells #[.int .i64 1, .int .i64 (rd_T45 l0_1 p).f1, .int .i64 (rd_T45 l0_1 p).f2, .int .i64 (rd_T45 l0_1 p).f3] 45)
        rw [← hW5] at hB15
        replace HB := Aside0.mk (below_drew (below_alloc HB.out (.cells #[.int .i64 1, .int .i64 (rd_T45 l0_1 p).f1, .int .i64 (rd_T45 l0_1 p).f2, .int .i64 (rd_T45 l0_1 p).f3] 45)))
        replace HB4 := Aside0.mk (blk_drew (blk_alloc HB4.out (.cells #[.int .i64 1, .int .i64 (rd_T45 l0_1 p).f1, .int .i64 (rd_T45 l0_1 p).f2, .int .i64 (rd_T45 l0_1 p).f3] 45)))
        replace HB8 := Aside0.mk (blk_drew (blk_alloc HB8.out (.cells #[.int .i64 1, .int .i64 (rd_T45 l0_1 p).f1, .int .i64 (rd_T45 l0_1 p).f2, .int .i64 (rd_T45 l0_1 p).f3] 45)))
        replace HB13 := Aside0.mk (blk_drew (blk_alloc HB13.out (.cells #[.int .i64 1, .int .i64 (rd_T45 l0_1 p).f1, .int .i64 (rd_T45 l0_1 p).f2, .int .i64 (rd_T45 l0_1 p).f3] 45)))
        replace HR := Aside0.mk (Kd.R_drew (Kd.R_alloc HR.out (.cells #[.int .i64 1, .int .i64 (rd_T45 l0_1 p).f1, .int .i64 (rd_T45 l0_1 p).f2, .int .i64 (rd_T45 l0_1 p).f3] 45)))
        rw [← hW5] at HB HB4 HB8 HB13 HR
        clear hW5
        have hy0 : W5.cell? ⟨wr.heap.size, 0, none⟩ = some (.int .i64 1) := (blk_cell hB15 0).trans rfl
        have hy1 : W5.cell? ⟨wr.heap.size, 1, none⟩ = some (.int .i64 (rd_T45 l0_1 p).f1) := (blk_cell hB15 1).trans rfl
        have hy2 : W5.cell? ⟨wr.heap.size, 2, none⟩ = some (.int .i64 (rd_T45 l0_1 p).f2) := (blk_cell hB15 2).trans rfl
        have hy3 : W5.cell? ⟨wr.heap.size, 3, none⟩ = some (.int .i64 (rd_T45 l0_1 p).f3) := (blk_cell hB15 3).trans rfl
        have hv : W5.cell? ⟨g13, 1, none⟩ = some (.func (.func 48) #[] #[]) := (blk_cell HB13.out 1).trans rfl
        clear hB15 hx0 hx1 hx2 hx3 hz40 hz41 hz80 hz81 hf80 hf81
        by_cases hm : rd l (rd_T45 l0_1 p).f1 = 0
        · replace HK := Aside0.mk ((if_pos hm).symm.trans HK.out)
          have HCL := Aside0.mk (act2_zero 1 (rd_T45 l0_1 p).f1 (rd_T45 l0_1 p).f2 (rd_T45 l0_1 p).f3 g9 l1_1.length c9 l _ _ _ HR.out hr0 hr1 hm)
          clear hm
          go_region_held3 (fun w' => w'.cell? ⟨wr.heap.size, 0, none⟩ = some (.int .i64 1) ∧ w'.cell? ⟨wr.heap.size, 1, none⟩ = some (.int .i64 (rd_T45 l0_1 p).f1) ∧ w'.cell? ⟨wr.heap.size, 2, none⟩ = some (.int .i64 (rd_T45 l0_1 p).f2) ∧ w'.cell? ⟨wr.heap.size, 3, none⟩ = some (.int .i64 (rd_T45 l0_1 p).f3) ∧ w'.cell? ⟨g13, 1, none⟩ = some (.func (.func 48) #[] #[]))
            (first | go_keep | (refine ⟨(hB6.cell (World.block_lt_of_cell? _ _ hy0)).trans hy0, (hB6.cell (World.block_lt_of_cell? _ _ hy1)).trans hy1, (hB6.cell (World.block_lt_of_cell? _ _ hy2)).trans hy2, (hB6.cell (World.block_lt_of_cell? _ _ hy3)).trans hy3, (hB6.cell (World.block_lt_of_cell? _ _ hv)).trans hv⟩))
            ((go_at_call 48; refine HCL.out.mono ?_; rintro e w6 ⟨rfl, hB6⟩))
          go_wp2
          go_roundg d
          case measure => omega
          case rel => exact ⟨(rd_T45 l0_1 p).f3, i + 1, l, rfl, rfl, ⟨by omega, by omega, by omega⟩, HK, ⟨Kd.R_below HR.out hB6⟩, HLL, ⟨blk_below HB4.out hB6⟩, ⟨blk_below HB8.out hB6⟩, ⟨blk_below HB13.out hB6⟩, ⟨below_step HB.out hB6⟩⟩
        · replace HK := Aside0.mk ((if_neg hm).symm.trans HK.out)
          have HCL := Aside0.mk (act2_ok 1 (rd_T45 l0_1 p).f1 (rd_T45 l0_1 p).f2 (rd_T45 l0_1 p).f3 g9 l1_1.length c9 l _ _ _ HR.out hr0 hr1 hm)
          clear hm
          go_region_held3 (fun w' => w'.cell? ⟨wr.heap.size, 0, none⟩ = some (.int .i64 1) ∧ w'.cell? ⟨wr.heap.size, 1, none⟩ = some (.int .i64 (rd_T45 l0_1 p).f1) ∧ w'.cell? ⟨wr.heap.size, 2, none⟩ = some (.int .i64 (rd_T45 l0_1 p).f2) ∧ w'.cell? ⟨wr.heap.size, 3, none⟩ = some (.int .i64 (rd_T45 l0_1 p).f3) ∧ w'.cell? ⟨g13, 1, none⟩ = some (.func (.func 48) #[] #[]))
            (first | go_keep | (refine ⟨(hg6.cell_far _ (World.block_lt_of_cell? _ _ hy0) hne15).trans hy0, (hg6.cell_far _ (World.block_lt_of_cell? _ _ hy1) hne15).trans hy1, (hg6.cell_far _ (World.block_lt_of_cell? _ _ hy2) hne15).trans hy2, (hg6.cell_far _ (World.block_lt_of_cell? _ _ hy3) hne15).trans hy3, (hg6.cell_far _ (World.block_lt_of_cell? _ _ hv) hne13).trans hv⟩))
            ((go_at_call 48; refine HCL.out.mono ?_; rintro e w6 ⟨rfl, hR6, hg6⟩))
          go_wp2
          go_roundg d
          case measure => omega
          case rel => exact ⟨(rd_T45 l0_1 p).f2, i + 1, _, rfl, rfl, ⟨by omega, by omega, by omega⟩, HK, ⟨hR6⟩, ⟨by rw [List.length_set]; exact HLL.out⟩, ⟨blk_grown HB4.out hg6 hne4⟩, ⟨blk_grown HB8.out hg6 hne8⟩, ⟨blk_grown HB13.out hg6 hne13⟩, ⟨HB.out.grown hg6 (below_size HB.out) (by intro k hk; injection hk; omega)⟩⟩

-- counter_never: told with its caller

/-! ### counter_Step: function 31 (by hand) -/
def counter_Step.f (k : Nat) (a0_0 : Int) (l0_1 : List S45) (a1_0 : Int) (l1_1 : List Int) : Option (Int × List Int × Int) :=
  (counter_Fits.f k a0_0 l0_1 a1_0 l1_1).bind fun b => if b = true then (if 0 ≤ a1_0 ∧ a1_0 < (l0_1.length : Int) then (if (rd_T45 l0_1 a1_0).f0 = 2 then some (0, [], 5) else if l1_1.length < 17592186044416 then (crun l0_1 1 a1_0 l1_1 0).bind fun z => if z.2.2.2 = true then some (z.1, z.2.1, 0) else some (0, [], 4) else none) else none) else some (0, [], 1)
theorem counter_Step.mono : ∀ a0 a1 a2 a3 k, LeO (counter_Step.f k a0 a1 a2 a3) (counter_Step.f (k + 1) a0 a1 a2 a3) := by
  intro a0 a1 a2 a3 k
  unfold counter_Step.f
  exact LeO.bind (counter_Fits.mono _ _ _ _ _) (fun _ => LeO.refl _)
set_option maxHeartbeats 4000000 in
set_option maxRecDepth 100000 in
set_option maxHeartbeats 8000000 in
set_option maxRecDepth 100000 in
theorem counter_Step.calls (k : Nat) (a0_0 : Int) (A0_1 : Option Addr) (c0_1 : Nat) (l0_1 : List S45) (a1_0 : Int) (A1_1 : Option Addr) (c1_1 : Nat) (l1_1 : List Int) (r1 : Int) (r2 : List Int) (r3 : Int) (w : World) (hr0_1 : Kd.C k45 w A0_1 l0_1.length l0_1) (hc0_1 : l0_1.length ≤ c0_1) (hr1_1 : Kd.C (Kd.int .i64) w A1_1 l1_1.length l1_1) (hc1_1 : l1_1.length ≤ c1_1) (h : counter_Step.f k a0_0 l0_1 a1_0 l1_1 = some (r1, r2, r3)) :
    Calls Try.prog 31 #[.agg #[.int .i64 a0_0, .slice A0_1 l0_1.length c0_1], .agg #[.int .i64 a1_0, .slice A1_1 l1_1.length c1_1]] w fun e w' => ∃ v1_ : Value, e = .returned (.tuple #[.agg #[.int .i64 r1, v1_], .int .i64 r3]) ∧ Kd.R (Kd.int .i64) 3 w' w.heap.size (fun _ => True) v1_ r2 ∧ Below w.heap.size w w' := by
  have hu24 := Try.underlying38
  have hu27 := Try.underlying47
  have HR0_1 := Aside0.mk hr0_1
  have HC0_1 := Aside0.mk hc0_1
  have HR1_1 := Aside0.mk hr1_1
  have HC1_1 := Aside0.mk hc1_1
  clear hr0_1 hc0_1 hr1_1 hc1_1
  unfold counter_Step.f at h
  obtain ⟨b, hb, h⟩ := Option.bind_eq_some_iff.1 h
  have hF : ∀ W : World, Below w.heap.size w W → Calls Try.prog 37 #[.agg #[.int .i64 a0_0, .slice A0_1 l0_1.length c0_1], .agg #[.int .i64 a1_0, .slice A1_1 l1_1.length c1_1]] W fun e w' => e = .returned (.bool b) ∧ Below W.heap.size W w' := fun W hW => counter_Fits.calls k a0_0 A0_1 c0_1 l0_1 a1_0 A1_1 c1_1 l1_1 b W (Kd.C_below HR0_1.out hW) HC0_1.out (Kd.C_below HR1_1.out hW) HC1_1.out hb
  have HF := Aside0.mk hF
  have H := Aside0.mk h
  clear h hF hb
  go_enter Try.func31, Try.ntmps31
  go_wp2_with fail
  obtain ⟨W1, hW1⟩ : ∃ W1 : World, W1 = (((w.alloc (.cells #[.int .i64 a0_0, .slice A0_1 l0_1.length c0_1] 38)).alloc (.cells #[.int .i64 a1_0, .slice A1_1 l1_1.length c1_1] 47)).alloc (.cells #[.int .i64 0, .slice none 0 0] 47)) := ⟨_, rfl⟩
  have hBW1 : Below w.heap.size w W1 := by rw [hW1]; exact below_alloc (below_alloc (below_alloc (Below.refl _ _) _) _) _
  have hb4 : W1.heap[w.heap.size]? = some (.cells #[.int .i64 a0_0, .slice A0_1 l0_1.length c0_1] 38 (0, 0)) := by rw [hW1]; exact blk_alloc (blk_alloc (blk_new _ _) _) _
  have hb5 : W1.heap[w.heap.size + 1]? = some (.cells #[.int .i64 a1_0, .slice A1_1 l1_1.length c1_1] 47 (0, 0)) := by rw [hW1]; exact blk_alloc (by have h_ := blk_new (w.alloc (.cells #[.int .i64 a0_0, .slice A0_1 l0_1.length c0_1] 38)) (.cells #[.int .i64 a1_0, .slice A1_1 l1_1.length c1_1] 47); simpa using h_) _
  have hb8 : W1.heap[w.heap.size + 1 + 1]? = some (.cells #[.int .i64 0, .slice none 0 0] 47 (0, 0)) := by rw [hW1]; have h_ := blk_new ((w.alloc (.cells #[.int .i64 a0_0, .slice A0_1 l0_1.length c0_1] 38)).alloc (.cells #[.int .i64 a1_0, .slice A1_1 l1_1.length c1_1] 47)) (.cells #[.int .i64 0, .slice none 0 0] 47); simpa using h_
  rw [← hW1]
  clear hW1
  refine (HF.out _ hBW1).mono ?_
  rintro e w2 ⟨rfl, hB2⟩
  have HB := Aside0.mk (below_step hBW1 hB2)
  have HB8 := Aside0.mk (blk_below hb8 hB2)
  have HB4 := Aside0.mk (blk_below hb4 hB2)
  have HB5 := Aside0.mk (blk_below hb5 hB2)
  have hz40 := (blk_cell HB4.out 0).trans rfl
  have hz41 := (blk_cell HB4.out 1).trans rfl
  have hz50 := (blk_cell HB5.out 0).trans rfl
  have hz51 := (blk_cell HB5.out 1).trans rfl
  have hz80 := (blk_cell HB8.out 0).trans rfl
  have hz81 := (blk_cell HB8.out 1).trans rfl
  have hf80 := blk_frozen HB8.out 0
  have hf81 := blk_frozen HB8.out 1
  clear hb4 hb5 hb8 hBW1 hB2 HF
  have hl8 := blk_lt HB8.out
  cases b with
  | false =>
    have h := H.out
    clear H
    rw [if_neg (by simp)] at h
    simp only [Option.some.injEq, Prod.mk.injEq] at h
    obtain ⟨rfl, rfl, rfl⟩ := h
    go_wp2
    refine bodyPost_ret (results_list (rs := [.cell 4 47, .tmp 5]) (vs := [.agg #[.int .i64 0, .slice none 0 0], .int .i64 1]) rfl (by simp) (Vals.cell (w.heap.size + 1 + 1) 47 #[.int .i64 0, .slice none 0 0] (0, 0) _ rfl (by refine blk_put (cs := #[.int .i64 0, .slice none 0 0]) ?_ 1 _ rfl; refine blk_put (cs := #[.int .i64 0, .slice none 0 0]) ?_ 0 _ rfl; exact HB8.out) Try.underlying47 rfl (by kernel_rfl) (Vals.tmp Vals.nil))) rfl ?_
    exact ⟨_, rfl, Kd.R_nil _ _ _ _ _, below_set (below_set HB.out (by omega)) (by omega)⟩
  | true =>
  have h := H.out
  clear H
  rw [if_pos rfl] at h
  by_cases kp : 0 ≤ a1_0 ∧ a1_0 < (l0_1.length : Int)
  rotate_left
  · rw [if_neg kp] at h
    cases h
  rw [if_pos kp] at h
  obtain ⟨p0, p1⟩ := kp
  obtain ⟨ad, ea, hx0, hx1, hx2, hx3⟩ := at_T45 (Kd.C_below HR0_1.out HB.out) a1_0 p0 p1
  cases ea
  clear hx1 hx2 hx3
  replace p0 := eq_true p0
  replace p1 := eq_true p1
  by_cases ko : (rd_T45 l0_1 a1_0).f0 = 2
  · rw [if_pos ko] at h
    simp only [Option.some.injEq, Prod.mk.injEq] at h
    obtain ⟨rfl, rfl, rfl⟩ := h
    have ko1 : ((rd_T45 l0_1 a1_0).f0 == (2 : Int)) = true := beq_iff_eq.mpr ko
    clear ko
    go_wp2
    refine bodyPost_ret (results_list (rs := [.cell 4 47, .tmp 5]) (vs := [.agg #[.int .i64 0, .slice none 0 0], .int .i64 5]) rfl (by simp) (Vals.cell (w.heap.size + 1 + 1) 47 #[.int .i64 0, .slice none 0 0] (0, 0) _ rfl (by refine blk_put (cs := #[.int .i64 0, .slice none 0 0]) ?_ 1 _ rfl; refine blk_put (cs := #[.int .i64 0, .slice none 0 0]) ?_ 0 _ rfl; exact HB8.out) Try.underlying47 rfl (by kernel_rfl) (Vals.tmp Vals.nil))) rfl ?_
    exact ⟨_, rfl, Kd.R_nil _ _ _ _ _, below_set (below_set HB.out (by omega)) (by omega)⟩
  rw [if_neg ko] at h
  have ko1 : ((rd_T45 l0_1 a1_0).f0 == (2 : Int)) = false := beq_eq_false_iff_ne.mpr ko
  by_cases hlen : l1_1.length < 17592186044416
  rotate_left
  · rw [if_neg hlen] at h
    cases h
  rw [if_pos hlen] at h
  obtain ⟨⟨z1, z2, z3, z4⟩, hz, h⟩ := Option.bind_eq_some_iff.1 h
  have HC := Aside0.mk (fun W hW => crun_calls a0_0 (some ad) c0_1 l0_1 a1_0 A1_1 c1_1 l1_1 1 z1 z2 z3 z4 W (Kd.C_below HR0_1.out hW) HC0_1.out (Kd.C_below HR1_1.out hW) HC1_1.out (by unfold slices_Clone_int_int.f; rw [if_pos hlen]) (by omega) (by omega) hz)
  have HH := Aside0.mk h
  clear h hz ko
  go_wp2_with fail
  refine (HC.out w2 HB.out).mono ?_
  rintro e w3 ⟨v3, rfl, hR3, hB3⟩
  obtain ⟨A9, c9, rfl⟩ := Kd.R_slice hR3
  clear HC hz80 hz81 hf80 hf81 hz40 hz41 hz50 hz51 hx0 ko1
  have hl82 := Aside0.mk hl8
  clear hl8
  have HR3 := Aside0.mk (Kd.R_lower hR3 (below_size HB.out))
  have HRK := Aside0.mk (fun k hk => by have := Kd.R_base hR3 k hk; omega : ∀ k, (Value.slice A9 z2.length c9).ownBlock = some k → w2.heap.size ≤ k)
  replace HB8 := Aside0.mk (blk_below HB8.out hB3)
  replace HB := Aside0.mk (below_step HB.out hB3)
  have hz80 := (blk_cell HB8.out 0).trans rfl
  have hz81 := (blk_cell HB8.out 1).trans rfl
  have hf80 := blk_frozen HB8.out 0
  have hf81 := blk_frozen HB8.out 1
  have hl8 := blk_lt HB8.out
  clear hR3 hB3
  cases z4 with
  | false =>
    have h := HH.out
    simp at h
    obtain ⟨rfl, rfl, rfl⟩ := h
    clear HH
    go_wp2
    refine bodyPost_ret (results_list (rs := [.cell 4 47, .tmp 5]) (vs := [.agg #[.int .i64 0, .slice none 0 0], .int .i64 4]) rfl (by simp) (Vals.cell (w.heap.size + 1 + 1) 47 #[.int .i64 0, .slice none 0 0] (0, 0) _ rfl (by refine blk_alloc ?_ _; refine blk_put (cs := #[.int .i64 0, .slice none 0 0]) ?_ 1 _ rfl; refine blk_put (cs := #[.int .i64 0, .slice none 0 0]) ?_ 0 _ rfl; exact HB8.out) Try.underlying47 rfl (by kernel_rfl) (Vals.tmp Vals.nil))) rfl ?_
    exact ⟨_, rfl, Kd.R_nil _ _ _ _ _, below_alloc (below_set (below_set HB.out (by omega)) (by omega)) _⟩
  | true =>
  have h := HH.out
  simp at h
  obtain ⟨rfl, rfl, rfl⟩ := h
  clear HH
  go_wp2
  refine bodyPost_ret (results_list (rs := [.cell 4 47, .tmp 5]) (vs := [.agg #[.int .i64 z1, .slice A9 z2.length c9], .int .i64 0]) rfl (by simp) (Vals.cell (w.heap.size + 1 + 1) 47 #[.int .i64 z1, .slice A9 z2.length c9] (0, 0) _ rfl (by refine blk_alloc ?_ _; refine blk_put (cs := #[.int .i64 z1, .slice none 0 0]) ?_ 1 _ rfl; refine blk_put (cs := #[.int .i64 0, .slice none 0 0]) ?_ 0 _ rfl; exact HB8.out) Try.underlying47 rfl (by kernel_rfl) (Vals.tmp Vals.nil))) rfl ?_
  exact ⟨_, rfl, Kd.R_alloc (Kd.R_mono (ok := fun k => w.heap.size + 1 + 1 < k) (Kd.R_far (Kd.R_far (Kd.R_of_own (h1 := fun _ => rfl) (Kd.own_of_R HR3.out) (fun k hk => by have := HRK.out k hk; have := hl82.out; omega)) (fun k hk => by simp; omega) _) (fun k hk => by simp; omega) _) (fun _ _ => trivial)) _, below_alloc (below_set (below_set HB.out (by omega)) (by omega)) _⟩

/-! ### cmp_isNaN_int: function 49 -/
def cmp_isNaN_int.f (a0 : Int) : Option (Bool) := some (a0 != a0)
set_option maxHeartbeats 8000000 in
set_option maxRecDepth 100000 in
theorem cmp_isNaN_int.calls (a0 : Int) (r : Bool) (w : World) (h : cmp_isNaN_int.f a0 = some r) :
  Calls Try.prog 49 #[.int .i64 a0] w fun e w' => e = .returned (.bool r) ∧ Drawn0 w w' := by
 have H : (some (a0 != a0)) = some r := h
 clear h
 obtain rfl := Option.some.inj H
 go_enter Try.func49, Try.ntmps49
 go_wp2
 go_ret
 exact ⟨by first | rfl | (simp; done) | (simp [*]; done), by repeat (first | exact Drawn0.refl _ | apply Drawn0.step)⟩

/-! ### cmp_Less_int: function 45 -/
def cmp_Less_int.f (a0 : Int) (a1 : Int) : Option (Bool) := (cmp_isNaN_int.f a0).bind fun t221 => (if t221 = true then ((cmp_isNaN_int.f a1).bind fun t222 => (if t222 = true then (some (decide (a0 < a1))) else (some true))) else (some (decide (a0 < a1))))
set_option maxHeartbeats 8000000 in
set_option maxRecDepth 100000 in
theorem cmp_Less_int.calls (a0 : Int) (a1 : Int) (r : Bool) (w : World) (h : cmp_Less_int.f a0 a1 = some r) :
  Calls Try.prog 45 #[.int .i64 a0, .int .i64 a1] w fun e w' => e = .returned (.bool r) ∧ Drawn0 w w' := by
 have H : ((cmp_isNaN_int.f a0).bind fun t221 => (if t221 = true then ((cmp_isNaN_int.f a1).bind fun t222 => (if t222 = true then (some (decide (a0 < a1))) else (some true))) else (some (decide (a0 < a1))))) = some r := h
 clear h
 replace H := Option.bind_eq_some_iff.mp H
 obtain ⟨t221, A30, H⟩ := H
 replace H : (if t221 = true then ((cmp_isNaN_int.f a1).bind fun t222 => (if t222 = true then (some (decide (a0 < a1))) else (some true))) else (some (decide (a0 < a1)))) = some r := H
 have A3 := Aside0.mk A30
 clear A30
 by_cases c4 : t221 = true
 ·subst c4
  have H1 : ((cmp_isNaN_int.f a1).bind fun t222 => (if t222 = true then (some (decide (a0 < a1))) else (some true))) = some r := by rw [if_pos rfl] at H; exact H
  clear H
  have H := H1
  clear H1
  replace H := Option.bind_eq_some_iff.mp H
  obtain ⟨t222, A50, H⟩ := H
  replace H : (if t222 = true then (some (decide (a0 < a1))) else (some true)) = some r := H
  have A5 := Aside0.mk A50
  clear A50
  by_cases c6 : t222 = true
  ·subst c6
   have H1 : (some (decide (a0 < a1))) = some r := by rw [if_pos rfl] at H; exact H
   clear H
   have H := H1
   clear H1
   obtain rfl := Option.some.inj H
   go_enter Try.func45, Try.ntmps45
   go_wp2_with (first | ((with_reducible refine gate_callee (f := 49) rfl ?_); refine goesL_ (some 6) rfl rfl Try.func49 (by kernel_rfl) rfl #[.int .i64 a0] rfl gl_ ?_; (with_reducible refine (cmp_isNaN_int.calls a0 true _ A3.out).mono ?_); rintro e w' ⟨rfl, ⟨nd, rfl⟩⟩; refine ⟨_, rfl, ?_⟩) | (go_at_call 49; (with_reducible refine (cmp_isNaN_int.calls a1 true _ A5.out).mono ?_); rintro e w' ⟨rfl, ⟨nd, rfl⟩⟩))
   go_ret
   exact ⟨by first | rfl | (simp; done) | (simp [*]; done), by repeat (first | exact Drawn0.refl _ | apply Drawn0.step)⟩
  ·replace c6 := Bool.eq_false_iff.mpr c6
   subst c6
   have H1 : (some true) = some r := by rw [if_neg (show ¬ (false = true) by decide)] at H; exact H
   clear H
   have H := H1
   clear H1
   obtain rfl := Option.some.inj H
   go_enter Try.func45, Try.ntmps45
   go_wp2_with (first | ((with_reducible refine gate_callee (f := 49) rfl ?_); refine goesL_ (some 6) rfl rfl Try.func49 (by kernel_rfl) rfl #[.int .i64 a0] rfl gl_ ?_; (with_reducible refine (cmp_isNaN_int.calls a0 true _ A3.out).mono ?_); rintro e w' ⟨rfl, ⟨nd, rfl⟩⟩; refine ⟨_, rfl, ?_⟩) | (go_at_call 49; (with_reducible refine (cmp_isNaN_int.calls a1 false _ A5.out).mono ?_); rintro e w' ⟨rfl, ⟨nd, rfl⟩⟩))
   go_ret
   exact ⟨by first | rfl | (simp; done) | (simp [*]; done), by repeat (first | exact Drawn0.refl _ | apply Drawn0.step)⟩
 ·replace c4 := Bool.eq_false_iff.mpr c4
  subst c4
  have H1 : (some (decide (a0 < a1))) = some r := by rw [if_neg (show ¬ (false = true) by decide)] at H; exact H
  clear H
  have H := H1
  clear H1
  obtain rfl := Option.some.inj H
  go_enter Try.func45, Try.ntmps45
  go_wp2_with (first | ((with_reducible refine gate_callee (f := 49) rfl ?_); refine goesL_ (some 6) rfl rfl Try.func49 (by kernel_rfl) rfl #[.int .i64 a0] rfl gl_ ?_; (with_reducible refine (cmp_isNaN_int.calls a0 false _ A3.out).mono ?_); rintro e w' ⟨rfl, ⟨nd, rfl⟩⟩; refine ⟨_, rfl, ?_⟩))
  go_ret
  exact ⟨by first | rfl | (simp; done) | (simp [*]; done), by repeat (first | exact Drawn0.refl _ | apply Drawn0.step)⟩

/-! ### slices_isNaN_int: function 46 -/
def slices_isNaN_int.f (a0 : Int) : Option (Bool) := some (a0 != a0)
set_option maxHeartbeats 8000000 in
set_option maxRecDepth 100000 in
theorem slices_isNaN_int.calls (a0 : Int) (r : Bool) (w : World) (h : slices_isNaN_int.f a0 = some r) :
  Calls Try.prog 46 #[.int .i64 a0] w fun e w' => e = .returned (.bool r) ∧ Drawn0 w w' := by
 have H : (some (a0 != a0)) = some r := h
 clear h
 obtain rfl := Option.some.inj H
 go_enter Try.func46, Try.ntmps46
 go_wp2
 go_ret
 exact ⟨by first | rfl | (simp; done) | (simp [*]; done), by repeat (first | exact Drawn0.refl _ | apply Drawn0.step)⟩

/-! ### slices_BinarySearch_int_int: function 41 -/
def slices_BinarySearch_int_int.l0 : Nat → List Int → Int → Int → Int → Int → Option (Int × Bool)
 | 0, _, _, _, _, _ => none
 | k + 1, x0, x1, x6, x7, x8 => if x7 < x8 then (if 0 ≤ (wrap64 ((IntKind.u64.wrap (wrap64 (x7 + x8))) / 2)) then (if (wrap64 ((IntKind.u64.wrap (wrap64 (x7 + x8))) / 2)) < (x0.length : Int) then ((cmp_Less_int.f (rd x0 (wrap64 ((IntKind.u64.wrap (wrap64 (x7 + x8))) / 2))) x1).bind fun t224 => (if t224 = true then (slices_BinarySearch_int_int.l0 k x0 x1 x6 (wrap64 ((wrap64 ((IntKind.u64.wrap (wrap64 (x7 + x8))) / 2)) + 1)) x8) else (slices_BinarySearch_int_int.l0 k x0 x1 x6 x7 (wrap64 ((IntKind.u64.wrap (wrap64 (x7 + x8))) / 2))))) else (none)) else (none)) else (if x7 < x6 then (if 0 ≤ x7 then (if x7 < (x0.length : Int) then (if (rd x0 x7) = x1 then (some (x7, true)) else ((slices_isNaN_int.f (rd x0 x7)).bind fun t227 => (if t227 = true then ((slices_isNaN_int.f x1).bind fun t228 => (some (x7, t228))) else (some (x7, false))))) else (none)) else (none)) else (some (x7, false)))
def slices_BinarySearch_int_int.f (k : Nat) (l0 : List Int) (a1 : Int) : Option (Int × Bool) := slices_BinarySearch_int_int.l0 k l0 a1 (l0.length : Int) 0 (l0.length : Int)
theorem slices_BinarySearch_int_int.mono_l : ∀ k, (∀ y0 y1 y2 y3 y4, LeO (slices_BinarySearch_int_int.l0 k y0 y1 y2 y3 y4) (slices_BinarySearch_int_int.l0 (k + 1) y0 y1 y2 y3 y4))
 | 0 => fun _ _ _ _ _ r h => by simp [slices_BinarySearch_int_int.l0] at h
 | k + 1 => by
  have ih0 := slices_BinarySearch_int_int.mono_l k
  ·intro y0 y1 y2 y3 y4
   unfold slices_BinarySearch_int_int.l0
   repeat' first
   | (with_reducible exact ih0 _ _ _ _ _)
   | (with_reducible exact LeO.refl _)
   | (with_reducible exact LeO.none _)
   | (with_reducible refine LeO.ite ?_ ?_)
   | (with_reducible refine LeO.bind ?_ (fun _ => ?_))
   | exact ih0 _ _ _ _ _
   | exact LeO.none _
   | refine LeO.ite ?_ ?_
   | refine LeO.bind ?_ (fun _ => ?_)
theorem slices_BinarySearch_int_int.mono : ∀ a0 a1 k, LeO (slices_BinarySearch_int_int.f k a0 a1) (slices_BinarySearch_int_int.f (k + 1) a0 a1) := by
 intro a0 a1 k
 have ih0 := slices_BinarySearch_int_int.mono_l k
 unfold slices_BinarySearch_int_int.f
 repeat' first
   | (with_reducible exact ih0 _ _ _ _ _)
   | (with_reducible exact LeO.refl _)
   | (with_reducible exact LeO.none _)
   | (with_reducible refine LeO.ite ?_ ?_)
   | (with_reducible refine LeO.bind ?_ (fun _ => ?_))
   | exact ih0 _ _ _ _ _
   | exact LeO.none _
   | refine LeO.ite ?_ ?_
   | refine LeO.bind ?_ (fun _ => ?_)
set_option maxHeartbeats 8000000 in
set_option maxRecDepth 100000 in
theorem slices_BinarySearch_int_int.calls (k : Nat) (A0 : Option Addr) (c0 : Nat) (l0 : List Int) (a1 : Int) (r1 : Int) (r2 : Bool) (w : World) (hr0 : Kd.C (Kd.int .i64) w A0 l0.length l0) (hc0 : l0.length ≤ c0) (h : slices_BinarySearch_int_int.f k l0 a1 = some (r1, r2)) :
  Calls Try.prog 41 #[.slice A0 l0.length c0, .int .i64 a1] w fun e w' => e = .returned (.tuple #[.int .i64 r1, .bool r2]) ∧ Drawn0 w w' := by
 have HR0 := Aside0.mk hr0
 have HC0 := Aside0.mk hc0
 clear hr0 hc0
 have H : (slices_BinarySearch_int_int.l0 k l0 a1 (l0.length : Int) 0 (l0.length : Int)) = some (r1, r2) := h
 clear h
 have H' := Aside0.mk H
 clear H
 go_enter Try.func41, Try.ntmps41
 go_wp2
 go_loopg [7, 8] k (fun kq v7 v8 w' => ∃ (x7_1 : Int) (x8_1 : Int), v7 = .int .i64 x7_1 ∧ v8 = .int .i64 x8_1 ∧ Aside0 (slices_BinarySearch_int_int.l0 kq l0 a1 (l0.length : Int) x7_1 x8_1 = some (r1, r2)) ∧ Aside0 (kq ≤ k) ∧ Drawn0 w w')
 case atStart => exact ⟨(0), ((l0.length : Int)), jr_, jr_, H', ⟨Nat.le_refl _⟩, by repeat (first | exact Drawn0.refl _ | apply Drawn0.step)⟩
 case round =>
  clear H'
  obtain ⟨x7_1, x8_1, rfl, rfl, HA, HK1, ⟨m1, rfl⟩⟩ := hrel
  cases gk with
  | zero => exact absurd HA.out (by simp [slices_BinarySearch_int_int.l0])
  | succ k1 =>
   have H := HA.out
   clear HA
   simp only [slices_BinarySearch_int_int.l0] at H
   by_cases c3 : x7_1 < x8_1
   ·rw [if_pos c3] at H
    have c3b0 : decide (x7_1 < x8_1) = true := decide_eq_true c3
    clear c3
    obtain ⟨ji4, hji4⟩ : ∃ j_ : Int, (wrap64 ((IntKind.u64.wrap (wrap64 (x7_1 + x8_1))) / 2)) = j_ := ⟨_, rfl⟩
    replace H : (if 0 ≤ (ji4) then (if (ji4) < (l0.length : Int) then ((cmp_Less_int.f (rd l0 (ji4)) a1).bind fun t224 => (if t224 = true then (slices_BinarySearch_int_int.l0 k1 l0 a1 (l0.length : Int) (wrap64 ((ji4) + 1)) x8_1) else (slices_BinarySearch_int_int.l0 k1 l0 a1 (l0.length : Int) x7_1 ji4))) else (none)) else (none)) = some (r1, r2) := by first | (rw [hji4] at H; exact H) | (simp only [hji4] at H ⊢; exact H)
    have hji4w : (IntKind.i64.wrap ((IntKind.u64.wrap (wrap64 (x7_1 + x8_1))) / 2)) = ji4 := (i64_w _).trans hji4
    by_cases c5 : 0 ≤ (ji4)
    ·rw [if_pos c5] at H
     have c5b0 : decide (0 ≤ (ji4)) = true := decide_eq_true c5
     clear c5
     by_cases c6 : (ji4) < (l0.length : Int)
     ·rw [if_pos c6] at H
      have c6b0 : decide ((ji4) < (l0.length : Int)) = true := decide_eq_true c6
      clear c6
      replace H := Option.bind_eq_some_iff.mp H
      obtain ⟨t224, A70, H⟩ := H
      replace H : (if t224 = true then (slices_BinarySearch_int_int.l0 k1 l0 a1 (l0.length : Int) (wrap64 ((ji4) + 1)) x8_1) else (slices_BinarySearch_int_int.l0 k1 l0 a1 (l0.length : Int) x7_1 ji4)) = some (r1, r2) := H
      have A7 := Aside0.mk A70
      clear A70
      by_cases c8 : t224 = true
      ·subst c8
       have H1 : (slices_BinarySearch_int_int.l0 k1 l0 a1 (l0.length : Int) (wrap64 ((ji4) + 1)) x8_1) = some (r1, r2) := by rw [if_pos rfl] at H; exact H
       clear H
       have H := H1
       clear H1
       have H' := Aside0.mk H
       clear H
       have p223 : 0 ≤ ((ji4) : Int) := od_
       have q223 : (ji4) < (l0.length : Int) := od_
       obtain ⟨ad223, e223, hx223_0⟩ := Kd.at_int HR0.out (ji4) p223 q223
       cases e223
       replace p223 := eq_true p223
       replace q223 := eq_true q223
       go_wp2_with (first | ((with_reducible refine gate_callee (f := 45) rfl ?_); refine goesL_ (some 27) rfl rfl Try.func45 (by kernel_rfl) rfl #[.int .i64 (rd l0 (ji4)), .int .i64 a1] rfl (by (try simp only [List.map_toArray, List.map_cons, List.map_nil]); first | done | (simp only [hji4]; rfl) | rfl | (simp only [List.length_drop, List.length_take]; rfl)) ?_; (with_reducible refine (cmp_Less_int.calls (rd l0 (ji4)) a1 true _ A7.out).mono ?_); rintro e w' ⟨rfl, ⟨nd, rfl⟩⟩; refine ⟨_, rfl, ?_⟩))
       go_roundg k1
       case measure => have := HK1.out; omega
       case rel => exact ⟨(wrap64 ((ji4) + 1)), (x8_1), (by first | rfl | (simp; done) | (simp only [← hji4] <;> (first | rfl | simp)) | (simp [*]; done)), jr_, H', ⟨by have := HK1.out; omega⟩, by repeat (first | exact Drawn0.refl _ | apply Drawn0.step)⟩
      ·replace c8 := Bool.eq_false_iff.mpr c8
       subst c8
       have H1 : (slices_BinarySearch_int_int.l0 k1 l0 a1 (l0.length : Int) x7_1 ji4) = some (r1, r2) := by rw [if_neg (show ¬ (false = true) by decide)] at H; exact H
       clear H
       have H := H1
       clear H1
       have H' := Aside0.mk H
       clear H
       have p223 : 0 ≤ ((ji4) : Int) := od_
       have q223 : (ji4) < (l0.length : Int) := od_
       obtain ⟨ad223, e223, hx223_0⟩ := Kd.at_int HR0.out (ji4) p223 q223
       cases e223
       replace p223 := eq_true p223
       replace q223 := eq_true q223
       go_wp2_with (first | ((with_reducible refine gate_callee (f := 45) rfl ?_); refine goesL_ (some 27) rfl rfl Try.func45 (by kernel_rfl) rfl #[.int .i64 (rd l0 (ji4)), .int .i64 a1] rfl (by (try simp only [List.map_toArray, List.map_cons, List.map_nil]); first | done | (simp only [hji4]; rfl) | rfl | (simp only [List.length_drop, List.length_take]; rfl)) ?_; (with_reducible refine (cmp_Less_int.calls (rd l0 (ji4)) a1 false _ A7.out).mono ?_); rintro e w' ⟨rfl, ⟨nd, rfl⟩⟩; refine ⟨_, rfl, ?_⟩))
       go_roundg k1
       case measure => have := HK1.out; omega
       case rel => exact ⟨(x7_1), (ji4), jr_, (by first | rfl | (simp; done) | (simp only [← hji4] <;> (first | rfl | simp)) | (simp [*]; done)), H', ⟨by have := HK1.out; omega⟩, by repeat (first | exact Drawn0.refl _ | apply Drawn0.step)⟩
     ·rw [if_neg c6] at H
      exact absurd H (by simp)
    ·rw [if_neg c5] at H
     exact absurd H (by simp)
   ·rw [if_neg c3] at H
    have c3b0 : decide (x7_1 < x8_1) = false := decide_eq_false c3
    clear c3
    by_cases c9 : x7_1 < (l0.length : Int)
    ·rw [if_pos c9] at H
     have c9b0 : decide (x7_1 < (l0.length : Int)) = true := decide_eq_true c9
     clear c9
     by_cases c10 : 0 ≤ x7_1
     ·rw [if_pos c10] at H
      have c10b0 : decide (0 ≤ x7_1) = true := decide_eq_true c10
      clear c10
      by_cases c11 : x7_1 < (l0.length : Int)
      ·rw [if_pos c11] at H
       have c11b0 : decide (x7_1 < (l0.length : Int)) = true := decide_eq_true c11
       clear c11
       by_cases c12 : (rd l0 x7_1) = a1
       ·rw [if_pos c12] at H
        have c12b0 : ((rd l0 x7_1) == a1) = true := beq_iff_eq.mpr c12
        have c12b1 : ((rd l0 x7_1) != a1) = false := bne_eq_false_iff_eq.mpr c12
        clear c12
        simp only [Option.some.injEq, Prod.mk.injEq] at H
        obtain ⟨rfl, rfl⟩ := H
        have p225 : 0 ≤ (x7_1 : Int) := od_
        have q225 : x7_1 < (l0.length : Int) := od_
        obtain ⟨ad225, e225, hx225_0⟩ := Kd.at_int HR0.out x7_1 p225 q225
        cases e225
        replace p225 := eq_true p225
        replace q225 := eq_true q225
        go_wp2
        go_ret2
        exact ⟨by first | rfl | (simp; done) | (simp [*]; done), by repeat (first | exact Drawn0.refl _ | apply Drawn0.step)⟩
       ·rw [if_neg c12] at H
        have c12b0 : ((rd l0 x7_1) == a1) = false := beq_eq_false_iff_ne.mpr c12
        have c12b1 : ((rd l0 x7_1) != a1) = true := bne_iff_ne.mpr c12
        replace H := Option.bind_eq_some_iff.mp H
        obtain ⟨t227, A130, H⟩ := H
        replace H : (if t227 = true then ((slices_isNaN_int.f a1).bind fun t228 => (some (x7_1, t228))) else (some (x7_1, false))) = some (r1, r2) := H
        have A13 := Aside0.mk A130
        clear A130
        by_cases c14 : t227 = true
        ·subst c14
         have H1 : ((slices_isNaN_int.f a1).bind fun t228 => (some (x7_1, t228))) = some (r1, r2) := by rw [if_pos rfl] at H; exact H
         clear H
         have H := H1
         clear H1
         replace H := Option.bind_eq_some_iff.mp H
         obtain ⟨t228, A150, H⟩ := H
         replace H : (some (x7_1, t228)) = some (r1, r2) := H
         have A15 := Aside0.mk A150
         clear A150
         simp only [Option.some.injEq, Prod.mk.injEq] at H
         obtain ⟨rfl, rfl⟩ := H
         have p225 : 0 ≤ (x7_1 : Int) := od_
         have q225 : x7_1 < (l0.length : Int) := od_
         obtain ⟨ad225, e225, hx225_0⟩ := Kd.at_int HR0.out x7_1 p225 q225
         cases e225
         replace p225 := eq_true p225
         replace q225 := eq_true q225
         have p226 : 0 ≤ (x7_1 : Int) := od_
         have q226 : x7_1 < (l0.length : Int) := od_
         obtain ⟨ad226, e226, hx226_0⟩ := Kd.at_int HR0.out x7_1 p226 q226
         obtain rfl : ad225 = ad226 := (by injection e226)
         replace p226 := eq_true p226
         replace q226 := eq_true q226
         go_wp2_with (first | (go_at_call 46; (with_reducible refine (slices_isNaN_int.calls (rd l0 x7_1) true _ A13.out).mono ?_); rintro e w' ⟨rfl, ⟨nd, rfl⟩⟩) | (go_at_call 46; (with_reducible refine (slices_isNaN_int.calls a1 t228 _ A15.out).mono ?_); rintro e w' ⟨rfl, ⟨nd, rfl⟩⟩))
         go_ret2
         exact ⟨by first | rfl | (simp; done) | (simp [*]; done), by repeat (first | exact Drawn0.refl _ | apply Drawn0.step)⟩
        ·replace c14 := Bool.eq_false_iff.mpr c14
         subst c14
         have H1 : (some (x7_1, false)) = some (r1, r2) := by rw [if_neg (show ¬ (false = true) by decide)] at H; exact H
         clear H
         have H := H1
         clear H1
         simp only [Option.some.injEq, Prod.mk.injEq] at H
         obtain ⟨rfl, rfl⟩ := H
         have p225 : 0 ≤ (x7_1 : Int) := od_
         have q225 : x7_1 < (l0.length : Int) := od_
         obtain ⟨ad225, e225, hx225_0⟩ := Kd.at_int HR0.out x7_1 p225 q225
         cases e225
         replace p225 := eq_true p225
         replace q225 := eq_true q225
         have p226 : 0 ≤ (x7_1 : Int) := od_
         have q226 : x7_1 < (l0.length : Int) := od_
         obtain ⟨ad226, e226, hx226_0⟩ := Kd.at_int HR0.out x7_1 p226 q226
         obtain rfl : ad225 = ad226 := (by injection e226)
         replace p226 := eq_true p226
         replace q226 := eq_true q226
         go_wp2_with (first | (go_at_call 46; (with_reducible refine (slices_isNaN_int.calls (rd l0 x7_1) false _ A13.out).mono ?_); rintro e w' ⟨rfl, ⟨nd, rfl⟩⟩))
         go_ret2
         exact ⟨by first | rfl | (simp; done) | (simp [*]; done), by repeat (first | exact Drawn0.refl _ | apply Drawn0.step)⟩
      ·rw [if_neg c11] at H
       exact absurd H (by simp)
     ·rw [if_neg c10] at H
      exact absurd H (by simp)
    ·rw [if_neg c9] at H
     have c9b0 : decide (x7_1 < (l0.length : Int)) = false := decide_eq_false c9
     clear c9
     simp only [Option.some.injEq, Prod.mk.injEq] at H
     obtain ⟨rfl, rfl⟩ := H
     go_wp2
     go_ret2
     exact ⟨by first | rfl | (simp; done) | (simp [*]; done), by repeat (first | exact Drawn0.refl _ | apply Drawn0.step)⟩

-- NOT PRINTED: function 40 (counter_Until_1)

end Go.Proofs.Ytkbekdjoaibhbaa.PPairRuns
