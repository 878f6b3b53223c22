-- out of a turned copy of the print, by a program of this session; Lean checks it
import Derived.Test.YtkinnaegedbanaaPTagCodesx0
import Derived.Test.YtkinnaegedbanaaPTagCodesx7
namespace Go.Proofs.Ytkinnaegedbanaa.PTagCodes
open Go.RowKit Go.Proofs.YtkinnaegedbanaaW.PrintWords Go.Proofs.YtkinnaegedbanaaW.PrintLast Go.Proofs.YtkinnaegedbanaaW.PrintMore
attribute [local go_sem] max2_int min2_int max_two min_two max_three min_three max_four min_four   -- for this text's walks alone
set_option linter.unusedVariables false
set_option linter.unusedSimpArgs false

attribute [local go_sem] isSome_put_
/-! ### standstillref07_ToCyclic: function 39 -/
def standstillref07_ToCyclic.l0 : Nat → Int → Int → Int → List (List Int) → List Bool → List (List Int) → Option ((List (List Int)))
 | 0, _, _, _, _, _, _ => none
 | k + 1, x3, x5, x240000, x240001, x240002, x242000 => if x5 < (wrap64 (x240000 * x3)) then (if x5 < x3 then (if 0 ≤ x5 then (if x5 < (x240002.length : Int) then (if rdOf false x240002 x5 = true then (if x242000.length < 5864062014805 then (standstillref07_ToCyclic.l0 k x3 (wrap64 (x5 + 1)) x240000 x240001 x240002 (x242000 ++ [([] : List Int)])) else (none)) else (if x5 < (x240001.length : Int) then ((standstillref07_Bits.f k (rd_L1 x240001 x5) x3).bind fun t247 => (if x242000.length < 5864062014805 then (standstillref07_ToCyclic.l0 k x3 (wrap64 (x5 + 1)) x240000 x240001 x240002 (x242000 ++ [t247])) else (none))) else (none))) else (none)) else (none)) else (if x242000.length < 5864062014805 then (standstillref07_ToCyclic.l0 k x3 (wrap64 (x5 + 1)) x240000 x240001 x240002 (x242000 ++ [([] : List Int)])) else (none))) else (some x242000)
def standstillref07_ToCyclic.f (k : Nat) (a0_0 : Int) (l0_1 : List (List Int)) (l0_2 : List Bool) : Option ((List (List Int))) := standstillref07_ToCyclic.l0 k (l0_1.length : Int) 0 a0_0 l0_1 l0_2 ([] : List (List Int))
theorem standstillref07_ToCyclic.mono_l : ∀ k, (∀ y0 y1 y2 y3 y4 y5, LeO (standstillref07_ToCyclic.l0 k y0 y1 y2 y3 y4 y5) (standstillref07_ToCyclic.l0 (k + 1) y0 y1 y2 y3 y4 y5))
 | 0 => fun _ _ _ _ _ _ r h => by simp [standstillref07_ToCyclic.l0] at h
 | k + 1 => by
  have ih0 := standstillref07_ToCyclic.mono_l k
  ·intro y0 y1 y2 y3 y4 y5
   unfold standstillref07_ToCyclic.l0
   repeat' first
   | (with_reducible exact ih0 _ _ _ _ _ _)
   | (with_reducible exact standstillref07_Bits.mono _ _ _)
   | (with_reducible exact LeO.refl _)
   | (with_reducible exact LeO.none _)
   | (with_reducible refine LeO.ite ?_ ?_)
   | (with_reducible refine LeO.bind ?_ (fun _ => ?_))
   | exact ih0 _ _ _ _ _ _
   | exact standstillref07_Bits.mono _ _ _
   | exact LeO.none _
   | refine LeO.ite ?_ ?_
   | refine LeO.bind ?_ (fun _ => ?_)
theorem standstillref07_ToCyclic.mono : ∀ a0 a1 a2 k, LeO (standstillref07_ToCyclic.f k a0 a1 a2) (standstillref07_ToCyclic.f (k + 1) a0 a1 a2) := by
 intro a0 a1 a2 k
 have ih0 := standstillref07_ToCyclic.mono_l k
 unfold standstillref07_ToCyclic.f
 repeat' first
   | (with_reducible exact ih0 _ _ _ _ _ _)
   | (with_reducible exact standstillref07_Bits.mono _ _ _)
   | (with_reducible exact LeO.refl _)
   | (with_reducible exact LeO.none _)
   | (with_reducible refine LeO.ite ?_ ?_)
   | (with_reducible refine LeO.bind ?_ (fun _ => ?_))
   | exact ih0 _ _ _ _ _ _
   | exact standstillref07_Bits.mono _ _ _
   | exact LeO.none _
   | refine LeO.ite ?_ ?_
   | refine LeO.bind ?_ (fun _ => ?_)
set_option maxHeartbeats 8000000 in
set_option maxRecDepth 100000 in
theorem standstillref07_ToCyclic.calls (k : Nat) (a0_0 : Int) (A0_1 : Option Addr) (c0_1 : Nat) (l0_1 : List (List Int)) (A0_2 : Option Addr) (c0_2 : Nat) (l0_2 : List Bool) (r : List (List Int)) (w : World) (hr0_1 : Kd.C (Kd.slice 3 (Kd.int .i64)) w A0_1 l0_1.length l0_1) (hc0_1 : l0_1.length ≤ c0_1) (hr0_2 : Kd.C Kd.bool w A0_2 l0_2.length l0_2) (hc0_2 : l0_2.length ≤ c0_2) (h : standstillref07_ToCyclic.f k a0_0 l0_1 l0_2 = some r) :
  Calls Try.prog 39 #[.agg #[.int .i64 a0_0, .slice A0_1 l0_1.length c0_1, .slice A0_2 l0_2.length c0_2]] w fun e w' => ∃ v0_ : Value, e = .returned (.agg #[v0_]) ∧ Kd.S (Kd.slice 3 (Kd.int .i64)) 26 w' w.heap.size (fun _ => True) v0_ r ∧ Below w.heap.size w w' := by
 have hu25 := Try.underlying25
 have hu45 := Try.underlying45
 have HR0_1 := Aside0.mk hr0_1
 have HC0_1 := Aside0.mk hc0_1
 clear hr0_1 hc0_1
 have HR0_2 := Aside0.mk hr0_2
 have HC0_2 := Aside0.mk hc0_2
 clear hr0_2 hc0_2
 have HB := A_ (Below.refl w.heap.size w)
 have H : (standstillref07_ToCyclic.l0 k (l0_1.length : Int) 0 a0_0 l0_1 l0_2 ([] : List (List Int))) = some r := h
 clear h
 have H' := Aside0.mk H
 clear H
 go_enter Try.func39, Try.ntmps39
 go_wp2_with (first | ((with_reducible refine gate_dst (N := 1) rfl ?_); refine box_event ?hg (N := 1) ?hd (cs := #[.int .i64 a0_0, .slice A0_1 l0_1.length c0_1, .slice A0_2 l0_2.length c0_2]) (t := 25) ?hr ?_; (case hd => rfl); (case hg => rfl); (case hr => first | (go_simp; done) | (go_simp; rfl)); intro gb239 hg w2 hbox hb; have n0_ := A_ (below_step (bk_ HB.out) hb); have n1_ := A_ (hbox); have n2_ := A_ ((by rw [hg]; exact (below_size (bk_ HB.out)) : w.heap.size ≤ gb239)); have n3_ := A_ ((by rw [hg]; exact (below_size (bk_ HB.out)) : w.heap.size ≤ gb239)); clear HB; have HB := n0_; have BK239 := n1_; have GW239 := n2_; have GE239 := n3_; clear n0_ n1_ n2_ n3_ hb hbox hg) | ((with_reducible refine gate_dst (N := 2) rfl ?_); refine box_event ?hg (N := 2) ?hd (cs := #[.slice none 0 0]) (t := 45) ?hr ?_; (case hd => rfl); (case hg => rfl); (case hr => first | (go_simp; done) | (go_simp; rfl)); intro gb240 hg w3 hbox hb; have n0_ := A_ (blk_below (pk_ BK239.out) hb); have n1_ := A_ (below_step (bk_ HB.out) hb); have n2_ := A_ (hbox); have n3_ := A_ ((by rw [hg]; exact (below_size (bk_ HB.out)) : w.heap.size ≤ gb240)); have n4_ := A_ ((by rw [hg]; exact (below_size (bk_ HB.out)) : w.heap.size ≤ gb240)); have n5_ := A_ ((by rw [hg]; exact Nat.ne_of_lt (blk_lt (pk_ BK239.out)) : gb239 ≠ gb240)); have n6_ := A_ ((by rw [hg]; exact Nat.ne_of_gt (blk_lt (pk_ BK239.out)) : gb240 ≠ gb239)); clear BK239 HB; have BK239 := n0_; have HB := n1_; have BK240 := n2_; have GW240 := n3_; have GE240 := n4_; have NB239_240 := n5_; have NB240_239 := n6_; clear n0_ n1_ n2_ n3_ n4_ n5_ n6_ hb hbox hg; have hnb4 := NB239_240.out; have hnc4 := NB240_239.out; have hcz5_0 : w3.cell? ⟨gb239, 0, none⟩ = some (.int .i64 a0_0) := (blk_cell BK239.out 0).trans rfl; have hcz5_1 : w3.cell? ⟨gb239, 1, none⟩ = some (.slice A0_1 l0_1.length c0_1) := (blk_cell BK239.out 1).trans rfl; have hcz5_2 : w3.cell? ⟨gb239, 2, none⟩ = some (.slice A0_2 l0_2.length c0_2) := (blk_cell BK239.out 2).trans rfl; have hfz5_0 := blk_frozen BK239.out 0; have hfz5_1 := blk_frozen BK239.out 1; have hfz5_2 := blk_frozen BK239.out 2) | ((with_reducible refine gate_dst (N := 4) rfl ?_); refine box_event ?hg (N := 4) ?hd (cs := #[.slice none 0 0]) (t := 45) ?hr ?_; (case hd => rfl); (case hg => rfl); (case hr => first | (go_simp; done) | (go_simp; rfl)); intro gb241 hg w6 hbox hb; have n0_ := A_ (blk_below (pk_ BK239.out) hb); have n1_ := A_ (blk_below (pk_ BK240.out) hb); have n2_ := A_ (below_step (bk_ HB.out) hb); have n3_ := A_ (hbox); have n4_ := A_ ((by rw [hg]; exact (below_size (bk_ HB.out)) : w.heap.size ≤ gb241)); have n5_ := A_ ((by rw [hg]; exact (below_size (bk_ HB.out)) : w.heap.size ≤ gb241)); have n6_ := A_ ((by rw [hg]; exact Nat.ne_of_lt (blk_lt (pk_ BK239.out)) : gb239 ≠ gb241)); have n7_ := A_ ((by rw [hg]; exact Nat.ne_of_gt (blk_lt (pk_ BK239.out)) : gb241 ≠ gb239)); have n8_ := A_ ((by rw [hg]; exact Nat.ne_of_lt (blk_lt (pk_ BK240.out)) : gb240 ≠ gb241)); have n9_ := A_ ((by rw [hg]; exact Nat.ne_of_gt (blk_lt (pk_ BK240.out)) : gb241 ≠ gb240)); clear BK239 BK240 HB; have BK239 := n0_; have BK240 := n1_; have HB := n2_; have BK241 := n3_; have GW241 := n4_; have GE241 := n5_; have NB239_241 := n6_; have NB241_239 := n7_; have NB240_241 := n8_; have NB241_240 := n9_; clear n0_ n1_ n2_ n3_ n4_ n5_ n6_ n7_ n8_ n9_ hb hbox hg))
 go_loopg [5] k (fun kq v5 w' => ∃ (x5_1 : Int) (x242000_1 : List (List Int)) (u242000 : Value), v5 = .int .i64 x5_1 ∧ Aside0 (standstillref07_ToCyclic.l0 kq (l0_1.length : Int) x5_1 a0_0 l0_1 l0_2 x242000_1 = some r) ∧ Aside0 (kq ≤ k) ∧ Aside0 (Kd.S (Kd.slice 3 (Kd.int .i64)) 26 w' w.heap.size (fun _ => True) u242000 x242000_1) ∧ Aside0 (w'.heap[gb239]? = some (.cells #[.int .i64 a0_0, (.slice A0_1 l0_1.length c0_1), (.slice A0_2 l0_2.length c0_2)] 25 (0, 0))) ∧ Aside0 (w'.heap[gb240]? = some (.cells #[(.slice none 0 0)] 45 (0, 0))) ∧ Aside0 (w'.heap[gb241]? = some (.cells #[u242000] 45 (0, 0))) ∧ Aside0 (Below w.heap.size w w'))
 case atStart => exact ⟨(0), (([] : List (List Int))), (.slice none 0 0), jr_, H', ⟨Nat.le_refl _⟩, ⟨by first | exact Kd.S_nil _ _ _ _ _ | exact Kd.N_nil _ _ _ _ _ | exact Kd.V_nil _ _ _ _ _ | exact Kd.Q_nil _ _ _ _ _ | exact Kd.R_nil _ _ _ _ _⟩, ⟨pk_ BK239.out⟩, ⟨pk_ BK240.out⟩, ⟨pk_ BK241.out⟩, ⟨bk_ HB.out⟩⟩
 case round =>
  clear H'
  (try clear hcz5_0); (try clear hcz5_1); (try clear hcz5_2); (try clear hfz5_0); (try clear hfz5_1); (try clear hfz5_2)
  obtain ⟨x5_1, x242000_1, u242000, rfl, HA, HK1, HO_242000, BK239, BK240, BK241, HB⟩ := hrel
  cases gk with
  | zero => exact absurd HA.out (by simp [standstillref07_ToCyclic.l0])
  | succ k1 =>
   have H := HA.out
   clear HA
   simp only [standstillref07_ToCyclic.l0] at H
   by_cases c7 : x5_1 < (wrap64 (a0_0 * (l0_1.length : Int)))
   ·rw [if_pos c7] at H
    have c7b0 : decide (x5_1 < (wrap64 (a0_0 * (l0_1.length : Int)))) = true := decide_eq_true c7
    clear c7
    by_cases c8 : x5_1 < (l0_1.length : Int)
    ·rw [if_pos c8] at H
     have c8b0 : decide (x5_1 < (l0_1.length : Int)) = true := decide_eq_true c8
     clear c8
     by_cases c9 : 0 ≤ x5_1
     ·rw [if_pos c9] at H
      have c9b0 : decide (0 ≤ x5_1) = true := decide_eq_true c9
      clear c9
      by_cases c10 : x5_1 < (l0_2.length : Int)
      ·rw [if_pos c10] at H
       have c10b0 : decide (x5_1 < (l0_2.length : Int)) = true := decide_eq_true c10
       clear c10
       obtain ⟨bq11, hbq11⟩ : ∃ b_ : Bool, b_ = (rdOf false l0_2 x5_1) := ⟨_, rfl⟩
       replace H : (if bq11 = true then (if x242000_1.length < 5864062014805 then (standstillref07_ToCyclic.l0 k1 (l0_1.length : Int) (wrap64 (x5_1 + 1)) a0_0 l0_1 l0_2 (x242000_1 ++ [([] : List Int)])) else (none)) else (if x5_1 < (l0_1.length : Int) then ((standstillref07_Bits.f k1 (rd_L1 l0_1 x5_1) (l0_1.length : Int)).bind fun t247 => (if x242000_1.length < 5864062014805 then (standstillref07_ToCyclic.l0 k1 (l0_1.length : Int) (wrap64 (x5_1 + 1)) a0_0 l0_1 l0_2 (x242000_1 ++ [t247])) else (none))) else (none))) = some r := by rw [← hbq11] at H; exact H
       have Nbq11 := Aside0.mk hbq11
       clear hbq11
       by_cases c12 : bq11 = true
       ·subst c12
        have H1 : (if x242000_1.length < 5864062014805 then (standstillref07_ToCyclic.l0 k1 (l0_1.length : Int) (wrap64 (x5_1 + 1)) a0_0 l0_1 l0_2 (x242000_1 ++ [([] : List Int)])) else (none)) = some r := by rw [if_pos rfl] at H; exact H
        clear H
        have H := H1
        clear H1
        by_cases c13 : x242000_1.length < 5864062014805
        ·rw [if_pos c13] at H
         have LMc13 := Aside0.mk c13
         clear c13
         obtain ⟨y243, hy243⟩ : ∃ y_ : List (List Int), y_ = (x242000_1 ++ [([] : List Int)]) := ⟨_, rfl⟩
         replace H : (standstillref07_ToCyclic.l0 k1 (l0_1.length : Int) (wrap64 (x5_1 + 1)) a0_0 l0_1 l0_2 y243) = some r := by first | (rw [hy243]; with_reducible exact H) | (have H2_ := (Option.bind_some _ _).symm.trans H; rw [hy243]; with_reducible exact H2_) | (have H2_ := (Option.bind_some _ _).symm.trans H; with_reducible exact H2_) | with_reducible exact H | (rw [hy243]; exact H) | exact H
         have Ny243 := Aside0.mk hy243
         clear hy243
         have H' := Aside0.mk H
         clear H
         have hnb14 := NB239_240.out
         have hnc14 := NB240_239.out
         have hnb15 := NB239_241.out
         have hnc15 := NB241_239.out
         have hcz16_0 : wr.cell? ⟨gb239, 0, none⟩ = some (.int .i64 a0_0) := (blk_cell BK239.out 0).trans rfl
         have hcz16_1 : wr.cell? ⟨gb239, 1, none⟩ = some (.slice A0_1 l0_1.length c0_1) := (blk_cell BK239.out 1).trans rfl
         have hcz16_2 : wr.cell? ⟨gb239, 2, none⟩ = some (.slice A0_2 l0_2.length c0_2) := (blk_cell BK239.out 2).trans rfl
         have hfz16_0 := blk_frozen BK239.out 0
         have hfz16_1 := blk_frozen BK239.out 1
         have hfz16_2 := blk_frozen BK239.out 2
         have p242 : 0 ≤ (x5_1 : Int) := od_
         have q242 : x5_1 < (l0_2.length : Int) := od_
         obtain ⟨ad242, e242, hx242_0⟩ := Kd.at_bool HR0_2.out x5_1 p242 q242
         (try rw [← Nbq11.out] at hx242_0)
         cases e242
         replace hx242_0 := lf_ HB.out hx242_0
         replace p242 := eq_true p242
         replace q242 := eq_true q242
         have hnb17 := NB241_240.out
         have hnc17 := NB240_241.out
         have hcz18_0 : wr.cell? ⟨gb241, 0, none⟩ = some (u242000) := (blk_cell BK241.out 0).trans rfl
         have hfz18_0 := blk_frozen BK241.out 0
         go_wp2_with (first | ((with_reducible refine gate_builtin (b := .append) (xs := #[.tmp 37, .tmp 39]) rfl ?_); at_builtin; refine Kd.S_append (Kd.slice 3 (Kd.int .i64)) (w0 := w) w.heap.size rfl (.tmp 37) (.tmp 39) 22 26 (.slice none 0 0) 24 rfl Try.underlying22 info26 rfl (by decide) (by omega) u242000 x242000_1 ([] : List Int) [.slice none 0 0] (fun _ => True) (fun _ => False) rfl rfl ?aP (fun k_ hk_ => hk_.elim) ?aF ?aO ?aB ?aS ?aL ?_; (case aP => exact Kd.M_row (Kd.R_nil _ _ _ _ _)); (case aB => exact (bk_ HB.out)); (case aF => exact (fun _ _ => trivial)); (case aO => exact (by (with_reducible repeat (first | apply Kd.S_alloc | apply Kd.S_drewN | apply Kd.S_drew)); exact Kd.S_mono HO_242000.out (fun k_ hk => ⟨trivial, fun e_ => e_⟩))); (case aS => exact (below_size (bk_ HB.out))); (case aL => have := LMc13.out; omega); intro v244 w19 ho hb hg hat; rw [← Ny243.out] at ho; have n0_ := A_ (blk_grown (pk_ BK239.out) hg (Kd.S_ne HO_242000.out BK239.out (by decide))); have n1_ := A_ (blk_grown (pk_ BK240.out) hg (Kd.S_ne HO_242000.out BK240.out (by decide))); have n2_ := A_ (blk_grown (pk_ BK241.out) hg (Kd.S_ne HO_242000.out BK241.out (by decide))); have n3_ := A_ (hb); have n4_ := A_ (ho); clear BK239 BK240 BK241 HB HO_242000; have BK239 := n0_; have BK240 := n1_; have BK241 := n2_; have HB := n3_; have HO245 := n4_; clear n0_ n1_ n2_ n3_ n4_ ho hb hg hat; obtain ⟨Ao20, co20, eo20⟩ := Kd.S_slice HO245.out; subst eo20; have hcz21_0 : w19.cell? ⟨gb241, 0, none⟩ = some (u242000) := (blk_cell BK241.out 0).trans rfl; have hfz21_0 := blk_frozen BK241.out 0))
         go_roundg k1
         case measure => have := HK1.out; omega
         case rel => exact ⟨(wrap64 (x5_1 + 1)), (y243), (.slice Ao20 y243.length co20), jr_, H', ⟨by have := HK1.out; omega⟩, ⟨by (with_reducible repeat (first | apply Kd.S_alloc | apply Kd.S_drewN | apply Kd.S_drew)); exact Kd.S_mono (Kd.S_far (p := ⟨gb241, 0, none⟩) (Kd.S_types HO245.out BK241.out (by decide)) (fun _ hk => hk.2) (.slice Ao20 y243.length co20)) (fun _ hk => trivial)⟩, ⟨by (with_reducible repeat (first | refine blk_drewN ?_ _ | refine blk_drew ?_ | refine blk_alloc ?_ _)); refine blk_far ?_ NB239_241.out _; exact pk_ BK239.out⟩, ⟨by (with_reducible repeat (first | refine blk_drewN ?_ _ | refine blk_drew ?_ | refine blk_alloc ?_ _)); refine blk_far ?_ NB240_241.out _; exact pk_ BK240.out⟩, ⟨by (with_reducible repeat (first | refine blk_drewN ?_ _ | refine blk_drew ?_ | refine blk_alloc ?_ _)); refine blk_put (cs := #[u242000]) ?_ 0 _ rfl; exact pk_ BK241.out⟩, ⟨bk_ HB.out⟩⟩
        ·rw [if_neg c13] at H
         exact absurd H (by simp)
       ·replace c12 := Bool.eq_false_iff.mpr c12
        subst c12
        have H1 : (if x5_1 < (l0_1.length : Int) then ((standstillref07_Bits.f k1 (rd_L1 l0_1 x5_1) (l0_1.length : Int)).bind fun t247 => (if x242000_1.length < 5864062014805 then (standstillref07_ToCyclic.l0 k1 (l0_1.length : Int) (wrap64 (x5_1 + 1)) a0_0 l0_1 l0_2 (x242000_1 ++ [t247])) else (none))) else (none)) = some r := by rw [if_neg (show ¬ (false = true) by decide)] at H; exact H
        clear H
        have H := H1
        clear H1
        by_cases c22 : x5_1 < (l0_1.length : Int)
        ·rw [if_pos c22] at H
         have c22b0 : decide (x5_1 < (l0_1.length : Int)) = true := decide_eq_true c22
         clear c22
         replace H := Option.bind_eq_some_iff.mp H
         obtain ⟨t247, A230, H⟩ := H
         replace H : (if x242000_1.length < 5864062014805 then (standstillref07_ToCyclic.l0 k1 (l0_1.length : Int) (wrap64 (x5_1 + 1)) a0_0 l0_1 l0_2 (x242000_1 ++ [t247])) else (none)) = some r := H
         have A23 := Aside0.mk A230
         clear A230
         by_cases c24 : x242000_1.length < 5864062014805
         ·rw [if_pos c24] at H
          have LMc24 := Aside0.mk c24
          clear c24
          obtain ⟨y250, hy250⟩ : ∃ y_ : List (List Int), y_ = (x242000_1 ++ [t247]) := ⟨_, rfl⟩
          replace H : (standstillref07_ToCyclic.l0 k1 (l0_1.length : Int) (wrap64 (x5_1 + 1)) a0_0 l0_1 l0_2 y250) = some r := by first | (rw [hy250]; with_reducible exact H) | (have H2_ := (Option.bind_some _ _).symm.trans H; rw [hy250]; with_reducible exact H2_) | (have H2_ := (Option.bind_some _ _).symm.trans H; with_reducible exact H2_) | with_reducible exact H | (rw [hy250]; exact H) | exact H
          have Ny250 := Aside0.mk hy250
          clear hy250
          have H' := Aside0.mk H
          clear H
          have hnb25 := NB239_240.out
          have hnc25 := NB240_239.out
          have hnb26 := NB239_241.out
          have hnc26 := NB241_239.out
          have hcz27_0 : wr.cell? ⟨gb239, 0, none⟩ = some (.int .i64 a0_0) := (blk_cell BK239.out 0).trans rfl
          have hcz27_1 : wr.cell? ⟨gb239, 1, none⟩ = some (.slice A0_1 l0_1.length c0_1) := (blk_cell BK239.out 1).trans rfl
          have hcz27_2 : wr.cell? ⟨gb239, 2, none⟩ = some (.slice A0_2 l0_2.length c0_2) := (blk_cell BK239.out 2).trans rfl
          have hfz27_0 := blk_frozen BK239.out 0
          have hfz27_1 := blk_frozen BK239.out 1
          have hfz27_2 := blk_frozen BK239.out 2
          have p242 : 0 ≤ (x5_1 : Int) := od_
          have q242 : x5_1 < (l0_2.length : Int) := od_
          obtain ⟨ad242, e242, hx242_0⟩ := Kd.at_bool HR0_2.out x5_1 p242 q242
          (try rw [← Nbq11.out] at hx242_0)
          cases e242
          replace hx242_0 := lf_ HB.out hx242_0
          replace p242 := eq_true p242
          replace q242 := eq_true q242
          have p246 : 0 ≤ (x5_1 : Int) := od_
          have q246 : x5_1 < (l0_1.length : Int) := od_
          obtain ⟨ad246, A246_0, c246_0, e246, hx246_0, hl246_0, hi246_0⟩ := at_L1 HR0_1.out x5_1 p246 q246
          cases e246
          replace hx246_0 := lf_ HB.out hx246_0
          have HR246_0 := Aside0.mk hi246_0
          have HC246_0 := Aside0.mk hl246_0
          clear hi246_0 hl246_0
          replace p246 := eq_true p246
          replace q246 := eq_true q246
          go_wp2_with (first | ((with_reducible refine gate_callee (f := 40) rfl ?_); refine goesL_ (some 35) rfl rfl Try.func40 (by kernel_rfl) rfl #[.slice A246_0 (rd_L1 l0_1 x5_1).length c246_0, .int .i64 (l0_1.length : Int)] rfl gl_ ?_; (with_reducible refine (standstillref07_Bits.calls k1 _ _ (rd_L1 l0_1 x5_1) (l0_1.length : Int) t247 _ ?side1 ?side2 A23.out).mono ?_); (case side1 => exact ck_ (Kd.C_below HR246_0.out HB.out)); (case side2 => exact HC246_0.out); rintro e w28 ⟨v248, rfl, ho0, hb⟩; refine ⟨_, rfl, ?_⟩; have n0_ := A_ (Kd.S_elder' (by (with_reducible repeat (first | apply Kd.S_alloc | apply Kd.S_drewN | apply Kd.S_drew)); exact HO_242000.out) (Kd.R_base ho0) hb); have n1_ := A_ (Kd.R_lower ho0 (below_size (bk_ HB.out))); have n2_ := A_ (blk_below (pk_ BK239.out) hb); have n3_ := A_ (blk_below (pk_ BK240.out) hb); have n4_ := A_ (blk_below (pk_ BK241.out) hb); have n5_ := A_ (below_step (bk_ HB.out) hb); clear HO_242000 BK239 BK240 BK241 HB; have HO_242000 := n0_; have HO249 := n1_; have BK239 := n2_; have BK240 := n3_; have BK241 := n4_; have HB := n5_; clear n0_ n1_ n2_ n3_ n4_ n5_; (try clear hb); (try clear hb2); (try clear hk); (try clear hi); (try clear ho0); have hnb29 := NB241_240.out; have hnc29 := NB240_241.out; have hcz30_0 : w28.cell? ⟨gb241, 0, none⟩ = some (u242000) := (blk_cell BK241.out 0).trans rfl; have hfz30_0 := blk_frozen BK241.out 0; obtain ⟨Ao32, co32, eo32⟩ := Kd.R_slice HO249.out; subst eo32) | ((with_reducible refine gate_builtin (b := .append) (xs := #[.tmp 37, .tmp 39]) rfl ?_); at_builtin; refine Kd.S_append (Kd.slice 3 (Kd.int .i64)) (w0 := w) w.heap.size rfl (.tmp 37) (.tmp 39) 22 26 (.slice none 0 0) 24 rfl Try.underlying22 info26 rfl (by decide) (by omega) u242000 x242000_1 t247 [.slice Ao32 t247.length co32] (fun _ => True) (fun k_ => some k_ = (.slice Ao32 t247.length co32 : Value).ownBlock) rfl rfl ?aP (fun k_ hk_ => ((Kd.R_mono (ok' := fun k_ => ((fun _ => True)) k_ ∧ some k_ ≠ (u242000 : Value).ownBlock) (Kd.R_apart' (HO249.out) (Kd.S_typed HO_242000.out) (by decide)) (fun k_ hk => ⟨trivial, hk.2⟩))).1 k_ hk_.symm) ?aF ?aO ?aB ?aS ?aL ?_; (case aP => exact Kd.M_row (Kd.R_mono (Kd.R_tight rfl (Kd.R_mono (ok' := fun k_ => ((fun _ => True)) k_ ∧ some k_ ≠ (u242000 : Value).ownBlock) (Kd.R_apart' (HO249.out) (Kd.S_typed HO_242000.out) (by decide)) (fun k_ hk => ⟨trivial, hk.2⟩))) (fun _ h_ => h_))); (case aB => exact (bk_ HB.out)); (case aF => exact (fun _ _ => trivial)); (case aO => exact (by (with_reducible repeat (first | apply Kd.S_alloc | apply Kd.S_drewN | apply Kd.S_drew)); exact Kd.S_mono HO_242000.out (fun k_ hk => ⟨trivial, fun e_ => hk.2 e_⟩))); (case aS => exact (below_size (bk_ HB.out))); (case aL => have := LMc24.out; omega); intro v251 w31 ho hb hg hat; rw [← Ny250.out] at ho; have n0_ := A_ (blk_grown (pk_ BK239.out) hg (Kd.S_ne HO_242000.out BK239.out (by decide))); have n1_ := A_ (blk_grown (pk_ BK240.out) hg (Kd.S_ne HO_242000.out BK240.out (by decide))); have n2_ := A_ (blk_grown (pk_ BK241.out) hg (Kd.S_ne HO_242000.out BK241.out (by decide))); have n3_ := A_ (hb); have n4_ := A_ (ho); clear BK239 BK240 BK241 HB HO_242000 HO249; have BK239 := n0_; have BK240 := n1_; have BK241 := n2_; have HB := n3_; have HO252 := n4_; clear n0_ n1_ n2_ n3_ n4_ ho hb hg hat; obtain ⟨Ao33, co33, eo33⟩ := Kd.S_slice HO252.out; subst eo33; have hcz34_0 : w31.cell? ⟨gb241, 0, none⟩ = some (u242000) := (blk_cell BK241.out 0).trans rfl; have hfz34_0 := blk_frozen BK241.out 0))
          go_roundg k1
          case measure => have := HK1.out; omega
          case rel => exact ⟨(wrap64 (x5_1 + 1)), (y250), (.slice Ao33 y250.length co33), jr_, H', ⟨by have := HK1.out; omega⟩, ⟨by (with_reducible repeat (first | apply Kd.S_alloc | apply Kd.S_drewN | apply Kd.S_drew)); exact Kd.S_mono (Kd.S_far (p := ⟨gb241, 0, none⟩) (Kd.S_types HO252.out BK241.out (by decide)) (fun _ hk => hk.2) (.slice Ao33 y250.length co33)) (fun _ hk => trivial)⟩, ⟨by (with_reducible repeat (first | refine blk_drewN ?_ _ | refine blk_drew ?_ | refine blk_alloc ?_ _)); refine blk_far ?_ NB239_241.out _; exact pk_ BK239.out⟩, ⟨by (with_reducible repeat (first | refine blk_drewN ?_ _ | refine blk_drew ?_ | refine blk_alloc ?_ _)); refine blk_far ?_ NB240_241.out _; exact pk_ BK240.out⟩, ⟨by (with_reducible repeat (first | refine blk_drewN ?_ _ | refine blk_drew ?_ | refine blk_alloc ?_ _)); refine blk_put (cs := #[u242000]) ?_ 0 _ rfl; exact pk_ BK241.out⟩, ⟨bk_ HB.out⟩⟩
         ·rw [if_neg c24] at H
          exact absurd H (by simp)
        ·rw [if_neg c22] at H
         exact absurd H (by simp)
      ·rw [if_neg c10] at H
       exact absurd H (by simp)
     ·rw [if_neg c9] at H
      exact absurd H (by simp)
    ·rw [if_neg c8] at H
     have c8b0 : decide (x5_1 < (l0_1.length : Int)) = false := decide_eq_false c8
     clear c8
     by_cases c35 : x242000_1.length < 5864062014805
     ·rw [if_pos c35] at H
      have LMc35 := Aside0.mk c35
      clear c35
      obtain ⟨y253, hy253⟩ : ∃ y_ : List (List Int), y_ = (x242000_1 ++ [([] : List Int)]) := ⟨_, rfl⟩
      replace H : (standstillref07_ToCyclic.l0 k1 (l0_1.length : Int) (wrap64 (x5_1 + 1)) a0_0 l0_1 l0_2 y253) = some r := by first | (rw [hy253]; with_reducible exact H) | (have H2_ := (Option.bind_some _ _).symm.trans H; rw [hy253]; with_reducible exact H2_) | (have H2_ := (Option.bind_some _ _).symm.trans H; with_reducible exact H2_) | with_reducible exact H | (rw [hy253]; exact H) | exact H
      have Ny253 := Aside0.mk hy253
      clear hy253
      have H' := Aside0.mk H
      clear H
      have hnb36 := NB239_240.out
      have hnc36 := NB240_239.out
      have hnb37 := NB239_241.out
      have hnc37 := NB241_239.out
      have hcz38_0 : wr.cell? ⟨gb239, 0, none⟩ = some (.int .i64 a0_0) := (blk_cell BK239.out 0).trans rfl
      have hcz38_1 : wr.cell? ⟨gb239, 1, none⟩ = some (.slice A0_1 l0_1.length c0_1) := (blk_cell BK239.out 1).trans rfl
      have hcz38_2 : wr.cell? ⟨gb239, 2, none⟩ = some (.slice A0_2 l0_2.length c0_2) := (blk_cell BK239.out 2).trans rfl
      have hfz38_0 := blk_frozen BK239.out 0
      have hfz38_1 := blk_frozen BK239.out 1
      have hfz38_2 := blk_frozen BK239.out 2
      have hnb39 := NB241_240.out
      have hnc39 := NB240_241.out
      have hcz40_0 : wr.cell? ⟨gb241, 0, none⟩ = some (u242000) := (blk_cell BK241.out 0).trans rfl
      have hfz40_0 := blk_frozen BK241.out 0
      go_wp2_with (first | ((with_reducible refine gate_builtin (b := .append) (xs := #[.tmp 37, .tmp 39]) rfl ?_); at_builtin; refine Kd.S_append (Kd.slice 3 (Kd.int .i64)) (w0 := w) w.heap.size rfl (.tmp 37) (.tmp 39) 22 26 (.slice none 0 0) 24 rfl Try.underlying22 info26 rfl (by decide) (by omega) u242000 x242000_1 ([] : List Int) [.slice none 0 0] (fun _ => True) (fun _ => False) rfl rfl ?aP (fun k_ hk_ => hk_.elim) ?aF ?aO ?aB ?aS ?aL ?_; (case aP => exact Kd.M_row (Kd.R_nil _ _ _ _ _)); (case aB => exact (bk_ HB.out)); (case aF => exact (fun _ _ => trivial)); (case aO => exact (by (with_reducible repeat (first | apply Kd.S_alloc | apply Kd.S_drewN | apply Kd.S_drew)); exact Kd.S_mono HO_242000.out (fun k_ hk => ⟨trivial, fun e_ => e_⟩))); (case aS => exact (below_size (bk_ HB.out))); (case aL => have := LMc35.out; omega); intro v254 w41 ho hb hg hat; rw [← Ny253.out] at ho; have n0_ := A_ (blk_grown (pk_ BK239.out) hg (Kd.S_ne HO_242000.out BK239.out (by decide))); have n1_ := A_ (blk_grown (pk_ BK240.out) hg (Kd.S_ne HO_242000.out BK240.out (by decide))); have n2_ := A_ (blk_grown (pk_ BK241.out) hg (Kd.S_ne HO_242000.out BK241.out (by decide))); have n3_ := A_ (hb); have n4_ := A_ (ho); clear BK239 BK240 BK241 HB HO_242000; have BK239 := n0_; have BK240 := n1_; have BK241 := n2_; have HB := n3_; have HO255 := n4_; clear n0_ n1_ n2_ n3_ n4_ ho hb hg hat; obtain ⟨Ao42, co42, eo42⟩ := Kd.S_slice HO255.out; subst eo42; have hcz43_0 : w41.cell? ⟨gb241, 0, none⟩ = some (u242000) := (blk_cell BK241.out 0).trans rfl; have hfz43_0 := blk_frozen BK241.out 0))
      go_roundg k1
      case measure => have := HK1.out; omega
      case rel => exact ⟨(wrap64 (x5_1 + 1)), (y253), (.slice Ao42 y253.length co42), jr_, H', ⟨by have := HK1.out; omega⟩, ⟨by (with_reducible repeat (first | apply Kd.S_alloc | apply Kd.S_drewN | apply Kd.S_drew)); exact Kd.S_mono (Kd.S_far (p := ⟨gb241, 0, none⟩) (Kd.S_types HO255.out BK241.out (by decide)) (fun _ hk => hk.2) (.slice Ao42 y253.length co42)) (fun _ hk => trivial)⟩, ⟨by (with_reducible repeat (first | refine blk_drewN ?_ _ | refine blk_drew ?_ | refine blk_alloc ?_ _)); refine blk_far ?_ NB239_241.out _; exact pk_ BK239.out⟩, ⟨by (with_reducible repeat (first | refine blk_drewN ?_ _ | refine blk_drew ?_ | refine blk_alloc ?_ _)); refine blk_far ?_ NB240_241.out _; exact pk_ BK240.out⟩, ⟨by (with_reducible repeat (first | refine blk_drewN ?_ _ | refine blk_drew ?_ | refine blk_alloc ?_ _)); refine blk_put (cs := #[u242000]) ?_ 0 _ rfl; exact pk_ BK241.out⟩, ⟨bk_ HB.out⟩⟩
     ·rw [if_neg c35] at H
      exact absurd H (by simp)
   ·rw [if_neg c7] at H
    have c7b0 : decide (x5_1 < (wrap64 (a0_0 * (l0_1.length : Int)))) = false := decide_eq_false c7
    clear c7
    obtain rfl := Option.some.inj H
    have hnb44 := NB239_240.out
    have hnc44 := NB240_239.out
    have hnb45 := NB239_241.out
    have hnc45 := NB241_239.out
    have hcz46_0 : wr.cell? ⟨gb239, 0, none⟩ = some (.int .i64 a0_0) := (blk_cell BK239.out 0).trans rfl
    have hcz46_1 : wr.cell? ⟨gb239, 1, none⟩ = some (.slice A0_1 l0_1.length c0_1) := (blk_cell BK239.out 1).trans rfl
    have hcz46_2 : wr.cell? ⟨gb239, 2, none⟩ = some (.slice A0_2 l0_2.length c0_2) := (blk_cell BK239.out 2).trans rfl
    have hfz46_0 := blk_frozen BK239.out 0
    have hfz46_1 := blk_frozen BK239.out 1
    have hfz46_2 := blk_frozen BK239.out 2
    have hnb47 := NB241_240.out
    have hnc47 := NB240_241.out
    have hcz48_0 : wr.cell? ⟨gb241, 0, none⟩ = some (u242000) := (blk_cell BK241.out 0).trans rfl
    have hfz48_0 := blk_frozen BK241.out 0
    obtain ⟨Ao49, co49, eo49⟩ := Kd.S_slice HO_242000.out
    subst eo49
    have hcz50_0 : wr.cell? ⟨gb240, 0, none⟩ = some (.slice none 0 0) := (blk_cell BK240.out 0).trans rfl
    have hfz50_0 := blk_frozen BK240.out 0
    go_wp2
    refine bodyPost_ret (results_cell_row rfl _ _ gb240 45 #[.slice Ao49 x242000_1.length co49] (0, 0) _ rfl (by (with_reducible repeat (first | refine blk_drewN ?_ _ | refine blk_drew ?_ | refine blk_alloc ?_ _)); refine blk_put (cs := #[.slice none 0 0]) ?_ 0 _ rfl; exact pk_ BK240.out) Try.underlying45 rfl (by kernel_rfl)) rfl ?_
    exact ⟨_, by first | rfl | (simp [errW_none, errW_some] <;> rfl) | (simp [*, errW_none, errW_some] <;> rfl), by (with_reducible repeat (first | apply Kd.S_alloc | apply Kd.S_drewN | apply Kd.S_drew)); exact Kd.S_mono (Kd.S_far (p := ⟨gb240, 0, none⟩) (Kd.S_types HO_242000.out BK240.out (by decide)) (fun _ hk => hk.2) (.slice Ao49 x242000_1.length co49)) (fun _ hk => trivial), bk_ HB.out⟩

end Go.Proofs.Ytkinnaegedbanaa.PTagCodes
