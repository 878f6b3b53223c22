-- out of a turned copy of the print, by a program of this session; Lean checks it
import Derived.Test.YtkbekdjoaibhbaaProg
import Derived.Below
import Derived.Deep.Draws
import Derived.Deep.AppendLies
import Derived.Maps.AppendAt
import Derived.OwnWalk
import Derived.Laws.BytesArg
import Derived.Laws.MakeOwn
import Derived.Laws.OwnMore
import Derived.Deep.OwnRows
import Derived.Tactics
import Derived.Lib.ConvBytes
import Derived.Laws.Slices
import Derived.WalkKit
import Derived.KernelRfl
import Derived.RowKit3
import Derived.Deep.LoopGhost
import Derived.Deep.QuietTactic
import Derived.BigQuiet
import Derived.WideLaws
import Derived.Deep.DeepCutAuto
import Derived.Deep.CutBlock
import Derived.Deep.RegionHeld3
import Derived.Laws.Rows
import Derived.Lib.AppendStr
import Derived.ArgAppend
import Derived.Laws.IdiomCopy
import Derived.OrdersHeld
import Derived.Laws.BitsLemmas
import Derived.RowKit
import Derived.Lib.SliceRun
import Derived.Laws.EntriesVeiled
import Derived.DeepKeys5
import Derived.Laws.CopyOwn
import Derived.Test.YtkbekdjoaibhbaaTWWords
import Derived.Test.YtkbekdjoaibhbaaTWLast
import Derived.Test.YtkbekdjoaibhbaaTWTab
import Derived.Test.YtkbekdjoaibhbaaTWFour
import Derived.Test.YtkbekdjoaibhbaaTWQPut
import Derived.Test.YtkbekdjoaibhbaaTWApart
import Derived.Test.YtkbekdjoaibhbaaTWArr
import Derived.Test.YtkbekdjoaibhbaaTWZeros
import Derived.Test.YtkbekdjoaibhbaaTWFoot
import Derived.Test.YtkbekdjoaibhbaaTWKept
import Derived.Test.YtkbekdjoaibhbaaTWShare
import Derived.Test.YtkbekdjoaibhbaaTWN
import Derived.Test.YtkbekdjoaibhbaaTWFootNe
import Derived.Test.YtkbekdjoaibhbaaTWAt
import Derived.Test.YtkbekdjoaibhbaaTWEqStruct
import Derived.Test.YtkbekdjoaibhbaaTWRepsOne
import Derived.Test.YtkbekdjoaibhbaaTWInv
import Derived.Test.YtkbekdjoaibhbaaTWInvWords
import Derived.Test.YtkbekdjoaibhbaaTWGuard
import Derived.Test.YtkbekdjoaibhbaaTWNEv
import Derived.Test.YtkbekdjoaibhbaaTWMore
namespace Go.Proofs.Ytkbekdjoaibhbaa.PPairRuns
open Go.RowKit Go.Proofs.YtkbekdjoaibhbaaW.PrintWords Go.Proofs.YtkbekdjoaibhbaaW.PrintLast Go.Proofs.YtkbekdjoaibhbaaW.PrintMore
attribute [local go_sem] max2_int min2_int max_two min_two max_three min_three max_four min_four   -- for this text's walks alone
set_option linter.unusedVariables false
set_option linter.unusedSimpArgs false



def errW : Option Int → Value
  | none => .nilIface
  | some c => .iface 0 (.int .i64 c)
theorem errW_none : errW none = .nilIface := rfl
theorem errW_some (c : Int) : errW (some c) = .iface 0 (.int .i64 c) := rfl

theorem info3 : (Try.prog.info? 3).map (fun i => (i.zero, i.size, i.bytes)) = some (some (.int .i64 0), 1, 8) := by kernel_rfl
theorem info45 : (Try.prog.info? 45).map (fun i => (i.zero, i.size, i.bytes)) = some (some (.agg #[(.int .i64 0), (.int .i64 0), (.int .i64 0), (.int .i64 0)]), 4, 32) := by kernel_rfl
-- the values' own types
def rd_L1 (xs : List (List Int)) (i : Int) : (List Int) := xs.getD i.toNat ([] : List Int)
theorem at_L1 {w : World} {A : Option Addr} {n : Nat} {xs : List (List Int)} (h : Kd.C (Kd.slice 3 (Kd.int .i64)) w A n xs) (i : Int) (h0 : 0 ≤ i) (h1 : i < n) : ∃ ad A0 c0, A = some ad ∧ w.cell? (ad.add i.toNat) = some (.slice A0 (rd_L1 xs i).length c0) ∧ (rd_L1 xs i).length ≤ c0 ∧ (Kd.int .i64).C w A0 (rd_L1 xs i).length (rd_L1 xs i) := by
  obtain ⟨ad, c, e, _, hK, hc0⟩ := Kd.C_get h ([] : List Int) i h0 h1
  have hc : ∀ j u, c[j]? = some u → w.cell? (ad.add (i.toNat * 1 + j)) = some u := hc0
  obtain ⟨A0, c0, rfl, l0, g0⟩ := hK
  exact ⟨ad, A0, c0, e, by have hq := hc 0 _ rfl; rwa [Nat.mul_one, Nat.add_zero] at hq, l0, g0⟩

/-! #### struct type 45 -/
structure S45 where
  f0 : Int
  f1 : Int
  f2 : Int
  f3 : Int
def z45 : S45 := ⟨(0 : Int), (0 : Int), (0 : Int), (0 : Int)⟩
def k45 : Kd S45 := Kd.iso (Kd.pair (Kd.int .i64) (Kd.pair (Kd.int .i64) (Kd.pair (Kd.int .i64) (Kd.int .i64)))) (fun x : S45 => (x.f0, x.f1, x.f2, x.f3))
theorem k45_open {w : World} {x : S45} {cs : List Value} (h : k45.K w x cs) : cs = [.int .i64 x.f0, .int .i64 x.f1, .int .i64 x.f2, .int .i64 x.f3] := by
  obtain ⟨_, _, rfl, rfl, ⟨_, _, rfl, rfl, ⟨_, _, rfl, rfl, rfl⟩⟩⟩ := h
  exact rfl
theorem k45_openM {w : World} {base : Nat} {ok : Nat → Prop} {x : S45} {cs : List Value} (h : k45.M w base ok x cs) : cs = [.int .i64 x.f0, .int .i64 x.f1, .int .i64 x.f2, .int .i64 x.f3] := by
  obtain ⟨_, _, rfl, rfl, ⟨_, _, rfl, rfl, ⟨_, _, rfl, rfl, rfl⟩⟩⟩ := h
  exact rfl
theorem k45_mk (w : World) (x : S45)  : k45.K w x [.int .i64 x.f0, .int .i64 x.f1, .int .i64 x.f2, .int .i64 x.f3] := ⟨[.int .i64 x.f0], [.int .i64 x.f1, .int .i64 x.f2, .int .i64 x.f3], rfl, rfl, ⟨[.int .i64 x.f1], [.int .i64 x.f2, .int .i64 x.f3], rfl, rfl, ⟨[.int .i64 x.f2], [.int .i64 x.f3], rfl, rfl, rfl⟩⟩⟩
theorem k45_mkM (w : World) (base : Nat) (ok : Nat → Prop) (x : S45)  : k45.M w base ok x [.int .i64 x.f0, .int .i64 x.f1, .int .i64 x.f2, .int .i64 x.f3] := ⟨[.int .i64 x.f0], [.int .i64 x.f1, .int .i64 x.f2, .int .i64 x.f3], rfl, rfl, ⟨[.int .i64 x.f1], [.int .i64 x.f2, .int .i64 x.f3], rfl, rfl, ⟨[.int .i64 x.f2], [.int .i64 x.f3], rfl, rfl, rfl⟩⟩⟩
def rd_T45 (xs : List S45) (i : Int) : S45 := xs.getD i.toNat z45
theorem at_T45 {w : World} {A : Option Addr} {n : Nat} {xs : List S45} (h : Kd.C k45 w A n xs) (i : Int) (h0 : 0 ≤ i) (h1 : i < n) : ∃ ad , A = some ad ∧ w.cell? (ad.add (i.toNat * 4)) = some (.int .i64 (rd_T45 xs i).f0) ∧ w.cell? ⟨(ad.add (i.toNat * 4)).block, (ad.add (i.toNat * 4)).off + 1, none⟩ = some (.int .i64 (rd_T45 xs i).f1) ∧ w.cell? ⟨(ad.add (i.toNat * 4)).block, (ad.add (i.toNat * 4)).off + 2, none⟩ = some (.int .i64 (rd_T45 xs i).f2) ∧ w.cell? ⟨(ad.add (i.toNat * 4)).block, (ad.add (i.toNat * 4)).off + 3, none⟩ = some (.int .i64 (rd_T45 xs i).f3) := by
  obtain ⟨ad, c, e, _, hK, hc0⟩ := Kd.C_get h z45 i h0 h1
  have hc : ∀ j u, c[j]? = some u → w.cell? (ad.add (i.toNat * 4 + j)) = some u := hc0
  obtain rfl := k45_open hK
  exact ⟨ad, e, hc 0 _ rfl, by rw [← add_field _ _ 1 (by omega)]; exact hc 1 _ rfl, by rw [← add_field _ _ 2 (by omega)]; exact hc 2 _ rfl, by rw [← add_field _ _ 3 (by omega)]; exact hc 3 _ rfl⟩

def rd_L3 (xs : List (List S45)) (i : Int) : (List S45) := xs.getD i.toNat ([] : List S45)
theorem at_L3 {w : World} {A : Option Addr} {n : Nat} {xs : List (List S45)} (h : Kd.C (Kd.slice 45 k45) w A n xs) (i : Int) (h0 : 0 ≤ i) (h1 : i < n) : ∃ ad A0 c0, A = some ad ∧ w.cell? (ad.add i.toNat) = some (.slice A0 (rd_L3 xs i).length c0) ∧ (rd_L3 xs i).length ≤ c0 ∧ k45.C w A0 (rd_L3 xs i).length (rd_L3 xs i) := by
  obtain ⟨ad, c, e, _, hK, hc0⟩ := Kd.C_get h ([] : List S45) i h0 h1
  have hc : ∀ j u, c[j]? = some u → w.cell? (ad.add (i.toNat * 1 + j)) = some u := hc0
  obtain ⟨A0, c0, rfl, l0, g0⟩ := hK
  exact ⟨ad, A0, c0, e, by have hq := hc 0 _ rfl; rwa [Nat.mul_one, Nat.add_zero] at hq, l0, g0⟩

/-! #### struct type 38 -/
structure S38 where
  f0 : Int
  f1 : (List S45)
def z38 : S38 := ⟨(0 : Int), ([] : List S45)⟩
def k38 : Kd S38 := Kd.iso (Kd.pair (Kd.int .i64) (Kd.slice 45 k45)) (fun x : S38 => (x.f0, x.f1))
theorem k38_open {w : World} {x : S38} {cs : List Value} (h : k38.K w x cs) : ∃ A1 c1, cs = [.int .i64 x.f0, .slice A1 x.f1.length c1] ∧ x.f1.length ≤ c1 ∧ k45.C w A1 x.f1.length x.f1 := by
  obtain ⟨_, _, rfl, rfl, ⟨A1, c1, rfl, l1, g1⟩⟩ := h
  exact ⟨A1, c1, rfl, l1, g1⟩
theorem k38_openM {w : World} {base : Nat} {ok : Nat → Prop} {x : S38} {cs : List Value} (h : k38.M w base ok x cs) : ∃ v1, cs = [.int .i64 x.f0, v1] ∧ k45.R 45 w base ok v1 x.f1 := by
  obtain ⟨_, _, rfl, rfl, ⟨v1, rfl, g1⟩⟩ := h
  exact ⟨v1, rfl, g1⟩
theorem k38_mk (w : World) (x : S38) {A1 : Option Addr} {c1 : Nat} (l1 : x.f1.length ≤ c1) (g1 : k45.C w A1 x.f1.length x.f1) : k38.K w x [.int .i64 x.f0, .slice A1 x.f1.length c1] := ⟨[.int .i64 x.f0], [.slice A1 x.f1.length c1], rfl, rfl, ⟨A1, c1, rfl, l1, g1⟩⟩
theorem k38_mkM (w : World) (base : Nat) (ok : Nat → Prop) (x : S38) {v1 : Value} (g1 : k45.R 45 w base ok v1 x.f1) : k38.M w base ok x [.int .i64 x.f0, v1] := ⟨[.int .i64 x.f0], [v1], rfl, rfl, ⟨v1, rfl, g1⟩⟩
def rd_T38 (xs : List S38) (i : Int) : S38 := xs.getD i.toNat z38
theorem at_T38 {w : World} {A : Option Addr} {n : Nat} {xs : List S38} (h : Kd.C k38 w A n xs) (i : Int) (h0 : 0 ≤ i) (h1 : i < n) : ∃ ad A1 c1, A = some ad ∧ w.cell? (ad.add (i.toNat * 2)) = some (.int .i64 (rd_T38 xs i).f0) ∧ w.cell? ⟨(ad.add (i.toNat * 2)).block, (ad.add (i.toNat * 2)).off + 1, none⟩ = some (.slice A1 (rd_T38 xs i).f1.length c1) ∧ (rd_T38 xs i).f1.length ≤ c1 ∧ k45.C w A1 (rd_T38 xs i).f1.length (rd_T38 xs i).f1 := by
  obtain ⟨ad, c, e, _, hK, hc0⟩ := Kd.C_get h z38 i h0 h1
  have hc : ∀ j u, c[j]? = some u → w.cell? (ad.add (i.toNat * 2 + j)) = some u := hc0
  obtain ⟨A1, c1, rfl, l1, g1⟩ := k38_open hK
  exact ⟨ad, A1, c1, e, hc 0 _ rfl, by rw [← add_field _ _ 1 (by omega)]; exact hc 1 _ rfl, l1, g1⟩

def inv45 (x : S45) : Prop := ((Lit.int .i64 x.f0).wf = true) ∧ ((Lit.int .i64 x.f1).wf = true) ∧ ((Lit.int .i64 x.f2).wf = true) ∧ ((Lit.int .i64 x.f3).wf = true)
def inv38 (x : S38) : Prop := ((Lit.int .i64 x.f0).wf = true) ∧ (x.f1.length * 32 ≤ 140737488351232 ∧ ∀ y_ ∈ x.f1, inv45 y_)
theorem isSome_put_ (w : World) (a b : Addr) (v : Value) : ((w.setCell a v).cell? b).isSome = (w.cell? b).isSome := by
  by_cases h : a = b
  · subst h
    cases hc : w.cell? a with
    | some u => rw [World.cell?_setCell_same w a v hc]; rfl
    | none =>
      unfold World.cell? at hc ⊢
      simp only [World.setCell, Array.getElem?_modify]
      cases hh : w.heap[a.block]? with
      | none => simp
      | some o =>
        rw [hh] at hc
        cases o <;> simp_all
  · rw [World.cell?_setCell_other w a b v h]

/-! Short words: what the walks say again and again, each once. -/
theorem pk_ {W W' : World} {g : Nat} {o : Obj} (h : W.heap[g]? = some o) (k : W.heap[g]? = some o → W'.heap[g]? = some o := by intro h_; (with_reducible repeat (first | refine blk_drewN ?_ _ | refine blk_drew ?_ | refine blk_alloc ?_ _)); exact h_) : W'.heap[g]? = some o := k h
theorem rk_ {α : Type} {d : Kd α} {e base : Nat} {ok : Nat → Prop} {v : Value} {xs : List α} {W W' : World} (h : d.R e W base ok v xs) (k : d.R e W base ok v xs → d.R e W' base ok v xs := by intro h_; (with_reducible repeat (first | apply Kd.R_alloc | apply Kd.R_drewN | apply Kd.R_drew)); exact h_) : d.R e W' base ok v xs := k h
theorem bk_ {B : Nat} {w W W' : World} (h : Below B w W) (k : Below B w W → Below B w W' := by intro h_; repeat (first | (with_reducible first | exact h_ | apply below_alloc | apply pw_below_drewN | apply below_drew1 | refine below_set ?_ (Aside0.out (by assumption))) | exact h_)) : Below B w W' := k h
theorem ck_ {α : Type} {d : Kd α} {A : Option Addr} {n : Nat} {xs : List α} {W W' : World} (h : d.C W A n xs) (k : d.C W A n xs → d.C W' A n xs := by intro h_; repeat (first | exact h_ | (with_reducible refine Kd.C_alloc ?_ _) | (with_reducible refine Kd.C_drewN ?_ _) | (with_reducible refine Kd.C_drew ?_))) : d.C W' A n xs := k h
theorem A_ {p : Prop} (h : p) : Aside0 p := ⟨h⟩
theorem sa_ {α : Type} (xs : List α) (i : Nat) (a : α) : xs.toArray.setIfInBounds i a = (xs.set i a).toArray := by simp
theorem sz_ {α : Type} (x a : α) (xs : List α) : (x :: xs).set 0 a = a :: xs := rfl
theorem ss_ {α : Type} (x a : α) (xs : List α) (i : Nat) : (x :: xs).set (i + 1) a = x :: xs.set i a := rfl
theorem od_ {p : Prop} [Decidable p] (h : decide p = true := by first | (with_reducible assumption) | assumption) : p := of_decide_eq_true h
theorem lf_ {w W : World} (h : Below w.heap.size w W) {a : Addr} {v : Value} (hx : w.cell? a = some v) : W.cell? a = some v := (h.cell (World.block_lt_of_cell? w a hx)).trans hx
theorem er_ {α : Type} {a b : α} (h : a = b := by first | rfl | (simp [errW_none, errW_some] <;> rfl) | (simp [*, errW_none, errW_some] <;> rfl)) : a = b := h
theorem jr_ {α : Type} {a b : α} (h : a = b := by first | rfl | (simp; done) | (simp [*]; done)) : a = b := h
theorem rf1_ {α : Type} {d : Kd α} {e base : Nat} {ok : Nat → Prop} {v : Value} {xs : List α} {w : World} {g j0 : Nat} {u0 : Value} (h : d.R e w base (fun k => ok k ∧ k ≠ g) v xs) : d.R e (w.setCell ⟨g, j0, none⟩ u0) base (fun k => ok k ∧ k ≠ g) v xs := Kd.R_far (p := ⟨g, j0, none⟩) (h) (fun _ hk => hk.2) u0
theorem rf2_ {α : Type} {d : Kd α} {e base : Nat} {ok : Nat → Prop} {v : Value} {xs : List α} {w : World} {g j0 j1 : Nat} {u0 u1 : Value} (h : d.R e w base (fun k => ok k ∧ k ≠ g) v xs) : d.R e ((w.setCell ⟨g, j0, none⟩ u0).setCell ⟨g, j1, none⟩ u1) base (fun k => ok k ∧ k ≠ g) v xs := Kd.R_far (p := ⟨g, j1, none⟩) (Kd.R_far (p := ⟨g, j0, none⟩) (h) (fun _ hk => hk.2) u0) (fun _ hk => hk.2) u1
theorem rf3_ {α : Type} {d : Kd α} {e base : Nat} {ok : Nat → Prop} {v : Value} {xs : List α} {w : World} {g j0 j1 j2 : Nat} {u0 u1 u2 : Value} (h : d.R e w base (fun k => ok k ∧ k ≠ g) v xs) : d.R e (((w.setCell ⟨g, j0, none⟩ u0).setCell ⟨g, j1, none⟩ u1).setCell ⟨g, j2, none⟩ u2) base (fun k => ok k ∧ k ≠ g) v xs := Kd.R_far (p := ⟨g, j2, none⟩) (Kd.R_far (p := ⟨g, j1, none⟩) (Kd.R_far (p := ⟨g, j0, none⟩) (h) (fun _ hk => hk.2) u0) (fun _ hk => hk.2) u1) (fun _ hk => hk.2) u2
theorem rf4_ {α : Type} {d : Kd α} {e base : Nat} {ok : Nat → Prop} {v : Value} {xs : List α} {w : World} {g j0 j1 j2 j3 : Nat} {u0 u1 u2 u3 : Value} (h : d.R e w base (fun k => ok k ∧ k ≠ g) v xs) : d.R e ((((w.setCell ⟨g, j0, none⟩ u0).setCell ⟨g, j1, none⟩ u1).setCell ⟨g, j2, none⟩ u2).setCell ⟨g, j3, none⟩ u3) base (fun k => ok k ∧ k ≠ g) v xs := Kd.R_far (p := ⟨g, j3, none⟩) (Kd.R_far (p := ⟨g, j2, none⟩) (Kd.R_far (p := ⟨g, j1, none⟩) (Kd.R_far (p := ⟨g, j0, none⟩) (h) (fun _ hk => hk.2) u0) (fun _ hk => hk.2) u1) (fun _ hk => hk.2) u2) (fun _ hk => hk.2) u3
theorem rf5_ {α : Type} {d : Kd α} {e base : Nat} {ok : Nat → Prop} {v : Value} {xs : List α} {w : World} {g j0 j1 j2 j3 j4 : Nat} {u0 u1 u2 u3 u4 : Value} (h : d.R e w base (fun k => ok k ∧ k ≠ g) v xs) : d.R e (((((w.setCell ⟨g, j0, none⟩ u0).setCell ⟨g, j1, none⟩ u1).setCell ⟨g, j2, none⟩ u2).setCell ⟨g, j3, none⟩ u3).setCell ⟨g, j4, none⟩ u4) base (fun k => ok k ∧ k ≠ g) v xs := Kd.R_far (p := ⟨g, j4, none⟩) (Kd.R_far (p := ⟨g, j3, none⟩) (Kd.R_far (p := ⟨g, j2, none⟩) (Kd.R_far (p := ⟨g, j1, none⟩) (Kd.R_far (p := ⟨g, j0, none⟩) (h) (fun _ hk => hk.2) u0) (fun _ hk => hk.2) u1) (fun _ hk => hk.2) u2) (fun _ hk => hk.2) u3) (fun _ hk => hk.2) u4
theorem rf6_ {α : Type} {d : Kd α} {e base : Nat} {ok : Nat → Prop} {v : Value} {xs : List α} {w : World} {g j0 j1 j2 j3 j4 j5 : Nat} {u0 u1 u2 u3 u4 u5 : Value} (h : d.R e w base (fun k => ok k ∧ k ≠ g) v xs) : d.R e ((((((w.setCell ⟨g, j0, none⟩ u0).setCell ⟨g, j1, none⟩ u1).setCell ⟨g, j2, none⟩ u2).setCell ⟨g, j3, none⟩ u3).setCell ⟨g, j4, none⟩ u4).setCell ⟨g, j5, none⟩ u5) base (fun k => ok k ∧ k ≠ g) v xs := Kd.R_far (p := ⟨g, j5, none⟩) (Kd.R_far (p := ⟨g, j4, none⟩) (Kd.R_far (p := ⟨g, j3, none⟩) (Kd.R_far (p := ⟨g, j2, none⟩) (Kd.R_far (p := ⟨g, j1, none⟩) (Kd.R_far (p := ⟨g, j0, none⟩) (h) (fun _ hk => hk.2) u0) (fun _ hk => hk.2) u1) (fun _ hk => hk.2) u2) (fun _ hk => hk.2) u3) (fun _ hk => hk.2) u4) (fun _ hk => hk.2) u5
theorem cf1_ {w : World} {g j0 : Nat} {u0 : Value} {a : Addr} {x : Option Value} (h : a.block ≠ g) (hx : w.cell? a = x) : (w.setCell ⟨g, j0, none⟩ u0).cell? a = x := ((cell_far (p := ⟨g, j0, none⟩) h u0).trans hx)
theorem cf2_ {w : World} {g j0 j1 : Nat} {u0 u1 : Value} {a : Addr} {x : Option Value} (h : a.block ≠ g) (hx : w.cell? a = x) : ((w.setCell ⟨g, j0, none⟩ u0).setCell ⟨g, j1, none⟩ u1).cell? a = x := ((cell_far (p := ⟨g, j1, none⟩) h u1).trans ((cell_far (p := ⟨g, j0, none⟩) h u0).trans hx))
theorem cf3_ {w : World} {g j0 j1 j2 : Nat} {u0 u1 u2 : Value} {a : Addr} {x : Option Value} (h : a.block ≠ g) (hx : w.cell? a = x) : (((w.setCell ⟨g, j0, none⟩ u0).setCell ⟨g, j1, none⟩ u1).setCell ⟨g, j2, none⟩ u2).cell? a = x := ((cell_far (p := ⟨g, j2, none⟩) h u2).trans ((cell_far (p := ⟨g, j1, none⟩) h u1).trans ((cell_far (p := ⟨g, j0, none⟩) h u0).trans hx)))
theorem cf4_ {w : World} {g j0 j1 j2 j3 : Nat} {u0 u1 u2 u3 : Value} {a : Addr} {x : Option Value} (h : a.block ≠ g) (hx : w.cell? a = x) : ((((w.setCell ⟨g, j0, none⟩ u0).setCell ⟨g, j1, none⟩ u1).setCell ⟨g, j2, none⟩ u2).setCell ⟨g, j3, none⟩ u3).cell? a = x := ((cell_far (p := ⟨g, j3, none⟩) h u3).trans ((cell_far (p := ⟨g, j2, none⟩) h u2).trans ((cell_far (p := ⟨g, j1, none⟩) h u1).trans ((cell_far (p := ⟨g, j0, none⟩) h u0).trans hx))))
theorem cf5_ {w : World} {g j0 j1 j2 j3 j4 : Nat} {u0 u1 u2 u3 u4 : Value} {a : Addr} {x : Option Value} (h : a.block ≠ g) (hx : w.cell? a = x) : (((((w.setCell ⟨g, j0, none⟩ u0).setCell ⟨g, j1, none⟩ u1).setCell ⟨g, j2, none⟩ u2).setCell ⟨g, j3, none⟩ u3).setCell ⟨g, j4, none⟩ u4).cell? a = x := ((cell_far (p := ⟨g, j4, none⟩) h u4).trans ((cell_far (p := ⟨g, j3, none⟩) h u3).trans ((cell_far (p := ⟨g, j2, none⟩) h u2).trans ((cell_far (p := ⟨g, j1, none⟩) h u1).trans ((cell_far (p := ⟨g, j0, none⟩) h u0).trans hx)))))
theorem cf6_ {w : World} {g j0 j1 j2 j3 j4 j5 : Nat} {u0 u1 u2 u3 u4 u5 : Value} {a : Addr} {x : Option Value} (h : a.block ≠ g) (hx : w.cell? a = x) : ((((((w.setCell ⟨g, j0, none⟩ u0).setCell ⟨g, j1, none⟩ u1).setCell ⟨g, j2, none⟩ u2).setCell ⟨g, j3, none⟩ u3).setCell ⟨g, j4, none⟩ u4).setCell ⟨g, j5, none⟩ u5).cell? a = x := ((cell_far (p := ⟨g, j5, none⟩) h u5).trans ((cell_far (p := ⟨g, j4, none⟩) h u4).trans ((cell_far (p := ⟨g, j3, none⟩) h u3).trans ((cell_far (p := ⟨g, j2, none⟩) h u2).trans ((cell_far (p := ⟨g, j1, none⟩) h u1).trans ((cell_far (p := ⟨g, j0, none⟩) h u0).trans hx))))))
theorem rs1_ {α : Type} {d : Kd α} {e base t : Nat} {cells : Array Value} {ok : Nat → Prop} {v : Value} {xs : List α} {w W : World} {g j0 : Nat} {u0 : Value} (hw : W = (w.setCell ⟨g, j0, none⟩ u0)) (h : d.R e w base ok v xs) (hb : w.heap[g]? = some (.cells cells t (0, 0))) (ht : ∀ q, q ∈ e :: d.E → q ≠ t := by decide) : d.R e W base ok v xs := by rw [hw]; exact Kd.R_mono (rf1_ (Kd.R_types h hb ht)) (fun _ hk => hk.1)
theorem bs1_ {o : Obj} {w W : World} {g g' j0 : Nat} {u0 : Value} (hw : W = (w.setCell ⟨g, j0, none⟩ u0)) (hn : g' ≠ g) (h : w.heap[g']? = some o) : W.heap[g']? = some o := by rw [hw]; exact (Below.heap_setCell _ ⟨g, j0, none⟩ u0 g' hn).trans (h)
theorem rs2_ {α : Type} {d : Kd α} {e base t : Nat} {cells : Array Value} {ok : Nat → Prop} {v : Value} {xs : List α} {w W : World} {g j0 j1 : Nat} {u0 u1 : Value} (hw : W = ((w.setCell ⟨g, j0, none⟩ u0).setCell ⟨g, j1, none⟩ u1)) (h : d.R e w base ok v xs) (hb : w.heap[g]? = some (.cells cells t (0, 0))) (ht : ∀ q, q ∈ e :: d.E → q ≠ t := by decide) : d.R e W base ok v xs := by rw [hw]; exact Kd.R_mono (rf2_ (Kd.R_types h hb ht)) (fun _ hk => hk.1)
theorem bs2_ {o : Obj} {w W : World} {g g' j0 j1 : Nat} {u0 u1 : Value} (hw : W = ((w.setCell ⟨g, j0, none⟩ u0).setCell ⟨g, j1, none⟩ u1)) (hn : g' ≠ g) (h : w.heap[g']? = some o) : W.heap[g']? = some o := by rw [hw]; exact (Below.heap_setCell _ ⟨g, j1, none⟩ u1 g' hn).trans ((Below.heap_setCell _ ⟨g, j0, none⟩ u0 g' hn).trans (h))
theorem rs3_ {α : Type} {d : Kd α} {e base t : Nat} {cells : Array Value} {ok : Nat → Prop} {v : Value} {xs : List α} {w W : World} {g j0 j1 j2 : Nat} {u0 u1 u2 : Value} (hw : W = (((w.setCell ⟨g, j0, none⟩ u0).setCell ⟨g, j1, none⟩ u1).setCell ⟨g, j2, none⟩ u2)) (h : d.R e w base ok v xs) (hb : w.heap[g]? = some (.cells cells t (0, 0))) (ht : ∀ q, q ∈ e :: d.E → q ≠ t := by decide) : d.R e W base ok v xs := by rw [hw]; exact Kd.R_mono (rf3_ (Kd.R_types h hb ht)) (fun _ hk => hk.1)
theorem bs3_ {o : Obj} {w W : World} {g g' j0 j1 j2 : Nat} {u0 u1 u2 : Value} (hw : W = (((w.setCell ⟨g, j0, none⟩ u0).setCell ⟨g, j1, none⟩ u1).setCell ⟨g, j2, none⟩ u2)) (hn : g' ≠ g) (h : w.heap[g']? = some o) : W.heap[g']? = some o := by rw [hw]; exact (Below.heap_setCell _ ⟨g, j2, none⟩ u2 g' hn).trans ((Below.heap_setCell _ ⟨g, j1, none⟩ u1 g' hn).trans ((Below.heap_setCell _ ⟨g, j0, none⟩ u0 g' hn).trans (h)))
theorem rs4_ {α : Type} {d : Kd α} {e base t : Nat} {cells : Array Value} {ok : Nat → Prop} {v : Value} {xs : List α} {w W : World} {g j0 j1 j2 j3 : Nat} {u0 u1 u2 u3 : Value} (hw : W = ((((w.setCell ⟨g, j0, none⟩ u0).setCell ⟨g, j1, none⟩ u1).setCell ⟨g, j2, none⟩ u2).setCell ⟨g, j3, none⟩ u3)) (h : d.R e w base ok v xs) (hb : w.heap[g]? = some (.cells cells t (0, 0))) (ht : ∀ q, q ∈ e :: d.E → q ≠ t := by decide) : d.R e W base ok v xs := by rw [hw]; exact Kd.R_mono (rf4_ (Kd.R_types h hb ht)) (fun _ hk => hk.1)
theorem bs4_ {o : Obj} {w W : World} {g g' j0 j1 j2 j3 : Nat} {u0 u1 u2 u3 : Value} (hw : W = ((((w.setCell ⟨g, j0, none⟩ u0).setCell ⟨g, j1, none⟩ u1).setCell ⟨g, j2, none⟩ u2).setCell ⟨g, j3, none⟩ u3)) (hn : g' ≠ g) (h : w.heap[g']? = some o) : W.heap[g']? = some o := by rw [hw]; exact (Below.heap_setCell _ ⟨g, j3, none⟩ u3 g' hn).trans ((Below.heap_setCell _ ⟨g, j2, none⟩ u2 g' hn).trans ((Below.heap_setCell _ ⟨g, j1, none⟩ u1 g' hn).trans ((Below.heap_setCell _ ⟨g, j0, none⟩ u0 g' hn).trans (h))))
theorem rs5_ {α : Type} {d : Kd α} {e base t : Nat} {cells : Array Value} {ok : Nat → Prop} {v : Value} {xs : List α} {w W : World} {g j0 j1 j2 j3 j4 : Nat} {u0 u1 u2 u3 u4 : Value} (hw : W = (((((w.setCell ⟨g, j0, none⟩ u0).setCell ⟨g, j1, none⟩ u1).setCell ⟨g, j2, none⟩ u2).setCell ⟨g, j3, none⟩ u3).setCell ⟨g, j4, none⟩ u4)) (h : d.R e w base ok v xs) (hb : w.heap[g]? = some (.cells cells t (0, 0))) (ht : ∀ q, q ∈ e :: d.E → q ≠ t := by decide) : d.R e W base ok v xs := by rw [hw]; exact Kd.R_mono (rf5_ (Kd.R_types h hb ht)) (fun _ hk => hk.1)
theorem bs5_ {o : Obj} {w W : World} {g g' j0 j1 j2 j3 j4 : Nat} {u0 u1 u2 u3 u4 : Value} (hw : W = (((((w.setCell ⟨g, j0, none⟩ u0).setCell ⟨g, j1, none⟩ u1).setCell ⟨g, j2, none⟩ u2).setCell ⟨g, j3, none⟩ u3).setCell ⟨g, j4, none⟩ u4)) (hn : g' ≠ g) (h : w.heap[g']? = some o) : W.heap[g']? = some o := by rw [hw]; exact (Below.heap_setCell _ ⟨g, j4, none⟩ u4 g' hn).trans ((Below.heap_setCell _ ⟨g, j3, none⟩ u3 g' hn).trans ((Below.heap_setCell _ ⟨g, j2, none⟩ u2 g' hn).trans ((Below.heap_setCell _ ⟨g, j1, none⟩ u1 g' hn).trans ((Below.heap_setCell _ ⟨g, j0, none⟩ u0 g' hn).trans (h)))))
theorem rs6_ {α : Type} {d : Kd α} {e base t : Nat} {cells : Array Value} {ok : Nat → Prop} {v : Value} {xs : List α} {w W : World} {g j0 j1 j2 j3 j4 j5 : Nat} {u0 u1 u2 u3 u4 u5 : Value} (hw : W = ((((((w.setCell ⟨g, j0, none⟩ u0).setCell ⟨g, j1, none⟩ u1).setCell ⟨g, j2, none⟩ u2).setCell ⟨g, j3, none⟩ u3).setCell ⟨g, j4, none⟩ u4).setCell ⟨g, j5, none⟩ u5)) (h : d.R e w base ok v xs) (hb : w.heap[g]? = some (.cells cells t (0, 0))) (ht : ∀ q, q ∈ e :: d.E → q ≠ t := by decide) : d.R e W base ok v xs := by rw [hw]; exact Kd.R_mono (rf6_ (Kd.R_types h hb ht)) (fun _ hk => hk.1)
theorem bs6_ {o : Obj} {w W : World} {g g' j0 j1 j2 j3 j4 j5 : Nat} {u0 u1 u2 u3 u4 u5 : Value} (hw : W = ((((((w.setCell ⟨g, j0, none⟩ u0).setCell ⟨g, j1, none⟩ u1).setCell ⟨g, j2, none⟩ u2).setCell ⟨g, j3, none⟩ u3).setCell ⟨g, j4, none⟩ u4).setCell ⟨g, j5, none⟩ u5)) (hn : g' ≠ g) (h : w.heap[g']? = some o) : W.heap[g']? = some o := by rw [hw]; exact (Below.heap_setCell _ ⟨g, j5, none⟩ u5 g' hn).trans ((Below.heap_setCell _ ⟨g, j4, none⟩ u4 g' hn).trans ((Below.heap_setCell _ ⟨g, j3, none⟩ u3 g' hn).trans ((Below.heap_setCell _ ⟨g, j2, none⟩ u2 g' hn).trans ((Below.heap_setCell _ ⟨g, j1, none⟩ u1 g' hn).trans ((Below.heap_setCell _ ⟨g, j0, none⟩ u0 g' hn).trans (h))))))
theorem nl_ {w : World} {a g : Nat} {o : Obj} (hg : a = w.heap.size) (h : w.heap[g]? = some o) : g ≠ a := by rw [hg]; exact Nat.ne_of_lt (blk_lt h)
theorem ng_ {w : World} {a g : Nat} {o : Obj} (hg : a = w.heap.size) (h : w.heap[g]? = some o) : a ≠ g := by rw [hg]; exact Nat.ne_of_gt (blk_lt h)
theorem bz_ {a : Nat} {w W : World} (hg : a = W.heap.size) (h : Below w.heap.size w W) : w.heap.size ≤ a := by rw [hg]; exact below_size h
theorem bc1_ {w : World} {g t : Nat} {v0 : Value} (h : w.heap[g]? = some (.cells #[v0] t (0, 0))) : w.cell? ⟨g, 0, none⟩ = some v0 := (blk_cell h 0).trans rfl
theorem bc2_ {w : World} {g t : Nat} {v0 v1 : Value} (h : w.heap[g]? = some (.cells #[v0, v1] t (0, 0))) : w.cell? ⟨g, 0, none⟩ = some v0 ∧ w.cell? ⟨g, 1, none⟩ = some v1 := ⟨(blk_cell h 0).trans rfl, (blk_cell h 1).trans rfl⟩
theorem bc3_ {w : World} {g t : Nat} {v0 v1 v2 : Value} (h : w.heap[g]? = some (.cells #[v0, v1, v2] t (0, 0))) : w.cell? ⟨g, 0, none⟩ = some v0 ∧ w.cell? ⟨g, 1, none⟩ = some v1 ∧ w.cell? ⟨g, 2, none⟩ = some v2 := ⟨(blk_cell h 0).trans rfl, (blk_cell h 1).trans rfl, (blk_cell h 2).trans rfl⟩
theorem bc4_ {w : World} {g t : Nat} {v0 v1 v2 v3 : Value} (h : w.heap[g]? = some (.cells #[v0, v1, v2, v3] t (0, 0))) : w.cell? ⟨g, 0, none⟩ = some v0 ∧ w.cell? ⟨g, 1, none⟩ = some v1 ∧ w.cell? ⟨g, 2, none⟩ = some v2 ∧ w.cell? ⟨g, 3, none⟩ = some v3 := ⟨(blk_cell h 0).trans rfl, (blk_cell h 1).trans rfl, (blk_cell h 2).trans rfl, (blk_cell h 3).trans rfl⟩
theorem bc5_ {w : World} {g t : Nat} {v0 v1 v2 v3 v4 : Value} (h : w.heap[g]? = some (.cells #[v0, v1, v2, v3, v4] t (0, 0))) : w.cell? ⟨g, 0, none⟩ = some v0 ∧ w.cell? ⟨g, 1, none⟩ = some v1 ∧ w.cell? ⟨g, 2, none⟩ = some v2 ∧ w.cell? ⟨g, 3, none⟩ = some v3 ∧ w.cell? ⟨g, 4, none⟩ = some v4 := ⟨(blk_cell h 0).trans rfl, (blk_cell h 1).trans rfl, (blk_cell h 2).trans rfl, (blk_cell h 3).trans rfl, (blk_cell h 4).trans rfl⟩
theorem bc6_ {w : World} {g t : Nat} {v0 v1 v2 v3 v4 v5 : Value} (h : w.heap[g]? = some (.cells #[v0, v1, v2, v3, v4, v5] t (0, 0))) : w.cell? ⟨g, 0, none⟩ = some v0 ∧ w.cell? ⟨g, 1, none⟩ = some v1 ∧ w.cell? ⟨g, 2, none⟩ = some v2 ∧ w.cell? ⟨g, 3, none⟩ = some v3 ∧ w.cell? ⟨g, 4, none⟩ = some v4 ∧ w.cell? ⟨g, 5, none⟩ = some v5 := ⟨(blk_cell h 0).trans rfl, (blk_cell h 1).trans rfl, (blk_cell h 2).trans rfl, (blk_cell h 3).trans rfl, (blk_cell h 4).trans rfl, (blk_cell h 5).trans rfl⟩
theorem nlz_ {w W : World} {a g : Nat} {o : Obj} (hg : a = W.heap.size) (h : w.heap[g]? = some o) (hs : w.heap.size ≤ W.heap.size := by first | exact Nat.le_refl _ | (simp; done) | (simp; omega)) : g ≠ a := by rw [hg]; exact Nat.ne_of_lt (Nat.lt_of_lt_of_le (blk_lt h) hs)
theorem ngz_ {w W : World} {a g : Nat} {o : Obj} (hg : a = W.heap.size) (h : w.heap[g]? = some o) (hs : w.heap.size ≤ W.heap.size := by first | exact Nat.le_refl _ | (simp; done) | (simp; omega)) : a ≠ g := by rw [hg]; exact Nat.ne_of_gt (Nat.lt_of_lt_of_le (blk_lt h) hs)
theorem blk_stay {w : World} {g z j : Nat} {u : Value} {o : Obj} (hn : g ≠ z) (h : w.heap[g]? = some o) : (w.setCell ⟨z, j, none⟩ u).heap[g]? = some o := (Below.heap_setCell _ ⟨z, j, none⟩ u g hn).trans h
theorem bf_ {w W W2 : World} {g z : Nat} {o : Obj} (h : w.heap[g]? = some o) (hn : g ≠ z) (hb : Below W.heap.size W W2) (hk : g ≠ z → w.heap[g]? = some o → W.heap[g]? = some o := by intro hn_ h_; repeat (first | (with_reducible exact h_) | (with_reducible first | refine blk_drewN ?_ _ | refine blk_drew ?_ | refine blk_alloc ?_ _) | (with_reducible refine blk_stay hn_ ?_))) : W2.heap[g]? = some o := blk_below (hk hn h) hb
theorem rz_ {α : Type} {d : Kd α} {e base t g : Nat} {cells : Array Value} {ok : Nat → Prop} {v : Value} {xs : List α} {w W : World} (h : d.R e w base ok v xs) (hb : w.heap[g]? = some (.cells cells t (0, 0))) (ht : ∀ q, q ∈ e :: d.E → q ≠ t := by decide) (hk : d.R e w base (fun k => ok k ∧ k ≠ g) v xs → d.R e W base (fun k => ok k ∧ k ≠ g) v xs := by intro h_; repeat (first | (with_reducible exact h_) | (with_reducible first | apply Kd.R_alloc | apply Kd.R_drewN | apply Kd.R_drew | refine rf1_ ?_) | exact h_)) : d.R e W base ok v xs := Kd.R_mono (hk (Kd.R_types h hb ht)) (fun _ h_ => h_.1)
theorem gl_ {α : Type} {a b : α} (h : a = b := by (try simp only [List.map_toArray, List.map_cons, List.map_nil]); first | done | rfl | (simp only [List.length_drop, List.length_take]; rfl)) : a = b := h

end Go.Proofs.Ytkbekdjoaibhbaa.PPairRuns
