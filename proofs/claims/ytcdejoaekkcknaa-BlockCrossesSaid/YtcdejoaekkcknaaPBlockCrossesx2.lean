-- out of a turned copy of the print, by a program of this session; Lean checks it
import Derived.Test.YtcdejoaekkcknaaPBlockCrossesx0
import Derived.Test.YtcdejoaekkcknaaPBlockCrossesx1
namespace Go.Proofs.Ytcdejoaekkcknaa.PBlockCrosses
open Go.RowKit Go.Proofs.YtcdejoaekkcknaaW.PrintWords Go.Proofs.YtcdejoaekkcknaaW.PrintLast Go.Proofs.YtcdejoaekkcknaaW.PrintMore
attribute [local go_sem] max2_int min2_int max_two min_two max_three min_three max_four min_four   -- for this text's walks alone
set_option linter.unusedVariables false
set_option linter.unusedSimpArgs false

attribute [local go_sem] isSome_put_
/-! ### block_cross: function 24 (by hand) -/
def kv8 (a b c d e f g h : Int) : Value := .agg #[.int .i64 a, .int .i64 b, .int .i64 c, .int .i64 d, .int .i64 e, .int .i64 f, .int .i64 g, .int .i64 h]
def w64 (x : Int) : Prop := (Lit.int .i64 x).wf = true
theorem keyLaw72 : WideMaps.KeyLaw Try.prog 72 := deep_law_gate (by kernel_rfl) (by decide +kernel) (by decide +kernel) (by kernel_rfl) (by kernel_rfl)
theorem kl3 (d : Nat) (a : Int) (h : w64 a) : Try.prog.keyLits (d + 1) 3 [.int .i64 a] = some [.int .i64 a] := by
  have h' : (Lit.int .i64 a).wf = true := h
  simp [Program.keyLits, Try.underlying3, h']
theorem kl70 (d : Nat) (c e f g h i : Int) (h3 : w64 c) (h4 : w64 e) (h5 : w64 f) (h6 : w64 g) (h7 : w64 h) (h8 : w64 i) : Try.prog.keyLits (d + 2) 70 [.int .i64 c, .int .i64 e, .int .i64 f, .int .i64 g, .int .i64 h, .int .i64 i] = some [.int .i64 c, .int .i64 e, .int .i64 f, .int .i64 g, .int .i64 h, .int .i64 i] := by
  have h70 : Try.prog.cellsOf 70 = 6 := by kernel_rfl
  have h3' : Try.prog.cellsOf 3 = 1 := by kernel_rfl
  have er : List.range 6 = [0, 1, 2, 3, 4, 5] := rfl
  unfold Program.keyLits
  rw [Try.underlying70]
  simp [h70, h3', er, kl3, h3, h4, h5, h6, h7, h8]
theorem key8 (a b c d e f g h : Int) (h1 : w64 a) (h2 : w64 b) (h3 : w64 c) (h4 : w64 d) (h5 : w64 e) (h6 : w64 f) (h7 : w64 g) (h8 : w64 h) : ∃ l, keyOf Try.prog 72 (kv8 a b c d e f g h) = some l := by
  have hu := Try.underlying72
  unfold keyOf
  rw [hu]
  simp only
  have hk : Try.prog.keyType 72 = true := by kernel_rfl
  rw [hk]
  have hf : (kv8 a b c d e f g h).formed Try.prog 72 = true := by
    unfold kv8
    rfl
  rw [hf]
  have hs : Try.prog.types.size = (Try.prog.types.size - 2) + 2 := by decide +kernel
  rw [hs]
  generalize Try.prog.types.size - 2 = q
  have h72 : Try.prog.cellsOf 72 = 8 := by kernel_rfl
  have h70 : Try.prog.cellsOf 70 = 6 := by kernel_rfl
  have h3' : Try.prog.cellsOf 3 = 1 := by kernel_rfl
  unfold Program.keyLits
  rw [hu]
  simp [kv8, Value.cells, h72, h70, h3', kl3, kl70, h1, h2, h3, h4, h5, h6, h7, h8]
def mem8 (es : List MapEntry) (x : Value) : Prop := ∃ e ∈ es, e.key = x
/-- What is known of the map. -/
structure Seen (es : List MapEntry) : Prop where
  keys : ∀ e ∈ es, ∃ l, keyOf Try.prog 72 e.key = some l
  vals : ∀ e ∈ es, e.val = .bool true
theorem look8 {w : World} {r : Nat} {es : Array MapEntry} {c : Nat} (hb : w.heap[r]? = some (.map es c)) (hs : Seen es.toList) {x : Value} {l : Lit} (hx : keyOf Try.prog 72 x = some l) (b : Bool) (hm : b = true ↔ mem8 es.toList x) :
    (Instr.lookup 73 (.map (some r)) x false).run Try.prog w = .ok (.bool b) w := by
  have hu := Try.underlying73
  have hg : (getObj r).run Try.prog w = .ok (.map es c) w := by simp [getObj, Sem.run, hb]
  have hz : (zeroValue 4).run Try.prog w = .ok (.bool false) w := by rfl
  have hc := keyLaw72.check w es.isEmpty hx
  rcases keyLaw72.find w hx es.toList hs.keys with ⟨h1, h2⟩ | ⟨j, e, h1, h2, h3⟩
  · have hbf : b = false := by
      cases b with
      | false => rfl
      | true =>
        obtain ⟨e, he, hk⟩ := hm.1 rfl
        exact absurd hk (h2 e he)
    subst hbf
    simp [Instr.lookup, hu, Sem.run_bind, run_underlying, hg, hc, h1, hz]
  · have hmem := List.mem_of_getElem? h2
    have hbt : b = true := hm.2 ⟨e, hmem, h3⟩
    subst hbt
    have hv := hs.vals e hmem
    rw [hv] at h1
    simp [Instr.lookup, hu, Sem.run_bind, run_underlying, hg, hc, h1]
theorem put8 {w : World} {r : Nat} {es : Array MapEntry} {c : Nat} (hb : w.heap[r]? = some (.map es c)) (hs : Seen es.toList) {x : Value} {l : Lit} (hx : keyOf Try.prog 72 x = some l) (hm : ¬ mem8 es.toList x) :
    (Instr.mapUpdate 73 (.map (some r)) x (.bool true)).run Try.prog w = .ok () { w with heap := w.heap.setIfInBounds r (.map (es.push { key := x, val := .bool true, born := c }) (c + 1)) } := by
  have hu := Try.underlying73
  have hg : (getObj r).run Try.prog w = .ok (.map es c) w := by simp [getObj, Sem.run, hb]
  have hp : ∀ o, (setObj r o).run Try.prog w = .ok () { w with heap := w.heap.setIfInBounds r o } := fun o => by simp [setObj, Sem.run, hb]
  have hc := keyLaw72.check w false hx
  rcases keyLaw72.find w hx es.toList hs.keys with ⟨h1, h2⟩ | ⟨j, e, h1, h2, h3⟩
  · simp [Instr.mapUpdate, hu, Sem.run_bind, run_underlying, hg, hp, hc, h1]
  · exact absurd ⟨e, List.mem_of_getElem? h2, h3⟩ hm
theorem seen_push {es : Array MapEntry} (hs : Seen es.toList) {x : Value} {l : Lit} (hx : keyOf Try.prog 72 x = some l) (c : Nat) : Seen (es.push { key := x, val := .bool true, born := c }).toList := by
  constructor
  · intro e he
    rw [Array.toList_push, List.mem_append, List.mem_singleton] at he
    rcases he with he | rfl
    · exact hs.keys e he
    · exact ⟨l, hx⟩
  · intro e he
    rw [Array.toList_push, List.mem_append, List.mem_singleton] at he
    rcases he with he | rfl
    · exact hs.vals e he
    · rfl
theorem mem_push {es : Array MapEntry} (x y : Value) (c : Nat) : mem8 (es.push { key := x, val := .bool true, born := c }).toList y ↔ x = y ∨ mem8 es.toList y := by
  unfold mem8
  rw [Array.toList_push]
  constructor
  · rintro ⟨e, he, hk⟩
    rw [List.mem_append, List.mem_singleton] at he
    rcases he with he | rfl
    · exact .inr ⟨e, he, hk⟩
    · exact .inl hk
  · rintro (rfl | ⟨e, he, hk⟩)
    · exact ⟨_, List.mem_append_right _ (List.mem_singleton.2 rfl), rfl⟩
    · exact ⟨e, List.mem_append_left _ he, hk⟩
def bc (st po : Int) (ws : List Int) : List Value := [.int .i64 st, .int .i64 po] ++ ws.map (.int .i64)
theorem bc_cell {w : World} {g : Nat} {st po : Int} {ws : List Int} (h : w.heap[g]? = some (.cells (bc st po ws).toArray 72 (0, 0))) (i : Nat) (hi : i < ws.length) : w.cell? ⟨g, 2 + i, none⟩ = some (.int .i64 (rd ws (i : Int))) := by
  rw [blk_cell h]
  have e : 2 + i = i + 1 + 1 := by omega
  simp [bc, e, rd, List.getD, hi]
theorem bc_put {w : World} {g : Nat} {st po : Int} {ws : List Int} (h : w.heap[g]? = some (.cells (bc st po ws).toArray 72 (0, 0))) (i : Nat) (v : Int) : (w.setCell ⟨g, 2 + i, none⟩ (.int .i64 v)).heap[g]? = some (.cells (bc st po (ws.set i v)).toArray 72 (0, 0)) := by
  refine blk_put h _ _ ?_
  have e : 2 + i = i + 1 + 1 := by omega
  simp [bc, e, List.map_set]
def kvL (st po : Int) (ws : List Int) : Value := kv8 st po (rd ws 0) (rd ws 1) (rd ws 2) (rd ws 3) (rd ws 4) (rd ws 5)
theorem six {ws : List Int} (h : ws.length = 6) : ws = [rd ws 0, rd ws 1, rd ws 2, rd ws 3, rd ws 4, rd ws 5] := by
  match ws, h with
  | [a, b, c, d, e, f], _ => rfl
theorem kvL_inj {st po st' po' : Int} {ws ws' : List Int} (h : ws.length = 6) (h' : ws'.length = 6) (e : kvL st po ws = kvL st' po' ws') : st = st' ∧ po = po' ∧ ws = ws' := by
  unfold kvL kv8 at e
  simp only [Value.agg.injEq, Array.mk.injEq, List.cons.injEq, Value.int.injEq, true_and, and_true] at e
  obtain ⟨e1, e2, e3, e4, e5, e6, e7, e8⟩ := e
  refine ⟨e1, e2, ?_⟩
  rw [six h, six h', e3, e4, e5, e6, e7, e8]
/-- What the map tells. -/
structure SeenOf (es : List MapEntry) (seen : List (Int × Int × List Int)) : Prop where
  is : Seen es
  tells : ∀ (st po : Int) (ws : List Int), ws.length = 6 → (mem8 es (kvL st po ws) ↔ (st, po, ws) ∈ seen)
theorem SeenOf.nil : SeenOf [] [] := ⟨⟨fun e he => (by cases he), fun e he => (by cases he)⟩, fun st po ws _ => by simp [mem8]⟩
theorem SeenOf.push {es : Array MapEntry} {seen : List (Int × Int × List Int)} (h : SeenOf es.toList seen) {st po : Int} {ws : List Int} (hw : ws.length = 6) {l : Lit} (hx : keyOf Try.prog 72 (kvL st po ws) = some l) (c : Nat) :
    SeenOf (es.push { key := kvL st po ws, val := .bool true, born := c }).toList ((st, po, ws) :: seen) := by
  refine ⟨seen_push h.is hx c, fun st' po' ws' hw' => ?_⟩
  rw [mem_push, h.tells st' po' ws' hw', List.mem_cons]
  constructor
  · rintro (e | e)
    · obtain ⟨rfl, rfl, rfl⟩ := kvL_inj hw hw' e
      exact .inl rfl
    · exact .inr e
  · rintro (e | e)
    · injection e with e1 e2
      injection e2 with e2 e3
      subst e1
      subst e2
      subst e3
      exact .inl rfl
    · exact .inr e
theorem splice6 (a b : Int) (l : List Int) (h : l.length ≤ 6) : splice ([.int .i64 a, .int .i64 b, .int .i64 0, .int .i64 0, .int .i64 0, .int .i64 0, .int .i64 0, .int .i64 0] : List Value) 2 (l.map (Value.int .i64)) = bc a b (l ++ List.replicate (6 - l.length) 0) := by
  match l, h with
  | [], _ => rfl
  | [_], _ => rfl
  | [_, _], _ => rfl
  | [_, _, _], _ => rfl
  | [_, _, _, _], _ => rfl
  | [_, _, _, _, _], _ => rfl
  | [_, _, _, _, _, _], _ => rfl
theorem bc_C {W : World} {g : Nat} {st po : Int} {ws : List Int} {n : Nat} (h : W.heap[g]? = some (.cells (bc st po ws).toArray 72 (0, 0))) (hl : ws.length = 6) (hn : n ≤ 6) : Kd.C (Kd.int .i64) W (some ⟨g, 2, none⟩) n (ws.take n) := by
  refine ⟨by rw [List.length_take]; omega, by omega, fun _ => ⟨_, rfl, fun j p hj => ⟨[.int .i64 p], rfl, rfl, fun i u hu => ?_⟩⟩⟩
  have hj2 := (List.getElem?_eq_some_iff.1 hj)
  obtain ⟨hj3, hj4⟩ := hj2
  rw [List.length_take] at hj3
  cases i with
  | succ i => simp at hu
  | zero =>
    obtain rfl : Value.int .i64 p = u := by simpa using hu
    have e : (⟨g, 2, none⟩ : Addr).add (j * (Kd.int .i64).sz + 0) = ⟨g, 2 + j, none⟩ := by
      show (⟨g, 2, none⟩ : Addr).add (j * 1 + 0) = _
      rw [Nat.mul_one, Nat.add_zero]
      unfold Addr.add
      split <;> simp_all
    rw [e, bc_cell h j (by omega)]
    have : rd ws (j : Int) = p := by
      rw [List.getElem_take] at hj4
      simp [rd, List.getD, ← hj4, show j < ws.length by omega]
    rw [this]
def okK (st po : Int) (ws : List Int) : Bool := decide (-1 ≤ st ∧ st ≤ 100 ∧ -1 ≤ po ∧ po ≤ 100) && ws.all (fun x => decide (0 ≤ x ∧ x ≤ 100))
def crossGo (rules : List (List S57)) (n : Nat) : Nat → Int → Int → List Int → List (Int × Int × List Int) → Int → Option (Int × Int × Int × Int × List Int)
  | 0, _, _, _, _, _ => none
  | d + 1, st, po, ws, seen, i =>
    if st = -1 then some (2, st, i, po, ws.take n)
    else if po < 0 then some (0, st, i, po, ws.take n)
    else if po = (n : Int) then some (1, st, i, po, ws.take n)
    else if okK st po ws = true then
      if (st, po, ws) ∈ seen then some (3, 0, 0, 0, [])
      else if 0 ≤ st ∧ st < (rules.length : Int) ∧ po < 6 then
        if 0 ≤ rd ws po ∧ rd ws po < ((rd_L2 rules st).length : Int) then
          if 0 ≤ (rd_T57 (rd_L2 rules st) (rd ws po)).f0 ∧ (rd_T57 (rd_L2 rules st) (rd ws po)).f0 ≤ 100 ∧ -1 ≤ (rd_T57 (rd_L2 rules st) (rd ws po)).f1 ∧ (rd_T57 (rd_L2 rules st) (rd ws po)).f1 ≤ 1 then
            crossGo rules n d (rd_T57 (rd_L2 rules st) (rd ws po)).f2 (po + (rd_T57 (rd_L2 rules st) (rd ws po)).f1) (ws.set po.toNat (rd_T57 (rd_L2 rules st) (rd ws po)).f0) ((st, po, ws) :: seen) (wrap64 (i + 1))
          else none
        else none
      else none
    else none
def block_cross.f (k : Nat) (a0_0 a0_1 : Int) (l0_2 : List (List S57)) (a1 a2 : Int) (l3 : List Int) : Option (Int × Int × Int × Int × List Int) :=
  if l3.length ≤ 6 then crossGo l0_2 l3.length k a1 a2 (l3 ++ List.replicate (6 - l3.length) 0) [] 0 else none
theorem w64_of {x : Int} (h0 : -1000 ≤ x) (h1 : x ≤ 1000) : w64 x := by
  unfold w64
  simp only [Lit.wf, IntKind.min, IntKind.max, IntKind.signed, IntKind.bits, Bool.and_eq_true, decide_eq_true_eq, if_true]
  omega
theorem key_of {st po : Int} {ws : List Int} (h : okK st po ws = true) (hw : ws.length = 6) : ∃ l, keyOf Try.prog 72 (kvL st po ws) = some l := by
  unfold okK at h
  rw [Bool.and_eq_true, decide_eq_true_eq, List.all_eq_true] at h
  obtain ⟨⟨h1, h2, h3, h4⟩, h5⟩ := h
  have hr : ∀ i : Nat, i < 6 → w64 (rd ws (i : Int)) := fun i hi => by
    have hm : rd ws (i : Int) ∈ ws := by
      have e : rd ws (i : Int) = ws[i]'(by omega) := by simp [rd, List.getD, show i < ws.length by omega]
      rw [e]
      exact List.getElem_mem _
    have := h5 _ hm
    rw [decide_eq_true_eq] at this
    exact w64_of (by omega) (by omega)
  exact key8 _ _ _ _ _ _ _ _ (w64_of (by omega) (by omega)) (w64_of (by omega) (by omega)) (hr 0 (by omega)) (hr 1 (by omega)) (hr 2 (by omega)) (hr 3 (by omega)) (hr 4 (by omega)) (hr 5 (by omega))
theorem obj_same (w : World) (r : Nat) (o : Obj) (h : r < w.heap.size) : ({ w with heap := w.heap.setIfInBounds r o } : World).heap[r]? = some o := by
  simp [h]
theorem obj_other (w : World) (r k : Nat) (o : Obj) (h : k ≠ r) : ({ w with heap := w.heap.setIfInBounds r o } : World).heap[k]? = w.heap[k]? := by
  simp [Array.getElem?_setIfInBounds_ne (Ne.symm h)]
theorem obj_below {B r : Nat} {w0 w : World} (hb : Below B w0 w) (h : B ≤ r) (o : Obj) : Below B w0 { w with heap := w.heap.setIfInBounds r o } :=
  hb.trans ⟨rfl, rfl, rfl, by simp, fun k hk => obj_other w r k o (by omega)⟩
theorem crossGo_mono (rules : List (List S57)) (n : Nat) : ∀ (d : Nat) (st po : Int) (ws : List Int) (seen : List (Int × Int × List Int)) (i : Int), LeO (crossGo rules n d st po ws seen i) (crossGo rules n (d + 1) st po ws seen i) := by
  intro d
  induction d with
  | zero =>
    intro st po ws seen i r h
    simp only [crossGo] at h
    cases h
  | succ d ih =>
    intro st po ws seen i
    rw [crossGo, crossGo]
    repeat' first
      | (with_reducible exact ih _ _ _ _ _)
      | (with_reducible exact LeO.refl _)
      | (with_reducible refine LeO.ite ?_ ?_)
theorem block_cross.mono : ∀ a0 a1 a2 a3 a4 a5 k, LeO (block_cross.f k a0 a1 a2 a3 a4 a5) (block_cross.f (k + 1) a0 a1 a2 a3 a4 a5) := by
  intro a0 a1 a2 a3 a4 a5 k
  unfold block_cross.f
  exact LeO.ite (crossGo_mono _ _ _ _ _ _ _ _) (LeO.refl _)
set_option maxHeartbeats 8000000 in
set_option maxRecDepth 100000 in
theorem block_cross.calls (k : Nat) (a0_0 a0_1 : Int) (A0_2 : Option Addr) (c0_2 : Nat) (l0_2 : List (List S57)) (a1 a2 : Int) (A3 : Option Addr) (c3 : Nat) (l3 : List Int) (r1 r2 r3 r4 : Int) (r5 : List Int) (w : World) (hr0_2 : Kd.C (Kd.slice 57 k57) w A0_2 l0_2.length l0_2) (hc0_2 : l0_2.length ≤ c0_2) (hr3 : Kd.C (Kd.int .i64) w A3 l3.length l3) (hc3 : l3.length ≤ c3) (h : block_cross.f k a0_0 a0_1 l0_2 a1 a2 l3 = some (r1, r2, r3, r4, r5)) :
    Calls Try.prog 24 #[.agg #[.int .i64 a0_0, .int .i64 a0_1, .slice A0_2 l0_2.length c0_2], .int .i64 a1, .int .i64 a2, .slice A3 l3.length c3] w fun e w' => ∃ v5_ : Value, e = .returned (.agg #[.int .i64 r1, .int .i64 r2, .int .i64 r3, .int .i64 r4, v5_]) ∧ Kd.R (Kd.int .i64) 3 w' w.heap.size (fun _ => True) v5_ r5 ∧ Below w.heap.size w w' := by
  unfold block_cross.f at h
  by_cases kn : l3.length ≤ 6
  rotate_left
  · rw [if_neg kn] at h
    cases h
  rw [if_pos kn] at h
  have H := Aside0.mk h
  have HR0 := Aside0.mk hr0_2
  have HR3 := Aside0.mk hr3
  have HN := Aside0.mk kn
  clear h hr0_2 hr3 kn hc0_2 hc3
  go_enter Try.func24, Try.ntmps24
  go_upto_region 2 with (fail)
  obtain ⟨W, hW⟩ : ∃ W : World, ((w.alloc (.cells #[.int .i64 a0_0, .int .i64 a0_1, .slice A0_2 l0_2.length c0_2] 24)).alloc (.cells #[.int .i64 0, .int .i64 0, .int .i64 0, .int .i64 0, .slice none 0 0] 29)).alloc (.cells #[.int .i64 a1, .int .i64 a2, .int .i64 0, .int .i64 0, .int .i64 0, .int .i64 0, .int .i64 0, .int .i64 0] 72) = W := ⟨_, rfl⟩
  have hsz1 : (w.alloc (.cells #[.int .i64 a0_0, .int .i64 a0_1, .slice A0_2 l0_2.length c0_2] 24)).heap.size = w.heap.size + 1 := by simp
  have hsz2 : ((w.alloc (.cells #[.int .i64 a0_0, .int .i64 a0_1, .slice A0_2 l0_2.length c0_2] 24)).alloc (.cells #[.int .i64 0, .int .i64 0, .int .i64 0, .int .i64 0, .slice none 0 0] 29)).heap.size = w.heap.size + 1 + 1 := by simp
  have HZ0 := Aside0.mk (show W.heap[w.heap.size]? = some (.cells #[.int .i64 a0_0, .int .i64 a0_1, .slice A0_2 l0_2.length c0_2] 24 (0, 0)) from by rw [← hW]; exact blk_below (blk_new w _) (below_alloc (below_alloc (Below.refl _ _) _) _))
  have HZ1 := Aside0.mk (show W.heap[w.heap.size + 1]? = some (.cells #[.int .i64 0, .int .i64 0, .int .i64 0, .int .i64 0, .slice none 0 0] 29 (0, 0)) from by rw [← hW, ← hsz1]; exact blk_below (blk_new _ _) (below_alloc (Below.refl _ _) _))
  have HZ2 := Aside0.mk (show W.heap[w.heap.size + 1 + 1]? = some (.cells ([.int .i64 a1, .int .i64 a2, .int .i64 0, .int .i64 0, .int .i64 0, .int .i64 0, .int .i64 0, .int .i64 0] : List Value).toArray 72 (0, 0)) from by rw [← hW, ← hsz2]; exact blk_new _ _)
  have HB0 := Aside0.mk (show Below w.heap.size w W from by rw [← hW]; exact below_alloc (below_alloc (below_alloc (Below.refl _ _) _) _) _)
  have HSZ := Aside0.mk (show W.heap.size = w.heap.size + 1 + 1 + 1 from by rw [← hW]; simp)
  rw [hW]
  clear hW hsz1 hsz2
  obtain ⟨z2, hz2⟩ : ∃ z, w.heap.size + 1 + 1 = z := ⟨_, rfl⟩
  obtain ⟨z1, hz1⟩ : ∃ z, w.heap.size + 1 = z := ⟨_, rfl⟩
  obtain ⟨z0, hz0⟩ : ∃ z, w.heap.size = z := ⟨_, rfl⟩
  rw [hz2] at HZ2 HSZ ⊢
  rw [hz1] at HZ1 ⊢
  have HE := Aside0.mk (show w.heap.size ≤ z0 ∧ z0 < z1 ∧ z1 < z2 ∧ z2 < W.heap.size from ⟨by omega, by omega, by omega, by rw [HSZ.out]; omega⟩)
  rw [hz0] at HZ0 ⊢
  clear hz0 hz1 hz2 HSZ
  have HCN := Aside0.mk (show (l3.map (Value.int .i64)).length = Nat.min l3.length 6 from by rw [List.length_map]; have := HN.out; exact (Nat.min_eq_left this).symm)
  have HPOS := Aside0.mk (show 0 < (l3.map (Value.int .i64)).length → (some (⟨z2, 2, none⟩ : Addr)) = some ⟨z2, 2, none⟩ ∧ ∃ ad, A3 = some ad ∧ ∀ j v, (l3.map (Value.int .i64))[j]? = some v → W.cell? (ad.add j) = some v from fun hp => by
    have hC := Kd.C_below HR3.out HB0.out
    rw [List.length_map] at hp
    obtain ⟨ad, c, rfl, _⟩ := Kd.C_get hC 0 0 (by omega) (by omega)
    refine ⟨rfl, ad, rfl, fun j v hj => ?_⟩
    have hjl : j < l3.length := by have := (List.getElem?_eq_some_iff.1 hj).1; simpa using this
    obtain ⟨ad', c', e, _, hK, hc⟩ := Kd.C_get hC 0 (j : Int) (by omega) (by omega)
    injection e with e
    subst e
    have hv : v = .int .i64 (l3.getD j 0) := by
      rw [List.getElem?_map, List.getElem?_eq_getElem hjl] at hj
      simp [List.getD, hjl] at hj ⊢
      exact hj.symm
    rw [Int.toNat_natCast] at hK hc
    have hK' : c' = [.int .i64 (l3.getD j 0)] := hK
    subst hK'
    have := hc 0 _ rfl
    rw [hv]
    simpa [Kd.int, Kd.scalar] using this)
  have HFIT := Aside0.mk (show 2 + (l3.map (Value.int .i64)).length ≤ ([.int .i64 a1, .int .i64 a2, .int .i64 0, .int .i64 0, .int .i64 0, .int .i64 0, .int .i64 0, .int .i64 0] : List Value).length from by rw [List.length_map]; have := HN.out; simp; omega)
  have HONE := Aside0.mk (show ∀ v ∈ l3.map (Value.int .i64), v.oneCell' = true from fun v hv => by obtain ⟨x, _, rfl⟩ := List.mem_map.1 hv; rfl)
  have hmk : ∀ U : World, (Instr.makeMap 73 none).run Try.prog U = .ok (.map (some U.heap.size)) (U.alloc (.map #[] 0)) := fun U => by rfl
  go_wp2_with (first | ((with_reducible refine wpList_copy_splice rfl (.tmp 18) (.tmp 19) 25 25 rfl 3 Try.underlying25 (by kernel_rfl) (some ⟨z2, 2, none⟩) A3 6 6 l3.length c3 rfl rfl z2 2 _ 72 HZ2.out (l3.map (Value.int .i64)) HCN.out HPOS.out HFIT.out HONE.out z2 W (Below.refl _ _) (Nat.le_refl _) ?_); intro w1 hz2 hB1))
  clear hmk HCN HPOS HFIT HONE
  obtain ⟨ws0, hws0⟩ : ∃ l, l3 ++ List.replicate (6 - l3.length) 0 = l := ⟨_, rfl⟩
  have HL := Aside0.mk (show ws0.length = 6 from by rw [← hws0]; have := HN.out; simp; omega)
  have HZ2n := Aside0.mk (show w1.heap[z2]? = some (.cells (bc a1 a2 ws0).toArray 72 (0, 0)) from by
    rw [hz2.out, ← hws0, splice6 _ _ _ HN.out])
  rw [hws0] at H
  have HZ0n := Aside0.mk ((hB1.block z0 (by have := HE.out; omega)).trans HZ0.out)
  have HZ1n := Aside0.mk ((hB1.block z1 (by have := HE.out; omega)).trans HZ1.out)
  have HB1 := Aside0.mk (HB0.out.trans (hB1.mono (by have := HE.out; omega)))
  have HEn := Aside0.mk (show w.heap.size ≤ z0 ∧ z0 < z1 ∧ z1 < z2 ∧ z2 < w1.heap.size from by have h1 := HE.out; have h2 := hB1.size; exact ⟨by omega, by omega, by omega, by omega⟩)
  clear hz2 hB1 HB0 hws0 HZ2 HZ0 HZ1 HE
  have hb2 := below_alloc (Below.refl w1.heap.size w1) (.map #[] 0)
  have HZ0 := Aside0.mk (blk_below HZ0n.out hb2)
  have HZ1 := Aside0.mk (blk_below HZ1n.out hb2)
  have HZ2 := Aside0.mk (blk_below HZ2n.out hb2)
  have HM := Aside0.mk (blk_new w1 (.map #[] 0))
  have HB2 := Aside0.mk (below_step HB1.out hb2)
  obtain ⟨w2, hW2⟩ : ∃ W : World, w1.alloc (.map #[] 0) = W := ⟨_, rfl⟩
  have HE := Aside0.mk (show w.heap.size ≤ z0 ∧ z0 < z1 ∧ z1 < z2 ∧ z2 < w1.heap.size from HEn.out)
  rw [hW2] at HZ0 HZ1 HZ2 HM HB2 ⊢
  obtain ⟨z3, hz3⟩ : ∃ z, w1.heap.size = z := ⟨_, rfl⟩
  rw [hz3] at HM HE ⊢
  clear hW2 hz3 hb2 HZ0n HZ1n HZ2n HB1 HEn
  go_loopg [11] (k) (fun kq v11 w' => ∃ (st po i : Int) (ws : List Int) (seen : List (Int × Int × List Int)) (es : Array MapEntry) (c : Nat), v11 = .int .i64 i ∧ Aside0 (crossGo l0_2 l3.length kq st po ws seen i = some (r1, r2, r3, r4, r5)) ∧ Aside0 (ws.length = 6) ∧ Aside0 (SeenOf es.toList seen) ∧ Aside0 (w'.heap[z0]? = some (.cells #[.int .i64 a0_0, .int .i64 a0_1, .slice A0_2 l0_2.length c0_2] 24 (0, 0))) ∧ Aside0 (w'.heap[z1]? = some (.cells #[.int .i64 0, .int .i64 0, .int .i64 0, .int .i64 0, .slice none 0 0] 29 (0, 0))) ∧ Aside0 (w'.heap[z2]? = some (.cells (bc st po ws).toArray 72 (0, 0))) ∧ Aside0 (w'.heap[z3]? = some (.map es c)) ∧ Aside0 (Below w.heap.size w w'))
  case atStart => exact ⟨a1, a2, 0, ws0, [], #[], 0, rfl, H, HL, ⟨SeenOf.nil⟩, HZ0, HZ1, HZ2, HM, HB2⟩
  case round =>
    clear H HL HZ0 HZ1 HZ2 HM HB2
    obtain ⟨st, po, i, ws, seen, es, c, rfl, H, HL, HS, HZ0, HZ1, HZ2, HM, HB⟩ := hrel
    cases gk with
    | zero =>
      have h := H.out
      simp only [crossGo] at h
      cases h
    | succ d =>
    have hc0 : wr.cell? ⟨z2, 0, none⟩ = some (.int .i64 st) := (blk_cell HZ2.out 0).trans rfl
    have hc1 : wr.cell? ⟨z2, 1, none⟩ = some (.int .i64 po) := (blk_cell HZ2.out 1).trans rfl
    have HCL := Aside0.mk (show ∀ U : World, Kd.C (Kd.int .i64) U (some ⟨z2, 2, none⟩) l3.length (ws.take l3.length) → Calls Try.prog 33 #[.slice (some ⟨z2, 2, none⟩) l3.length 6] U fun e w' => ∃ v0_ : Value, e = .returned (v0_) ∧ Kd.R (Kd.int .i64) 3 w' U.heap.size (fun _ => True) v0_ (ws.take l3.length) ∧ Below U.heap.size U w' from fun U hC => by
      have hl : (ws.take l3.length).length = l3.length := by rw [List.length_take]; have := HL.out; have := HN.out; omega
      have := slices_Clone_int_int.calls (some ⟨z2, 2, none⟩) 6 (ws.take l3.length) (ws.take l3.length) U (by rw [hl]; exact hC) (by rw [hl]; exact HN.out) (by unfold slices_Clone_int_int.f; rw [if_pos (by rw [hl]; have := HN.out; omega)])
      rw [hl] at this
      exact this)
    have HWL := Aside0.mk (show (ws.take l3.length).length = l3.length from by rw [List.length_take]; have := HL.out; have := HN.out; omega)
    obtain ⟨wt, hwt⟩ : ∃ l, ws.take l3.length = l := ⟨_, rfl⟩
    have HBC := Aside0.mk (show ∀ U : World, U.heap[z2]? = some (.cells (bc st po ws).toArray 72 (0, 0)) → Kd.C (Kd.int .i64) U (some ⟨z2, 2, none⟩) l3.length wt from fun U hU => hwt ▸ bc_C hU HL.out HN.out)
    rw [hwt] at HCL HWL
    have HWT := Aside0.mk hwt
    clear hwt
    have hn6 := eq_true (show (l3.length : Int) ≤ 6 from by have := HN.out; omega)
    have hn7 := eq_true (show l3.length ≤ 6 from HN.out)
    go_wp2_with fail
    refine start_ (n := 13) (S := fun w' => w'.cell? ⟨z2, 0, none⟩ = some (.int .i64 st) ∧ w'.cell? ⟨z2, 1, none⟩ = some (.int .i64 po)) (ds := [12]) #[false, false, false, false, false, false, false, false, false, false, false, false, false] (by kernel_rfl) rfl rfl ⟨hc0, hc1⟩ (fun hHeld => ?_)
    refine pure_ (i := 0) (N := some 24) (v := ?_) (a' := ?_) #[true, false, false, false, false, false, false, false, false, false, false, false, false] rfl rfl (by kernel_rfl) (fun _ _ _ h => h) (Or.inl ⟨by rfl, ?_⟩) ?_ ?_
    rotate_left
    · intro w'
      go_simp
      with_reducible rfl
    rotate_left
    · simp only [Act.put, List.setIfInBounds_toArray, List.set_cons_zero, List.set_cons_succ, i64_w, i32_w]
      rfl
    refine pure_ (i := 2) (N := some 26) (v := ?_) (a' := ?_) #[true, false, true, false, false, false, false, false, false, false, false, false, false] rfl rfl (by kernel_rfl) (fun _ _ _ h => h) (Or.inl ⟨by rfl, ?_⟩) ?_ ?_
    rotate_left
    · intro w'
      go_simp
      with_reducible rfl
    rotate_left
    · simp only [Act.put, List.setIfInBounds_toArray, List.set_cons_zero, List.set_cons_succ, i64_w, i32_w]
      rfl
    refine pure_ (i := 3) (N := some 27) (v := ?_) (a' := ?_) #[true, false, true, true, false, false, false, false, false, false, false, false, false] rfl rfl (by kernel_rfl) (fun _ _ _ h => h) (Or.inl ⟨by rfl, ?_⟩) ?_ ?_
    rotate_left
    · intro w'
      go_simp
      with_reducible rfl
    rotate_left
    · simp only [Act.put, List.setIfInBounds_toArray, List.set_cons_zero, List.set_cons_succ, i64_w, i32_w]
      rfl
    refine pure_ (i := 5) (N := some 29) (v := ?_) (a' := ?_) #[true, false, true, true, false, true, false, false, false, false, false, false, false] rfl rfl (by kernel_rfl) (fun _ _ _ h => h) (Or.inl ⟨by rfl, ?_⟩) ?_ ?_
    rotate_left
    · intro w'
      go_simp
      with_reducible rfl
    rotate_left
    · simp only [Act.put, List.setIfInBounds_toArray, List.set_cons_zero, List.set_cons_succ, i64_w, i32_w]
      rfl
    refine pure_ (i := 6) (N := some 30) (v := ?_) (a' := ?_) #[true, false, true, true, false, true, true, false, false, false, false, false, false] rfl rfl (by kernel_rfl) (fun _ _ _ h => h) (Or.inl ⟨by rfl, ?_⟩) ?_ ?_
    rotate_left
    · intro w'
      go_simp
      with_reducible rfl
    rotate_left
    · simp only [Act.put, List.setIfInBounds_toArray, List.set_cons_zero, List.set_cons_succ, i64_w, i32_w]
      rfl
    refine pure_ (i := 7) (N := some 31) (v := ?_) (a' := ?_) #[true, false, true, true, false, true, true, true, false, false, false, false, false] rfl rfl (by kernel_rfl) (fun _ _ _ h => h) (Or.inl ⟨by rfl, ?_⟩) ?_ ?_
    rotate_left
    · intro w'
      go_simp
      with_reducible rfl
    rotate_left
    · simp only [Act.put, List.setIfInBounds_toArray, List.set_cons_zero, List.set_cons_succ, i64_w, i32_w]
      rfl
    refine pure_ (i := 8) (N := some 32) (v := ?_) (a' := ?_) #[true, false, true, true, false, true, true, true, true, false, false, false, false] rfl rfl (by kernel_rfl) (fun _ _ _ h => h) (Or.inl ⟨by rfl, ?_⟩) ?_ ?_
    rotate_left
    · intro w'
      go_simp
      with_reducible rfl
    rotate_left
    · simp only [Act.put, List.setIfInBounds_toArray, List.set_cons_zero, List.set_cons_succ, i64_w, i32_w]
      rfl
    refine take_ (i := 1) (N := some 25) (v := ?_) (a' := ?_) #[true, true, true, true, false, true, true, true, true, false, false, false, false] rfl rfl (by kernel_rfl) (fun _ _ _ h => h) (Or.inl ⟨by rfl, ?_⟩) hHeld ?_ ?_
    rotate_left
    · rintro w' ⟨s0, s1⟩
      go_simp
      with_reducible rfl
    rotate_left
    · simp only [Act.put, List.setIfInBounds_toArray, List.set_cons_zero, List.set_cons_succ, i64_w, i32_w]
      rfl
    refine take_ (i := 4) (N := some 28) (v := ?_) (a' := ?_) #[true, true, true, true, true, true, true, true, true, false, false, false, false] rfl rfl (by kernel_rfl) (fun _ _ _ h => h) (Or.inl ⟨by rfl, ?_⟩) hHeld ?_ ?_
    rotate_left
    · rintro w' ⟨s0, s1⟩
      go_simp
      with_reducible rfl
    rotate_left
    · simp only [Act.put, List.setIfInBounds_toArray, List.set_cons_zero, List.set_cons_succ, i64_w, i32_w]
      rfl
    refine join_ (σ := Option Addr × Nat × Nat) 1 #[true, true, true, true, true, true, true, true, true, true, true, true, false] (fun s => [(33, .slice s.1 wt.length s.2.1), (34, .agg #[.int .i64 0, .int .i64 st, .int .i64 i, .int .i64 po, .slice s.1 wt.length s.2.1]), (12, .pointer (some ⟨s.2.2, 0, none⟩))]) (fun s w' => w'.heap[s.2.2]? = some (.cells #[.int .i64 0, .int .i64 0, .int .i64 0, .int .i64 0, .slice none 0 0] 29 (0, 0)) ∧ Below wr.heap.size wr w' ∧ wr.heap.size ≤ s.2.2 ∧ Kd.R (Kd.int .i64) 3 w' wr.heap.size (fun k => wr.heap.size ≤ k ∧ k ≠ s.2.2) (.slice s.1 wt.length s.2.1) wt) ?_ ?_
    rotate_left
    · intro hCont
      refine two_ (i := 9) (j := 11) (Ni := some 33) (Nj := some 12) #[true, true, true, true, true, true, true, true, true, true, false, false, false] #[true, true, true, true, true, true, true, true, true, false, false, true, false] rfl rfl rfl rfl (by kernel_rfl) (by decide) (by decide) (fun K hK => ?_) (fun K hK => ?_)
      · skip
        refine goes_ Try.func33 (by kernel_rfl) rfl #[.slice (some ⟨z2, 2, none⟩) l3.length 6] (by rfl) rfl rfl (by simp only [List.map_toArray, List.map_cons, List.map_nil]; rfl) ?_
        with_reducible refine (HCL.out _ (HBC.out _ (blk_below HZ2.out (show Below wr.heap.size wr wr.drew from bk_ (Below.refl _ _))))).mono ?_
        rintro e w8 ⟨v8, rfl, ho8, hB8⟩
        refine ⟨_, rfl, ?_⟩
        obtain ⟨A8, c8, rfl⟩ := Kd.R_slice ho8
        have HE9 := Aside0.mk (below_step (show Below wr.heap.size wr wr.drew from bk_ (Below.refl _ _)) hB8)
        have HO9 := Aside0.mk (show Kd.R (Kd.int .i64) 3 w8 wr.heap.size (fun k => wr.heap.size ≤ k ∧ k < w8.heap.size) (.slice A8 wt.length c8) wt from Kd.R_lower (Kd.R_mono (Kd.R_bound ho8) (fun k hk => ⟨by have h1 := ((show Below wr.heap.size wr wr.drew from bk_ (Below.refl _ _))).size; have h2 := hk.2.1; omega, hk.2.2.1⟩)) ((show Below wr.heap.size wr wr.drew from bk_ (Below.refl _ _))).size)
        clear ho8 hB8
        refine hK.out _ _ ⟨(lf_ HE9.out hc0), (lf_ HE9.out hc1)⟩ (fun hHeld => ?_)
        clear hK K
        refine norm_ (a' := ?_) ?_ ?_
        rotate_left
        · show Act.put _ (some 33) _ = _
          simp only [Act.put, List.setIfInBounds_toArray, List.set_cons_zero, List.set_cons_succ, i64_w, i32_w]
          rfl
        refine pure_ (i := 10) (N := some 34) (v := ?_) (a' := ?_) #[true, true, true, true, true, true, true, true, true, true, true, false, false] rfl rfl (by kernel_rfl) (fun _ _ _ h => h) (Or.inl ⟨by rfl, ?_⟩) ?_ ?_
        rotate_left
        · intro w'
          go_simp
          with_reducible rfl
        rotate_left
        · simp only [Act.put, List.setIfInBounds_toArray, List.set_cons_zero, List.set_cons_succ, i64_w, i32_w]
          rfl
        refine one_ (i := 11) (N := some 12) #[true, true, true, true, true, true, true, true, true, true, true, true, false] rfl rfl (by kernel_rfl) (by decide) (fun K hK => ?_)
        refine box_step (by rfl) rfl (cs := #[.int .i64 0, .int .i64 0, .int .i64 0, .int .i64 0, .slice none 0 0]) (t := 29) ?_ ?_
        · go_simp
        intro q hq w7 hb7 hB7
        have HE11 := Aside0.mk (below_step HE9.out hB7)
        have HQ11 := Aside0.mk hb7
        have HQ0 := Aside0.mk (show wr.heap.size ≤ q from by rw [hq]; exact (HE9.out).size)
        have HQL := Aside0.mk (blk_lt hb7)
        have HO9 := Aside0.mk (show Kd.R (Kd.int .i64) 3 w7 wr.heap.size (fun k => wr.heap.size ≤ k ∧ k ≠ q) (.slice A8 wt.length c8) wt from Kd.R_below (Kd.R_mono HO9.out (fun k hk => ⟨hk.1, by have := hk.2; omega⟩)) hB7)
        clear hb7 hB7 hq
        refine hK.out _ _ ⟨(lf_ HE11.out hc0), (lf_ HE11.out hc1)⟩ (fun hHeld => ?_)
        clear hK K
        refine norm_ (a' := ?_) ?_ ?_
        rotate_left
        · show Act.put _ (some 12) _ = _
          simp only [Act.put, List.setIfInBounds_toArray, List.set_cons_zero, List.set_cons_succ, i64_w, i32_w]
          rfl
        exact norm_ (by simp only [putAll, Act.put, List.setIfInBounds_toArray, List.set_cons_zero, List.set_cons_succ]) (hCont (A8, c8, q) _ ⟨HQ11.out, HE11.out, HQ0.out, HO9.out⟩)
      · skip
        refine box_step (by rfl) rfl (cs := #[.int .i64 0, .int .i64 0, .int .i64 0, .int .i64 0, .slice none 0 0]) (t := 29) ?_ ?_
        · go_simp
        intro q hq w7 hb7 hB7
        have HE11 := Aside0.mk (below_step (show Below wr.heap.size wr wr.drew from bk_ (Below.refl _ _)) hB7)
        have HQ11 := Aside0.mk hb7
        have HQ0 := Aside0.mk (show wr.heap.size ≤ q from by rw [hq]; exact ((show Below wr.heap.size wr wr.drew from bk_ (Below.refl _ _))).size)
        have HQL := Aside0.mk (blk_lt hb7)
        clear hb7 hB7 hq
        refine hK.out _ _ ⟨(lf_ HE11.out hc0), (lf_ HE11.out hc1)⟩ (fun hHeld => ?_)
        clear hK K
        refine norm_ (a' := ?_) ?_ ?_
        rotate_left
        · show Act.put _ (some 12) _ = _
          simp only [Act.put, List.setIfInBounds_toArray, List.set_cons_zero, List.set_cons_succ, i64_w, i32_w]
          rfl
        refine one_ (i := 9) (N := some 33) #[true, true, true, true, true, true, true, true, true, true, false, true, false] rfl rfl (by kernel_rfl) (by decide) (fun K hK => ?_)
        refine goes_ Try.func33 (by kernel_rfl) rfl #[.slice (some ⟨z2, 2, none⟩) l3.length 6] (by rfl) rfl rfl (by simp only [List.map_toArray, List.map_cons, List.map_nil]; rfl) ?_
        with_reducible refine (HCL.out _ (HBC.out _ (blk_below HZ2.out HE11.out))).mono ?_
        rintro e w8 ⟨v8, rfl, ho8, hB8⟩
        refine ⟨_, rfl, ?_⟩
        obtain ⟨A8, c8, rfl⟩ := Kd.R_slice ho8
        have HE9 := Aside0.mk (below_step HE11.out hB8)
        have HQ11 := Aside0.mk (blk_below HQ11.out hB8)
        have HO9 := Aside0.mk (show Kd.R (Kd.int .i64) 3 w8 wr.heap.size (fun k => wr.heap.size ≤ k ∧ k ≠ q) (.slice A8 wt.length c8) wt from Kd.R_lower (Kd.R_mono (Kd.R_bound ho8) (fun k hk => ⟨by have h1 := (HE11.out).size; have h2 := hk.2.1; omega, by have h1 := HQL.out; have h2 := hk.2.1; omega⟩)) (HE11.out).size)
        clear ho8 hB8
        refine hK.out _ _ ⟨(lf_ HE9.out hc0), (lf_ HE9.out hc1)⟩ (fun hHeld => ?_)
        clear hK K
        refine norm_ (a' := ?_) ?_ ?_
        rotate_left
        · show Act.put _ (some 33) _ = _
          simp only [Act.put, List.setIfInBounds_toArray, List.set_cons_zero, List.set_cons_succ, i64_w, i32_w]
          rfl
        refine pure_ (i := 10) (N := some 34) (v := ?_) (a' := ?_) #[true, true, true, true, true, true, true, true, true, true, true, true, false] rfl rfl (by kernel_rfl) (fun _ _ _ h => h) (Or.inl ⟨by rfl, ?_⟩) ?_ ?_
        rotate_left
        · intro w'
          go_simp
          with_reducible rfl
        rotate_left
        · simp only [Act.put, List.setIfInBounds_toArray, List.set_cons_zero, List.set_cons_succ, i64_w, i32_w]
          rfl
        exact norm_ (by simp only [putAll, Act.put, List.setIfInBounds_toArray, List.set_cons_zero, List.set_cons_succ]) (hCont (A8, c8, q) _ ⟨HQ11.out, HE9.out, HQ0.out, HO9.out⟩)
    rintro ⟨A8, c8, q⟩ w10 ⟨hq10, hE10, hql, hO⟩
    have HQ10 := Aside0.mk hq10
    have HE10 := Aside0.mk hE10
    have HQL := Aside0.mk hql
    have HO := Aside0.mk hO
    clear hq10 hE10 hql hO hHeld
    simp only at HQ10 HO HQL
    refine norm_ (a' := ?_) ?_ ?_
    rotate_left
    · simp only [putAll, Act.put, List.setIfInBounds_toArray, List.set_cons_zero, List.set_cons_succ]
      rfl
    refine last_ (i := 12) (N := none) #[true, true, true, true, true, true, true, true, true, true, true, true, true] rfl rfl (by kernel_rfl) (by decide) (fun K hK => ?_)
    have hq_0 := (blk_cell HQ10.out 0).trans rfl
    have hq_1 := (blk_cell HQ10.out 1).trans rfl
    have hq_2 := (blk_cell HQ10.out 2).trans rfl
    have hq_3 := (blk_cell HQ10.out 3).trans rfl
    have hq_4 := (blk_cell HQ10.out 4).trans rfl
    have hf_0 := blk_frozen HQ10.out 0
    have hf_1 := blk_frozen HQ10.out 1
    have hf_2 := blk_frozen HQ10.out 2
    have hf_3 := blk_frozen HQ10.out 3
    have hf_4 := blk_frozen HQ10.out 4
    refine skip_ (w1 := ?_) (by rfl) rfl ?_ ?_
    rotate_left
    · go_simp
      rfl
    refine hK.out _ _ ?_
    clear hK K
    refine done_ (by kernel_rfl) ?_
    -- behind region 6
    obtain ⟨w11, hW11⟩ : ∃ W : World, (((((w10.setCell ⟨q, 0, none⟩ (.int .i64 0)).setCell ⟨q, 1, none⟩ (.int .i64 st)).setCell ⟨q, 2, none⟩ (.int .i64 i)).setCell ⟨q, 3, none⟩ (.int .i64 po)).setCell ⟨q, 4, none⟩ (.slice A8 wt.length c8)) = W := ⟨_, rfl⟩
    have hE11 : Below wr.heap.size wr w11 := by rw [← hW11]; exact (((((HE10.out.setCell (p := ⟨q, 0, none⟩) HQL.out (.int .i64 0)).setCell (p := ⟨q, 1, none⟩) HQL.out (.int .i64 st)).setCell (p := ⟨q, 2, none⟩) HQL.out (.int .i64 i)).setCell (p := ⟨q, 3, none⟩) HQL.out (.int .i64 po)).setCell (p := ⟨q, 4, none⟩) HQL.out (.slice A8 wt.length c8))
    have HQ := Aside0.mk (show w11.heap[q]? = some (.cells #[.int .i64 0, .int .i64 st, .int .i64 i, .int .i64 po, .slice A8 wt.length c8] 29 (0, 0)) from by rw [← hW11]; exact blk_put (blk_put (blk_put (blk_put (blk_put HQ10.out 0 _ rfl) 1 _ rfl) 2 _ rfl) 3 _ rfl) 4 _ rfl)
    have HO11 := Aside0.mk (show Kd.R (Kd.int .i64) 3 w11 wr.heap.size (fun k => wr.heap.size ≤ k ∧ k ≠ q) (.slice A8 wt.length c8) wt from by rw [← hW11]; exact (Kd.R_far (p := ⟨q, 4, none⟩) (Kd.R_far (p := ⟨q, 3, none⟩) (Kd.R_far (p := ⟨q, 2, none⟩) (Kd.R_far (p := ⟨q, 1, none⟩) (Kd.R_far (p := ⟨q, 0, none⟩) HO.out (fun k hk => hk.2) (.int .i64 0)) (fun k hk => hk.2) (.int .i64 st)) (fun k hk => hk.2) (.int .i64 i)) (fun k hk => hk.2) (.int .i64 po)) (fun k hk => hk.2) (.slice A8 wt.length c8)))
    have HZ0_ := Aside0.mk (blk_below HZ0.out hE11)
    have HZ1_ := Aside0.mk (blk_below HZ1.out hE11)
    have HZ2_ := Aside0.mk (blk_below HZ2.out hE11)
    have HM_ := Aside0.mk (blk_below HM.out hE11)
    have HB_ := Aside0.mk (below_step HB.out hE11)
    have HLT := Aside0.mk (show z0 < wr.heap.size ∧ z1 < wr.heap.size ∧ z2 < wr.heap.size ∧ z3 < wr.heap.size from ⟨blk_lt HZ0.out, blk_lt HZ1.out, blk_lt HZ2.out, blk_lt HM.out⟩)
    rw [hW11]
    clear hW11 hE11 HQ10 HE10 HO HZ0 HZ1 HZ2 HM HB hc0 hc1 HCL HBC hn6 hn7
    have h := H.out
    clear H
    simp only [crossGo] at h
    rw [HWT.out] at h
    have hc0 : w11.cell? ⟨z2, 0, none⟩ = some (.int .i64 st) := (blk_cell HZ2_.out 0).trans rfl
    have hc1 : w11.cell? ⟨z2, 1, none⟩ = some (.int .i64 po) := (blk_cell HZ2_.out 1).trans rfl
    by_cases k1 : st = -1
    · rw [if_pos k1] at h
      have k1b : (st == (-1 : Int)) = true := beq_iff_eq.mpr k1
      subst k1
      have hqq0 := (blk_cell HQ.out 0).trans rfl
      have hqt0 := blk_frozen HQ.out 0
      have hqq1 := (blk_cell HQ.out 1).trans rfl
      have hqt1 := blk_frozen HQ.out 1
      have hqq2 := (blk_cell HQ.out 2).trans rfl
      have hqt2 := blk_frozen HQ.out 2
      have hqq3 := (blk_cell HQ.out 3).trans rfl
      have hqt3 := blk_frozen HQ.out 3
      have hqq4 := (blk_cell HQ.out 4).trans rfl
      have hqt4 := blk_frozen HQ.out 4
      have hz0 := (blk_cell HZ1_.out 0).trans rfl
      have hy0 := blk_frozen HZ1_.out 0
      have hz1 := (blk_cell HZ1_.out 1).trans rfl
      have hy1 := blk_frozen HZ1_.out 1
      have hz2 := (blk_cell HZ1_.out 2).trans rfl
      have hy2 := blk_frozen HZ1_.out 2
      have hz3 := (blk_cell HZ1_.out 3).trans rfl
      have hy3 := blk_frozen HZ1_.out 3
      have hz4 := (blk_cell HZ1_.out 4).trans rfl
      have hy4 := blk_frozen HZ1_.out 4
      have hqz : q ≠ z1 := by have h1 := HQL.out; have h2 := HLT.out; omega
      have hzq : z1 ≠ q := fun e => hqz e.symm
      simp only [Option.some.injEq, Prod.mk.injEq] at h
      obtain ⟨rfl, rfl, rfl, rfl, rfl⟩ := h
      go_wp2_with fail
      refine bodyPost_ret (results_cell_row rfl _ _ z1 29 #[.int .i64 2, .int .i64 (-1), .int .i64 i, .int .i64 po, .slice A8 wt.length c8] (0, 0) _ rfl (blk_put (blk_put (blk_put (blk_put (blk_put (blk_far (p := ⟨q, 0, none⟩) HZ1_.out hzq (.int .i64 2)) 0 (.int .i64 2) rfl) 1 (.int .i64 (-1)) rfl) 2 (.int .i64 i) rfl) 3 (.int .i64 po) rfl) 4 (.slice A8 wt.length c8) rfl) Try.underlying29 rfl (by kernel_rfl)) rfl ?_
      exact ⟨_, rfl, Kd.R_lower (Kd.R_mono (Kd.R_far (p := ⟨z1, 4, none⟩) (Kd.R_far (p := ⟨z1, 3, none⟩) (Kd.R_far (p := ⟨z1, 2, none⟩) (Kd.R_far (p := ⟨z1, 1, none⟩) (Kd.R_far (p := ⟨z1, 0, none⟩) (Kd.R_far (p := ⟨q, 0, none⟩) HO11.out (fun k hk => hk.2) (.int .i64 2)) (fun k hk => by have h1 := hk.1; have h2 := HLT.out; show k ≠ z1; omega) (.int .i64 2)) (fun k hk => by have h1 := hk.1; have h2 := HLT.out; show k ≠ z1; omega) (.int .i64 (-1))) (fun k hk => by have h1 := hk.1; have h2 := HLT.out; show k ≠ z1; omega) (.int .i64 i)) (fun k hk => by have h1 := hk.1; have h2 := HLT.out; show k ≠ z1; omega) (.int .i64 po)) (fun k hk => by have h1 := hk.1; have h2 := HLT.out; show k ≠ z1; omega) (.slice A8 wt.length c8)) (fun _ _ => trivial)) (show w.heap.size ≤ wr.heap.size from by have h2 := HE.out; have h3 := HLT.out; omega), ((((((HB_.out.setCell (p := ⟨q, 0, none⟩) (show w.heap.size ≤ q from by have h1 := HQL.out; have h2 := HE.out; have h3 := HLT.out; omega) (.int .i64 2)).setCell (p := ⟨z1, 0, none⟩) (show w.heap.size ≤ z1 from by have h2 := HE.out; omega) (.int .i64 2)).setCell (p := ⟨z1, 1, none⟩) (show w.heap.size ≤ z1 from by have h2 := HE.out; omega) (.int .i64 (-1))).setCell (p := ⟨z1, 2, none⟩) (show w.heap.size ≤ z1 from by have h2 := HE.out; omega) (.int .i64 i)).setCell (p := ⟨z1, 3, none⟩) (show w.heap.size ≤ z1 from by have h2 := HE.out; omega) (.int .i64 po)).setCell (p := ⟨z1, 4, none⟩) (show w.heap.size ≤ z1 from by have h2 := HE.out; omega) (.slice A8 wt.length c8))⟩
    rw [if_neg k1] at h
    have k1b : (st == (-1 : Int)) = false := beq_eq_false_iff_ne.mpr k1
    clear k1
    by_cases k2 : po < 0
    · rw [if_pos k2] at h
      have k2b : decide (po < 0) = true := decide_eq_true k2
      have k2c := eq_true k2
      clear k2
      have hqq0 := (blk_cell HQ.out 0).trans rfl
      have hqt0 := blk_frozen HQ.out 0
      have hqq1 := (blk_cell HQ.out 1).trans rfl
      have hqt1 := blk_frozen HQ.out 1
      have hqq2 := (blk_cell HQ.out 2).trans rfl
      have hqt2 := blk_frozen HQ.out 2
      have hqq3 := (blk_cell HQ.out 3).trans rfl
      have hqt3 := blk_frozen HQ.out 3
      have hqq4 := (blk_cell HQ.out 4).trans rfl
      have hqt4 := blk_frozen HQ.out 4
      have hz0 := (blk_cell HZ1_.out 0).trans rfl
      have hy0 := blk_frozen HZ1_.out 0
      have hz1 := (blk_cell HZ1_.out 1).trans rfl
      have hy1 := blk_frozen HZ1_.out 1
      have hz2 := (blk_cell HZ1_.out 2).trans rfl
      have hy2 := blk_frozen HZ1_.out 2
      have hz3 := (blk_cell HZ1_.out 3).trans rfl
      have hy3 := blk_frozen HZ1_.out 3
      have hz4 := (blk_cell HZ1_.out 4).trans rfl
      have hy4 := blk_frozen HZ1_.out 4
      have hqz : q ≠ z1 := by have h1 := HQL.out; have h2 := HLT.out; omega
      have hzq : z1 ≠ q := fun e => hqz e.symm
      simp only [Option.some.injEq, Prod.mk.injEq] at h
      obtain ⟨rfl, rfl, rfl, rfl, rfl⟩ := h
      go_wp2_with fail
      refine bodyPost_ret (results_cell_row rfl _ _ z1 29 #[.int .i64 0, .int .i64 st, .int .i64 i, .int .i64 po, .slice A8 wt.length c8] (0, 0) _ rfl (blk_put (blk_put (blk_put (blk_put (blk_put (blk_far (p := ⟨q, 0, none⟩) HZ1_.out hzq (.int .i64 0)) 0 (.int .i64 0) rfl) 1 (.int .i64 st) rfl) 2 (.int .i64 i) rfl) 3 (.int .i64 po) rfl) 4 (.slice A8 wt.length c8) rfl) Try.underlying29 rfl (by kernel_rfl)) rfl ?_
      exact ⟨_, rfl, Kd.R_lower (Kd.R_mono (Kd.R_far (p := ⟨z1, 4, none⟩) (Kd.R_far (p := ⟨z1, 3, none⟩) (Kd.R_far (p := ⟨z1, 2, none⟩) (Kd.R_far (p := ⟨z1, 1, none⟩) (Kd.R_far (p := ⟨z1, 0, none⟩) (Kd.R_far (p := ⟨q, 0, none⟩) HO11.out (fun k hk => hk.2) (.int .i64 0)) (fun k hk => by have h1 := hk.1; have h2 := HLT.out; show k ≠ z1; omega) (.int .i64 0)) (fun k hk => by have h1 := hk.1; have h2 := HLT.out; show k ≠ z1; omega) (.int .i64 st)) (fun k hk => by have h1 := hk.1; have h2 := HLT.out; show k ≠ z1; omega) (.int .i64 i)) (fun k hk => by have h1 := hk.1; have h2 := HLT.out; show k ≠ z1; omega) (.int .i64 po)) (fun k hk => by have h1 := hk.1; have h2 := HLT.out; show k ≠ z1; omega) (.slice A8 wt.length c8)) (fun _ _ => trivial)) (show w.heap.size ≤ wr.heap.size from by have h2 := HE.out; have h3 := HLT.out; omega), ((((((HB_.out.setCell (p := ⟨q, 0, none⟩) (show w.heap.size ≤ q from by have h1 := HQL.out; have h2 := HE.out; have h3 := HLT.out; omega) (.int .i64 0)).setCell (p := ⟨z1, 0, none⟩) (show w.heap.size ≤ z1 from by have h2 := HE.out; omega) (.int .i64 0)).setCell (p := ⟨z1, 1, none⟩) (show w.heap.size ≤ z1 from by have h2 := HE.out; omega) (.int .i64 st)).setCell (p := ⟨z1, 2, none⟩) (show w.heap.size ≤ z1 from by have h2 := HE.out; omega) (.int .i64 i)).setCell (p := ⟨z1, 3, none⟩) (show w.heap.size ≤ z1 from by have h2 := HE.out; omega) (.int .i64 po)).setCell (p := ⟨z1, 4, none⟩) (show w.heap.size ≤ z1 from by have h2 := HE.out; omega) (.slice A8 wt.length c8))⟩
    rw [if_neg k2] at h
    have k2b : decide (po < 0) = false := decide_eq_false k2
    have k2c := eq_false k2
    have K2 := Aside0.mk k2
    clear k2
    by_cases k3 : po = (l3.length : Int)
    · rw [if_pos k3] at h
      have k3b : (po == (l3.length : Int)) = true := beq_iff_eq.mpr k3
      clear k3
      have hqq0 := (blk_cell HQ.out 0).trans rfl
      have hqt0 := blk_frozen HQ.out 0
      have hqq1 := (blk_cell HQ.out 1).trans rfl
      have hqt1 := blk_frozen HQ.out 1
      have hqq2 := (blk_cell HQ.out 2).trans rfl
      have hqt2 := blk_frozen HQ.out 2
      have hqq3 := (blk_cell HQ.out 3).trans rfl
      have hqt3 := blk_frozen HQ.out 3
      have hqq4 := (blk_cell HQ.out 4).trans rfl
      have hqt4 := blk_frozen HQ.out 4
      have hz0 := (blk_cell HZ1_.out 0).trans rfl
      have hy0 := blk_frozen HZ1_.out 0
      have hz1 := (blk_cell HZ1_.out 1).trans rfl
      have hy1 := blk_frozen HZ1_.out 1
      have hz2 := (blk_cell HZ1_.out 2).trans rfl
      have hy2 := blk_frozen HZ1_.out 2
      have hz3 := (blk_cell HZ1_.out 3).trans rfl
      have hy3 := blk_frozen HZ1_.out 3
      have hz4 := (blk_cell HZ1_.out 4).trans rfl
      have hy4 := blk_frozen HZ1_.out 4
      have hqz : q ≠ z1 := by have h1 := HQL.out; have h2 := HLT.out; omega
      have hzq : z1 ≠ q := fun e => hqz e.symm
      simp only [Option.some.injEq, Prod.mk.injEq] at h
      obtain ⟨rfl, rfl, rfl, rfl, rfl⟩ := h
      go_wp2_with fail
      refine bodyPost_ret (results_cell_row rfl _ _ z1 29 #[.int .i64 1, .int .i64 st, .int .i64 i, .int .i64 po, .slice A8 wt.length c8] (0, 0) _ rfl (blk_put (blk_put (blk_put (blk_put (blk_put (blk_far (p := ⟨q, 0, none⟩) HZ1_.out hzq (.int .i64 1)) 0 (.int .i64 1) rfl) 1 (.int .i64 st) rfl) 2 (.int .i64 i) rfl) 3 (.int .i64 po) rfl) 4 (.slice A8 wt.length c8) rfl) Try.underlying29 rfl (by kernel_rfl)) rfl ?_
      exact ⟨_, rfl, Kd.R_lower (Kd.R_mono (Kd.R_far (p := ⟨z1, 4, none⟩) (Kd.R_far (p := ⟨z1, 3, none⟩) (Kd.R_far (p := ⟨z1, 2, none⟩) (Kd.R_far (p := ⟨z1, 1, none⟩) (Kd.R_far (p := ⟨z1, 0, none⟩) (Kd.R_far (p := ⟨q, 0, none⟩) HO11.out (fun k hk => hk.2) (.int .i64 1)) (fun k hk => by have h1 := hk.1; have h2 := HLT.out; show k ≠ z1; omega) (.int .i64 1)) (fun k hk => by have h1 := hk.1; have h2 := HLT.out; show k ≠ z1; omega) (.int .i64 st)) (fun k hk => by have h1 := hk.1; have h2 := HLT.out; show k ≠ z1; omega) (.int .i64 i)) (fun k hk => by have h1 := hk.1; have h2 := HLT.out; show k ≠ z1; omega) (.int .i64 po)) (fun k hk => by have h1 := hk.1; have h2 := HLT.out; show k ≠ z1; omega) (.slice A8 wt.length c8)) (fun _ _ => trivial)) (show w.heap.size ≤ wr.heap.size from by have h2 := HE.out; have h3 := HLT.out; omega), ((((((HB_.out.setCell (p := ⟨q, 0, none⟩) (show w.heap.size ≤ q from by have h1 := HQL.out; have h2 := HE.out; have h3 := HLT.out; omega) (.int .i64 1)).setCell (p := ⟨z1, 0, none⟩) (show w.heap.size ≤ z1 from by have h2 := HE.out; omega) (.int .i64 1)).setCell (p := ⟨z1, 1, none⟩) (show w.heap.size ≤ z1 from by have h2 := HE.out; omega) (.int .i64 st)).setCell (p := ⟨z1, 2, none⟩) (show w.heap.size ≤ z1 from by have h2 := HE.out; omega) (.int .i64 i)).setCell (p := ⟨z1, 3, none⟩) (show w.heap.size ≤ z1 from by have h2 := HE.out; omega) (.int .i64 po)).setCell (p := ⟨z1, 4, none⟩) (show w.heap.size ≤ z1 from by have h2 := HE.out; omega) (.slice A8 wt.length c8))⟩
    rw [if_neg k3] at h
    have k3b : (po == (l3.length : Int)) = false := beq_eq_false_iff_ne.mpr k3
    clear k3
    -- the map
    by_cases kk : okK st po ws = true
    rotate_left
    · rw [if_neg kk] at h
      cases h
    rw [if_pos kk] at h
    obtain ⟨kl, hkl⟩ := key_of kk HL.out
    have HKEY := Aside0.mk hkl
    clear kk hkl
    have hc2 : w11.cell? ⟨z2, 2, none⟩ = some (.int .i64 (rd ws 0)) := bc_cell HZ2_.out 0 (by have := HL.out; omega)
    have hc3 : w11.cell? ⟨z2, 3, none⟩ = some (.int .i64 (rd ws 1)) := bc_cell HZ2_.out 1 (by have := HL.out; omega)
    have hc4 : w11.cell? ⟨z2, 4, none⟩ = some (.int .i64 (rd ws 2)) := bc_cell HZ2_.out 2 (by have := HL.out; omega)
    have hc5 : w11.cell? ⟨z2, 5, none⟩ = some (.int .i64 (rd ws 3)) := bc_cell HZ2_.out 3 (by have := HL.out; omega)
    have hc6 : w11.cell? ⟨z2, 6, none⟩ = some (.int .i64 (rd ws 4)) := bc_cell HZ2_.out 4 (by have := HL.out; omega)
    have hc7 : w11.cell? ⟨z2, 7, none⟩ = some (.int .i64 (rd ws 5)) := bc_cell HZ2_.out 5 (by have := HL.out; omega)
    by_cases km : (st, po, ws) ∈ seen
    · rw [if_pos km] at h
      have hlk : (Instr.lookup 73 (.map (some z3)) (.agg #[.int .i64 st, .int .i64 po, .int .i64 (rd ws 0), .int .i64 (rd ws 1), .int .i64 (rd ws 2), .int .i64 (rd ws 3), .int .i64 (rd ws 4), .int .i64 (rd ws 5)]) false).run Try.prog w11 = .ok (.bool true) w11 := look8 HM_.out HS.out.is HKEY.out true ⟨fun _ => (HS.out.tells st po ws HL.out).2 km, fun _ => rfl⟩
      simp only [Option.some.injEq, Prod.mk.injEq] at h
      obtain ⟨rfl, rfl, rfl, rfl, rfl⟩ := h
      have hz0 := (blk_cell HZ1_.out 0).trans rfl
      have hy0 := blk_frozen HZ1_.out 0
      have hz1 := (blk_cell HZ1_.out 1).trans rfl
      have hy1 := blk_frozen HZ1_.out 1
      have hz2 := (blk_cell HZ1_.out 2).trans rfl
      have hy2 := blk_frozen HZ1_.out 2
      have hz3 := (blk_cell HZ1_.out 3).trans rfl
      have hy3 := blk_frozen HZ1_.out 3
      have hz4 := (blk_cell HZ1_.out 4).trans rfl
      have hy4 := blk_frozen HZ1_.out 4
      clear km
      go_wp2_with fail
      refine bodyPost_ret (results_cell_row rfl _ _ z1 29 #[.int .i64 3, .int .i64 0, .int .i64 0, .int .i64 0, .slice none 0 0] (0, 0) _ rfl (blk_put (blk_put (blk_put (blk_put (blk_put HZ1_.out 0 (.int .i64 3) rfl) 1 (.int .i64 0) rfl) 2 (.int .i64 0) rfl) 3 (.int .i64 0) rfl) 4 (.slice none 0 0) rfl) Try.underlying29 rfl (by kernel_rfl)) rfl ?_
      exact ⟨_, rfl, Kd.R_nil _ _ _ _ _, (((((HB_.out.setCell (p := ⟨z1, 0, none⟩) (show w.heap.size ≤ z1 from by have h2 := HE.out; omega) (.int .i64 3)).setCell (p := ⟨z1, 1, none⟩) (show w.heap.size ≤ z1 from by have h2 := HE.out; omega) (.int .i64 0)).setCell (p := ⟨z1, 2, none⟩) (show w.heap.size ≤ z1 from by have h2 := HE.out; omega) (.int .i64 0)).setCell (p := ⟨z1, 3, none⟩) (show w.heap.size ≤ z1 from by have h2 := HE.out; omega) (.int .i64 0)).setCell (p := ⟨z1, 4, none⟩) (show w.heap.size ≤ z1 from by have h2 := HE.out; omega) (.slice none 0 0))⟩
    rw [if_neg km] at h
    have hlk : (Instr.lookup 73 (.map (some z3)) (.agg #[.int .i64 st, .int .i64 po, .int .i64 (rd ws 0), .int .i64 (rd ws 1), .int .i64 (rd ws 2), .int .i64 (rd ws 3), .int .i64 (rd ws 4), .int .i64 (rd ws 5)]) false).run Try.prog w11 = .ok (.bool false) w11 := look8 HM_.out HS.out.is HKEY.out false ⟨fun e => (by cases e), fun e => absurd ((HS.out.tells st po ws HL.out).1 e) km⟩
    have hup := put8 HM_.out HS.out.is HKEY.out (fun e => km ((HS.out.tells st po ws HL.out).1 e))
    obtain ⟨w12, hW12⟩ : ∃ W : World, { w11 with heap := w11.heap.setIfInBounds z3 (.map (es.push { key := kvL st po ws, val := .bool true, born := c }) (c + 1)) } = W := ⟨_, rfl⟩
    have hne : z0 ≠ z3 ∧ z1 ≠ z3 ∧ z2 ≠ z3 := by have := HE.out; exact ⟨by omega, by omega, by omega⟩
    have HZ0 := Aside0.mk (show w12.heap[z0]? = some (.cells #[.int .i64 a0_0, .int .i64 a0_1, .slice A0_2 l0_2.length c0_2] 24 (0, 0)) from by rw [← hW12]; exact (obj_other _ _ _ _ hne.1).trans HZ0_.out)
    have HZ1 := Aside0.mk (show w12.heap[z1]? = some (.cells #[.int .i64 0, .int .i64 0, .int .i64 0, .int .i64 0, .slice none 0 0] 29 (0, 0)) from by rw [← hW12]; exact (obj_other _ _ _ _ hne.2.1).trans HZ1_.out)
    have HZ2 := Aside0.mk (show w12.heap[z2]? = some (.cells (bc st po ws).toArray 72 (0, 0)) from by rw [← hW12]; exact (obj_other _ _ _ _ hne.2.2).trans HZ2_.out)
    have HM := Aside0.mk (show w12.heap[z3]? = some (.map (es.push { key := kvL st po ws, val := .bool true, born := c }) (c + 1)) from by rw [← hW12]; exact obj_same _ _ _ (blk_lt HM_.out))
    have HB := Aside0.mk (show Below w.heap.size w w12 from by rw [← hW12]; exact obj_below HB_.out (by have := HE.out; omega) _)
    have HS2 := Aside0.mk (HS.out.push HL.out HKEY.out c)
    rw [hW12] at hup
    have hup : (Instr.mapUpdate 73 (.map (some z3)) (.agg #[.int .i64 st, .int .i64 po, .int .i64 (rd ws 0), .int .i64 (rd ws 1), .int .i64 (rd ws 2), .int .i64 (rd ws 3), .int .i64 (rd ws 4), .int .i64 (rd ws 5)]) (.bool true)).run Try.prog w11 = .ok () w12 := hup
    clear hW12 km hne
    by_cases kd : 0 ≤ st ∧ st < (l0_2.length : Int) ∧ po < 6
    rotate_left
    · rw [if_neg kd] at h
      cases h
    rw [if_pos kd] at h
    by_cases ke : 0 ≤ rd ws po ∧ rd ws po < ((rd_L2 l0_2 st).length : Int)
    rotate_left
    · rw [if_neg ke] at h
      cases h
    rw [if_pos ke] at h
    by_cases kf : 0 ≤ (rd_T57 (rd_L2 l0_2 st) (rd ws po)).f0 ∧ (rd_T57 (rd_L2 l0_2 st) (rd ws po)).f0 ≤ 100 ∧ -1 ≤ (rd_T57 (rd_L2 l0_2 st) (rd ws po)).f1 ∧ (rd_T57 (rd_L2 l0_2 st) (rd ws po)).f1 ≤ 1
    rotate_left
    · rw [if_neg kf] at h
      cases h
    rw [if_pos kf] at h
    obtain ⟨d1, d2, d3⟩ := kd
    obtain ⟨d4, d5⟩ := ke
    have d0 : 0 ≤ po := by have := K2.out; omega
    obtain ⟨pn, rfl⟩ := Int.eq_ofNat_of_zero_le d0
    obtain ⟨ad0, A1, c1_, rfl, hx0, hlc, hC1⟩ := at_L2 HR0.out st d1 d2
    obtain ⟨x, hx⟩ : ∃ x, rd ws (pn : Int) = x := ⟨_, rfl⟩
    obtain ⟨row, hrow⟩ : ∃ l, rd_L2 l0_2 st = l := ⟨_, rfl⟩
    rw [hx] at h d4 d5 kf
    rw [hrow] at h d5 kf hx0 hlc hC1
    obtain ⟨ad1, rfl, hy0, hy1, hy2⟩ := at_T57 hC1 x d4 d5
    obtain ⟨rr, hrr⟩ : ∃ y, rd_T57 row x = y := ⟨_, rfl⟩
    rw [hrr] at h kf hy0 hy1 hy2
    obtain ⟨f0, f1, f2⟩ := rr
    simp only at h kf hy0 hy1 hy2
    have HX := Aside0.mk hx
    have H := Aside0.mk h
    have HKF := Aside0.mk kf
    clear h kf hx hrow hrr
    have hx0' := lf_ HB.out hx0
    have hy0' := lf_ HB.out hy0
    have hy1' := lf_ HB.out hy1
    have hy2' := lf_ HB.out hy2
    have g0 := (blk_cell HZ0.out 2).trans rfl
    have g1 : w12.cell? ⟨z2, 0, none⟩ = some (.int .i64 st) := (blk_cell HZ2.out 0).trans rfl
    have g2 : w12.cell? ⟨z2, 1, none⟩ = some (.int .i64 (pn : Int)) := (blk_cell HZ2.out 1).trans rfl
    have g3 : w12.cell? ⟨z2, 2 + pn, none⟩ = some (.int .i64 x) := by rw [← HX.out]; exact bc_cell HZ2.out pn (by have := HL.out; omega)
    have y0 := blk_frozen HZ2.out 0
    have y1 := blk_frozen HZ2.out 1
    have y2 := blk_frozen HZ2.out (2 + pn)
    replace d1 := eq_true d1
    replace d2 := eq_true d2
    replace d3 := eq_true d3
    replace d4 := eq_true d4
    replace d5 := eq_true d5
    clear hx0 hlc hC1 hy0 hy1 hy2
    go_wp2_with fail
    refine start_ (n := 15) (S := fun w' => w'.cell? ⟨z0, 2, none⟩ = some (.slice (some ad0) l0_2.length c0_2) ∧ w'.cell? ⟨z2, 0, none⟩ = some (.int .i64 st) ∧ w'.cell? (ad0.add st.toNat) = some (.slice (some ad1) row.length c1_) ∧ w'.cell? ⟨z2, 1, none⟩ = some (.int .i64 (pn : Int)) ∧ w'.cell? ⟨z2, 2 + pn, none⟩ = some (.int .i64 x) ∧ w'.cell? (ad1.add (x.toNat * 3)) = some (.int .i64 f0) ∧ w'.cell? ⟨(ad1.add (x.toNat * 3)).block, (ad1.add (x.toNat * 3)).off + 1, none⟩ = some (.int .i64 f1) ∧ w'.cell? ⟨(ad1.add (x.toNat * 3)).block, (ad1.add (x.toNat * 3)).off + 2, none⟩ = some (.int .i64 f2)) (ds := [14]) #[false, false, false, false, false, false, false, false, false, false, false, false, false, false, false] (by kernel_rfl) rfl rfl ⟨g0, g1, hx0', g2, g3, hy0', hy1', hy2'⟩ (fun hHeld => ?_)
    refine pure_ (i := 0) (N := some 62) (v := ?_) (a' := ?_) #[true, false, false, false, false, false, false, false, false, false, false, false, false, false, false] rfl rfl (by kernel_rfl) (fun _ _ _ h => h) (Or.inl ⟨by rfl, ?_⟩) ?_ ?_
    rotate_left
    · intro w'
      go_simp
      with_reducible rfl
    rotate_left
    · simp only [Act.put, List.setIfInBounds_toArray, List.set_cons_zero, List.set_cons_succ, i64_w, i32_w]
      rfl
    refine pure_ (i := 2) (N := some 64) (v := ?_) (a' := ?_) #[true, false, true, false, false, false, false, false, false, false, false, false, false, false, false] rfl rfl (by kernel_rfl) (fun _ _ _ h => h) (Or.inl ⟨by rfl, ?_⟩) ?_ ?_
    rotate_left
    · intro w'
      go_simp
      with_reducible rfl
    rotate_left
    · simp only [Act.put, List.setIfInBounds_toArray, List.set_cons_zero, List.set_cons_succ, i64_w, i32_w]
      rfl
    refine pure_ (i := 6) (N := some 68) (v := ?_) (a' := ?_) #[true, false, true, false, false, false, true, false, false, false, false, false, false, false, false] rfl rfl (by kernel_rfl) (fun _ _ _ h => h) (Or.inl ⟨by rfl, ?_⟩) ?_ ?_
    rotate_left
    · intro w'
      go_simp
      with_reducible rfl
    rotate_left
    · simp only [Act.put, List.setIfInBounds_toArray, List.set_cons_zero, List.set_cons_succ, i64_w, i32_w]
      rfl
    refine pure_ (i := 8) (N := some 70) (v := ?_) (a' := ?_) #[true, false, true, false, false, false, true, false, true, false, false, false, false, false, false] rfl rfl (by kernel_rfl) (fun _ _ _ h => h) (Or.inl ⟨by rfl, ?_⟩) ?_ ?_
    rotate_left
    · intro w'
      go_simp
      with_reducible rfl
    rotate_left
    · simp only [Act.put, List.setIfInBounds_toArray, List.set_cons_zero, List.set_cons_succ, i64_w, i32_w]
      rfl
    refine take_ (i := 1) (N := some 63) (v := ?_) (a' := ?_) #[true, true, true, false, false, false, true, false, true, false, false, false, false, false, false] rfl rfl (by kernel_rfl) (fun _ _ _ h => h) (Or.inl ⟨by rfl, ?_⟩) hHeld ?_ ?_
    rotate_left
    · rintro w' ⟨s0, s1, s2, s3, s4, s5, s6, s7⟩
      go_simp
      with_reducible rfl
    rotate_left
    · simp only [Act.put, List.setIfInBounds_toArray, List.set_cons_zero, List.set_cons_succ, i64_w, i32_w]
      rfl
    refine take_ (i := 3) (N := some 65) (v := ?_) (a' := ?_) #[true, true, true, true, false, false, true, false, true, false, false, false, false, false, false] rfl rfl (by kernel_rfl) (fun _ _ _ h => h) (Or.inl ⟨by rfl, ?_⟩) hHeld ?_ ?_
    rotate_left
    · rintro w' ⟨s0, s1, s2, s3, s4, s5, s6, s7⟩
      go_simp
      with_reducible rfl
    rotate_left
    · simp only [Act.put, List.setIfInBounds_toArray, List.set_cons_zero, List.set_cons_succ, i64_w, i32_w]
      rfl
    refine pure_ (i := 4) (N := some 66) (v := ?_) (a' := ?_) #[true, true, true, true, true, false, true, false, true, false, false, false, false, false, false] rfl rfl (by kernel_rfl) (fun _ _ _ h => h) (Or.inl ⟨by rfl, ?_⟩) ?_ ?_
    rotate_left
    · intro w'
      go_simp
      with_reducible rfl
    rotate_left
    · simp only [Act.put, List.setIfInBounds_toArray, List.set_cons_zero, List.set_cons_succ, i64_w, i32_w]
      rfl
    refine take_ (i := 5) (N := some 67) (v := ?_) (a' := ?_) #[true, true, true, true, true, true, true, false, true, false, false, false, false, false, false] rfl rfl (by kernel_rfl) (fun _ _ _ h => h) (Or.inl ⟨by rfl, ?_⟩) hHeld ?_ ?_
    rotate_left
    · rintro w' ⟨s0, s1, s2, s3, s4, s5, s6, s7⟩
      go_simp
      with_reducible rfl
    rotate_left
    · simp only [Act.put, List.setIfInBounds_toArray, List.set_cons_zero, List.set_cons_succ, i64_w, i32_w]
      rfl
    refine take_ (i := 7) (N := some 69) (v := ?_) (a' := ?_) #[true, true, true, true, true, true, true, true, true, false, false, false, false, false, false] rfl rfl (by kernel_rfl) (fun _ _ _ h => h) (Or.inl ⟨by rfl, ?_⟩) hHeld ?_ ?_
    rotate_left
    · rintro w' ⟨s0, s1, s2, s3, s4, s5, s6, s7⟩
      go_simp
      with_reducible rfl
    rotate_left
    · simp only [Act.put, List.setIfInBounds_toArray, List.set_cons_zero, List.set_cons_succ, i64_w, i32_w]
      rfl
    refine pure_ (i := 9) (N := some 71) (v := ?_) (a' := ?_) #[true, true, true, true, true, true, true, true, true, true, false, false, false, false, false] rfl rfl (by kernel_rfl) (fun _ _ _ h => h) (Or.inl ⟨by rfl, ?_⟩) ?_ ?_
    rotate_left
    · intro w'
      go_simp
      with_reducible rfl
    rotate_left
    · simp only [Act.put, List.setIfInBounds_toArray, List.set_cons_zero, List.set_cons_succ, i64_w, i32_w]
      rfl
    refine take_ (i := 10) (N := some 72) (v := ?_) (a' := ?_) #[true, true, true, true, true, true, true, true, true, true, true, false, false, false, false] rfl rfl (by kernel_rfl) (fun _ _ _ h => h) (Or.inl ⟨by rfl, ?_⟩) hHeld ?_ ?_
    rotate_left
    · rintro w' ⟨s0, s1, s2, s3, s4, s5, s6, s7⟩
      go_simp
      with_reducible rfl
    rotate_left
    · simp only [Act.put, List.setIfInBounds_toArray, List.set_cons_zero, List.set_cons_succ, i64_w, i32_w]
      rfl
    refine pure_ (i := 11) (N := some 73) (v := ?_) (a' := ?_) #[true, true, true, true, true, true, true, true, true, true, true, true, false, false, false] rfl rfl (by kernel_rfl) (fun _ _ _ h => h) (Or.inl ⟨by rfl, ?_⟩) ?_ ?_
    rotate_left
    · intro w'
      go_simp
      with_reducible rfl
    rotate_left
    · simp only [Act.put, List.setIfInBounds_toArray, List.set_cons_zero, List.set_cons_succ, i64_w, i32_w]
      rfl
    refine take_ (i := 12) (N := some 74) (v := ?_) (a' := ?_) #[true, true, true, true, true, true, true, true, true, true, true, true, true, false, false] rfl rfl (by kernel_rfl) (fun _ _ _ h => h) (Or.inl ⟨by rfl, ?_⟩) hHeld ?_ ?_
    rotate_left
    · rintro w' ⟨s0, s1, s2, s3, s4, s5, s6, s7⟩
      go_simp
      with_reducible rfl
    rotate_left
    · simp only [Act.put, List.setIfInBounds_toArray, List.set_cons_zero, List.set_cons_succ, i64_w, i32_w]
      rfl
    refine one_ (i := 13) (N := some 13) #[true, true, true, true, true, true, true, true, true, true, true, true, true, true, false] rfl rfl (by kernel_rfl) (by decide) (fun K hK => ?_)
    refine box_step (by rfl) rfl (cs := #[.int .i64 0, .int .i64 0, .int .i64 0]) (t := 57) ?_ ?_
    · go_simp
    intro q2 hq2 w13 hb13 hB13
    have HE13 := Aside0.mk (below_step (show Below w12.heap.size w12 w12.drew from bk_ (Below.refl _ _)) hB13)
    have HR13 := Aside0.mk hb13
    have HQ2 := Aside0.mk (show w12.heap.size ≤ q2 from by rw [hq2]; exact ((show Below w12.heap.size w12 w12.drew from bk_ (Below.refl _ _))).size)
    clear hb13 hB13 hq2
    refine hK.out _ _ ⟨(lf_ HE13.out g0), (lf_ HE13.out g1), (lf_ HE13.out hx0'), (lf_ HE13.out g2), (lf_ HE13.out g3), (lf_ HE13.out hy0'), (lf_ HE13.out hy1'), (lf_ HE13.out hy2')⟩ (fun hHeld => ?_)
    clear hK K
    refine norm_ (a' := ?_) ?_ ?_
    rotate_left
    · show Act.put _ (some 13) _ = _
      simp only [Act.put, List.setIfInBounds_toArray, List.set_cons_zero, List.set_cons_succ, i64_w, i32_w]
      rfl
    refine last_ (i := 14) (N := none) #[true, true, true, true, true, true, true, true, true, true, true, true, true, true, true] rfl rfl (by kernel_rfl) (by decide) (fun K hK => ?_)
    have hv_0 := (blk_cell HR13.out 0).trans rfl
    have hv_1 := (blk_cell HR13.out 1).trans rfl
    have hv_2 := (blk_cell HR13.out 2).trans rfl
    have hw_0 := blk_frozen HR13.out 0
    have hw_1 := blk_frozen HR13.out 1
    have hw_2 := blk_frozen HR13.out 2
    refine skip_ (w1 := ?_) (by rfl) rfl ?_ ?_
    rotate_left
    · go_simp
      rfl
    refine hK.out _ _ ?_
    clear hK K
    refine done_ (by kernel_rfl) ?_
    obtain ⟨w14, hW14⟩ : ∃ W : World, ((w13.setCell ⟨q2, 0, none⟩ (.int .i64 f0)).setCell ⟨q2, 1, none⟩ (.int .i64 f1)).setCell ⟨q2, 2, none⟩ (.int .i64 f2) = W := ⟨_, rfl⟩
    have hE14 : Below w12.heap.size w12 w14 := by rw [← hW14]; exact ((HE13.out.setCell (p := ⟨q2, 0, none⟩) HQ2.out (.int .i64 f0)).setCell (p := ⟨q2, 1, none⟩) HQ2.out (.int .i64 f1)).setCell (p := ⟨q2, 2, none⟩) HQ2.out (.int .i64 f2)
    have HRR := Aside0.mk (show w14.heap[q2]? = some (.cells #[.int .i64 f0, .int .i64 f1, .int .i64 f2] 57 (0, 0)) from by rw [← hW14]; exact blk_put (blk_put (blk_put HR13.out 0 _ rfl) 1 _ rfl) 2 _ rfl)
    have HZ0n := Aside0.mk (blk_below HZ0.out hE14)
    have HZ1n := Aside0.mk (blk_below HZ1.out hE14)
    have HZ2n := Aside0.mk (blk_below HZ2.out hE14)
    have HMn := Aside0.mk (blk_below HM.out hE14)
    have HBn := Aside0.mk (below_step HB.out hE14)
    have HQZ := Aside0.mk (show q2 ≠ z2 from by have h1 := HQ2.out; have h2 := blk_lt HZ2.out; omega)
    rw [hW14]
    clear hW14 hE14 HR13 HE13 hHeld g0 g1 g2 g3 hx0' hy0' hy1' hy2' y0 y1 y2 HZ0 HZ1 HZ2 HM HB hc0 hc1 hc2 hc3 hc4 hc5 hc6 hc7 hlk hup HZ0_ HZ1_ HZ2_ HM_ HB_
    have g1 : w14.cell? ⟨z2, 0, none⟩ = some (.int .i64 st) := (blk_cell HZ2n.out 0).trans rfl
    have g2 : w14.cell? ⟨z2, 1, none⟩ = some (.int .i64 (pn : Int)) := (blk_cell HZ2n.out 1).trans rfl
    have g3 : w14.cell? ⟨z2, 2 + pn, none⟩ = some (.int .i64 x) := by rw [← HX.out]; exact bc_cell HZ2n.out pn (by have := HL.out; have := of_eq_true d3; omega)
    have y0 := blk_frozen HZ2n.out 0
    have y1 := blk_frozen HZ2n.out 1
    have y2 := blk_frozen HZ2n.out (2 + pn)
    have v0 := (blk_cell HRR.out 0).trans rfl
    have v1 := (blk_cell HRR.out 1).trans rfl
    have v2 := (blk_cell HRR.out 2).trans rfl
    have hqz := HQZ.out
    have hzq : z2 ≠ q2 := fun e => hqz e.symm
    have e1 : IntKind.i64.wrap ((pn : Int) + f1) = (pn : Int) + f1 := IntWalk.i64_in _ (by have h1 := HKF.out; have h2 := of_eq_true d3; omega)
    have e2 : wrap64 ((pn : Int) + f1) = (pn : Int) + f1 := (i64_w _).symm.trans e1
    go_wp2_with fail
    go_roundg d
    case measure => omega
    case rel =>
      have HF := Aside0.mk (show w.heap.size ≤ z2 from by have := HE.out; omega)
      have hf2 : z0 ≠ z2 := by have := HE.out; omega
      have hf1 : z1 ≠ z2 := by have := HE.out; omega
      have hf3 : z3 ≠ z2 := by have := HE.out; omega
      refine ⟨f2, (pn : Int) + f1, wrap64 (i + 1), ws.set pn f0, ((st, (pn : Int), ws) :: seen), es.push { key := kvL st (pn : Int) ws, val := .bool true, born := c }, c + 1, rfl, ?_, ⟨by rw [List.length_set]; exact HL.out⟩, HS2, ⟨?_⟩, ⟨?_⟩, ⟨?_⟩, ⟨?_⟩, ⟨?_⟩⟩
      · have h := H.out
        rw [Int.toNat_natCast] at h
        exact ⟨h⟩
      · exact blk_far (p := ⟨z2, 0, none⟩) (blk_far (p := ⟨z2, 1, none⟩) (blk_far (p := ⟨z2, 2 + pn, none⟩) HZ0n.out hf2 _) hf2 _) hf2 _
      · exact blk_far (p := ⟨z2, 0, none⟩) (blk_far (p := ⟨z2, 1, none⟩) (blk_far (p := ⟨z2, 2 + pn, none⟩) HZ1n.out hf1 _) hf1 _) hf1 _
      · refine blk_put (blk_put (bc_put HZ2n.out pn f0) 1 _ rfl) 0 _ ?_
        simp [bc]
      · exact (Below.heap_setCell _ ⟨z2, 0, none⟩ _ z3 hf3).trans ((Below.heap_setCell _ ⟨z2, 1, none⟩ _ z3 hf3).trans ((Below.heap_setCell _ ⟨z2, 2 + pn, none⟩ _ z3 hf3).trans HMn.out))
      · exact ((HBn.out.setCell (p := ⟨z2, 2 + pn, none⟩) HF.out (.int .i64 f0)).setCell (p := ⟨z2, 1, none⟩) HF.out (.int .i64 ((pn : Int) + f1))).setCell (p := ⟨z2, 0, none⟩) HF.out (.int .i64 f2)

end Go.Proofs.Ytcdejoaekkcknaa.PBlockCrosses
