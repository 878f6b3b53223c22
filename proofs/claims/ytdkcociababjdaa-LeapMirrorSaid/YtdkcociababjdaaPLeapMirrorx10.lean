-- out of a turned copy of the print, by a program of this session; Lean checks it
import Derived.Test.YtdkcociababjdaaPLeapMirrorx0
namespace Go.Proofs.Ytdkcociababjdaa.PLeapMirror
open Go.RowKit Go.Proofs.YtdkcociababjdaaW.PrintWords Go.Proofs.YtdkcociababjdaaW.PrintLast Go.Proofs.YtdkcociababjdaaW.PrintMore
attribute [local go_sem] max2_int min2_int max_two min_two max_three min_three max_four min_four   -- for this text's walks alone
set_option linter.unusedVariables false
set_option linter.unusedSimpArgs false

attribute [local go_sem] isSome_put_
/-! ### standstilllaw04_mirrored: function 21 (by hand) -/
set_option maxHeartbeats 8000000 in
set_option maxRecDepth 100000 in
theorem standstilllaw04_mirrored.callsC (st po sy : Int) (A3 : Option Addr) (c3 : Nat) (lf : List (S75)) (A4 : Option Addr) (c4 : Nat) (rt : List (S75)) (w : World) :
    Calls Try.prog 21 #[.agg #[.int .i64 st, .int .i64 po, .int .i64 sy, .slice A3 lf.length c3, .slice A4 rt.length c4]] w fun e w' => e = .returned (.agg #[.int .i64 st, .int .i64 (wrap64 (-po)), .int .i64 sy, .slice A4 rt.length c4, .slice A3 lf.length c3]) ∧ Below w.heap.size w w' := by
  have HB0 := Aside0.mk (below_alloc (Below.refl w.heap.size w) (.cells #[.int .i64 st, .int .i64 po, .int .i64 sy, .slice A3 lf.length c3, .slice A4 rt.length c4] 27))
  have HZ0 := Aside0.mk (blk_new w (.cells #[.int .i64 st, .int .i64 po, .int .i64 sy, .slice A3 lf.length c3, .slice A4 rt.length c4] 27))
  have hz0 := (blk_cell HZ0.out 0).trans rfl
  have hz1 := (blk_cell HZ0.out 1).trans rfl
  have hz2 := (blk_cell HZ0.out 2).trans rfl
  have hz3 := (blk_cell HZ0.out 3).trans rfl
  have hz4 := (blk_cell HZ0.out 4).trans rfl
  go_enter Try.func21, Try.ntmps21
  go_wp2
  have hn := blk_new (w.alloc (.cells #[.int .i64 st, .int .i64 po, .int .i64 sy, .slice A3 lf.length c3, .slice A4 rt.length c4] 27)) (.cells #[.int .i64 st, .int .i64 (wrap64 (-po)), .int .i64 sy, .slice A4 rt.length c4, .slice A3 lf.length c3] 27)
  have hs : (w.alloc (.cells #[.int .i64 st, .int .i64 po, .int .i64 sy, .slice A3 lf.length c3, .slice A4 rt.length c4] 27)).heap.size = w.heap.size + 1 := by simp
  rw [hs] at hn
  refine bodyPost_ret (results_single (r := .cell 2 27) (v := .agg #[.int .i64 st, .int .i64 (wrap64 (-po)), .int .i64 sy, .slice A4 rt.length c4, .slice A3 lf.length c3]) rfl (Vals.cell (w.heap.size + 1) 27 _ (0, 0) _ rfl hn Try.underlying27 rfl rfl Vals.nil)) rfl ?_
  exact ⟨rfl, below_alloc HB0.out _⟩

end Go.Proofs.Ytdkcociababjdaa.PLeapMirror
