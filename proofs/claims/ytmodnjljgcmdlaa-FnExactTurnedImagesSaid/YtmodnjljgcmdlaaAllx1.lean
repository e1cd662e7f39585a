-- Written by wip/tools/xprint.py (a program of this claim's session, over the kit's print). Lean checks it.
import Derived.Test.YtmodnjljgcmdlaaAllx0
namespace Go.Proofs.Ytmodnjljgcmdlaa.All
open Go.RowKit Go.Proofs.YtmodnjljgcmdlaaW.PrintWords Go.Proofs.YtmodnjljgcmdlaaW.PrintLast Go.Proofs.YtmodnjljgcmdlaaW.PrintMore
attribute [local go_sem] max2_int min2_int max_two min_two max_three min_three max_four min_four   -- for this text's walks alone
set_option linter.unusedVariables false
set_option linter.unusedSimpArgs false

theorem part0A (x y z : Int) (i : Nat) (v : Value) (w : World) (h : #[Value.int .i64 x, .int .i64 y, .int .i64 z][i]? = some v) : (part 3 #[Value.int .i64 x, .int .i64 y, .int .i64 z] i).run Try.prog w = .ok v w := by
  have hi : i = 0 ∨ i = 1 ∨ i = 2 := by
    by_cases h3 : i < 3
    · omega
    · rw [Array.getElem?_eq_none (by simp; omega)] at h; cases h
  rcases hi with rfl | rfl | rfl <;> (simp at h; subst h; go_simp)
theorem eqIA (d : Nat) (w : World) (x y : Int) : (Op.equalIn (d + 1) 3 (.int .i64 x) (.int .i64 y)).run Try.prog w = .ok (x == y) w := by go_simp
theorem eqA60 (d : Nat) (w : World) (x0 y0 : Int) (x1 y1 : Int) (x2 y2 : Int) :
    (Op.equalIn (d + 2) 60 (.agg #[.int .i64 x0, .int .i64 x1, .int .i64 x2]) (.agg #[.int .i64 y0, .int .i64 y1, .int .i64 y2])).run Try.prog w = .ok (x0 == y0 && (x1 == y1 && (x2 == y2))) w := by
  rw [Op.equalIn]
  have hn : (sizeOf 3).run Try.prog w = .ok 1 w := by kernel_rfl
  simp only [Sem.run_bind, run_underlying Try.underlying60, Result.andThen_ok, hn]
  rw [Std.Legacy.Range.forIn_eq_forIn_range']
  simp only [Std.Legacy.Range.size, Nat.sub_zero, List.range', List.forIn_cons, List.forIn_nil, Sem.run_bind]
  have a0 : (part 3 #[Value.int .i64 x0, .int .i64 x1, .int .i64 x2] 0).run Try.prog w = .ok (.int .i64 x0) w := part0A x0 x1 x2 0 _ w rfl
  have a1 : (part 3 #[Value.int .i64 x0, .int .i64 x1, .int .i64 x2] 1).run Try.prog w = .ok (.int .i64 x1) w := part0A x0 x1 x2 1 _ w rfl
  have a2 : (part 3 #[Value.int .i64 x0, .int .i64 x1, .int .i64 x2] 2).run Try.prog w = .ok (.int .i64 x2) w := part0A x0 x1 x2 2 _ w rfl
  have b0 : (part 3 #[Value.int .i64 y0, .int .i64 y1, .int .i64 y2] 0).run Try.prog w = .ok (.int .i64 y0) w := part0A y0 y1 y2 0 _ w rfl
  have b1 : (part 3 #[Value.int .i64 y0, .int .i64 y1, .int .i64 y2] 1).run Try.prog w = .ok (.int .i64 y1) w := part0A y0 y1 y2 1 _ w rfl
  have b2 : (part 3 #[Value.int .i64 y0, .int .i64 y1, .int .i64 y2] 2).run Try.prog w = .ok (.int .i64 y2) w := part0A y0 y1 y2 2 _ w rfl
  simp only [Nat.mul_one, Nat.zero_add, Nat.reduceAdd, a0, b0, Result.andThen_ok, eqIA]
  cases e0 : (x0 == y0)
  · simp
  · simp only [Bool.not_true, Bool.false_eq_true, if_false, Sem.run_pure, Result.andThen_ok, Sem.run_bind, a1, b1, eqIA]
    cases e1 : (x1 == y1)
    · simp
    · simp only [Bool.not_true, Bool.false_eq_true, if_false, Sem.run_pure, Result.andThen_ok, Sem.run_bind, a2, b2, eqIA]
      cases e2 : (x2 == y2) <;> simp
end Go.Proofs.Ytmodnjljgcmdlaa.All
