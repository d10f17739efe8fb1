/- FnExactStringFor returns true at every box and every way of tying; no condition. -/
import Derived.Test.YtmbbkaoccmokeaaPimplStringFor
import Derived.Test.YtmbbkaoccmokeaaPimplsum
import Derived.Test.YtmbbkaoccmokeaaPspecStringFor
import Derived.Test.YtmbbkaoccmokeaaQFnExactStringFor
import Derived.Test.YtmbbkaoccmokeaaXBoxB
namespace Go.Proofs.Ytmbbkaoccmokeaa.Pure
open Go.RowKit Go.Proofs.Ytmbbkaoccmokeaa.P Go.Proofs.YtmbbkaoccmokeaaW.PrintWords Go.Proofs.YtmbbkaoccmokeaaW.PrintLast Go.Proofs.YtmbbkaoccmokeaaW.PrintMore
set_option linter.unusedVariables false
set_option linter.unusedSimpArgs false

theorem sumF {a b c : Int} (ha : 1 ≤ a ∧ a ≤ 60) (hb : 1 ≤ b ∧ b ≤ 60) (hc : 1 ≤ c ∧ c ≤ 60) (k : Nat) : impl_sum.f (k + 4) [a, b, c] = some (a + b + c) := by
  rw [impl_sum.f, show k + 4 = k + 3 + 1 from rfl, impl_sum.l0, if_pos (by simp), if_pos (by simp), if_pos (by simp), w64 (x := 0 + 1) (by omega) (by omega),
    show (0 : Int) + 1 = 1 from rfl, show k + 3 = k + 2 + 1 from rfl, impl_sum.l0, if_pos (by simp), if_pos (by simp), if_pos (by simp), w64 (x := 1 + 1) (by omega) (by omega),
    show (1 : Int) + 1 = 2 from rfl, show k + 2 = k + 1 + 1 from rfl, impl_sum.l0, if_pos (by simp), if_pos (by simp), if_pos (by simp), w64 (x := 2 + 1) (by omega) (by omega),
    show (2 : Int) + 1 = 3 from rfl, impl_sum.l0, if_neg (by simp)]
  have e0 : rd [a, b, c] 0 = a := rfl
  have e1 : rd [a, b, c] 1 = b := rfl
  have e2 : rd [a, b, c] 2 = c := rfl
  rw [e0, e1, e2, w64 (x := 0 + a) (by omega) (by omega), w64 (x := 0 + a + b) (by omega) (by omega), w64 (by omega) (by omega)]
  congr 1; omega

/-- One side of the loop. -/
theorem strStep (w x m a b c v : Int) (i : Nat) (hi : i < 3) (ha : 1 ≤ a ∧ a ≤ 60) (hb : 1 ≤ b ∧ b ≤ 60) (hc : 1 ≤ c ∧ c ≤ 60) (hv : [a, b, c].getD i 0 = v)
    (wa : (Lit.int .i8 a).wf = true) (wb : (Lit.int .i8 b).wf = true) (wc : (Lit.int .i8 c).wf = true) (k : Nat) :
    impl_StringFor.l0 (k + 5) w x m [a, b, c] 3 (i : Int) a b c =
      if Go.bits .and .i64 (shr .i64 w (i : Int)) 1 = 1 then impl_StringFor.l0 (k + 4) w (wrap64 (x + wrap64 (2 * wrap64 (a + b + c - v)))) (wrap64 (m + 1)) [a, b, c] 3 ((i + 1 : Nat) : Int) a b c
      else impl_StringFor.l0 (k + 4) w x m [a, b, c] 3 ((i + 1 : Nat) : Int) a b c := by
  rw [show k + 5 = k + 4 + 1 from rfl, impl_StringFor.l0, if_pos (by omega), if_pos (by omega), if_pos (by simp; omega), sidesF wa wb wc, Option.bind_some, sumF ha hb hc, Option.bind_some, wN i (by omega), rdN, hv]
theorem strEnd (w x m a b c : Int) (k : Nat) : impl_StringFor.l0 (k + 1) w x m [a, b, c] 3 ((3 : Nat) : Int) a b c = some (wrap64 (x + (wrap64 (15 * (wrap64 (m * (wrap64 (m - 1))))))), wrap64 (m * (wrap64 (m - 1))), 0) := by
  rw [impl_StringFor.l0, if_neg (by omega)]

theorem strBoth {a b c w : Int} (wa : (Lit.int .i8 a).wf = true) (wb : (Lit.int .i8 b).wf = true) (wc : (Lit.int .i8 c).wf = true) :
    ∃ r, spec_StringFor.f 16 a b c w = some r ∧ impl_StringFor.f 16 a b c w = some r := by
  rw [spec_StringFor.f, impl_StringFor.f, specOk wa wb wc, implOk wa wb wc, Option.bind_some, Option.bind_some]
  cases h : okB a b c
  · exact ⟨_, rfl, rfl⟩
  · obtain ⟨ha, hb, hc⟩ := okB_iff.1 h
    rw [if_pos rfl, if_pos rfl, inF, withinF, Option.bind_some, Option.bind_some]
    by_cases hw : 0 ≤ w ∧ w ≤ 7
    · have e1 : (decide (0 ≤ w) && decide (w ≤ 7)) = true := by simp [hw.1, hw.2]
      rw [if_pos e1, if_pos e1, sidesF wa wb wc, Option.bind_some, w8 wa, w8 wb, w8 wc]
      have e3 : (([a, b, c] : List Int).length : Int) = 3 := rfl
      have f0 := fun (w x m : Int) => strStep w x m a b c a 0 (by omega) ha hb hc rfl wa wb wc 11
      have f1 := fun (w x m : Int) => strStep w x m a b c b 1 (by omega) ha hb hc rfl wa wb wc 10
      have f2 := fun (w x m : Int) => strStep w x m a b c c 2 (by omega) ha hb hc rfl wa wb wc 9
      have f3 := fun (w x m : Int) => strEnd w x m a b c 12
      have s0 : ∀ w x m : Int, impl_StringFor.l0 16 w x m [a, b, c] 3 0 a b c = _ := f0
      have s1 : ∀ w x m : Int, impl_StringFor.l0 15 w x m [a, b, c] 3 ((1 : Nat) : Int) a b c = _ := f1
      have s2 : ∀ w x m : Int, impl_StringFor.l0 14 w x m [a, b, c] 3 ((2 : Nat) : Int) a b c = _ := f2
      have s3 : ∀ w x m : Int, impl_StringFor.l0 13 w x m [a, b, c] 3 ((3 : Nat) : Int) a b c = _ := f3
      clear f0 f1 f2 f3
      rw [e3]
      obtain rfl | rfl | rfl | rfl | rfl | rfl | rfl | rfl : w = 0 ∨ w = 1 ∨ w = 2 ∨ w = 3 ∨ w = 4 ∨ w = 5 ∨ w = 6 ∨ w = 7 := by omega
      all_goals
        first | rw [if_pos (by decide +kernel)] | rw [if_neg (by decide +kernel)]
        rw [s0]
        first | rw [if_pos (by decide +kernel)] | rw [if_neg (by decide +kernel)]
        rw [show ((0 + 1 : Nat) : Int) = ((1 : Nat) : Int) from rfl, s1]
        first | rw [if_pos (by decide +kernel)] | rw [if_neg (by decide +kernel)]
        rw [show ((1 + 1 : Nat) : Int) = ((2 : Nat) : Int) from rfl, s2]
        first | rw [if_pos (by decide +kernel)] | rw [if_neg (by decide +kernel)]
        rw [show ((2 + 1 : Nat) : Int) = ((3 : Nat) : Int) from rfl, s3]
        rw [spec_StringFor.j0]
        first | rw [if_pos (by decide +kernel)] | rw [if_neg (by decide +kernel)]
        first | rw [if_pos (by decide +kernel)] | rw [if_neg (by decide +kernel)]
        refine ⟨_, rfl, ?_⟩
        simp (disch := omega) only [w64, Int.reduceMul, Int.reduceAdd, Int.reduceSub, Option.some.injEq, Prod.mk.injEq, and_true, true_and]
        try first | omega | (constructor <;> omega)
    · have e1 : ¬ ((decide (0 ≤ w) && decide (w ≤ 7)) = true) := by simpa using hw
      rw [if_neg e1, if_neg e1]
      exact ⟨_, rfl, rfl⟩

theorem FnExactStringFor : laws_FnExactStringFor.Pure := by
  intro x w wx ww
  obtain ⟨wa, wb, wc⟩ := wx
  obtain ⟨r, h1, h2⟩ := strBoth (w := w) wa wb wc
  refine ⟨16, ?_⟩
  rw [laws_FnExactStringFor.f, toB, Option.bind_some, h1, Option.bind_some, Option.bind_some, h2, Option.bind_some, if_pos rfl, if_pos rfl, if_pos rfl]

end Go.Proofs.Ytmbbkaoccmokeaa.Pure
