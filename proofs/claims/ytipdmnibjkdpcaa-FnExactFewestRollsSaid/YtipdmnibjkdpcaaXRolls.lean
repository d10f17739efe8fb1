/- Cuts on rolls: the codes of both sides, and the first roll with room; no condition but those that each theorem states. -/
import Derived.Test.YtipdmnibjkdpcaaPimplareWithin
import Derived.Test.YtipdmnibjkdpcaaPimplrollsCode
import Derived.Test.YtipdmnibjkdpcaaPimplunless
import Derived.Test.YtipdmnibjkdpcaaPimplwithin
import Derived.Test.YtipdmnibjkdpcaaPspecl00In
import Derived.Test.YtipdmnibjkdpcaaPspecl02Rolls
import Derived.Test.YtipdmnibjkdpcaaXNum
namespace Go.Proofs.Ytipdmnibjkdpcaa.Pure
open Go.RowKit Go.Proofs.Ytipdmnibjkdpcaa.P Go.Proofs.YtipdmnibjkdpcaaW.PrintWords Go.Proofs.YtipdmnibjkdpcaaW.PrintLast
set_option linter.unusedVariables false
set_option linter.unusedSimpArgs false

theorem inFR (a lo hi : Int) : spec_l00In.f a lo hi = some (decide (lo ≤ a) && decide (a ≤ hi)) := by
  unfold spec_l00In.f; by_cases h : lo ≤ a <;> simp [h]
theorem withinFR (a lo hi : Int) : impl_within.f a lo hi = some (decide (lo ≤ a) && decide (a ≤ hi)) := by
  unfold impl_within.f; by_cases h : lo ≤ a <;> simp [h]
theorem areWR (p : List Int) (lo hi : Int) : ∃ b, impl_areWithin.f p lo hi = some b ∧ (b = true ↔ ∀ j, j < p.length → lo ≤ p.getD j 0 ∧ p.getD j 0 ≤ hi) := by
  refine ⟨_, rfl, ?_⟩
  rw [List.all_eq_true]
  constructor
  · intro h j hj
    have := h _ (getD_mem p j hj)
    simpa [Bool.and_eq_true, decide_eq_true_eq] using this
  · intro h x hx
    obtain ⟨j, hj, rfl⟩ := List.mem_iff_getElem.1 hx
    have := h j hj
    rw [getD_eq p j hj] at this
    simpa [Bool.and_eq_true, decide_eq_true_eq] using this
theorem rolls_l1 (l : List Int) (a : Int) (hb : l.length ≤ 1000) : ∀ d i, l.length - i = d → i ≤ l.length → ∃ c, Ev (fun k => spec_l02Rolls.l1 k l a (i : Int)) c ∧ ((c = 0 ∧ ∀ j, i ≤ j → j < l.length → l.getD j 0 ≤ a) ∨ (c = 6 ∧ ∃ j, i ≤ j ∧ j < l.length ∧ a < l.getD j 0)) := by
  intro d
  induction d with
  | zero =>
    intro i hd hi
    refine ⟨0, Ev.step (f := fun _ => some 0) (fun k => ?_) (Ev.now _), Or.inl ⟨rfl, fun j h1 h2 => by omega⟩⟩
    rw [spec_l02Rolls.l1, if_neg (by omega)]
  | succ d ih =>
    intro i hd hi
    by_cases c : l.getD i 0 > a
    · refine ⟨6, Ev.step (f := fun _ => some 6) (fun k => ?_) (Ev.now _), Or.inr ⟨rfl, i, Nat.le_refl _, by omega, c⟩⟩
      rw [spec_l02Rolls.l1, if_pos (by omega), if_pos (by omega), rdN, if_pos c]
    · obtain ⟨r, r1, r2⟩ := ih (i + 1) (by omega) (by omega)
      refine ⟨r, Ev.step (fun k => ?_) r1, ?_⟩
      · rw [spec_l02Rolls.l1, if_pos (by omega), if_pos (by omega), rdN, if_neg c, wN i (by omega)]
      · rcases r2 with ⟨e, h⟩ | ⟨e, j, h1, h2, h3⟩
        · refine Or.inl ⟨e, fun j h1 h2 => ?_⟩
          by_cases q : j = i
          · subst q; omega
          · exact h j (by omega) h2
        · exact Or.inr ⟨e, j, by omega, h2, h3⟩
theorem rolls_l0 (l : List Int) (a : Int) (hb : l.length ≤ 1000) : ∀ d i, l.length - i = d → i ≤ l.length → ∃ c, Ev (fun k => spec_l02Rolls.l0 k l a (i : Int)) c ∧
    ((c = 2 ∧ ∃ j, i ≤ j ∧ j < l.length ∧ ¬ (1 ≤ l.getD j 0 ∧ l.getD j 0 ≤ 400)) ∨ ((∀ j, i ≤ j → j < l.length → 1 ≤ l.getD j 0 ∧ l.getD j 0 ≤ 400) ∧ ((c = 0 ∧ ∀ j, j < l.length → l.getD j 0 ≤ a) ∨ (c = 6 ∧ ∃ j, j < l.length ∧ a < l.getD j 0)))) := by
  intro d
  induction d with
  | zero =>
    intro i hd hi
    have hi' : l.length ≤ i := by omega
    obtain ⟨r, r1, r2⟩ := rolls_l1 l a hb _ 0 rfl (Nat.zero_le _)
    refine ⟨r, Ev.step (fun k => ?_) r1, Or.inr ⟨fun j h1 h2 => absurd (Nat.lt_of_le_of_lt h1 h2) (Nat.not_lt.2 hi'), ?_⟩⟩
    · rw [spec_l02Rolls.l0, if_neg (by clear r2; omega)]; rfl
    · rcases r2 with ⟨e, h⟩ | ⟨e, j, h1, h2, h3⟩
      · exact Or.inl ⟨e, fun j hj => h j (Nat.zero_le _) hj⟩
      · exact Or.inr ⟨e, j, h2, h3⟩
  | succ d ih =>
    intro i hd hi
    by_cases c : 1 ≤ l.getD i 0 ∧ l.getD i 0 ≤ 400
    · obtain ⟨r, r1, r2⟩ := ih (i + 1) (by omega) (by omega)
      refine ⟨r, Ev.step (fun k => ?_) r1, ?_⟩
      · rw [spec_l02Rolls.l0, if_pos (by omega), if_pos (by omega), rdN, inFR, Option.bind_some, if_pos (by simp only [Bool.and_eq_true, decide_eq_true_eq]; exact c), wN i (by omega)]
      · rcases r2 with ⟨e, j, h1, h2, h3⟩ | ⟨h, h2⟩
        · exact Or.inl ⟨e, j, by omega, h2, h3⟩
        · refine Or.inr ⟨fun j h1 h2 => ?_, h2⟩
          by_cases q : j = i
          · subst q; exact c
          · exact h j (by omega) h2
    · refine ⟨2, Ev.step (f := fun _ => some 2) (fun k => ?_) (Ev.now _), Or.inl ⟨rfl, i, Nat.le_refl _, by omega, c⟩⟩
      rw [spec_l02Rolls.l0, if_pos (by omega), if_pos (by omega), rdN, inFR, Option.bind_some, if_neg (by simp only [Bool.and_eq_true, decide_eq_true_eq]; exact c)]
/-- Both codes of cuts, a length and a budget. -/
theorem bothRolls (l : List Int) (a bu : Int) : ∃ c, Ev (fun k => spec_l02Rolls.f k l a (decide (0 ≤ bu) && decide (bu ≤ 20000))) c ∧ Ev (fun k => impl_rollsCode.f k l a bu) c ∧ (c = 0 → l.length ≤ 10 ∧ 1 ≤ a ∧ a ≤ 400 ∧ 0 ≤ bu ∧ bu ≤ 20000 ∧ ∀ j, j < l.length → 1 ≤ l.getD j 0 ∧ l.getD j 0 ≤ a) := by
  by_cases c0 : (l.length : Int) > 10
  · refine ⟨3, EvI 0 fun k _ => ?_, EvI 0 fun k _ => ?_, fun h => by omega⟩
    · rw [spec_l02Rolls.f, if_pos c0]
    · rw [impl_rollsCode.f, if_pos c0]
  · by_cases c1 : 1 ≤ a ∧ a ≤ 400
    · have e1 : (decide (1 ≤ a) && decide (a ≤ 400)) = true := by simp only [Bool.and_eq_true, decide_eq_true_eq]; exact c1
      obtain ⟨b1, f1, g1⟩ := areWR l 1 400
      obtain ⟨b2, f2, g2⟩ := areWR l 1 a
      obtain ⟨r, r1, r2⟩ := rolls_l0 l a (by omega) _ 0 rfl (Nat.zero_le _)
      obtain ⟨K, r1⟩ := EvG r1
      cases hb : (decide (0 ≤ bu) && decide (bu ≤ 20000)) with
      | false =>
        refine ⟨2, EvI 1 fun k hk => ?_, EvI 1 fun k hk => ?_, fun h => by omega⟩
        · obtain ⟨k, rfl⟩ : ∃ m, k = m + 1 := ⟨k - 1, by omega⟩
          rw [spec_l02Rolls.f, if_neg c0, inFR, Option.bind_some, if_pos e1, spec_l02Rolls.j0, if_pos (by simp)]
        · obtain ⟨k, rfl⟩ : ∃ m, k = m + 1 := ⟨k - 1, by omega⟩
          rw [impl_rollsCode.f, if_neg c0, withinFR, Option.bind_some, if_pos e1, f1, Option.bind_some]
          cases b1 with
          | true => rw [if_pos rfl, withinFR, Option.bind_some, hb, impl_rollsCode.j0, if_pos (by simp)]
          | false => rw [if_neg (by simp), impl_rollsCode.j0, if_pos rfl]
      | true =>
        simp only [Bool.and_eq_true, decide_eq_true_eq] at hb
        have hb' : (decide (0 ≤ bu) && decide (bu ≤ 20000)) = true := by simp only [Bool.and_eq_true, decide_eq_true_eq]; exact hb
        have eS : Ev (fun k => spec_l02Rolls.f k l a true) r := EvI (K + 1) fun k hk => by
          obtain ⟨k, rfl⟩ : ∃ m, k = m + 1 := ⟨k - 1, by omega⟩
          rw [spec_l02Rolls.f, if_neg c0, inFR, Option.bind_some, if_pos e1, spec_l02Rolls.j0, if_neg (by simp)]; exact r1 k (by omega)
        rcases r2 with ⟨e, j, _, h2, h3⟩ | ⟨h1, h2⟩
        · have hb1 : b1 = false := by
            cases b1 with
            | false => rfl
            | true => exact absurd (g1.1 rfl j h2) h3
          refine ⟨r, eS, EvI 1 fun k hk => ?_, fun h => by omega⟩
          obtain ⟨k, rfl⟩ : ∃ m, k = m + 1 := ⟨k - 1, by omega⟩
          rw [impl_rollsCode.f, if_neg c0, withinFR, Option.bind_some, if_pos e1, f1, Option.bind_some, hb1, if_neg (by simp), impl_rollsCode.j0, if_pos rfl, e]
        · have hb1 : b1 = true := g1.2 (fun j hj => h1 j (Nat.zero_le _) hj)
          refine ⟨r, eS, EvI 1 fun k hk => ?_, fun h => ?_⟩
          · obtain ⟨k, rfl⟩ : ∃ m, k = m + 1 := ⟨k - 1, by omega⟩
            rw [impl_rollsCode.f, if_neg c0, withinFR, Option.bind_some, if_pos e1, f1, Option.bind_some, hb1, if_pos rfl, withinFR, Option.bind_some, hb', impl_rollsCode.j0, if_neg (by simp), f2, Option.bind_some, impl_unless.f]
            rcases h2 with ⟨e, h⟩ | ⟨e, j, hj, h⟩
            · rw [g2.2 (fun j hj => ⟨(h1 j (Nat.zero_le _) hj).1, h j hj⟩), if_pos rfl, Option.bind_some, e]
            · have : b2 = false := by
                cases b2 with
                | false => rfl
                | true => have := (g2.1 rfl j hj).2; omega
              rw [this, if_neg (by simp), Option.bind_some, e]
          · rcases h2 with ⟨e, h⟩ | ⟨e, _⟩
            · exact ⟨by omega, c1.1, c1.2, hb.1, hb.2, fun j hj => ⟨(h1 j (Nat.zero_le _) hj).1, h j hj⟩⟩
            · omega
    · have e1 : ¬ ((decide (1 ≤ a) && decide (a ≤ 400)) = true) := by simp only [Bool.and_eq_true, decide_eq_true_eq]; exact c1
      refine ⟨2, EvI 1 fun k hk => ?_, EvI 1 fun k hk => ?_, fun h => by omega⟩
      · obtain ⟨k, rfl⟩ : ∃ m, k = m + 1 := ⟨k - 1, by omega⟩
        rw [spec_l02Rolls.f, if_neg c0, inFR, Option.bind_some, if_neg e1, spec_l02Rolls.j0, if_pos rfl]
      · obtain ⟨k, rfl⟩ : ∃ m, k = m + 1 := ⟨k - 1, by omega⟩
        rw [impl_rollsCode.f, if_neg c0, withinFR, Option.bind_some, if_neg e1, impl_rollsCode.j0, if_pos rfl]

end Go.Proofs.Ytipdmnibjkdpcaa.Pure
