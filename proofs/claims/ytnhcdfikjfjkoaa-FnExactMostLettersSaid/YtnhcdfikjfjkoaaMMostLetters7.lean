/- The Go functions that the law FnExactMostLetters comes to, as plain Lean functions, the proofs that calls of them return what those tell, and the plain lemmas on them; no condition but those that each theorem states. -/
import Derived.Test.YtnhcdfikjfjkoaaMMostLetters6
import Derived.Test.YtnhcdfikjfjkoaaMMostLetters4
import Derived.Test.YtnhcdfikjfjkoaaMMostLetters2
import Derived.Test.YtnhcdfikjfjkoaaMMostLetters5
import Derived.Test.YtnhcdfikjfjkoaaMMostLetters3
import Derived.Test.YtnhcdfikjfjkoaaRows
import Derived.Test.YtnhcdfikjfjkoaaMMostLetters1
import Derived.Deep.Slices
import Derived.WalkKit
import Derived.ProofKit
import Derived.OpenShut
import Derived.ShutString
import Derived.ChangeOld
import Derived.Below
import Derived.SizedLaws
import Derived.ChangeArms
import Derived.Carry
namespace Go.Proofs.Ytnhcdfikjfjkoaa.Pure
open Go.RowKit Go.Proofs.Ytnhcdfikjfjkoaa.P Go.Proofs.YtnhcdfikjfjkoaaW.PrintWords Go.Proofs.YtnhcdfikjfjkoaaW.PrintLast
set_option linter.unusedVariables false
set_option linter.unusedSimpArgs false
theorem inF (a lo hi : Int) : spec_l00In.f a lo hi = some (decide (lo ≤ a) && decide (a ≤ hi)) := by
  unfold spec_l00In.f; by_cases h : lo ≤ a <;> simp [h]
def VV (l : List Int) : Prop :=
  1 ≤ l.length ∧ l.length ≤ 8 ∧ (∀ j, j < l.length → 1 ≤ l.getD j 0 ∧ l.getD j 0 ≤ 500) ∧ (∀ j, 0 < j → j < l.length → l.getD (j - 1) 0 < l.getD j 0)
theorem rising_l0 (l : List Int) (hb : l.length ≤ 17592186044415) : ∀ d i, l.length - i = d → 1 ≤ i →
    ∃ r, Ev (fun k => impl_isRising.l0 k l (i : Int)) r ∧ (r = true ↔ (∀ j, i ≤ j → j < l.length → l.getD (j - 1) 0 < l.getD j 0)) := by
  intro d
  induction d with
  | zero =>
    intro i hd h1
    refine ⟨true, Ev.step (f := fun _ => some true) (fun k => ?_) (Ev.now _), ?_⟩
    · rw [impl_isRising.l0, if_neg (by omega)]
    · exact ⟨fun _ j h1 h2 => by omega, fun _ => rfl⟩
  | succ d ih =>
    intro i hd h1
    have hlt : i < l.length := by omega
    have e2 : wrap64 ((i : Int) - 1) = ((i - 1 : Nat) : Int) := by rw [w64 (by omega) (by omega)]; omega
    by_cases hle : l.getD i 0 ≤ l.getD (i - 1) 0
    · refine ⟨false, Ev.step (f := fun _ => some false) (fun k => ?_) (Ev.now _), ?_⟩
      · rw [impl_isRising.l0, if_pos (by omega), if_pos (by omega), e2, if_pos (by omega), if_pos (by omega), rdN, rdN, if_pos hle]
      · simp only [Bool.false_eq_true, false_iff]
        intro h
        have := h i (Nat.le_refl _) hlt
        omega
    · obtain ⟨r, hr, hi'⟩ := ih (i + 1) (by omega) (by omega)
      refine ⟨r, Ev.step (fun k => ?_) hr, ?_⟩
      · rw [impl_isRising.l0, if_pos (by omega), if_pos (by omega), e2, if_pos (by omega), if_pos (by omega), rdN, rdN, if_neg hle, wN i (by omega)]
      · rw [hi']
        refine ⟨fun h j h1 h2 => ?_, fun h j h1 h2 => h j (by omega) h2⟩
        rcases Nat.eq_or_lt_of_le h1 with e | e
        · subst e; omega
        · exact h j e h2
theorem risingI (l : List Int) (hb : l.length ≤ 17592186044415) : ∃ r, Ev (fun k => impl_isRising.f k l) r ∧ (r = true ↔ (∀ j, 0 < j → j < l.length → l.getD (j - 1) 0 < l.getD j 0)) :=
  rising_l0 l hb _ 1 rfl (Nat.le_refl _)
theorem all_getD (p : Int → Bool) (l : List Int) : l.all p = true ↔ ∀ j, j < l.length → p (l.getD j 0) = true := by
  rw [List.all_eq_true]
  constructor
  · exact fun h j hj => h _ (getD_mem l j hj)
  · intro h x hx
    obtain ⟨j, hj, e⟩ := List.getElem_of_mem hx
    have := h j hj
    rwa [getD_eq l j hj, e] at this
theorem postageF (n : Int) : spec_l01Postage.f n = some (decide (0 ≤ n) && decide (n ≤ 1000)) := by
  rw [spec_l01Postage.f, inF]; rfl
end Go.Proofs.Ytnhcdfikjfjkoaa.Pure

namespace Go.Proofs.Ytnhcdfikjfjkoaa.Pure
open Go.RowKit Go.Proofs.Ytnhcdfikjfjkoaa.P Go.Proofs.YtnhcdfikjfjkoaaW.PrintWords Go.Proofs.YtnhcdfikjfjkoaaW.PrintLast
set_option linter.unusedVariables false
set_option linter.unusedSimpArgs false
def Wf (l : List S56) : Prop := ∀ x ∈ l, (-32768 ≤ x.f0 ∧ x.f0 ≤ 32767) ∧ (-32768 ≤ x.f1 ∧ x.f1 ≤ 32767)
theorem Wf.at {l : List S56} (h : Wf l) (i : Nat) (hi : i < l.length) : (-32768 ≤ (l.getD i z56).f0 ∧ (l.getD i z56).f0 ≤ 32767) ∧ (-32768 ≤ (l.getD i z56).f1 ∧ (l.getD i z56).f1 ≤ 32767) := by
  rw [getD_eqG z56 l i hi]; exact h _ (List.getElem_mem hi)
theorem Wf.cv {l : List S58} (h : ∀ x ∈ l, (Lit.int .i16 x.f0).wf = true ∧ (Lit.int .i16 x.f1).wf = true) : Wf (l.map cv) := by
  intro x hx
  obtain ⟨y, hy, rfl⟩ := List.mem_map.1 hx
  exact ⟨bounds_i16 (h y hy).1, bounds_i16 (h y hy).2⟩
theorem map_getD (l : List S56) (f : S56 → Int) (i : Nat) (hi : i < l.length) : (l.map f).getD i 0 = f (l.getD i z56) := by
  rw [getD_eq _ i (by rw [List.length_map]; exact hi), List.getElem_map, getD_eqG z56 l i hi]
def SV (l : List S56) : Prop :=
  l.length ≤ 8 ∧ (∀ j, j < l.length → (1 ≤ (l.getD j z56).f0 ∧ (l.getD j z56).f0 ≤ 500) ∧ (0 ≤ (l.getD j z56).f1 ∧ (l.getD j z56).f1 ≤ 50)) ∧ (∀ j, 0 < j → j < l.length → (l.getD (j - 1) z56).f0 < (l.getD j z56).f0)
theorem purse_l0 (l : List S56) (hw : Wf l) (hb : l.length ≤ 4398046511104) : ∀ d i (x y : List Int), l.length - i = d → i ≤ l.length → x = (l.take i).map S56.f0 → y = (l.take i).map S56.f1 →
    Ev (fun k => impl_purseOf.l0 k l (l.length : Int) (i : Int) x y) (l.map S56.f0, l.map S56.f1) := by
  intro d
  induction d with
  | zero =>
    intro i x y hd hi hx hy
    obtain rfl : i = l.length := by omega
    rw [List.take_length] at hx hy
    subst hx hy
    refine Ev.step (f := fun _ => some (l.map S56.f0, l.map S56.f1)) (fun k => ?_) (Ev.now _)
    rw [impl_purseOf.l0, if_neg (by omega)]
  | succ d ih =>
    intro i x y hd hi hx hy
    have hlt : i < l.length := by omega
    obtain ⟨h0, h1⟩ := hw.at i hlt
    have e0 : wrap64 (l.getD i z56).f0 = (l.getD i z56).f0 := w64 (by omega) (by omega)
    have e1 : wrap64 (l.getD i z56).f1 = (l.getD i z56).f1 := w64 (by omega) (by omega)
    have et : l.take (i + 1) = l.take i ++ [l.getD i z56] := by
      rw [List.take_add_one, List.getD_eq_getElem?_getD, List.getElem?_eq_getElem hlt]; rfl
    have lx : x.length = i := by rw [hx, List.length_map, List.length_take]; omega
    have ly : y.length = i := by rw [hy, List.length_map, List.length_take]; omega
    refine Ev.step (fun k => ?_) (ih (i + 1) (x ++ [(l.getD i z56).f0]) (y ++ [(l.getD i z56).f1]) (by omega) (by omega) (by rw [et, List.map_append, ← hx]; rfl) (by rw [et, List.map_append, ← hy]; rfl))
    rw [impl_purseOf.l0, if_pos (by omega), if_pos (by omega), if_pos (by omega), rdS, e0, e1, Option.bind_some, if_pos (by simp; omega), Option.bind_some, if_pos (by simp; omega), wN i (by omega)]
theorem purseF (l : List S56) (hw : Wf l) (hb : l.length ≤ 4398046511104) : Ev (fun k => impl_purseOf.f k l) (l.map S56.f0, l.map S56.f1) :=
  purse_l0 l hw hb _ 0 [] [] rfl (Nat.zero_le _) rfl rfl
theorem stock_l0 (l : List S56) (hw : Wf l) (hb : l.length ≤ 4398046511104) : ∀ d i, l.length - i = d → i ≤ l.length →
    ∃ r, Ev (fun k => spec_l01Stock.l0 k l (i : Int)) r ∧ (r = true ↔ (∀ j, i ≤ j → j < l.length → ((1 ≤ (l.getD j z56).f0 ∧ (l.getD j z56).f0 ≤ 500) ∧ (0 ≤ (l.getD j z56).f1 ∧ (l.getD j z56).f1 ≤ 50)) ∧ (0 < j → (l.getD (j - 1) z56).f0 < (l.getD j z56).f0)) ∧ l.length ≤ 8) := by
  intro d
  induction d with
  | zero =>
    intro i hd hi
    refine ⟨decide ((l.length : Int) ≤ 8), Ev.step (f := fun _ => some (decide ((l.length : Int) ≤ 8))) (fun k => ?_) (Ev.now _), ?_⟩
    · rw [spec_l01Stock.l0, if_neg (by omega)]
    · rw [decide_eq_true_eq]
      exact ⟨fun h => ⟨fun j h1 h2 => by omega, by omega⟩, fun h => by have := h.2; omega⟩
  | succ d ih =>
    intro i hd hi
    have hlt : i < l.length := by omega
    obtain ⟨h0, h1⟩ := hw.at i hlt
    have e0 : wrap64 (l.getD i z56).f0 = (l.getD i z56).f0 := w64 (by omega) (by omega)
    have e1 : wrap64 (l.getD i z56).f1 = (l.getD i z56).f1 := w64 (by omega) (by omega)
    have estep : ∀ k, spec_l01Stock.l0 (k + 1) l (i : Int) = spec_l01Stock.j1 k l (i : Int) (!((decide (1 ≤ (l.getD i z56).f0) && decide ((l.getD i z56).f0 ≤ 500)) && (decide (0 ≤ (l.getD i z56).f1) && decide ((l.getD i z56).f1 ≤ 50)))) := fun k => by
      rw [spec_l01Stock.l0, if_pos (by omega), if_pos (by omega), rdS, e0, e1, inF, Option.bind_some]
      cases (decide (1 ≤ (l.getD i z56).f0) && decide ((l.getD i z56).f0 ≤ 500)) with
      | false => rw [if_neg (by simp), Bool.false_and]; rfl
      | true => rw [if_pos rfl, inF, Option.bind_some, Bool.true_and]
    by_cases hin : (1 ≤ (l.getD i z56).f0 ∧ (l.getD i z56).f0 ≤ 500) ∧ (0 ≤ (l.getD i z56).f1 ∧ (l.getD i z56).f1 ≤ 50)
    · have eb : (!((decide (1 ≤ (l.getD i z56).f0) && decide ((l.getD i z56).f0 ≤ 500)) && (decide (0 ≤ (l.getD i z56).f1) && decide ((l.getD i z56).f1 ≤ 50)))) = false := by
        simp only [hin.1.1, hin.1.2, hin.2.1, hin.2.2, decide_true, Bool.and_self, Bool.not_true]
      rw [eb] at estep
      rcases Nat.eq_zero_or_pos i with hz | hz
      · subst hz
        obtain ⟨r, hr, hi'⟩ := ih 1 (by omega) (by omega)
        refine ⟨r, Ev.step estep (Ev.step (g := fun k => spec_l01Stock.j1 k l ((0 : Nat) : Int) false) (fun k => ?_) hr), ?_⟩
        · rw [spec_l01Stock.j1, if_neg (by simp), if_neg (by omega), wN 0 (by omega)]
        · rw [hi']
          refine ⟨fun h => ⟨fun j q1 q2 => ?_, h.2⟩, fun h => ⟨fun j q1 q2 => h.1 j (by omega) q2, h.2⟩⟩
          rcases Nat.eq_zero_or_pos j with e | e
          · subst e; exact ⟨hin, fun h => absurd h (Nat.lt_irrefl 0)⟩
          · exact h.1 j e q2
      · have e2 : wrap64 ((i : Int) - 1) = ((i - 1 : Nat) : Int) := by rw [w64 (by omega) (by omega)]; omega
        by_cases hle : (l.getD i z56).f0 ≤ (l.getD (i - 1) z56).f0
        · refine ⟨false, Ev.step estep (Ev.step (f := fun _ => some false) (g := fun k => spec_l01Stock.j1 k l (i : Int) false) (fun k => ?_) (Ev.now _)), ?_⟩
          · rw [spec_l01Stock.j1, if_neg (by simp), if_pos (by omega), if_pos (by omega), if_pos (by omega), e2, if_pos (by omega), if_pos (by omega), rdS, rdS, if_pos hle]
          · simp only [Bool.false_eq_true, false_iff]
            intro h
            have := (h.1 i (Nat.le_refl _) hlt).2 hz
            omega
        · obtain ⟨r, hr, hi'⟩ := ih (i + 1) (by omega) (by omega)
          refine ⟨r, Ev.step estep (Ev.step (g := fun k => spec_l01Stock.j1 k l (i : Int) false) (fun k => ?_) hr), ?_⟩
          · rw [spec_l01Stock.j1, if_neg (by simp), if_pos (by omega), if_pos (by omega), if_pos (by omega), e2, if_pos (by omega), if_pos (by omega), rdS, rdS, if_neg hle, wN i (by omega)]
          · rw [hi']
            refine ⟨fun h => ⟨fun j q1 q2 => ?_, h.2⟩, fun h => ⟨fun j q1 q2 => h.1 j (by omega) q2, h.2⟩⟩
            rcases Nat.eq_or_lt_of_le q1 with e | e
            · subst e; exact ⟨hin, fun _ => by omega⟩
            · exact h.1 j e q2
    · have eb : (!((decide (1 ≤ (l.getD i z56).f0) && decide ((l.getD i z56).f0 ≤ 500)) && (decide (0 ≤ (l.getD i z56).f1) && decide ((l.getD i z56).f1 ≤ 50)))) = true := by
        rw [Bool.not_eq_true']
        apply Classical.byContradiction
        intro hn
        apply hin
        simpa [and_assoc] using hn
      rw [eb] at estep
      refine ⟨false, Ev.step estep (Ev.step (f := fun _ => some false) (g := fun k => spec_l01Stock.j1 k l (i : Int) true) (fun k => ?_) (Ev.now _)), ?_⟩
      · rw [spec_l01Stock.j1, if_pos rfl]
      · simp only [Bool.false_eq_true, false_iff]
        intro h
        exact hin (h.1 i (Nat.le_refl _) hlt).1
theorem specStock (l : List S56) (hw : Wf l) (hb : l.length ≤ 4398046511104) : ∃ r, Ev (fun k => spec_l01Stock.f k l) r ∧ (r = true ↔ SV l) := by
  obtain ⟨r, hr, hi⟩ := stock_l0 l hw hb _ 0 rfl (Nat.zero_le _)
  exact ⟨r, hr, hi.trans ⟨fun h => ⟨h.2, fun j hj => (h.1 j (Nat.zero_le _) hj).1, fun j h0 hj => (h.1 j (Nat.zero_le _) hj).2 h0⟩, fun h => ⟨fun j _ hj => ⟨h.2.1 j hj, fun h0 => h.2.2 j h0 hj⟩, h.1⟩⟩⟩
theorem areW (l : List Int) (a b : Int) : ∃ r, impl_areWithin.f l a b = some r ∧ (r = true ↔ ∀ j, j < l.length → a ≤ l.getD j 0 ∧ l.getD j 0 ≤ b) := by
  refine ⟨_, rfl, ?_⟩
  rw [all_getD]
  simp only [Bool.and_eq_true, decide_eq_true_eq]
theorem implStock (l : List S56) (hw : Wf l) (hb : l.length ≤ 4398046511104) : ∃ r, Ev (fun k => impl_ValidStock.f k l) r ∧ (r = true ↔ SV l) := by
  obtain ⟨K1, h1⟩ := EvG (purseF l hw hb)
  obtain ⟨r1, a1, b1⟩ := areW (l.map S56.f0) 1 500
  obtain ⟨r2, a2, b2⟩ := risingI (l.map S56.f0) (by rw [List.length_map]; omega)
  obtain ⟨r3, a3, b3⟩ := areW (l.map S56.f1) 0 50
  obtain ⟨K2, a2⟩ := EvG a2
  rw [List.length_map] at b1 b2 b3
  have c1 : r1 = true ↔ ∀ j, j < l.length → 1 ≤ (l.getD j z56).f0 ∧ (l.getD j z56).f0 ≤ 500 := by
    rw [b1]
    exact ⟨fun h j hj => by have := h j hj; rwa [map_getD l S56.f0 j hj] at this, fun h j hj => by rw [map_getD l S56.f0 j hj]; exact h j hj⟩
  have c3 : r3 = true ↔ ∀ j, j < l.length → 0 ≤ (l.getD j z56).f1 ∧ (l.getD j z56).f1 ≤ 50 := by
    rw [b3]
    exact ⟨fun h j hj => by have := h j hj; rwa [map_getD l S56.f1 j hj] at this, fun h j hj => by rw [map_getD l S56.f1 j hj]; exact h j hj⟩
  have c2 : r2 = true ↔ ∀ j, 0 < j → j < l.length → (l.getD (j - 1) z56).f0 < (l.getD j z56).f0 := by
    rw [b2]
    exact ⟨fun h j h0 hj => by have := h j h0 hj; rwa [map_getD l S56.f0 j hj, map_getD l S56.f0 (j - 1) (by omega)] at this, fun h j h0 hj => by rw [map_getD l S56.f0 j hj, map_getD l S56.f0 (j - 1) (by omega)]; exact h j h0 hj⟩
  refine ⟨decide (l.length ≤ 8) && r1 && r2 && r3, EvI (K1 + K2) fun k hk => ?_, ?_⟩
  · rw [impl_ValidStock.f, h1 k (by omega), Option.bind_some]
    by_cases h8 : l.length ≤ 8
    · rw [if_pos (by omega), a1, Option.bind_some, a2 k (by omega), a3]
      simp only [h8, decide_true, Bool.true_and, Option.bind_some]
      cases r1 <;> cases r2 <;> rfl
    · rw [if_neg (by omega)]
      simp only [h8, decide_false, Bool.false_and]
  · simp only [Bool.and_eq_true, decide_eq_true_eq]
    rw [c1, c2, c3]
    exact ⟨fun h => ⟨h.1.1.1, fun j hj => ⟨h.1.1.2 j hj, h.2 j hj⟩, h.1.2⟩, fun h => ⟨⟨⟨h.1, fun j hj => (h.2.1 j hj).1⟩, h.2.2⟩, fun j hj => (h.2.1 j hj).2⟩⟩
theorem bothStock (l : List S56) (hw : Wf l) (hb : l.length ≤ 4398046511104) : ∃ r, Ev (fun k => spec_l01Stock.f k l) r ∧ Ev (fun k => impl_ValidStock.f k l) r ∧ (r = true ↔ SV l) := by
  obtain ⟨r, h1, h2⟩ := specStock l hw hb
  obtain ⟨s, h3, h4⟩ := implStock l hw hb
  have : r = s := Bool.eq_iff_iff.2 (h2.trans h4.symm)
  subst this
  exact ⟨r, h1, h3, h2⟩
end Go.Proofs.Ytnhcdfikjfjkoaa.Pure

namespace Go.Proofs.Ytnhcdfikjfjkoaa.P
open Go.RowKit Go.Proofs.YtnhcdfikjfjkoaaW.PrintWords Go.Proofs.YtnhcdfikjfjkoaaW.PrintLast Go.Proofs.YtnhcdfikjfjkoaaW.PrintMore
attribute [local go_sem] max2_int min2_int max_two min_two max_three min_three max_four min_four
set_option linter.unusedVariables false
set_option linter.unusedSimpArgs false
def laws_heldStampS.l0 : Nat → List (S56) → Int → Int → Option (Int)
  | 0, _, _, _ => none
  | k + 1, x0, x1, x5 => if x5 < (x0.length : Int) then (if 0 ≤ x5 then (if ((rd_T56 x0 x5).f0) = (IntKind.i16.wrap (x1)) then (if ((rd_T56 x0 x5).f1) = (IntKind.i16.wrap (wrap64 (x1 + 1))) then (laws_heldStampS.l0 k x0 (wrap64 ((wrap64 (x1 + 1)) + 1)) (wrap64 (x5 + 1))) else (some (-1))) else (some (-1))) else (none)) else (some x1)
def laws_heldStampS.f (k : Nat) (l0 : List (S56)) (a1 : Int) : Option (Int) := laws_heldStampS.l0 k l0 a1 0
end Go.Proofs.Ytnhcdfikjfjkoaa.P

namespace Go.Proofs.Ytnhcdfikjfjkoaa.Pure
open Go.RowKit Go.Proofs.Ytnhcdfikjfjkoaa.P Go.Proofs.YtnhcdfikjfjkoaaW.PrintWords Go.Proofs.YtnhcdfikjfjkoaaW.PrintLast
set_option linter.unusedVariables false
set_option linter.unusedSimpArgs false
def mkE (m : Nat) : S56 := ⟨IntKind.i16.wrap (m : Int), IntKind.i16.wrap ((m + 1 : Nat) : Int)⟩
def mkS (n : Nat) : List S56 := (List.range n).map fun i => mkE (1 + 2 * i)
theorem mkS_len (n : Nat) : (mkS n).length = n := by simp [mkS]
theorem mkS_at (n i : Nat) (h : i < n) : (mkS n).getD i z56 = mkE (1 + 2 * i) := by
  simp [mkS, List.getD_eq_getElem?_getD, h]
theorem markS_l0 (n : Nat) (hb : n ≤ 2000000) : ∀ d i x, n - i = d → i ≤ n → x.length = n → (∀ j, j < i → x.getD j z56 = mkE (1 + 2 * j)) →
    Ev (fun k => laws_markStampS.l0 k x ((1 + 2 * i : Nat) : Int) (i : Int)) (((1 + 2 * n : Nat) : Int), mkS n) := by
  intro d
  induction d with
  | zero =>
    intro i x hd hi hx hj
    obtain rfl : i = n := by omega
    refine Ev.step (f := fun _ => some (((1 + 2 * i : Nat) : Int), x)) (fun k => ?_) ?_
    · rw [laws_markStampS.l0, if_neg (by omega)]
    · have : x = mkS i := list_extG z56 x _ (by rw [mkS_len]; exact hx) (fun j h => by rw [mkS_len] at h; rw [hj j h, mkS_at i j h])
      rw [this]; exact Ev.now _
  | succ d ih =>
    intro i x hd hi hx hj
    refine Ev.step (fun k => ?_) (ih (i + 1) (x.set i (mkE (1 + 2 * i))) (by omega) (by omega) (by simpa using hx) ?_)
    · rw [laws_markStampS.l0, if_pos (by omega), if_pos (by omega), Option.bind_some]
      rw [wN (1 + 2 * i) (by omega), wN (1 + 2 * i + 1) (by omega), wN i (by omega)]
      simp only [Int.toNat_natCast, rdS]
      rw [getD_setG z56 _ i i _ (by rw [hx]; omega), if_pos rfl, List.set_set]
      rfl
    · intro j h
      rw [getD_setG z56 x i j _ (by omega)]
      by_cases e : i = j
      · rw [if_pos e, e]
      · rw [if_neg e]; exact hj j (by omega)
theorem markS (l : List S56) (hb : l.length ≤ 2000000) : Ev (fun k => laws_markStampS.f k l 1) (((1 + 2 * l.length : Nat) : Int), mkS l.length) :=
  markS_l0 l.length hb _ 0 l rfl (Nat.zero_le _) rfl (fun j h => absurd h (Nat.not_lt_zero _))
end Go.Proofs.Ytnhcdfikjfjkoaa.Pure

namespace Go.Proofs.Ytnhcdfikjfjkoaa.Pure
open Go.RowKit Go.Proofs.Ytnhcdfikjfjkoaa.P Go.Proofs.YtnhcdfikjfjkoaaW.PrintWords Go.Proofs.YtnhcdfikjfjkoaaW.PrintLast
set_option linter.unusedVariables false
set_option linter.unusedSimpArgs false
theorem rdL1 (l : List (List Int)) (i : Nat) : rd_L1 l (i : Int) = l.getD i [] := rfl
theorem rdL7 (l : List (List S77)) (i : Nat) : rd_L7 l (i : Int) = l.getD i [] := rfl
theorem rdP (l : List S77) (i : Nat) : rd_T77 l (i : Int) = l.getD i z77 := rfl
theorem getD_range {α : Type} (f : Nat → α) (n a : Nat) (z : α) (h : a < n) : ((List.range n).map f).getD a z = f a := by
  simp [List.getD_eq_getElem?_getD, h]
def bk (X : List Int) (v a : Nat) : Nat → Int
  | 0 => -1
  | K + 1 => if 0 ≤ X.getD (a - K * v) 0 ∧ (bk X v a K < 0 ∨ X.getD (a - K * v) 0 + (K : Int) < bk X v a K) then X.getD (a - K * v) 0 + (K : Int) else bk X v a K
def wk (Y : List S77) (v a : Nat) : Nat → Int
  | 0 => 0
  | K + 1 => wk Y v a K + (Y.getD (a - K * v) z77).f0
def lk (Y : List S77) (v a : Nat) : Nat → Int
  | 0 => 0
  | K + 1 => if (Y.getD (a - K * v) z77).f0 ≠ 0 ∧ (wk Y v a K = 0 ∨ (Y.getD (a - K * v) z77).f1 + (K : Int) < lk Y v a K) then (Y.getD (a - K * v) z77).f1 + (K : Int) else lk Y v a K
def nk (v h a : Nat) : Nat := min h (a / v) + 1
theorem nk_lt {v h a K : Nat} (hv : 1 ≤ v) : K < nk v h a ↔ K ≤ h ∧ K * v ≤ a := by
  have := Nat.le_div_iff_mul_le (k := v) (x := K) (y := a) hv
  unfold nk
  omega
theorem nk_le {v h a K : Nat} (hv : 1 ≤ v) (hK : K ≤ nk v h a) : K * v ≤ a + v ∧ K ≤ h + 1 := by
  rcases Nat.eq_zero_or_pos K with rfl | hp
  · simp
  · obtain ⟨j, rfl⟩ : ∃ j, K = j + 1 := ⟨K - 1, by omega⟩
    have := (nk_lt (v := v) (h := h) (a := a) (K := j) hv).1 (by omega)
    rw [Nat.succ_mul]
    omega
def rowS (X : List Int) (v h m : Nat) : List Int := (List.range (m + 1)).map fun a => bk X v a (nk v h a)
def rowI (Y : List S77) (v h m : Nat) : List S77 := (List.range (m + 1)).map fun a => ⟨wk Y v a (nk v h a), lk Y v a (nk v h a)⟩
def headS (vs hs : List Int) (m : Nat) : Nat → List Int
  | 0 => (List.range (m + 1)).map fun a => if a = 0 then 0 else -1
  | k + 1 => rowS (headS vs hs m k) (vs.getD (vs.length - 1 - k) 0).toNat (hs.getD (vs.length - 1 - k) 0).toNat m
def headI (vs hs : List Int) (m : Nat) : Nat → List S77
  | 0 => (List.range (m + 1)).map fun a => ⟨if a = 0 then 1 else 0, 0⟩
  | k + 1 => rowI (headI vs hs m k) (vs.getD (vs.length - 1 - k) 0).toNat (hs.getD (vs.length - 1 - k) 0).toNat m
theorem headS_len (vs hs : List Int) (m k : Nat) : (headS vs hs m k).length = m + 1 := by cases k <;> simp [headS, rowS]
theorem headI_len (vs hs : List Int) (m k : Nat) : (headI vs hs m k).length = m + 1 := by cases k <;> simp [headI, rowI]
def RelE (B : Nat) (a : Nat) (x : Int) (y : S77) : Prop := (x = -1 ∧ y.f0 = 0) ∨ (0 ≤ x ∧ x ≤ a ∧ 1 ≤ y.f0 ∧ y.f0 ≤ B ∧ y.f1 = x)
def RelRow (B m : Nat) (X : List Int) (Y : List S77) : Prop := ∀ a, a ≤ m → RelE B a (X.getD a 0) (Y.getD a z77)
theorem relK {B m : Nat} {X : List Int} {Y : List S77} (hR : RelRow B m X Y) (v h a : Nat) (hv : 1 ≤ v) (ha : a ≤ m) : ∀ K, K ≤ nk v h a →
    (bk X v a K = -1 ∧ wk Y v a K = 0) ∨ (0 ≤ bk X v a K ∧ bk X v a K ≤ a ∧ 1 ≤ wk Y v a K ∧ wk Y v a K ≤ ((K * B : Nat) : Int) ∧ lk Y v a K = bk X v a K)
  | 0, _ => Or.inl ⟨rfl, rfl⟩
  | K + 1, hK => by
    have ih := relK hR v h a hv ha K (by omega)
    obtain ⟨h1, h2⟩ := (nk_lt (h := h) (a := a) (K := K) hv).1 (by omega)
    have hKv : K ≤ K * v := Nat.le_mul_of_pos_right K hv
    have hB : (K + 1) * B = K * B + B := Nat.succ_mul K B
    have he := hR (a - K * v) (by omega)
    unfold RelE at he
    simp only [bk, wk, lk]
    rcases he with ⟨e1, e2⟩ | ⟨e1, e2, e3, e4, e5⟩
    · rw [if_neg (by omega), if_neg (by omega), e2, Int.add_zero]
      rcases ih with i | ⟨i1, i2, i3, i4, i5⟩
      · exact Or.inl i
      · exact Or.inr ⟨i1, i2, i3, by omega, i5⟩
    · right
      rcases ih with ⟨i1, i2⟩ | ⟨i1, i2, i3, i4, i5⟩
      · rw [if_pos ⟨e1, Or.inl (by omega)⟩, if_pos ⟨by omega, Or.inl i2⟩]
        refine ⟨by omega, by omega, by omega, by omega, by omega⟩
      · by_cases c : X.getD (a - K * v) 0 + (K : Int) < bk X v a K
        · rw [if_pos ⟨e1, Or.inr c⟩, if_pos ⟨by omega, Or.inr (by omega)⟩]
          refine ⟨by omega, by omega, by omega, by omega, by omega⟩
        · rw [if_neg (by omega), if_neg (by omega)]
          refine ⟨by omega, by omega, by omega, by omega, by omega⟩
theorem relRow_step {B B' m : Nat} {X : List Int} {Y : List S77} (hR : RelRow B m X Y) (v h : Nat) (hv : 1 ≤ v) (hB : ∀ a, a ≤ m → nk v h a * B ≤ B') : RelRow B' m (rowS X v h m) (rowI Y v h m) := by
  intro a ha
  have h1 := relK hR v h a hv ha (nk v h a) (Nat.le_refl _)
  have h2 := hB a ha
  unfold rowS rowI
  rw [getD_range _ _ _ _ (by omega), getD_range _ _ _ _ (by omega)]
  rcases h1 with i | ⟨i1, i2, i3, i4, i5⟩
  · exact Or.inl i
  · exact Or.inr ⟨i1, i2, i3, Int.le_trans i4 (Int.ofNat_le.2 h2), i5⟩
theorem relRow_base (vs hs : List Int) (m : Nat) : RelRow 1 m (headS vs hs m 0) (headI vs hs m 0) := by
  intro a ha
  simp only [headS, headI]
  rw [getD_range _ _ _ _ (by omega), getD_range _ _ _ _ (by omega)]
  by_cases e : a = 0
  · exact Or.inr ⟨by simp [e], by simp [e], by simp [e], by simp [e], by simp [e]⟩
  · exact Or.inl ⟨by simp [e], by simp [e]⟩
theorem wk_one (vs hs : List Int) (m v h a : Nat) (hv : 1 ≤ v) (ha : a ≤ m) : ∀ K, K ≤ nk v h a → wk (headI vs hs m 0) v a K = 0 ∨ (wk (headI vs hs m 0) v a K = 1 ∧ a < K * v)
  | 0, _ => Or.inl rfl
  | K + 1, hK => by
    obtain ⟨h1, h2⟩ := (nk_lt (h := h) (a := a) (K := K) hv).1 (by omega)
    have e : ((headI vs hs m 0).getD (a - K * v) z77).f0 = if a - K * v = 0 then 1 else 0 := by rw [headI, getD_range _ _ _ _ (by omega)]
    have hS : (K + 1) * v = K * v + v := Nat.succ_mul K v
    rcases wk_one vs hs m v h a hv ha K (by omega) with i | ⟨i, j⟩
    · rw [wk, i, e]
      by_cases c : a - K * v = 0
      · right
        rw [if_pos c]
        exact ⟨rfl, by omega⟩
      · left
        rw [if_neg c]; rfl
    · omega
theorem relRow_one (vs hs : List Int) (m v h : Nat) (hv : 1 ≤ v) : RelRow 1 m (rowS (headS vs hs m 0) v h m) (rowI (headI vs hs m 0) v h m) := by
  intro a ha
  have h1 := relK (relRow_base vs hs m) v h a hv ha (nk v h a) (Nat.le_refl _)
  have h2 := wk_one vs hs m v h a hv ha (nk v h a) (Nat.le_refl _)
  unfold rowS rowI
  rw [getD_range _ _ _ _ (by omega), getD_range _ _ _ _ (by omega)]
  rcases h1 with i | ⟨i1, i2, i3, i4, i5⟩
  · exact Or.inl i
  · exact Or.inr ⟨i1, i2, i3, show wk _ _ _ _ ≤ ((1 : Nat) : Int) by omega, i5⟩
structure Kinds (vs hs : List Int) (m : Nat) (B : Nat → Nat) : Prop where
  len : hs.length = vs.length
  val : ∀ i, i < vs.length → 1 ≤ vs.getD i 0 ∧ vs.getD i 0 ≤ 500
  hav : ∀ i, i < vs.length → 0 ≤ hs.getD i 0 ∧ hs.getD i 0 ≤ 2000000000000
  b0 : B 0 = 1
  bs : ∀ k, k < vs.length → (∀ a, a ≤ m → nk (vs.getD (vs.length - 1 - k) 0).toNat (hs.getD (vs.length - 1 - k) 0).toNat a * B k ≤ B (k + 1)) ∨ (k = 0 ∧ B 1 = 1)
  bb : ∀ k, k ≤ vs.length → B k ≤ 4000000000000000000
theorem relHead {vs hs : List Int} {m : Nat} {B : Nat → Nat} (q : Kinds vs hs m B) : ∀ k, k ≤ vs.length → RelRow (B k) m (headS vs hs m k) (headI vs hs m k)
  | 0, _ => by rw [q.b0]; exact relRow_base vs hs m
  | k + 1, hk => by
    rcases q.bs k (by omega) with hb | ⟨rfl, hb⟩
    · exact relRow_step (relHead q k (by omega)) _ _ (by have := q.val (vs.length - 1 - k) (by omega); omega) hb
    · rw [hb]
      exact relRow_one vs hs m _ _ (by have := (q.val (vs.length - 1) (by omega)).1; show 1 ≤ (vs.getD (vs.length - 1) 0).toNat; omega)
theorem bk_found (X : List Int) (v a : Nat) : ∀ K, 0 ≤ bk X v a K → ∃ j, j < K ∧ 0 ≤ X.getD (a - j * v) 0 ∧ X.getD (a - j * v) 0 + (j : Int) = bk X v a K
  | 0, h => by simp [bk] at h
  | K + 1, h => by
    simp only [bk] at h ⊢
    split at h
    · rename_i c
      exact ⟨K, by omega, c.1, by rw [if_pos c]⟩
    · rename_i c
      obtain ⟨j, h1, h2, h3⟩ := bk_found X v a K h
      exact ⟨j, by omega, h2, by rw [if_neg c]; exact h3⟩
end Go.Proofs.Ytnhcdfikjfjkoaa.Pure

namespace Go.Proofs.Ytnhcdfikjfjkoaa.Pure
open Go.RowKit Go.Proofs.Ytnhcdfikjfjkoaa.P Go.Proofs.YtnhcdfikjfjkoaaW.PrintWords Go.Proofs.YtnhcdfikjfjkoaaW.PrintLast
set_option linter.unusedVariables false
set_option linter.unusedSimpArgs false
theorem set_self (x : List Int) (a : Nat) (v : Int) (h : x.getD a 0 = v) (ha : a < x.length) : x.set a v = x := by
  refine list_ext _ _ (by simp) (fun j hj => ?_)
  rw [getD_set _ _ _ _ ha]
  split
  · rename_i e; subst e; exact h.symm
  · rfl
theorem mulC (K v : Nat) : (K : Int) * (v : Int) = ((K * v : Nat) : Int) := (Int.natCast_mul K v).symm
theorem st_l3 (vs hs : List Int) (m i v h : Nat) (hi : i < vs.length) (hl : hs.length = vs.length) (hv : vs.getD i 0 = (v : Int)) (v1 : 1 ≤ v) (v5 : v ≤ 500) (hh : hs.getD i 0 = (h : Int)) (h2 : h ≤ 2000000000000)
    (T : List (List Int)) (X : List Int) (hT : T.getD 0 [] = X) (hT0 : 0 < T.length) (hX : X.length = m + 1) (hXb : ∀ a, a ≤ m → X.getD a 0 ≤ a) (hm : m ≤ 2000) (a : Nat) (ha : a ≤ m) (r : List (List Int)) :
    ∀ d K (x : List Int), nk v h a - K = d → K ≤ nk v h a → x.length = m + 1 → x.getD a 0 = bk X v a K →
      Ev (fun k => spec_l01Table.l2 k vs hs (m : Int) T (i : Int) (x.set a (bk X v a (nk v h a))) ((a + 1 : Nat) : Int)) r → Ev (fun k => spec_l01Table.l3 k vs hs (m : Int) T (i : Int) x (a : Int) (K : Int)) r := by
  intro d
  induction d with
  | zero =>
    intro K x hd hK hx hxa hr
    obtain rfl : K = nk v h a := by omega
    have hb := nk_le v1 (Nat.le_refl (nk v h a))
    have hnot : ¬ (nk v h a ≤ h ∧ nk v h a * v ≤ a) := fun c => by have := (nk_lt v1).2 c; omega
    rw [set_self x a _ hxa (by omega)] at hr
    refine Ev.step (f := fun k => spec_l01Table.j4 k vs hs (m : Int) T (i : Int) x (a : Int) ((nk v h a : Nat) : Int) false) (fun k => ?_) (Ev.step (fun k => ?_) hr)
    · rw [spec_l01Table.l3, if_pos (by omega), if_pos (by omega), rdN, hh]
      by_cases c : ((nk v h a : Nat) : Int) ≤ (h : Int)
      · rw [if_pos c, if_pos (by omega), rdN, hv, mulC, w64 (by omega) (by omega), decide_eq_false (by omega)]
      · rw [if_neg c]
    · rw [spec_l01Table.j4, if_neg (by simp), wN a (by omega)]
  | succ d ih =>
    intro K x hd hK hx hxa hr
    obtain ⟨c1, c2⟩ := (nk_lt (h := h) (a := a) (K := K) v1).1 (by omega)
    have hKv : K ≤ K * v := Nat.le_mul_of_pos_right K v1
    have hRb := hXb (a - K * v) (by omega)
    have hidx : (a : Int) - ((K * v : Nat) : Int) = ((a - K * v : Nat) : Int) := by omega
    have e1 : ∀ k, spec_l01Table.l3 (k + 1) vs hs (m : Int) T (i : Int) x (a : Int) (K : Int) = spec_l01Table.j4 k vs hs (m : Int) T (i : Int) x (a : Int) (K : Int) true := fun k => by
      rw [spec_l01Table.l3, if_pos (by omega), if_pos (by omega), rdN, hh, if_pos (by omega), if_pos (by omega), rdN, hv, mulC, w64 (by omega) (by omega), decide_eq_true (by omega)]
    refine Ev.step (f := fun k => spec_l01Table.j4 k vs hs (m : Int) T (i : Int) x (a : Int) (K : Int) true) e1 ?_
    have e2 : ∀ k, spec_l01Table.j4 (k + 1) vs hs (m : Int) T (i : Int) x (a : Int) (K : Int) true = (if X.getD (a - K * v) 0 ≥ 0 then (if bk X v a K < 0 then spec_l01Table.l3 k vs hs (m : Int) T (i : Int) (x.set a (wrap64 (X.getD (a - K * v) 0 + (K : Int)))) (a : Int) ((K + 1 : Nat) : Int) else if wrap64 (X.getD (a - K * v) 0 + (K : Int)) < bk X v a K then spec_l01Table.l3 k vs hs (m : Int) T (i : Int) (x.set a (wrap64 (X.getD (a - K * v) 0 + (K : Int)))) (a : Int) ((K + 1 : Nat) : Int) else spec_l01Table.l3 k vs hs (m : Int) T (i : Int) x (a : Int) ((K + 1 : Nat) : Int)) else spec_l01Table.l3 k vs hs (m : Int) T (i : Int) x (a : Int) ((K + 1 : Nat) : Int)) := fun k => by
      rw [spec_l01Table.j4, if_pos rfl, if_pos (by omega), if_pos (by omega), if_pos (by omega), rdN, hv, mulC, w64 (x := ((K * v : Nat) : Int)) (by omega) (by omega), hidx, w64 (x := ((a - K * v : Nat) : Int)) (by omega) (by omega),
        show rd_L1 T 0 = T.getD 0 [] from rfl, hT, if_pos (by omega), if_pos (by omega), if_pos (show (0 : Int) ≤ (a : Int) by omega), if_pos (show (a : Int) < (x.length : Int) by omega), rdN, rdN, hxa, wN K (by omega), Int.toNat_natCast]
    have go : ∀ x' : List Int, x'.length = m + 1 → x'.getD a 0 = bk X v a (K + 1) → x'.set a (bk X v a (nk v h a)) = x.set a (bk X v a (nk v h a)) → Ev (fun k => spec_l01Table.l3 k vs hs (m : Int) T (i : Int) x' (a : Int) ((K + 1 : Nat) : Int)) r := fun x' g1 g2 g3 =>
      ih (K + 1) x' (by omega) (by omega) g1 g2 (by rw [g3]; exact hr)
    by_cases q1 : X.getD (a - K * v) 0 ≥ 0
    · have hw : wrap64 (X.getD (a - K * v) 0 + (K : Int)) = X.getD (a - K * v) 0 + (K : Int) := w64 (by omega) (by omega)
      by_cases q2 : bk X v a K < 0 ∨ X.getD (a - K * v) 0 + (K : Int) < bk X v a K
      · refine Ev.step (fun k => ?_) (go (x.set a (X.getD (a - K * v) 0 + (K : Int))) (by simpa using hx) (by rw [getD_set _ _ _ _ (by omega), if_pos rfl, bk, if_pos ⟨q1, q2⟩]) (by rw [List.set_set]))
        rw [e2, if_pos q1, hw]
        by_cases q3 : bk X v a K < 0
        · rw [if_pos q3]
        · rw [if_neg q3, if_pos (q2.resolve_left q3)]
      · refine Ev.step (fun k => ?_) (go x hx (by rw [hxa, bk, if_neg (fun c => q2 c.2)]) rfl)
        rw [e2, if_pos q1, hw, if_neg (fun c => q2 (Or.inl c)), if_neg (fun c => q2 (Or.inr c))]
    · refine Ev.step (fun k => ?_) (go x hx (by rw [hxa, bk, if_neg (fun c => q1 c.1)]) rfl)
      rw [e2, if_neg q1]
theorem rowS_at (X : List Int) (v h m a : Nat) (ha : a ≤ m) : (rowS X v h m).getD a 0 = bk X v a (nk v h a) := by unfold rowS; rw [getD_range _ _ _ _ (by omega)]
theorem rowS_len (X : List Int) (v h m : Nat) : (rowS X v h m).length = m + 1 := by simp [rowS]
theorem st_l2 (vs hs : List Int) (m i v h : Nat) (hi : i < vs.length) (hl : hs.length = vs.length) (hv : vs.getD i 0 = (v : Int)) (v1 : 1 ≤ v) (v5 : v ≤ 500) (hh : hs.getD i 0 = (h : Int)) (h2 : h ≤ 2000000000000)
    (T : List (List Int)) (X : List Int) (hT : T.getD 0 [] = X) (hT0 : 0 < T.length) (hT1 : T.length ≤ 2000) (hX : X.length = m + 1) (hXb : ∀ a, a ≤ m → X.getD a 0 ≤ a) (hm : m ≤ 2000) (hi2 : i ≤ 2000) (r : List (List Int))
    (hr : Ev (fun k => spec_l01Table.l1 k vs hs (m : Int) (rowS X v h m :: T) ((i : Int) - 1)) r) :
    ∀ d a (x : List Int), m + 1 - a = d → a ≤ m + 1 → x.length = m + 1 → (∀ j, j < a → x.getD j 0 = (rowS X v h m).getD j 0) → Ev (fun k => spec_l01Table.l2 k vs hs (m : Int) T (i : Int) x (a : Int)) r := by
  intro d
  induction d with
  | zero =>
    intro a x hd ha hx hj
    have e : x = rowS X v h m := list_ext _ _ (by rw [hx, rowS_len]) (fun j h => by rw [rowS_len] at h; exact hj j (by omega))
    refine Ev.step (fun k => ?_) hr
    rw [spec_l01Table.l2, if_neg (by omega), Option.bind_some, if_pos (by simp; omega), w64 (x := (i : Int) - 1) (by omega) (by omega), e]
    rfl
  | succ d ih =>
    intro a x hd ha hx hj
    refine Ev.step (f := fun k => spec_l01Table.l3 k vs hs (m : Int) T (i : Int) (x.set a (-1)) (a : Int) ((0 : Nat) : Int)) (fun k => ?_) (st_l3 vs hs m i v h hi hl hv v1 v5 hh h2 T X hT hT0 hX hXb hm a (by omega) r _ 0 (x.set a (-1)) rfl (Nat.zero_le _) (by simpa using hx) (by rw [getD_set _ _ _ _ (by omega), if_pos rfl]; rfl) ?_)
    · rw [spec_l01Table.l2, if_pos (by omega), if_pos (by omega), if_pos (by omega), Int.toNat_natCast]; rfl
    · rw [List.set_set]
      refine ih (a + 1) _ (by omega) (by omega) (by simpa using hx) (fun j hj' => ?_)
      rw [getD_set _ _ _ _ (by omega)]
      split
      · rename_i e; subst e; rw [rowS_at _ _ _ _ _ (by omega)]
      · exact hj j (by omega)
theorem st_l1 {vs hs : List Int} {m : Nat} {B : Nat → Nat} (q : Kinds vs hs m B) (hn : vs.length ≤ 1000) (hm : m ≤ 2000) : ∀ d k (T : List (List Int)), vs.length - k = d → k ≤ vs.length → T.length = k + 1 → (∀ j, j ≤ k → T.getD j [] = headS vs hs m (k - j)) →
    ∃ U, Ev (fun K => spec_l01Table.l1 K vs hs (m : Int) T ((vs.length : Int) - 1 - (k : Int))) U ∧ U.length = vs.length + 1 ∧ ∀ j, j ≤ vs.length → U.getD j [] = headS vs hs m (vs.length - j) := by
  intro d
  induction d with
  | zero =>
    intro k T hd hk hT hj
    obtain rfl : k = vs.length := by omega
    refine ⟨T, Ev.step (f := fun _ => some T) (fun K => ?_) (Ev.now _), hT, hj⟩
    rw [spec_l01Table.l1, if_neg (by omega)]
  | succ d ih =>
    intro k T hd hk hT hj
    have hval := q.val (vs.length - 1 - k) (by omega)
    have hhav := q.hav (vs.length - 1 - k) (by omega)
    have hT0 : T.getD 0 [] = headS vs hs m k := by rw [hj 0 (by omega)]; rfl
    have hXb : ∀ a, a ≤ m → (headS vs hs m k).getD a 0 ≤ a := fun a ha => by
      rcases relHead q k (by omega) a ha with ⟨e, _⟩ | ⟨_, e, _⟩ <;> omega
    obtain ⟨U, u1, u2, u3⟩ := ih (k + 1) (headS vs hs m (k + 1) :: T) (by omega) (by omega) (by simp [hT]) (fun j hj' => by
      cases j with
      | zero => rfl
      | succ j => rw [List.getD_cons_succ, hj j (by omega), show k + 1 - (j + 1) = k - j by omega])
    refine ⟨U, ?_, u2, u3⟩
    have hi : (vs.length : Int) - 1 - (k : Int) = ((vs.length - 1 - k : Nat) : Int) := by omega
    have hi2 : (vs.length : Int) - 1 - ((k + 1 : Nat) : Int) = ((vs.length - 1 - k : Nat) : Int) - 1 := by omega
    rw [hi2] at u1
    refine Ev.step (f := fun K => spec_l01Table.l2 K vs hs (m : Int) T ((vs.length - 1 - k : Nat) : Int) (List.replicate (m + 1) 0) ((0 : Nat) : Int)) (fun K => ?_) (st_l2 vs hs m (vs.length - 1 - k) (vs.getD (vs.length - 1 - k) 0).toNat (hs.getD (vs.length - 1 - k) 0).toNat (by omega) q.len (by omega) (by omega) (by omega) (by omega) (by omega) T _ hT0 (by omega) (by omega) (headS_len _ _ _ _) hXb hm (by omega) U u1 _ 0 _ rfl (Nat.zero_le _) (by simp) (fun j h => absurd h (Nat.not_lt_zero _)))
    rw [hi, spec_l01Table.l1, if_pos (by omega), w64 (x := (m : Int) + 1) (by omega) (by omega), if_pos (by omega), show ((m : Int) + 1).toNat = m + 1 by omega, if_pos (by omega)]
    rfl
theorem st_l0 {vs hs : List Int} {m : Nat} {B : Nat → Nat} (q : Kinds vs hs m B) (hn : vs.length ≤ 1000) (hm : m ≤ 2000) : ∀ d a (x : List Int), m + 1 - a = d → 1 ≤ a → a ≤ m + 1 → x.length = m + 1 → x.getD 0 0 = 0 → (∀ j, 1 ≤ j → j < a → x.getD j 0 = -1) →
    ∃ U, Ev (fun K => spec_l01Table.l0 K vs hs (m : Int) (vs.length : Int) x (a : Int)) U ∧ U.length = vs.length + 1 ∧ ∀ j, j ≤ vs.length → U.getD j [] = headS vs hs m (vs.length - j) := by
  intro d
  induction d with
  | zero =>
    intro a x hd h1 ha hx h0 hj
    have e : x = headS vs hs m 0 := list_ext _ _ (by rw [hx, headS_len]) (fun j h => by
      rw [headS_len] at h
      rw [headS, getD_range _ _ _ _ h]
      by_cases e : j = 0
      · rw [if_pos e, e, h0]
      · rw [if_neg e, hj j (by omega) (by omega)])
    obtain ⟨U, u1, u2, u3⟩ := st_l1 q hn hm _ 0 [x] rfl (Nat.zero_le _) rfl (fun j hj' => by obtain rfl : j = 0 := (by omega); exact e)
    refine ⟨U, Ev.step (fun K => ?_) u1, u2, u3⟩
    rw [spec_l01Table.l0, if_neg (by omega), w64 (x := (vs.length : Int) - 1) (by omega) (by omega), show (vs.length : Int) - 1 - ((0 : Nat) : Int) = (vs.length : Int) - 1 by omega]
  | succ d ih =>
    intro a x hd h1 ha hx h0 hj
    obtain ⟨U, u1, u2, u3⟩ := ih (a + 1) (x.set a (-1)) (by omega) (by omega) (by omega) (by simpa using hx) (by rw [getD_set _ _ _ _ (by omega), if_neg (by omega)]; exact h0) (fun j j1 j2 => by
      rw [getD_set _ _ _ _ (by omega)]
      split
      · rfl
      · exact hj j j1 (by omega))
    refine ⟨U, Ev.step (fun K => ?_) u1, u2, u3⟩
    rw [spec_l01Table.l0, if_pos (by omega), if_pos (by omega), if_pos (by omega), wN a (by omega), Int.toNat_natCast]
theorem tableS {vs hs : List Int} {m : Nat} {B : Nat → Nat} (q : Kinds vs hs m B) (hn : vs.length ≤ 1000) (hm : m ≤ 2000) :
    ∃ U, Ev (fun K => spec_l01Table.f K vs hs (m : Int)) U ∧ U.length = vs.length + 1 ∧ ∀ j, j ≤ vs.length → U.getD j [] = headS vs hs m (vs.length - j) := by
  obtain ⟨U, u1, u2, u3⟩ := st_l0 q hn hm _ 1 (List.replicate (m + 1) 0) rfl (Nat.le_refl _) (by omega) (by simp) (getD_rep _ _ _ (by omega)) (fun j h1 h2 => by omega)
  refine ⟨U, Ev.congr (fun K => ?_) u1, u2, u3⟩
  rw [spec_l01Table.f, w64 (x := (m : Int) + 1) (by omega) (by omega), if_pos (by omega), show ((m : Int) + 1).toNat = m + 1 by omega, if_pos (by omega)]
  rfl
end Go.Proofs.Ytnhcdfikjfjkoaa.Pure

namespace Go.Proofs.Ytnhcdfikjfjkoaa.Pure
open Go.RowKit Go.Proofs.Ytnhcdfikjfjkoaa.P Go.Proofs.YtnhcdfikjfjkoaaW.PrintWords Go.Proofs.YtnhcdfikjfjkoaaW.PrintLast
set_option linter.unusedVariables false
set_option linter.unusedSimpArgs false
theorem setI_at (x : List (List S77)) (i : Nat) (c : List S77) (h : i < x.length) : (x.set i c).getD i [] = c := by rw [getD_setG [] _ _ _ _ h, if_pos rfl]
theorem setI_ne (x : List (List S77)) (i j : Nat) (c : List S77) (h : i < x.length) (hn : i ≠ j) : (x.set i c).getD j [] = x.getD j [] := by rw [getD_setG [] _ _ _ _ h, if_neg hn]
theorem set_selfI (c : List S77) (a : Nat) (e : S77) (h : c.getD a z77 = e) (ha : a < c.length) : c.set a e = c := by
  refine list_extG z77 _ _ (by simp) (fun j hj => ?_)
  rw [getD_setG z77 _ _ _ _ ha]
  split
  · rename_i q; subst q; exact h.symm
  · rfl
theorem it_l2 {B B' m : Nat} {X : List Int} {Y : List S77} (hR : RelRow B m X Y) (vs hs : List Int) (i v h : Nat) (hi : i < vs.length) (hn : vs.length ≤ 1000) (hl : hs.length = vs.length) (hv : vs.getD i 0 = (v : Int)) (v1 : 1 ≤ v) (v5 : v ≤ 500) (hh : hs.getD i 0 = (h : Int)) (h2 : h ≤ 2000000000000)
    (hB : ∀ a, a ≤ m → nk v h a * B ≤ B') (hBB : B' ≤ 4000000000000000000) (x0 : List (List S77)) (hx0 : x0.length = vs.length + 1) (hY : x0.getD (i + 1) [] = Y) (hYl : Y.length = m + 1) (hm : m ≤ 2000) (a : Nat) (ha : a ≤ m) (r : List (List S77)) :
    ∀ d K (c : List S77), nk v h a - K = d → K ≤ nk v h a → c.length = m + 1 → c.getD a z77 = ⟨wk Y v a K, lk Y v a K⟩ →
      Ev (fun k => impl_purse_table.l1 k (m : Int) (x0.set i (c.set a ⟨wk Y v a (nk v h a), lk Y v a (nk v h a)⟩)) (i : Int) ((m + 1 : Nat) : Int) ((a + 1 : Nat) : Int) vs hs) r →
      Ev (fun k => impl_purse_table.l2 k (m : Int) (x0.set i c) (i : Int) (a : Int) (K : Int) ((m + 1 : Nat) : Int) (a : Int) vs hs) r := by
  intro d
  induction d with
  | zero =>
    intro K c hd hK hc hca hr
    obtain rfl : K = nk v h a := by omega
    have hb := nk_le v1 (Nat.le_refl (nk v h a))
    have hnot : ¬ (nk v h a ≤ h ∧ nk v h a * v ≤ a) := fun c => by have := (nk_lt v1).2 c; omega
    rw [set_selfI c a _ hca (by omega)] at hr
    refine Ev.step (f := fun k => impl_purse_table.j3 k (m : Int) (x0.set i c) (i : Int) (a : Int) ((nk v h a : Nat) : Int) ((m + 1 : Nat) : Int) (a : Int) false vs hs) (fun k => ?_) (Ev.step (fun k => ?_) hr)
    · rw [impl_purse_table.l2, if_pos (by omega), if_pos (by omega), rdN, hh]
      by_cases c : ((nk v h a : Nat) : Int) ≤ (h : Int)
      · rw [if_pos c, if_pos (by omega), rdN, hv, mulC, w64 (by omega) (by omega), decide_eq_false (by omega)]
      · rw [if_neg c]
    · rw [impl_purse_table.j3, if_neg (by simp), wN a (by omega)]
  | succ d ih =>
    intro K c hd hK hc hca hr
    obtain ⟨c1, c2⟩ := (nk_lt (h := h) (a := a) (K := K) v1).1 (by omega)
    have hKv : K ≤ K * v := Nat.le_mul_of_pos_right K v1
    have hidx : (a : Int) - ((K * v : Nat) : Int) = ((a - K * v : Nat) : Int) := by omega
    have hrel := relK hR v h a v1 ha K (by omega)
    have hrel1 := relK hR v h a v1 ha (K + 1) (by omega)
    have hKB : (K + 1) * B ≤ B' := Nat.le_trans (Nat.mul_le_mul_right B (by omega)) (hB a ha)
    have hKB0 : K * B ≤ B' := Nat.le_trans (Nat.mul_le_mul_right B (by omega)) (hB a ha)
    have he := hR (a - K * v) (by omega)
    have hxl : (x0.set i c).length = vs.length + 1 := by rw [List.length_set]; exact hx0
    have hci : (x0.set i c).getD i [] = c := setI_at x0 i c (by omega)
    have hcY : (x0.set i c).getD (i + 1) [] = Y := by rw [setI_ne x0 i (i + 1) c (by omega) (by omega)]; exact hY
    have e1 : ∀ k, impl_purse_table.l2 (k + 1) (m : Int) (x0.set i c) (i : Int) (a : Int) (K : Int) ((m + 1 : Nat) : Int) (a : Int) vs hs = impl_purse_table.j3 k (m : Int) (x0.set i c) (i : Int) (a : Int) (K : Int) ((m + 1 : Nat) : Int) (a : Int) true vs hs := fun k => by
      rw [impl_purse_table.l2, if_pos (by omega), if_pos (by omega), rdN, hh, if_pos (by omega), if_pos (by omega), rdN, hv, mulC, w64 (by omega) (by omega), decide_eq_true (by omega)]
    refine Ev.step (f := fun k => impl_purse_table.j3 k (m : Int) (x0.set i c) (i : Int) (a : Int) (K : Int) ((m + 1 : Nat) : Int) (a : Int) true vs hs) e1 ?_
    have e2 : ∀ k, impl_purse_table.j3 (k + 1) (m : Int) (x0.set i c) (i : Int) (a : Int) (K : Int) ((m + 1 : Nat) : Int) (a : Int) true vs hs = (if (Y.getD (a - K * v) z77).f0 = 0 then impl_purse_table.l2 k (m : Int) (x0.set i c) (i : Int) (a : Int) ((K + 1 : Nat) : Int) ((m + 1 : Nat) : Int) (a : Int) vs hs else (if wk Y v a K = 0 then impl_purse_table.j4 k (m : Int) (x0.set i c) (i : Int) (a : Int) (K : Int) ((m + 1 : Nat) : Int) (a : Int) true vs hs (Y.getD (a - K * v) z77).f0 (Y.getD (a - K * v) z77).f1 else impl_purse_table.j4 k (m : Int) (x0.set i c) (i : Int) (a : Int) (K : Int) ((m + 1 : Nat) : Int) (a : Int) (decide (wrap64 ((Y.getD (a - K * v) z77).f1 + (K : Int)) < lk Y v a K)) vs hs (Y.getD (a - K * v) z77).f0 (Y.getD (a - K * v) z77).f1)) := fun k => by
      rw [impl_purse_table.j3, if_pos rfl, wN i (by omega), if_pos (by omega), if_pos (by omega), if_pos (by omega), if_pos (by omega), rdN, hv, mulC, w64 (x := ((K * v : Nat) : Int)) (by omega) (by omega), hidx, w64 (x := ((a - K * v : Nat) : Int)) (by omega) (by omega),
        rdL7, hcY, if_pos (by omega), if_pos (by omega), rdP, wN K (by omega), if_pos (show (i : Int) < ((x0.set i c).length : Int) by omega), if_pos (show (0 : Int) ≤ (a : Int) by omega), rdL7, hci, if_pos (show (a : Int) < (c.length : Int) by omega), rdP, hca]
    have go : ∀ c' : List S77, c'.length = m + 1 → c'.getD a z77 = ⟨wk Y v a (K + 1), lk Y v a (K + 1)⟩ → c'.set a ⟨wk Y v a (nk v h a), lk Y v a (nk v h a)⟩ = c.set a ⟨wk Y v a (nk v h a), lk Y v a (nk v h a)⟩ → Ev (fun k => impl_purse_table.l2 k (m : Int) (x0.set i c') (i : Int) (a : Int) ((K + 1 : Nat) : Int) ((m + 1 : Nat) : Int) (a : Int) vs hs) r := fun c' g1 g2 g3 =>
      ih (K + 1) c' (by omega) (by omega) g1 g2 (by rw [g3]; exact hr)
    have j4t : ∀ (l : Int) k, wrap64 ((Y.getD (a - K * v) z77).f1 + (K : Int)) = l → impl_purse_table.j4 (k + 1) (m : Int) (x0.set i c) (i : Int) (a : Int) (K : Int) ((m + 1 : Nat) : Int) (a : Int) true vs hs (Y.getD (a - K * v) z77).f0 (Y.getD (a - K * v) z77).f1 =
        impl_purse_table.l2 k (m : Int) (x0.set i (c.set a ⟨wrap64 (wk Y v a K + (Y.getD (a - K * v) z77).f0), l⟩)) (i : Int) (a : Int) ((K + 1 : Nat) : Int) ((m + 1 : Nat) : Int) (a : Int) vs hs := fun l k hlw => by
      rw [impl_purse_table.j4, if_pos rfl, if_pos (by omega), if_pos (by omega), if_pos (show (0 : Int) ≤ (a : Int) by omega), rdL7, hci, if_pos (show (a : Int) < (c.length : Int) by omega), rdP, hca, Option.bind_some, Int.toNat_natCast, Int.toNat_natCast, List.set_set, rdL7, setI_at x0 i _ (by omega), if_pos (by rw [List.length_set]; omega), rdP, getD_setG z77 _ _ _ _ (by omega), if_pos rfl, List.set_set, List.set_set, wN K (by omega), hlw]
    have j4f : ∀ k, impl_purse_table.j4 (k + 1) (m : Int) (x0.set i c) (i : Int) (a : Int) (K : Int) ((m + 1 : Nat) : Int) (a : Int) false vs hs (Y.getD (a - K * v) z77).f0 (Y.getD (a - K * v) z77).f1 =
        impl_purse_table.l2 k (m : Int) (x0.set i (c.set a ⟨wrap64 (wk Y v a K + (Y.getD (a - K * v) z77).f0), lk Y v a K⟩)) (i : Int) (a : Int) ((K + 1 : Nat) : Int) ((m + 1 : Nat) : Int) (a : Int) vs hs := fun k => by
      rw [impl_purse_table.j4, if_neg (by simp), if_pos (by omega), if_pos (by omega), if_pos (show (0 : Int) ≤ (a : Int) by omega), rdL7, hci, if_pos (show (a : Int) < (c.length : Int) by omega), rdP, hca, Int.toNat_natCast, Int.toNat_natCast, List.set_set, wN K (by omega)]
    have hwk : wk Y v a (K + 1) = wk Y v a K + (Y.getD (a - K * v) z77).f0 := rfl
    have hww : wrap64 (wk Y v a K + (Y.getD (a - K * v) z77).f0) = wk Y v a (K + 1) := by
      rw [hwk]
      rw [hwk] at hrel1
      apply w64 <;> omega
    rw [hww] at j4t j4f
    unfold RelE at he
    by_cases q1 : (Y.getD (a - K * v) z77).f0 = 0
    · refine Ev.step (fun k => ?_) (go c hc (by rw [hca, hwk, q1, Int.add_zero, lk, if_neg (fun q => q.1 q1)]) rfl)
      rw [e2, if_pos q1]
    · have hf1 : 0 ≤ (Y.getD (a - K * v) z77).f1 ∧ (Y.getD (a - K * v) z77).f1 ≤ 2000 := by omega
      have hw : wrap64 ((Y.getD (a - K * v) z77).f1 + (K : Int)) = (Y.getD (a - K * v) z77).f1 + (K : Int) := w64 (by omega) (by omega)
      have ge : ∀ l, l = lk Y v a (K + 1) → Ev (fun k => impl_purse_table.l2 k (m : Int) (x0.set i (c.set a ⟨wk Y v a (K + 1), l⟩)) (i : Int) (a : Int) ((K + 1 : Nat) : Int) ((m + 1 : Nat) : Int) (a : Int) vs hs) r := fun l hl' =>
        go (c.set a ⟨wk Y v a (K + 1), l⟩) (by simpa using hc) (by rw [getD_setG z77 _ _ _ _ (by omega), if_pos rfl, hl']) (by rw [List.set_set])
      by_cases q2 : wk Y v a K = 0
      · refine Ev.step (f := fun k => impl_purse_table.j4 k (m : Int) (x0.set i c) (i : Int) (a : Int) (K : Int) ((m + 1 : Nat) : Int) (a : Int) true vs hs (Y.getD (a - K * v) z77).f0 (Y.getD (a - K * v) z77).f1) (fun k => by rw [e2, if_neg q1, if_pos q2]) ?_
        exact Ev.step (fun k => j4t _ k hw) (ge _ (by rw [lk, if_pos ⟨q1, Or.inl q2⟩]))
      · by_cases q3 : (Y.getD (a - K * v) z77).f1 + (K : Int) < lk Y v a K
        · refine Ev.step (f := fun k => impl_purse_table.j4 k (m : Int) (x0.set i c) (i : Int) (a : Int) (K : Int) ((m + 1 : Nat) : Int) (a : Int) true vs hs (Y.getD (a - K * v) z77).f0 (Y.getD (a - K * v) z77).f1) (fun k => by rw [e2, if_neg q1, if_neg q2, hw, decide_eq_true q3]) ?_
          exact Ev.step (fun k => j4t _ k hw) (ge _ (by rw [lk, if_pos ⟨q1, Or.inr q3⟩]))
        · refine Ev.step (f := fun k => impl_purse_table.j4 k (m : Int) (x0.set i c) (i : Int) (a : Int) (K : Int) ((m + 1 : Nat) : Int) (a : Int) false vs hs (Y.getD (a - K * v) z77).f0 (Y.getD (a - K * v) z77).f1) (fun k => by rw [e2, if_neg q1, if_neg q2, hw, decide_eq_false q3]) ?_
          exact Ev.step (fun k => j4f k) (ge _ (by rw [lk, if_neg (fun q => q.2.elim q2 q3)]))
theorem rowI_at (Y : List S77) (v h m a : Nat) (ha : a ≤ m) : (rowI Y v h m).getD a z77 = ⟨wk Y v a (nk v h a), lk Y v a (nk v h a)⟩ := by unfold rowI; rw [getD_range _ _ _ _ (by omega)]
theorem rowI_len (Y : List S77) (v h m : Nat) : (rowI Y v h m).length = m + 1 := by simp [rowI]
theorem it_l1 {B B' m : Nat} {X : List Int} {Y : List S77} (hR : RelRow B m X Y) (vs hs : List Int) (i v h : Nat) (hi : i < vs.length) (hn : vs.length ≤ 1000) (hl : hs.length = vs.length) (hv : vs.getD i 0 = (v : Int)) (v1 : 1 ≤ v) (v5 : v ≤ 500) (hh : hs.getD i 0 = (h : Int)) (h2 : h ≤ 2000000000000)
    (hB : ∀ a, a ≤ m → nk v h a * B ≤ B') (hBB : B' ≤ 4000000000000000000) (x0 : List (List S77)) (hx0 : x0.length = vs.length + 1) (hY : x0.getD (i + 1) [] = Y) (hYl : Y.length = m + 1) (hm : m ≤ 2000) (r : List (List S77))
    (hr : Ev (fun k => impl_purse_table.l0 k (m : Int) (x0.set i (rowI Y v h m)) ((i : Int) - 1) vs hs) r) :
    ∀ d a (c : List S77), m + 1 - a = d → a ≤ m + 1 → c.length = m + 1 → (∀ j, j < a → c.getD j z77 = (rowI Y v h m).getD j z77) → (∀ j, a ≤ j → j ≤ m → c.getD j z77 = z77) →
      Ev (fun k => impl_purse_table.l1 k (m : Int) (x0.set i c) (i : Int) ((m + 1 : Nat) : Int) (a : Int) vs hs) r := by
  intro d
  induction d with
  | zero =>
    intro a c hd ha hc hj hz
    have e : c = rowI Y v h m := list_extG z77 _ _ (by rw [hc, rowI_len]) (fun j h => by rw [rowI_len] at h; exact hj j (by omega))
    refine Ev.step (fun k => ?_) hr
    rw [impl_purse_table.l1, if_neg (by omega), w64 (x := (i : Int) - 1) (by omega) (by omega), e]
  | succ d ih =>
    intro a c hd ha hc hj hz
    refine Ev.step (f := fun k => impl_purse_table.l2 k (m : Int) (x0.set i c) (i : Int) (a : Int) ((0 : Nat) : Int) ((m + 1 : Nat) : Int) (a : Int) vs hs) (fun k => ?_)
      (it_l2 hR vs hs i v h hi hn hl hv v1 v5 hh h2 hB hBB x0 hx0 hY hYl hm a (by omega) r _ 0 c rfl (Nat.zero_le _) hc (by rw [hz a (Nat.le_refl _) (by omega)]; rfl) (ih (a + 1) _ (by omega) (by omega) (by simpa using hc) (fun j hj' => ?_) (fun j j1 j2 => ?_)))
    · rw [impl_purse_table.l1, if_pos (by omega)]; rfl
    · rw [getD_setG z77 _ _ _ _ (by omega)]
      split
      · rename_i e; subst e; rw [rowI_at _ _ _ _ _ (by omega)]
      · exact hj j (by omega)
    · rw [getD_setG z77 _ _ _ _ (by omega), if_neg (by omega)]; exact hz j (by omega) j2
theorem rep_z (n j : Nat) (h : j < n) : (List.replicate n z77).getD j z77 = z77 := by simp [List.getD_eq_getElem?_getD, h]
theorem it_l0 {vs hs : List Int} {m : Nat} {B : Nat → Nat} (q : Kinds vs hs m B) (hn : vs.length ≤ 1000) (hm : m ≤ 2000) : ∀ d k (x0 : List (List S77)), vs.length - k = d → k ≤ vs.length → x0.length = vs.length + 1 → (∀ j, vs.length - k ≤ j → j ≤ vs.length → x0.getD j [] = headI vs hs m (vs.length - j)) →
    ∃ U, Ev (fun K => impl_purse_table.l0 K (m : Int) x0 ((vs.length : Int) - 1 - (k : Int)) vs hs) U ∧ U.length = vs.length + 1 ∧ ∀ j, j ≤ vs.length → U.getD j [] = headI vs hs m (vs.length - j) := by
  intro d
  induction d with
  | zero =>
    intro k x0 hd hk hx hj
    obtain rfl : k = vs.length := by omega
    refine ⟨x0, Ev.step (f := fun _ => some x0) (fun K => ?_) (Ev.now _), hx, fun j h => hj j (by omega) h⟩
    rw [impl_purse_table.l0, if_neg (by omega)]
  | succ d ih =>
    intro k x0 hd hk hx hj
    have hval := q.val (vs.length - 1 - k) (by omega)
    have hhav := q.hav (vs.length - 1 - k) (by omega)
    have hY : x0.getD (vs.length - 1 - k + 1) [] = headI vs hs m k := by rw [show vs.length - 1 - k + 1 = vs.length - k by omega, hj _ (Nat.le_refl _) (by omega), show vs.length - (vs.length - k) = k by omega]
    obtain ⟨U, u1, u2, u3⟩ := ih (k + 1) (x0.set (vs.length - 1 - k) (headI vs hs m (k + 1))) (by omega) (by omega) (by simpa using hx) (fun j j1 j2 => by
      by_cases e : vs.length - 1 - k = j
      · subst e
        rw [setI_at _ _ _ (by omega), show vs.length - (vs.length - 1 - k) = k + 1 by omega]
      · rw [setI_ne _ _ _ _ (by omega) e]; exact hj j (by omega) j2)
    refine ⟨U, ?_, u2, u3⟩
    have hi : (vs.length : Int) - 1 - (k : Int) = ((vs.length - 1 - k : Nat) : Int) := by omega
    have hi2 : (vs.length : Int) - 1 - ((k + 1 : Nat) : Int) = ((vs.length - 1 - k : Nat) : Int) - 1 := by omega
    rw [hi2] at u1
    obtain ⟨B', hB1, hB2⟩ : ∃ B', (∀ a, a ≤ m → nk (vs.getD (vs.length - 1 - k) 0).toNat (hs.getD (vs.length - 1 - k) 0).toNat a * B k ≤ B') ∧ B' ≤ 4000000000000000000 := by
      rcases q.bs k (by omega) with hb | ⟨rfl, hb⟩
      · exact ⟨_, hb, q.bb (k + 1) (by omega)⟩
      · refine ⟨2001, fun a ha => ?_, by omega⟩
        have := Nat.div_le_self a (vs.getD (vs.length - 1 - 0) 0).toNat
        rw [q.b0]
        unfold nk
        omega
    refine Ev.step (f := fun K => impl_purse_table.l1 K (m : Int) (x0.set (vs.length - 1 - k) (List.replicate (m + 1) z77)) ((vs.length - 1 - k : Nat) : Int) ((m + 1 : Nat) : Int) ((0 : Nat) : Int) vs hs) (fun K => ?_)
      (it_l1 (relHead q k (by omega)) vs hs (vs.length - 1 - k) (vs.getD (vs.length - 1 - k) 0).toNat (hs.getD (vs.length - 1 - k) 0).toNat (by omega) hn q.len (by omega) (by omega) (by omega) (by omega) (by omega) hB1 hB2 x0 hx hY (headI_len _ _ _ _) hm U u1 _ 0 _ rfl (Nat.zero_le _) (by simp) (fun j h => absurd h (Nat.not_lt_zero _)) (fun j _ h => rep_z _ _ (by omega)))
    rw [hi, impl_purse_table.l0, if_pos (by omega), w64 (x := (m : Int) + 1) (by omega) (by omega), if_pos (by omega), show ((m : Int) + 1).toNat = m + 1 by omega, if_pos (by omega), if_pos (by omega), if_pos (by omega), Option.bind_some, if_neg (by omega), Int.toNat_natCast]
    rfl
theorem tableI {vs hs : List Int} {m : Nat} {B : Nat → Nat} (q : Kinds vs hs m B) (hn : vs.length ≤ 1000) (hm : m ≤ 2000) :
    ∃ U, Ev (fun K => impl_purse_table.f K vs hs (m : Int)) U ∧ U.length = vs.length + 1 ∧ ∀ j, j ≤ vs.length → U.getD j [] = headI vs hs m (vs.length - j) := by
  have e0 : (List.replicate (m + 1) z77).set 0 (⟨1, 0⟩ : S77) = headI vs hs m 0 := list_extG z77 _ _ (by simp [headI]) (fun j h => by
    rw [headI_len] at h
    rw [getD_setG z77 _ _ _ _ (by simp), headI, getD_range _ _ _ _ h]
    by_cases e : j = 0
    · rw [if_pos e.symm, if_pos e]
    · rw [if_neg (fun q => e q.symm), if_neg e, rep_z _ _ h]; rfl)
  obtain ⟨U, u1, u2, u3⟩ := it_l0 q hn hm _ 0 ((List.replicate (vs.length + 1) ([] : List S77)).set vs.length (headI vs hs m 0)) rfl (Nat.zero_le _) (by simp) (fun j j1 j2 => by
    obtain rfl : j = vs.length := by omega
    rw [setI_at _ _ _ (by simp), Nat.sub_self])
  refine ⟨U, Ev.congr (f := fun K => impl_purse_table.l0 K (m : Int) (List.replicate (vs.length + 1) []) (vs.length : Int) vs hs) (fun K => ?_) (Ev.step (fun K => ?_) u1), u2, u3⟩
  · rw [impl_purse_table.f, w64 (x := (vs.length : Int) + 1) (by omega) (by omega), if_pos (by omega), show ((vs.length : Int) + 1).toNat = vs.length + 1 by omega, if_pos (by omega)]
  · rw [impl_purse_table.l0, if_pos (by omega), w64 (x := (m : Int) + 1) (by omega) (by omega), if_pos (by omega), show ((m : Int) + 1).toNat = m + 1 by omega, if_pos (by omega), if_pos (by omega), if_pos (by simp <;> omega), Option.bind_some, if_pos rfl, Int.toNat_natCast, rdL7, setI_at _ _ _ (by simp), if_pos (by simp <;> omega), List.set_set, Int.toNat_zero, e0, w64 (x := (vs.length : Int) - 1) (by omega) (by omega), show (vs.length : Int) - 1 - ((0 : Nat) : Int) = (vs.length : Int) - 1 by omega]
end Go.Proofs.Ytnhcdfikjfjkoaa.Pure

namespace Go.Proofs.Ytnhcdfikjfjkoaa.Pure
open Go.RowKit Go.Proofs.Ytnhcdfikjfjkoaa.P Go.Proofs.YtnhcdfikjfjkoaaW.PrintWords Go.Proofs.YtnhcdfikjfjkoaaW.PrintLast
set_option linter.unusedVariables false
set_option linter.unusedSimpArgs false
theorem least_of (P : Nat → Prop) : ∀ n, P n → ∃ k, k ≤ n ∧ P k ∧ ∀ j, j < k → ¬ P j := by
  intro n
  induction n using Nat.strongRecOn with
  | ind n ih =>
    intro h
    by_cases c : ∃ j, j < n ∧ P j
    · obtain ⟨j, h1, h2⟩ := c
      obtain ⟨k, k1, k2, k3⟩ := ih j h1 h2
      exact ⟨k, by omega, k2, k3⟩
    · exact ⟨n, Nat.le_refl _, h, fun j hj hp => c ⟨j, hj, hp⟩⟩
theorem snoc_at (l : List Int) (x : Int) (j : Nat) : (l ++ [x]).getD j 0 = if j < l.length then l.getD j 0 else if j = l.length then x else 0 := by
  simp only [List.getD_eq_getElem?_getD, List.getElem?_append]
  split
  · rfl
  · split
    · rename_i e; subst e; simp
    · rename_i h1 h2
      rw [List.getElem?_eq_none (by simp; omega)]; rfl
theorem cnt {vs hs : List Int} {m : Nat} {B : Nat → Nat} (q : Kinds vs hs m B) (hn : vs.length ≤ 1000) (hm : m ≤ 2000) (T : List (List Int)) (U : List (List S77)) (hT : T.length = vs.length + 1) (hU : U.length = vs.length + 1)
    (hTj : ∀ j, j ≤ vs.length → T.getD j [] = headS vs hs m (vs.length - j)) (hUj : ∀ j, j ≤ vs.length → U.getD j [] = headI vs hs m (vs.length - j)) : ∀ d i a (out : List Int), vs.length - i = d → i ≤ vs.length → a ≤ m → out.length = i → (∀ j, j < i → 0 ≤ out.getD j 0 ∧ out.getD j 0 ≤ hs.getD j 0) → 0 ≤ (headS vs hs m (vs.length - i)).getD a 0 →
    ∃ r, (r.length = vs.length ∧ ∀ j, j < vs.length → 0 ≤ r.getD j 0 ∧ r.getD j 0 ≤ hs.getD j 0) ∧ Ev (fun k => spec_l01Counts.l0 k T vs (a : Int) out (i : Int)) r ∧ Ev (fun k => impl_purse_counts.l0 k U (a : Int) out ((headS vs hs m (vs.length - i)).getD a 0) vs (vs.length : Int) (i : Int)) r := by
  intro d
  induction d with
  | zero =>
    intro i a out hd hi ha ho hob hx
    obtain rfl : i = vs.length := by omega
    refine ⟨out, ⟨ho, hob⟩, Ev.step (f := fun _ => some out) (fun k => ?_) (Ev.now _), Ev.step (f := fun _ => some out) (fun k => ?_) (Ev.now _)⟩
    · rw [spec_l01Counts.l0, if_neg (by omega)]
    · rw [impl_purse_counts.l0, if_neg (by omega)]
  | succ d ih =>
    intro i a out hd hi ha ho hob hx
    have hval := q.val i (by omega)
    have hhav := q.hav i (by omega)
    obtain ⟨v, hv⟩ := Int.eq_ofNat_of_zero_le (show 0 ≤ vs.getD i 0 by omega)
    obtain ⟨h, hh⟩ := Int.eq_ofNat_of_zero_le (show 0 ≤ hs.getD i 0 by omega)
    have v1 : 1 ≤ v := by omega
    have hTi := hTj i hi
    have hTi1 := hTj (i + 1) (by omega)
    have hUi1 := hUj (i + 1) (by omega)
    have hR := relHead q (vs.length - (i + 1)) (by omega)
    have hXl := headS_len vs hs m (vs.length - (i + 1))
    have hYl := headI_len vs hs m (vs.length - (i + 1))
    have hZl := headS_len vs hs m (vs.length - i)
    have hstep : headS vs hs m (vs.length - i) = rowS (headS vs hs m (vs.length - (i + 1))) v h m := by
      rw [show vs.length - i = (vs.length - (i + 1)) + 1 by omega, headS, show vs.length - 1 - (vs.length - (i + 1)) = i by omega, hv, hh]; rfl
    obtain ⟨x, hxx⟩ : ∃ x, x = (headS vs hs m (vs.length - i)).getD a 0 := ⟨_, rfl⟩
    have hbk : x = bk (headS vs hs m (vs.length - (i + 1))) v a (nk v h a) := by rw [hxx, hstep, rowS_at _ _ _ _ _ ha]
    rw [← hxx] at hx ⊢
    have hih := ih (i + 1)
    generalize headS vs hs m (vs.length - (i + 1)) = X at *
    generalize headI vs hs m (vs.length - (i + 1)) = Y at *
    obtain ⟨j, j1, j2, j3⟩ := bk_found X v a (nk v h a) (by rw [← hbk]; exact hx)
    obtain ⟨K0, k1, ⟨k2, k3⟩, k4⟩ := least_of (fun j => 0 ≤ X.getD (a - j * v) 0 ∧ X.getD (a - j * v) 0 + (j : Int) = x) j ⟨j2, by rw [j3, hbk]⟩
    have hK0 : K0 * v ≤ a := ((nk_lt v1).1 (show K0 < nk v h a by omega)).2
    have hidx0 : (a : Int) - ((K0 * v : Nat) : Int) = ((a - K0 * v : Nat) : Int) := by omega
    have hKv0 : K0 ≤ K0 * v := Nat.le_mul_of_pos_right K0 v1
    have hxa : x ≤ 4000 := by
      have := hR (a - K0 * v) (by omega)
      unfold RelE at this
      omega
    obtain ⟨r, r1, r2, r3⟩ := hih (a - K0 * v) (out ++ [(K0 : Int)]) (by omega) (by omega) (by omega) (by simp [ho]) (fun j hj => by
      rw [snoc_at, ho]
      by_cases c : j < i
      · rw [if_pos c]; exact hob j c
      · obtain rfl : j = i := by omega
        rw [if_neg (by omega), if_pos rfl, hh]
        have := ((nk_lt (h := h) (a := a) (K := K0) v1).1 (show K0 < nk v h a by omega)).1
        omega) k2
    have key : ∀ e K, K0 - K = e → K ≤ K0 → Ev (fun k => spec_l01Counts.l1 k T vs (a : Int) out (i : Int) (K : Int)) r ∧ Ev (fun k => impl_purse_counts.l1 k U (a : Int) out x (i : Int) (v : Int) (K : Int) vs (vs.length : Int) (i : Int)) r := by
      intro e
      induction e with
      | zero =>
        intro K he hK
        obtain rfl : K = K0 := by omega
        refine ⟨Ev.step (fun k => ?_) r2, Ev.step (fun k => ?_) r3⟩
        · rw [spec_l01Counts.l1, if_pos (by omega), if_pos (by omega), rdN, hv, mulC, w64 (x := ((K * v : Nat) : Int)) (by omega) (by omega), if_neg (by omega), wN i (by omega), if_pos (by omega), if_pos (by omega), hidx0, w64 (x := ((a - K * v : Nat) : Int)) (by omega) (by omega), if_pos (by omega), rdL1, hTi1, if_pos (by omega), rdN, if_neg (by omega),
            if_pos (show (i : Int) < (T.length : Int) by omega), if_pos (show (0 : Int) ≤ (a : Int) by omega), rdL1, hTi, if_pos (by omega), rdN, ← hxx, k3, w64 (x := x) (by omega) (by omega), if_pos rfl, if_pos (by omega)]
        · have hE := hR (a - K * v) (by omega)
          unfold RelE at hE
          rw [impl_purse_counts.l1, wN i (by omega), if_pos (by omega), if_pos (by omega), mulC, w64 (x := ((K * v : Nat) : Int)) (by omega) (by omega), hidx0, w64 (x := ((a - K * v : Nat) : Int)) (by omega) (by omega), if_pos (by omega), rdL7, hUi1, if_pos (by omega), rdP, if_pos (by omega),
            show (Y.getD (a - K * v) z77).f1 + (K : Int) = x by omega, w64 (x := x) (by omega) (by omega), if_pos rfl, if_pos (by omega), w64 (x := x - (K : Int)) (by omega) (by omega), show x - (K : Int) = X.getD (a - K * v) 0 by omega]
      | succ e ih2 =>
        intro K he hK
        obtain ⟨g1, g2⟩ := ih2 (K + 1) (by omega) (by omega)
        have hKK : K * v ≤ K0 * v := Nat.mul_le_mul_right v (by omega)
        have hKv : K ≤ K * v := Nat.le_mul_of_pos_right K v1
        have hidx : (a : Int) - ((K * v : Nat) : Int) = ((a - K * v : Nat) : Int) := by omega
        have hno := k4 K (by omega)
        have hE := hR (a - K * v) (by omega)
        unfold RelE at hE
        refine ⟨Ev.step (fun k => ?_) g1, Ev.step (fun k => ?_) g2⟩
        · rw [spec_l01Counts.l1, if_pos (by omega), if_pos (by omega), rdN, hv, mulC, w64 (x := ((K * v : Nat) : Int)) (by omega) (by omega), if_neg (by omega), wN i (by omega), if_pos (by omega), if_pos (by omega), hidx, w64 (x := ((a - K * v : Nat) : Int)) (by omega) (by omega), if_pos (by omega), rdL1, hTi1, if_pos (by omega), rdN, wN K (by omega)]
          by_cases c : X.getD (a - K * v) 0 < 0
          · rw [if_pos c]
          · rw [if_neg c, if_pos (show (i : Int) < (T.length : Int) by omega), if_pos (show (0 : Int) ≤ (a : Int) by omega), rdL1, hTi, if_pos (by omega), rdN, ← hxx, w64 (x := X.getD (a - K * v) 0 + (K : Int)) (by omega) (by omega), if_neg (fun c2 => hno ⟨by omega, c2⟩)]
        · rw [impl_purse_counts.l1, wN i (by omega), if_pos (by omega), if_pos (by omega), mulC, w64 (x := ((K * v : Nat) : Int)) (by omega) (by omega), hidx, w64 (x := ((a - K * v : Nat) : Int)) (by omega) (by omega), if_pos (by omega), rdL7, hUi1, if_pos (by omega), rdP, wN K (by omega)]
          by_cases c : (Y.getD (a - K * v) z77).f0 > 0
          · rw [if_pos c, w64 (x := (Y.getD (a - K * v) z77).f1 + (K : Int)) (by omega) (by omega), if_neg (fun c2 => hno ⟨by omega, by omega⟩)]
          · rw [if_neg c]
    obtain ⟨g1, g2⟩ := key _ 0 rfl (Nat.zero_le _)
    refine ⟨r, r1, Ev.step (fun k => ?_) g1, Ev.step (fun k => ?_) g2⟩
    · rw [spec_l01Counts.l0, if_pos (by omega)]; rfl
    · rw [impl_purse_counts.l0, if_pos (by omega), if_pos (by omega), if_pos (by omega), rdN, hv]; rfl
theorem tables {vs hs : List Int} {m : Nat} {B : Nat → Nat} (q : Kinds vs hs m B) (hn : vs.length ≤ 1000) (hm : m ≤ 2000) : ∃ T U, Ev (fun k => spec_l01Table.f k vs hs (m : Int)) T ∧ Ev (fun k => impl_purse_table.f k vs hs (m : Int)) U ∧ 0 < T.length ∧ 0 < U.length ∧ (rd_L1 T 0).length = m + 1 ∧ (rd_L7 U 0).length = m + 1 ∧
    ∀ a, a ≤ m → -1 ≤ rd (rd_L1 T 0) (a : Int) ∧ rd (rd_L1 T 0) (a : Int) ≤ 2000 ∧ (rd (rd_L1 T 0) (a : Int) < 0 ↔ (rd_T77 (rd_L7 U 0) (a : Int)).f0 = 0) ∧ 0 ≤ (rd_T77 (rd_L7 U 0) (a : Int)).f0 ∧ (0 ≤ rd (rd_L1 T 0) (a : Int) → (rd_T77 (rd_L7 U 0) (a : Int)).f1 = rd (rd_L1 T 0) (a : Int) ∧
      ∃ r, (r.length = vs.length ∧ ∀ j, j < vs.length → 0 ≤ r.getD j 0 ∧ r.getD j 0 ≤ hs.getD j 0) ∧ Ev (fun k => spec_l01Counts.f k T vs (a : Int)) r ∧ Ev (fun k => impl_purse_counts.f k vs hs U (a : Int)) r) := by
  obtain ⟨T, t1, t2, t3⟩ := tableS q hn hm
  obtain ⟨U, u1, u2, u3⟩ := tableI q hn hm
  have hT0 := t3 0 (Nat.zero_le _)
  have hU0 := u3 0 (Nat.zero_le _)
  have eT : rd_L1 T 0 = headS vs hs m vs.length := hT0
  have eU : rd_L7 U 0 = headI vs hs m vs.length := hU0
  refine ⟨T, U, t1, u1, by omega, by omega, by rw [eT, headS_len], by rw [eU, headI_len], fun a ha => ?_⟩
  have hR := relHead q vs.length (Nat.le_refl _) a ha
  rw [eT, eU, rdN, rdP]
  unfold RelE at hR
  refine ⟨by omega, by omega, by omega, by omega, fun h0 => ⟨by omega, ?_⟩⟩
  obtain ⟨r, r1, r2, r3⟩ := cnt q hn hm T U t2 u2 t3 u3 _ 0 a [] rfl (Nat.zero_le _) ha rfl (fun j h => absurd h (Nat.not_lt_zero _)) h0
  refine ⟨r, r1, Ev.congr (fun k => ?_) r2, Ev.congr (fun k => ?_) r3⟩
  · rw [spec_l01Counts.f]; rfl
  · rw [impl_purse_counts.f, if_pos (by omega), if_pos (by omega), eU, if_pos (by rw [headI_len]; omega), rdP, show (headI vs hs m vs.length |>.getD a z77).f1 = (headS vs hs m vs.length).getD a 0 by omega]; rfl
end Go.Proofs.Ytnhcdfikjfjkoaa.Pure

namespace Go.Proofs.Ytnhcdfikjfjkoaa.P
open Go.RowKit Go.Proofs.YtnhcdfikjfjkoaaW.PrintWords Go.Proofs.YtnhcdfikjfjkoaaW.PrintLast Go.Proofs.YtnhcdfikjfjkoaaW.PrintMore
attribute [local go_sem] max2_int min2_int max_two min_two max_three min_three max_four min_four
set_option linter.unusedVariables false
set_option linter.unusedSimpArgs false
def impl_PayFrom.f (k : Nat) (l0 : List (S56)) (a1 : Int) : Option (List Int × Int × Int) := (impl_stockCode.f k l0 (([a1] : List Int))).bind fun t457 => (if t457 = 0 then ((impl_purseOf.f k l0).bind fun bt458 => ((impl_purse_fewest.f k bt458.1 bt458.2 a1).bind fun bt464 => (if bt464.2.2 = true then (some (bt464.1, bt464.2.1, 0)) else (some (([] : List Int), 0, 6))))) else (some (([] : List Int), 0, t457)))
end Go.Proofs.Ytnhcdfikjfjkoaa.P

namespace Go.Proofs.Ytnhcdfikjfjkoaa.Pure
open Go.RowKit Go.Proofs.Ytnhcdfikjfjkoaa.P Go.Proofs.YtnhcdfikjfjkoaaW.PrintWords Go.Proofs.YtnhcdfikjfjkoaaW.PrintLast
set_option linter.unusedVariables false
set_option linter.unusedSimpArgs false
theorem parts_l0 (l : List S56) (hw : Wf l) (hb : l.length ≤ 4398046511104) : ∀ d i (x y : List Int), l.length - i = d → i ≤ l.length → x = (l.take i).map S56.f0 → y = (l.take i).map S56.f1 →
    Ev (fun k => spec_l01Parts.l0 k l x y (i : Int)) (l.map S56.f0, l.map S56.f1) := by
  intro d
  induction d with
  | zero =>
    intro i x y hd hi hx hy
    obtain rfl : i = l.length := by omega
    rw [List.take_length] at hx hy
    refine Ev.step (f := fun _ => some (x, y)) (fun k => ?_) (by rw [hx, hy]; exact Ev.now _)
    rw [spec_l01Parts.l0, if_neg (by omega)]
  | succ d ih =>
    intro i x y hd hi hx hy
    have hwf := hw.at i (by omega)
    have e : l.take (i + 1) = l.take i ++ [l.getD i z56] := by rw [List.take_add_one, List.getElem?_eq_getElem (by omega), getD_eqG z56 l i (by omega)]; rfl
    refine Ev.step (fun k => ?_) (ih (i + 1) (x ++ [(l.getD i z56).f0]) (y ++ [(l.getD i z56).f1]) (by omega) (by omega) (by rw [hx, e]; simp) (by rw [hy, e]; simp))
    rw [spec_l01Parts.l0, if_pos (by omega), if_pos (by omega), if_pos (by rw [hx]; simp; omega), if_pos (by rw [hy]; simp; omega), rdS, w64 (by omega) (by omega), w64 (by omega) (by omega), wN i (by omega)]
theorem partsF (l : List S56) (hw : Wf l) (hb : l.length ≤ 4398046511104) : Ev (fun k => spec_l01Parts.f k l) (l.map S56.f0, l.map S56.f1) :=
  parts_l0 l hw hb _ 0 [] [] rfl (Nat.zero_le _) (by simp) (by simp)
theorem pow51 (k : Nat) (h : k ≤ 8) : 51 ^ k ≤ 4000000000000000000 := Nat.le_trans (Nat.pow_le_pow_right (by omega) h) (by decide)
theorem kindsOf {l : List S56} (h : SV l) (m : Nat) : Kinds (l.map S56.f0) (l.map S56.f1) m (fun k => 51 ^ k) := by
  refine ⟨by simp, fun i hi => ?_, fun i hi => ?_, rfl, fun k hk => Or.inl fun a ha => ?_, fun k hk => pow51 k (by rw [List.length_map] at hk; have := h.1; omega)⟩
  · rw [List.length_map] at hi; rw [map_getD l S56.f0 i hi]; exact (h.2.1 i hi).1
  · rw [List.length_map] at hi; rw [map_getD l S56.f1 i hi]; have := (h.2.1 i hi).2; omega
  · rw [List.length_map] at hk ⊢
    have h1 := (h.2.1 (l.length - 1 - k) (by omega)).2
    have hh : ((l.map S56.f1).getD (l.length - 1 - k) 0).toNat ≤ 50 := by rw [map_getD l S56.f1 _ (by omega)]; omega
    have : nk ((l.map S56.f0).getD (l.length - 1 - k) 0).toNat ((l.map S56.f1).getD (l.length - 1 - k) 0).toNat a ≤ 51 := by unfold nk; omega
    rw [Nat.pow_succ, Nat.mul_comm (51 ^ k) 51]
    exact Nat.mul_le_mul_right _ this
theorem bothStocked (l : List S56) (hw : Wf l) (hb : l.length ≤ 4398046511104) (a : Int) : ∃ c, Ev (fun k => spec_l01Stocked.f k l a) c ∧ Ev (fun k => impl_stockCode.f k l [a]) c ∧ (c = 0 ↔ SV l ∧ 0 ≤ a ∧ a ≤ 1000) := by
  obtain ⟨b, h1, h2, h3⟩ := bothStock l hw hb
  obtain ⟨K1, h1⟩ := EvG h1
  obtain ⟨K2, h2⟩ := EvG h2
  have eA : impl_areWithin.f [a] 0 1000 = some (decide (0 ≤ a) && decide (a ≤ 1000)) := by rw [impl_areWithin.f]; simp
  cases b with
  | false =>
    refine ⟨1, EvI K1 fun k hk => ?_, EvI K2 fun k hk => ?_, ⟨fun h => by omega, fun h => by have := h3.2 h.1; simp at this⟩⟩
    · rw [spec_l01Stocked.f, h1 k hk, Option.bind_some, if_neg (by simp)]
    · rw [impl_stockCode.f, h2 k hk, Option.bind_some, if_neg (by simp)]
  | true =>
    by_cases c : 0 ≤ a ∧ a ≤ 1000
    · have e : (decide (0 ≤ a) && decide (a ≤ 1000)) = true := by simp [c.1, c.2]
      refine ⟨0, EvI K1 fun k hk => ?_, EvI K2 fun k hk => ?_, ⟨fun _ => ⟨h3.1 rfl, c⟩, fun _ => rfl⟩⟩
      · rw [spec_l01Stocked.f, h1 k hk, Option.bind_some, if_pos rfl, postageF, Option.bind_some, e, if_pos rfl]
      · rw [impl_stockCode.f, h2 k hk, Option.bind_some, if_pos rfl, eA, Option.bind_some, e, impl_unless.f, if_pos rfl, Option.bind_some]
    · have e : (decide (0 ≤ a) && decide (a ≤ 1000)) = false := by
        rw [Bool.and_eq_false_iff]
        by_cases c1 : 0 ≤ a
        · right; simp; omega
        · left; simp; omega
      refine ⟨2, EvI K1 fun k hk => ?_, EvI K2 fun k hk => ?_, ⟨fun h => by omega, fun h => absurd h.2 c⟩⟩
      · rw [spec_l01Stocked.f, h1 k hk, Option.bind_some, if_pos rfl, postageF, Option.bind_some, e, if_neg (by simp)]
      · rw [impl_stockCode.f, h2 k hk, Option.bind_some, if_pos rfl, eA, Option.bind_some, e, impl_unless.f, if_neg (by simp), Option.bind_some]
theorem fewestBoth (l : List S56) (hw : Wf l) (hs : SV l) (a : Int) (h0 : 0 ≤ a) (h1 : a ≤ 1000) : ∃ c s b, Ev (fun k => impl_purse_fewest.f k (l.map S56.f0) (l.map S56.f1) a) (c, s, b) ∧ Ev (fun k => spec_PayFrom.f k l a) (if b = true then (c, s, 0) else ([], 0, 6)) ∧
    (b = true → c.length = l.length ∧ ∀ j, j < l.length → 0 ≤ c.getD j 0 ∧ c.getD j 0 ≤ (l.getD j z56).f1) := by
  have hl := hs.1
  obtain ⟨n, rfl⟩ := Int.eq_ofNat_of_zero_le h0
  obtain ⟨cd, p1, _, p3⟩ := bothStocked l hw (by omega) (n : Int)
  obtain rfl : cd = 0 := p3.2 ⟨hs, h0, h1⟩
  obtain ⟨K1, p1⟩ := EvG p1
  obtain ⟨K2, p2⟩ := EvG (partsF l hw (by omega))
  obtain ⟨T, U, t1, u1, t2, u2, t3, u3, H⟩ := tables (kindsOf hs n) (by rw [List.length_map]; omega) (by omega)
  obtain ⟨K3, t1⟩ := EvG t1
  obtain ⟨K4, u1⟩ := EvG u1
  obtain ⟨q1, q2, q3, q4, q5⟩ := H n (Nat.le_refl _)
  by_cases c : rd (rd_L1 T 0) (n : Int) < 0
  · refine ⟨[], 0, false, EvI K4 fun k hk => ?_, EvI (K1 + K2 + K3) fun k hk => ?_, fun h => by simp at h⟩
    · rw [impl_purse_fewest.f, u1 k hk, Option.bind_some, if_pos (by omega), if_pos h0, if_pos (by omega), if_pos (q3.1 c)]
    · rw [spec_PayFrom.f, p1 k (by omega), Option.bind_some, if_pos rfl, p2 k (by omega), Option.bind_some, t1 k (by omega), Option.bind_some, if_pos (by omega), if_pos h0, if_pos (by omega), if_pos c, if_neg (by simp)]
  · obtain ⟨f1, r, ⟨r1, r2⟩, r3, r4⟩ := q5 (by omega)
    obtain ⟨K5, r3⟩ := EvG r3
    obtain ⟨K6, r4⟩ := EvG r4
    rw [List.length_map] at r1 r2
    refine ⟨r, rd (rd_L1 T 0) (n : Int), true, EvI (K4 + K6) fun k hk => ?_, EvI (K1 + K2 + K3 + K5) fun k hk => ?_, fun _ => ⟨r1, fun j hj => by have := r2 j hj; rwa [map_getD l S56.f1 j hj] at this⟩⟩
    · rw [impl_purse_fewest.f, u1 k (by omega), Option.bind_some, if_pos (by omega), if_pos h0, if_pos (by omega), if_neg (fun e => c (q3.2 e)), r4 k (by omega), Option.bind_some, f1]
    · rw [spec_PayFrom.f, p1 k (by omega), Option.bind_some, if_pos rfl, p2 k (by omega), Option.bind_some, t1 k (by omega), Option.bind_some, if_pos (by omega), if_pos h0, if_pos (by omega), if_neg c, r3 k (by omega), Option.bind_some, if_pos rfl]
end Go.Proofs.Ytnhcdfikjfjkoaa.Pure

namespace Go.Proofs.Ytnhcdfikjfjkoaa.Pure
open Go.RowKit Go.Proofs.Ytnhcdfikjfjkoaa.P Go.Proofs.YtnhcdfikjfjkoaaW.PrintWords Go.Proofs.YtnhcdfikjfjkoaaW.PrintLast
set_option linter.unusedVariables false
set_option linter.unusedSimpArgs false
theorem take_l0' (n : List Int) (hb : n.length ≤ 4398046511104) (l : List S56) (hl : l.length = n.length) : ∀ d i (x : List S56), n.length - i = d → i ≤ n.length → x.length = n.length → (∀ j, j < i → x.getD j z56 = ⟨(l.getD j z56).f0, IntKind.i16.wrap ((l.getD j z56).f1 - IntKind.i16.wrap (n.getD j 0))⟩) → (∀ j, i ≤ j → j < n.length → x.getD j z56 = l.getD j z56) →
    ∃ r, Ev (fun k => spec_l01Take.l0 k n x (i : Int)) r ∧ Ev (fun k => impl_without.l0 k x n (n.length : Int) (i : Int)) r ∧ r.length = n.length ∧ ∀ j, j < n.length → r.getD j z56 = ⟨(l.getD j z56).f0, IntKind.i16.wrap ((l.getD j z56).f1 - IntKind.i16.wrap (n.getD j 0))⟩ := by
  intro d
  induction d with
  | zero =>
    intro i x hd hi hx h1 h2
    refine ⟨x, Ev.step (f := fun _ => some x) (fun k => ?_) (Ev.now _), Ev.step (f := fun _ => some x) (fun k => ?_) (Ev.now _), hx, fun j hj => h1 j (by omega)⟩
    · rw [spec_l01Take.l0, if_neg (by omega)]
    · rw [impl_without.l0, if_neg (by omega)]
  | succ d ih =>
    intro i x hd hi hx h1 h2
    have hxi := h2 i (Nat.le_refl _) (by omega)
    obtain ⟨r, g1, g2, g3, g4⟩ := ih (i + 1) (x.set i (⟨(l.getD i z56).f0, IntKind.i16.wrap ((l.getD i z56).f1 - IntKind.i16.wrap (n.getD i 0))⟩ : S56)) (by omega) (by omega) (by simpa using hx) (fun j hj => by
      rw [getD_setG z56 _ _ _ _ (by omega)]
      split
      · rename_i e; subst e; rfl
      · exact h1 j (by omega)) (fun j j1 j2 => by rw [getD_setG z56 _ _ _ _ (by omega), if_neg (by omega)]; exact h2 j (by omega) j2)
    refine ⟨r, Ev.step (fun k => ?_) g1, Ev.step (fun k => ?_) g2, g3, g4⟩
    · rw [spec_l01Take.l0, if_pos (by omega), if_pos (by omega), if_pos (by omega), wN i (by omega), rdS, hxi, rdN, Int.toNat_natCast]
    · rw [impl_without.l0, if_pos (by omega), if_pos (by omega), if_pos (by omega), if_pos (by omega), wN i (by omega), rdS, hxi, rdN, Int.toNat_natCast]
theorem takeBoth' (l : List S56) (n : List Int) (hb : n.length ≤ 4398046511104) (hl : l.length = n.length) :
    ∃ r, Ev (fun k => spec_l01Take.f k l n) r ∧ Ev (fun k => impl_without.f k l n) r ∧ r.length = l.length ∧ ∀ j, j < l.length → r.getD j z56 = ⟨(l.getD j z56).f0, IntKind.i16.wrap ((l.getD j z56).f1 - IntKind.i16.wrap (n.getD j 0))⟩ := by
  obtain ⟨r, h1, h2, h3, h4⟩ := take_l0' n hb l hl _ 0 l rfl (Nat.zero_le _) hl (fun j h => absurd h (Nat.not_lt_zero _)) (fun j _ _ => rfl)
  refine ⟨r, Ev.congr (fun k => ?_) h1, Ev.congr (fun k => ?_) h2, h3.trans hl.symm, fun j hj => h4 j (by omega)⟩
  · rw [spec_l01Take.f, Option.bind_some, if_pos (by simp; omega)]; rfl
  · rw [impl_without.f, impl_Stamp_83.f, Option.bind_some, if_pos (by simp; omega), Option.bind_some]; rfl
theorem i16w {x : Int} (h0 : -32768 ≤ x) (h1 : x ≤ 32767) : IntKind.i16.wrap x = x := by simp [IntKind.wrap, IntKind.signed, IntKind.bits]; omega
theorem SV.taken {l r : List S56} (hs : SV l) (n : List Int) (hn : ∀ j, j < l.length → 0 ≤ n.getD j 0 ∧ n.getD j 0 ≤ (l.getD j z56).f1) (hr : r.length = l.length) (hj : ∀ j, j < l.length → r.getD j z56 = ⟨(l.getD j z56).f0, IntKind.i16.wrap ((l.getD j z56).f1 - IntKind.i16.wrap (n.getD j 0))⟩) : SV r ∧ Wf r := by
  have key : ∀ j, j < l.length → (r.getD j z56).f0 = (l.getD j z56).f0 ∧ (r.getD j z56).f1 = (l.getD j z56).f1 - n.getD j 0 := fun j h => by
    have h1 := hn j h
    have h2 := (hs.2.1 j h).2
    rw [hj j h]
    exact ⟨rfl, by show IntKind.i16.wrap _ = _; rw [i16w (x := n.getD j 0) (by omega) (by omega), i16w (by omega) (by omega)]⟩
  refine ⟨⟨by rw [hr]; exact hs.1, fun j h => ?_, fun j h0 h => ?_⟩, fun x hx => ?_⟩
  · rw [hr] at h
    have h1 := hn j h
    have h2 := hs.2.1 j h
    have h3 := key j h
    omega
  · rw [hr] at h
    have := hs.2.2 j h0 h
    rw [(key j h).1, (key (j - 1) (by omega)).1]; exact this
  · obtain ⟨j, h, rfl⟩ := List.mem_iff_getElem.1 hx
    have hl := h
    rw [hr] at h
    have h1 := hn j h
    have h2 := hs.2.1 j h
    have h3 := key j h
    rw [← getD_eqG z56 r j hl]
    omega
theorem letters_l0 (p : List Int) (hb : p.length ≤ 4398046511104) : ∀ d i, p.length - i = d → i ≤ p.length →
    ∃ c, Ev (fun k => spec_l01Letters.l0 k p (i : Int)) c ∧ ((c = 2 ∧ ∃ j, i ≤ j ∧ j < p.length ∧ ¬ (0 ≤ p.getD j 0 ∧ p.getD j 0 ≤ 1000)) ∨ ((∀ j, i ≤ j → j < p.length → 0 ≤ p.getD j 0 ∧ p.getD j 0 ≤ 1000) ∧ c = if p.length ≤ 6 then 0 else 3)) := by
  intro d
  induction d with
  | zero =>
    intro i hd hi
    refine ⟨if p.length ≤ 6 then 0 else 3, Ev.step (f := fun _ => some (if p.length ≤ 6 then 0 else 3)) (fun k => ?_) (Ev.now _), Or.inr ⟨fun j h1 h2 => by omega, rfl⟩⟩
    rw [spec_l01Letters.l0, if_neg (by omega)]
    by_cases c : p.length ≤ 6
    · rw [if_neg (by omega), if_pos c]
    · rw [if_pos (by omega), if_neg c]
  | succ d ih =>
    intro i hd hi
    by_cases c : 0 ≤ p.getD i 0 ∧ p.getD i 0 ≤ 1000
    · obtain ⟨r, r1, r2⟩ := ih (i + 1) (by omega) (by omega)
      refine ⟨r, Ev.step (fun k => ?_) r1, ?_⟩
      · rw [spec_l01Letters.l0, if_pos (by omega), if_pos (by omega), rdN, postageF, Option.bind_some, if_pos (by simp only [Bool.and_eq_true, decide_eq_true_eq]; exact c), wN i (by omega)]
      · rcases r2 with ⟨a, j, j1, j2, j3⟩ | ⟨a, b⟩
        · exact Or.inl ⟨a, j, by omega, j2, j3⟩
        · exact Or.inr ⟨fun j j1 j2 => by
            by_cases e : j = i
            · subst e; exact c
            · exact a j (by omega) j2, b⟩
    · refine ⟨2, Ev.step (f := fun _ => some 2) (fun k => ?_) (Ev.now _), Or.inl ⟨rfl, i, Nat.le_refl _, by omega, c⟩⟩
      rw [spec_l01Letters.l0, if_pos (by omega), if_pos (by omega), rdN, postageF, Option.bind_some, if_neg (by simp only [Bool.and_eq_true, decide_eq_true_eq]; exact c)]
theorem bothLetters (l : List S56) (hw : Wf l) (hb : l.length ≤ 4398046511104) (p : List Int) (hp : p.length ≤ 4398046511104) : ∃ c, Ev (fun k => spec_l01Letters.f k l p) c ∧ Ev (fun k => impl_lettersCode.f k l p) c ∧ (c = 0 → SV l ∧ p.length ≤ 6 ∧ ∀ j, j < p.length → 0 ≤ p.getD j 0 ∧ p.getD j 0 ≤ 1000) := by
  obtain ⟨b, h1, h2, h3⟩ := bothStock l hw hb
  obtain ⟨K1, h1⟩ := EvG h1
  obtain ⟨K2, h2⟩ := EvG h2
  obtain ⟨b2, a1, a2⟩ := areW p 0 1000
  cases b with
  | false =>
    refine ⟨1, EvI K1 fun k hk => ?_, EvI K2 fun k hk => ?_, fun h => by omega⟩
    · rw [spec_l01Letters.f, h1 k hk, Option.bind_some, if_neg (by simp)]
    · rw [impl_lettersCode.f, impl_stockCode.f, h2 k hk, Option.bind_some, if_neg (by simp), Option.bind_some, if_neg (by omega)]
  | true =>
    obtain ⟨c, c1, c2⟩ := letters_l0 p hp _ 0 rfl (Nat.zero_le _)
    obtain ⟨K3, c1⟩ := EvG c1
    refine ⟨c, EvI (K1 + K3) fun k hk => ?_, EvI K2 fun k hk => ?_, fun h => ?_⟩
    · rw [spec_l01Letters.f, h1 k (by omega), Option.bind_some, if_pos rfl]; exact c1 k (by omega)
    · rw [impl_lettersCode.f, impl_stockCode.f, h2 k hk, Option.bind_some, if_pos rfl, a1, Option.bind_some]
      rcases c2 with ⟨e, j, _, j2, j3⟩ | ⟨e1, e2⟩
      · have : b2 = false := by
          cases b2 with
          | false => rfl
          | true => exact absurd (a2.1 rfl j j2) j3
        rw [this, impl_unless.f, if_neg (by simp), Option.bind_some, Option.bind_some, if_neg (by omega), e]
      · have : b2 = true := a2.2 (fun j hj => e1 j (Nat.zero_le _) hj)
        rw [this, impl_unless.f, if_pos rfl, Option.bind_some, Option.bind_some, if_pos rfl, impl_unless.f, e2]
        by_cases q : p.length ≤ 6
        · rw [if_pos q, if_pos (by simp; omega), Option.bind_some]
        · rw [if_neg q, if_neg (by simp; omega), Option.bind_some]
    · rcases c2 with ⟨e, _⟩ | ⟨e1, e2⟩
      · omega
      · refine ⟨h3.1 rfl, ?_, fun j hj => e1 j (Nat.zero_le _) hj⟩
        by_cases q : p.length ≤ 6
        · exact q
        · rw [if_neg q] at e2; omega
end Go.Proofs.Ytnhcdfikjfjkoaa.Pure

namespace Go.Proofs.Ytnhcdfikjfjkoaa.Pure
open Go.RowKit Go.Proofs.Ytnhcdfikjfjkoaa.P Go.Proofs.YtnhcdfikjfjkoaaW.PrintWords Go.Proofs.YtnhcdfikjfjkoaaW.PrintLast
set_option linter.unusedVariables false
set_option linter.unusedSimpArgs false
theorem and1 (y : Nat) (hy : y < 4611686018427387904) : Go.bits .and .i64 (y : Int) 1 = ((y % 2 : Nat) : Int) := by
  have h : (BitVec.ofInt IntKind.i64.bits (y : Int) &&& BitVec.ofInt IntKind.i64.bits 1).toNat = y % 2 := by
    show (BitVec.ofInt 64 (y : Int) &&& BitVec.ofInt 64 1).toNat = y % 2
    rw [BitVec.ofInt_natCast, show BitVec.ofInt 64 1 = BitVec.ofNat 64 1 from rfl, BitVec.toNat_and, BitVec.toNat_ofNat, BitVec.toNat_ofNat, Nat.mod_eq_of_lt (by omega : y < 2 ^ 64), Nat.mod_eq_of_lt (by decide : 1 < 2 ^ 64), Nat.and_one_is_mod]
  unfold Go.bits
  simp only
  rw [h]
  have := Nat.mod_lt y (by omega : 0 < 2)
  simp [IntKind.wrap, IntKind.signed, IntKind.bits]
  omega
theorem bitT (s i : Nat) (hs : s < 4294967296) (hi : i < 32) : Go.bits .and .i64 (shr .i64 (s : Int) (i : Int)) 1 = 1 ↔ s.testBit i = true := by
  have h1 : shr .i64 (s : Int) (i : Int) = ((s / 2 ^ i : Nat) : Int) := by
    unfold shr
    rw [show min ((i : Int).toNat) IntKind.i64.bits = i from by show min ((i : Int).toNat) 64 = i; rw [Int.toNat_natCast]; omega]
    simp
  have h2 : s / 2 ^ i ≤ s := Nat.div_le_self _ _
  rw [h1, and1 _ (by omega), Nat.testBit_eq_decide_div_mod_eq, decide_eq_true_eq]
  omega
theorem shl1 (n : Nat) (hn : n ≤ 20) : shl .i64 1 (n : Int) = ((2 ^ n : Nat) : Int) := by
  have h := Nat.pow_le_pow_right (show 0 < 2 by omega) hn
  unfold shl
  rw [show min ((n : Int).toNat) IntKind.i64.bits = n from by show min ((n : Int).toNat) 64 = n; rw [Int.toNat_natCast]; omega, i64_w, Int.one_mul, show (2 : Int) ^ n = ((2 ^ n : Nat) : Int) from by simp]
  generalize 2 ^ n = m at h ⊢
  exact w64 (by omega) (by omega)
def ow (s : Nat) : Nat → List Int
  | 0 => []
  | i + 1 => if s.testBit i = true then ow s i ++ [(i : Int)] else ow s i
theorem ow_len (s : Nat) : ∀ i, (ow s i).length ≤ i
  | 0 => Nat.le_refl _
  | i + 1 => by
    have := ow_len s i
    rw [ow]
    split
    · simp; omega
    · omega
theorem ow_congr (s t : Nat) : ∀ i, (∀ j, j < i → s.testBit j = t.testBit j) → ow s i = ow t i
  | 0, _ => rfl
  | i + 1, h => by rw [ow, ow, h i (by omega), ow_congr s t i (fun j hj => h j (by omega))]
def Inc (n : Nat) : Nat → List Int → Prop
  | _, [] => True
  | lo, x :: xs => ∃ i : Nat, x = (i : Int) ∧ lo ≤ i ∧ i < n ∧ Inc n (i + 1) xs
theorem Inc.up {n m : Nat} (hm : n ≤ m) : ∀ {lo : Nat} {L : List Int}, Inc n lo L → Inc m lo L
  | _, [], _ => trivial
  | _, _ :: _, ⟨i, e, h1, h2, h3⟩ => ⟨i, e, h1, by omega, h3.up hm⟩
theorem Inc.low {n lo lo' : Nat} (hl : lo' ≤ lo) : ∀ {L : List Int}, Inc n lo L → Inc n lo' L
  | [], _ => trivial
  | _ :: _, ⟨i, e, h1, h2, h3⟩ => ⟨i, e, by omega, h2, h3⟩
theorem Inc.snoc {n : Nat} : ∀ {lo : Nat} {L : List Int}, lo ≤ n → Inc n lo L → Inc (n + 1) lo (L ++ [(n : Int)])
  | lo, [], h, _ => ⟨n, rfl, h, by omega, trivial⟩
  | lo, _ :: _, h, ⟨i, e, h1, h2, h3⟩ => ⟨i, e, h1, by omega, Inc.snoc (by omega) h3⟩
theorem Inc.split {n : Nat} : ∀ {lo : Nat} {L : List Int}, Inc (n + 1) lo L → Inc n lo L ∨ ∃ L', L = L' ++ [(n : Int)] ∧ Inc n lo L'
  | _, [], _ => Or.inl trivial
  | lo, x :: xs, ⟨i, e, h1, h2, h3⟩ => by
    rcases Inc.split h3 with h | ⟨L', e', h⟩
    · by_cases c : i < n
      · exact Or.inl ⟨i, e, h1, c, h⟩
      · have hi : i = n := by omega
        subst hi
        cases xs with
        | nil => exact Or.inr ⟨[], by rw [e]; rfl, trivial⟩
        | cons y ys =>
          obtain ⟨j, _, j1, j2, _⟩ := h
          omega
    · refine Or.inr ⟨x :: L', by rw [e']; rfl, i, e, h1, ?_, h⟩
      subst e'
      by_cases c : i < n
      · exact c
      · exfalso
        cases L' with
        | nil => obtain ⟨j, f, j1, j2, _⟩ := h3; omega
        | cons y ys => obtain ⟨j, f, j1, j2, _⟩ := h; omega
theorem Inc.len {n : Nat} : ∀ {lo : Nat} {L : List Int}, lo ≤ n → Inc n lo L → L.length + lo ≤ n
  | lo, [], h, _ => by simpa using h
  | lo, _ :: _, h, ⟨i, e, h1, h2, h3⟩ => by have := Inc.len (by omega) h3; simp only [List.length_cons]; omega
theorem ow_inc (s : Nat) : ∀ i, Inc i 0 (ow s i)
  | 0 => trivial
  | i + 1 => by
    rw [ow]
    split
    · exact (ow_inc s i).snoc (Nat.zero_le _)
    · exact (ow_inc s i).up (by omega)
theorem ow_all : ∀ n (L : List Int), Inc n 0 L → ∃ s, s < 2 ^ n ∧ ow s n = L
  | 0, L, h => by
    cases L with
    | nil => exact ⟨0, by decide, rfl⟩
    | cons x xs => obtain ⟨i, _, _, h2, _⟩ := h; omega
  | n + 1, L, h => by
    have hp : 2 ^ (n + 1) = 2 ^ n + 2 ^ n := by rw [Nat.pow_succ]; omega
    rcases h.split with g | ⟨L', rfl, g⟩
    · obtain ⟨s, h1, h2⟩ := ow_all n L g
      exact ⟨s, by omega, by rw [ow, Nat.testBit_lt_two_pow h1, if_neg (by simp), h2]⟩
    · obtain ⟨s, h1, h2⟩ := ow_all n L' g
      refine ⟨2 ^ n + s, by omega, ?_⟩
      rw [ow, Nat.testBit_two_pow_add_eq, Nat.testBit_lt_two_pow h1, if_pos (by simp), ow_congr (2 ^ n + s) s n (fun j hj => Nat.testBit_two_pow_add_gt hj s), h2]
def lexL : List Int → List Int → Prop
  | a :: as_, b :: bs => a < b ∨ (a = b ∧ lexL as_ bs)
  | _, _ => False
theorem lexL.irr : ∀ a, ¬ lexL a a
  | [] => fun h => h
  | x :: xs => fun h => by rcases h with h | ⟨_, h⟩; omega; exact lexL.irr xs h
theorem lexL.trans : ∀ {a b c : List Int}, lexL a b → lexL b c → lexL a c
  | [], _, _, h, _ => h.elim
  | _ :: _, [], _, h, _ => h.elim
  | _ :: _, _ :: _, [], _, h => h.elim
  | x :: xs, y :: ys, z :: zs, h, k => by
    rcases h with h | ⟨e, h⟩
    · rcases k with k | ⟨f, k⟩
      · exact Or.inl (by omega)
      · exact Or.inl (by omega)
    · rcases k with k | ⟨f, k⟩
      · exact Or.inl (by omega)
      · exact Or.inr ⟨by omega, h.trans k⟩
theorem lexL.tri : ∀ {a b : List Int}, a.length = b.length → lexL a b ∨ a = b ∨ lexL b a
  | [], [], _ => Or.inr (Or.inl rfl)
  | x :: xs, y :: ys, h => by
    by_cases c : x < y
    · exact Or.inl (Or.inl c)
    · by_cases d : y < x
      · exact Or.inr (Or.inr (Or.inl d))
      · obtain rfl : x = y := by omega
        rcases lexL.tri (a := xs) (b := ys) (by simpa using h) with k | k | k
        · exact Or.inl (Or.inr ⟨rfl, k⟩)
        · exact Or.inr (Or.inl (by rw [k]))
        · exact Or.inr (Or.inr (Or.inr ⟨rfl, k⟩))
def Dom (L M : List Int) : Prop := M.length < L.length ∨ (M.length = L.length ∧ (M = L ∨ lexL L M))
theorem cmpF (x y : Int) : ∃ c, cmp_Compare_int64.f x y = some c ∧ ((c = 0 ∧ x = y) ∨ (c = -1 ∧ x < y) ∨ (c = 1 ∧ y < x)) := by
  have e : ∀ z : Int, cmp_isNaN_int64.f z = some false := fun z => by rw [cmp_isNaN_int64.f]; simp
  rw [cmp_Compare_int64.f, e, e, Option.bind_some, Option.bind_some, if_neg (by simp), if_neg (by simp)]
  by_cases c : x < y
  · exact ⟨-1, by rw [if_pos c], Or.inr (Or.inl ⟨rfl, c⟩)⟩
  · by_cases d : x > y
    · exact ⟨1, by rw [if_neg c, if_pos d], Or.inr (Or.inr ⟨rfl, d⟩)⟩
    · exact ⟨0, by rw [if_neg c, if_neg d], Or.inl ⟨rfl, by omega⟩⟩
theorem cmp_l0 (a b : List Int) (hl : a.length = b.length) (hb : a.length ≤ 1000000) : ∀ d i, a.length - i = d → i ≤ a.length → ∃ c, Ev (fun k => slices_Compare_int64_int64.l0 k a b a (a.length : Int) (i : Int)) c ∧ (c < 0 ↔ lexL (a.drop i) (b.drop i)) := by
  intro d
  induction d with
  | zero =>
    intro i hd hi
    obtain rfl : i = a.length := by omega
    refine ⟨0, Ev.step (f := fun _ => some 0) (fun k => ?_) (Ev.now _), ?_⟩
    · rw [slices_Compare_int64_int64.l0, if_neg (by omega), if_neg (by omega)]
    · rw [List.drop_length, lexL]
      · simp
      · intro _ _ _ _ h; cases h
  | succ d ih =>
    intro i hd hi
    have ha : a.drop i = a.getD i 0 :: a.drop (i + 1) := by rw [List.drop_eq_getElem_cons (by omega), getD_eq a i (by omega)]
    have hbd : b.drop i = b.getD i 0 :: b.drop (i + 1) := by rw [List.drop_eq_getElem_cons (by omega), getD_eq b i (by omega)]
    obtain ⟨c, c1, c2⟩ := cmpF (a.getD i 0) (b.getD i 0)
    have e : ∀ k, slices_Compare_int64_int64.l0 (k + 1) a b a (a.length : Int) (i : Int) = if c = 0 then slices_Compare_int64_int64.l0 k a b a (a.length : Int) ((i + 1 : Nat) : Int) else some c := fun k => by
      rw [slices_Compare_int64_int64.l0, if_pos (by omega), if_pos (by omega), if_pos (by omega), if_neg (by omega), if_pos (by omega), rdN, rdN, c1, Option.bind_some, wN i (by omega)]
    rw [ha, hbd, lexL]
    rcases c2 with ⟨rfl, q⟩ | ⟨rfl, q⟩ | ⟨rfl, q⟩
    · obtain ⟨r, r1, r2⟩ := ih (i + 1) (by omega) (by omega)
      refine ⟨r, Ev.step (fun k => by rw [e, if_pos rfl]) r1, ?_⟩
      rw [r2]
      exact ⟨fun h => Or.inr ⟨q, h⟩, fun h => h.elim (fun h => by omega) (fun h => h.2)⟩
    · exact ⟨-1, Ev.step (f := fun _ => some (-1)) (fun k => by rw [e, if_neg (by omega)]) (Ev.now _), fun _ => Or.inl q, fun _ => by omega⟩
    · exact ⟨1, Ev.step (f := fun _ => some 1) (fun k => by rw [e, if_neg (by omega)]) (Ev.now _), fun h => by omega, fun h => by rcases h with h | ⟨h, _⟩ <;> omega⟩
theorem cmpL (a b : List Int) (hl : a.length = b.length) (hb : a.length ≤ 1000000) : ∃ c, Ev (fun k => slices_Compare_int64_int64.f k a b) c ∧ (c < 0 ↔ lexL a b) := by
  obtain ⟨c, h1, h2⟩ := cmp_l0 a b hl hb _ 0 rfl (Nat.zero_le _)
  exact ⟨c, Ev.congr (fun k => by rw [slices_Compare_int64_int64.f]; rfl) h1, by simpa using h2⟩
section
variable (q : List Int → Option Bool) (acc : List Int → Bool) (n : Nat) (hn : n ≤ 20) (hq : ∀ s, s < 2 ^ n → q (ow s n) = some (acc (ow s n)))
include hn hq
def lgInv (acc : List Int → Bool) (n : Nat) (best : List Int) (s : Nat) : Prop := (best = [] ∨ ∃ t, t < s ∧ best = ow t n ∧ acc best = true) ∧ ∀ t, t < s → acc (ow t n) = true → Dom best (ow t n)
omit hn hq in
theorem Dom.of {L M : List Int} (h : ¬ (L.length < M.length ∨ (M.length = L.length ∧ lexL M L))) : Dom L M := by
  by_cases c : M.length < L.length
  · exact Or.inl c
  · have e : M.length = L.length := by
      by_cases d : L.length < M.length
      · exact absurd (Or.inl d) h
      · omega
    refine Or.inr ⟨e, ?_⟩
    rcases lexL.tri e with k | k | k
    · exact absurd (Or.inr ⟨e, k⟩) h
    · exact Or.inl k
    · exact Or.inr k
omit hn hq in
theorem Dom.better {N L M : List Int} (h : Dom L M) (k : L.length < N.length ∨ (N.length = L.length ∧ lexL N L)) : Dom N M := by
  rcases h with h | ⟨e, h⟩
  · rcases k with k | ⟨f, k⟩
    · exact Or.inl (by omega)
    · exact Or.inl (by omega)
  · rcases k with k | ⟨f, k⟩
    · exact Or.inl (by omega)
    · refine Or.inr ⟨by omega, Or.inr ?_⟩
      rcases h with rfl | h
      · exact k
      · exact k.trans h
omit hq in
theorem lg_l1 (best : List Int) (s : Nat) (hs : s < 2 ^ n) (r : List Int) (x : Int)
    (hr : Ev (fun k => if ((ow s n).length : Int) > (best.length : Int) then ((q (ow s n)).bind fun t => (if t = true then (impl_longest.l0 q k (n : Int) (ow s n) ((2 ^ n : Nat) : Int) (wrap64 ((s : Int) + 1))) else (impl_longest.l0 q k (n : Int) best ((2 ^ n : Nat) : Int) (wrap64 ((s : Int) + 1)))))
      else (if ((ow s n).length : Int) = (best.length : Int) then ((slices_Compare_int64_int64.f k (ow s n) best).bind fun c => (if c < 0 then ((q (ow s n)).bind fun t => (if t = true then (impl_longest.l0 q k (n : Int) (ow s n) ((2 ^ n : Nat) : Int) (wrap64 ((s : Int) + 1))) else (impl_longest.l0 q k (n : Int) best ((2 ^ n : Nat) : Int) (wrap64 ((s : Int) + 1))))) else (impl_longest.l0 q k (n : Int) best ((2 ^ n : Nat) : Int) (wrap64 ((s : Int) + 1))))) else (impl_longest.l0 q k (n : Int) best ((2 ^ n : Nat) : Int) (wrap64 ((s : Int) + 1))))) r) :
    ∀ d i, n - i = d → i ≤ n → Ev (fun k => impl_longest.l1 q k (n : Int) best (s : Int) (ow s i) ((2 ^ n : Nat) : Int) (s : Int) (n : Int) (i : Int)) r := by
  have hp := Nat.pow_le_pow_right (show 0 < 2 by omega) hn
  intro d
  induction d with
  | zero =>
    intro i hd hi
    obtain rfl : i = n := by omega
    refine Ev.step (fun k => ?_) hr
    rw [impl_longest.l1, if_neg (by omega)]
  | succ d ih =>
    intro i hd hi
    have hl := ow_len s i
    refine Ev.step (fun k => ?_) (ih (i + 1) (by omega) (by omega))
    rw [impl_longest.l1, if_pos (by omega), if_pos (by omega), ow, wN i (by omega)]
    by_cases c : s.testBit i = true
    · rw [if_pos ((bitT s i (by omega) (by omega)).2 c), if_pos (by omega), if_pos c]
    · rw [if_neg (fun h => c ((bitT s i (by omega) (by omega)).1 h)), if_neg c]
theorem lg_l0 : ∀ d s (best : List Int), 2 ^ n - s = d → s ≤ 2 ^ n → best.length ≤ n → lgInv acc n best s → ∃ r, Ev (fun k => impl_longest.l0 q k (n : Int) best ((2 ^ n : Nat) : Int) (s : Int)) r ∧ lgInv acc n r (2 ^ n) := by
  have hp := Nat.pow_le_pow_right (show 0 < 2 by omega) hn
  intro d
  induction d with
  | zero =>
    intro s best hd hs hb hi
    obtain rfl : s = 2 ^ n := by omega
    refine ⟨best, Ev.step (f := fun _ => some best) (fun k => ?_) (Ev.now _), hi⟩
    rw [impl_longest.l0, if_neg (by omega)]
  | succ d ih =>
    intro s best hd hs hb hi
    have hl := ow_len s n
    have hqs := hq s (by omega)
    have keep : (acc (ow s n) = true → Dom best (ow s n)) → lgInv acc n best (s + 1) := fun hD => by
      refine ⟨?_, fun t ht ha => ?_⟩
      · rcases hi.1 with h | ⟨t, t1, t2⟩
        · exact Or.inl h
        · exact Or.inr ⟨t, by omega, t2⟩
      · by_cases e : t = s
        · subst e; exact hD ha
        · exact hi.2 t (by omega) ha
    have put : acc (ow s n) = true → (best.length < (ow s n).length ∨ ((ow s n).length = best.length ∧ lexL (ow s n) best)) → lgInv acc n (ow s n) (s + 1) := fun ha hU => by
      refine ⟨Or.inr ⟨s, by omega, rfl, ha⟩, fun t ht ha' => ?_⟩
      by_cases e : t = s
      · subst e; exact Or.inr ⟨rfl, Or.inl rfl⟩
      · exact (hi.2 t (by omega) ha').better hU
    have start : ∀ r, (Ev (fun k => if ((ow s n).length : Int) > (best.length : Int) then ((q (ow s n)).bind fun t => (if t = true then (impl_longest.l0 q k (n : Int) (ow s n) ((2 ^ n : Nat) : Int) (wrap64 ((s : Int) + 1))) else (impl_longest.l0 q k (n : Int) best ((2 ^ n : Nat) : Int) (wrap64 ((s : Int) + 1)))))
      else (if ((ow s n).length : Int) = (best.length : Int) then ((slices_Compare_int64_int64.f k (ow s n) best).bind fun c => (if c < 0 then ((q (ow s n)).bind fun t => (if t = true then (impl_longest.l0 q k (n : Int) (ow s n) ((2 ^ n : Nat) : Int) (wrap64 ((s : Int) + 1))) else (impl_longest.l0 q k (n : Int) best ((2 ^ n : Nat) : Int) (wrap64 ((s : Int) + 1))))) else (impl_longest.l0 q k (n : Int) best ((2 ^ n : Nat) : Int) (wrap64 ((s : Int) + 1))))) else (impl_longest.l0 q k (n : Int) best ((2 ^ n : Nat) : Int) (wrap64 ((s : Int) + 1))))) r) →
        Ev (fun k => impl_longest.l0 q k (n : Int) best ((2 ^ n : Nat) : Int) (s : Int)) r := fun r hr =>
      Ev.step (fun k => by rw [impl_longest.l0, if_pos (by omega)]; rfl) (lg_l1 q n hn best s (by omega) r 0 hr _ 0 rfl (Nat.zero_le _))
    rw [wN s (by omega)] at start
    rw [hqs] at start
    simp only [Option.bind_some] at start
    by_cases c1 : best.length < (ow s n).length
    · by_cases c2 : acc (ow s n) = true
      · obtain ⟨r, r1, r2⟩ := ih (s + 1) (ow s n) (by omega) (by omega) hl (put c2 (Or.inl c1))
        exact ⟨r, start r (Ev.congr (fun k => by rw [if_pos (by omega), if_pos c2]) r1), r2⟩
      · obtain ⟨r, r1, r2⟩ := ih (s + 1) best (by omega) (by omega) hb (keep (fun h => absurd h c2))
        exact ⟨r, start r (Ev.congr (fun k => by rw [if_pos (by omega), if_neg c2]) r1), r2⟩
    · by_cases c3 : (ow s n).length = best.length
      · obtain ⟨c, e1, e2⟩ := cmpL (ow s n) best c3 (by omega)
        obtain ⟨K1, e1⟩ := EvG e1
        by_cases c4 : c < 0
        · by_cases c2 : acc (ow s n) = true
          · obtain ⟨r, r1, r2⟩ := ih (s + 1) (ow s n) (by omega) (by omega) hl (put c2 (Or.inr ⟨c3, e2.1 c4⟩))
            obtain ⟨K2, r1⟩ := EvG r1
            exact ⟨r, start r (EvI (K1 + K2) fun k hk => by rw [if_neg (by omega), if_pos (by omega), e1 k (by omega), Option.bind_some, if_pos c4, if_pos c2]; exact r1 k (by omega)), r2⟩
          · obtain ⟨r, r1, r2⟩ := ih (s + 1) best (by omega) (by omega) hb (keep (fun h => absurd h c2))
            obtain ⟨K2, r1⟩ := EvG r1
            exact ⟨r, start r (EvI (K1 + K2) fun k hk => by rw [if_neg (by omega), if_pos (by omega), e1 k (by omega), Option.bind_some, if_pos c4, if_neg c2]; exact r1 k (by omega)), r2⟩
        · obtain ⟨r, r1, r2⟩ := ih (s + 1) best (by omega) (by omega) hb (keep (fun _ => Dom.of (fun h => h.elim (fun h => c1 h) (fun h => c4 (e2.2 h.2)))))
          obtain ⟨K2, r1⟩ := EvG r1
          exact ⟨r, start r (EvI (K1 + K2) fun k hk => by rw [if_neg (by omega), if_pos (by omega), e1 k (by omega), Option.bind_some, if_neg c4]; exact r1 k (by omega)), r2⟩
      · obtain ⟨r, r1, r2⟩ := ih (s + 1) best (by omega) (by omega) hb (keep (fun _ => Dom.of (fun h => h.elim (fun h => c1 h) (fun h => c3 h.1))))
        exact ⟨r, start r (Ev.congr (fun k => by rw [if_neg (by omega), if_neg (by omega)]) r1), r2⟩
theorem longestF (D : List Int) (hD : Inc n 0 D) (hA : acc D = true) (hB : ∀ M, Inc n 0 M → acc M = true → Dom D M) : Ev (fun k => impl_longest.f q k (n : Int)) D := by
  obtain ⟨r, r1, r2, r3⟩ := lg_l0 q acc n hn hq _ 0 [] rfl (Nat.zero_le _) (Nat.zero_le _) ⟨Or.inl rfl, fun t h => absurd h (Nat.not_lt_zero _)⟩
  obtain ⟨s, s1, s2⟩ := ow_all n D hD
  have h1 := r3 s s1 (by rw [s2]; exact hA)
  rw [s2] at h1
  have e : r = D := by
    rcases r2 with rfl | ⟨t, t1, rfl, t3⟩
    · rcases h1 with h | ⟨h, _⟩
      · simp at h
      · exact (List.length_eq_zero_iff.1 h).symm
    · have h2 := hB _ (ow_inc t n) t3
      rcases h1 with h | ⟨_, h⟩
      · rcases h2 with k | ⟨k, _⟩ <;> omega
      · rcases h with h | h
        · exact h.symm
        · rcases h2 with k | ⟨_, k⟩
          · omega
          · rcases k with k | k
            · exact k
            · exact absurd (h.trans k) (lexL.irr _)
  subst e
  exact Ev.congr (fun k => by rw [impl_longest.f, if_pos (by omega), shl1 n hn]; rfl) r1
end
end Go.Proofs.Ytnhcdfikjfjkoaa.Pure

namespace Go.Proofs.Ytnhcdfikjfjkoaa.Pure
open Go.RowKit Go.Proofs.Ytnhcdfikjfjkoaa.P Go.Proofs.YtnhcdfikjfjkoaaW.PrintWords Go.Proofs.YtnhcdfikjfjkoaaW.PrintLast
set_option linter.unusedVariables false
set_option linter.unusedSimpArgs false
theorem Ev.one {α : Type} {g : Nat → Option α} {a b : α} (h : Ev g a) (k : Ev g b) : a = b := by
  obtain ⟨K1, h⟩ := EvG h
  obtain ⟨K2, k⟩ := EvG k
  exact Option.some.inj ((h (K1 + K2) (by omega)).symm.trans (k (K1 + K2) (by omega)))
def StepT (l : List S56) (a : Int) (t : List S56) : Prop := ∃ c s, Ev (fun k => impl_purse_fewest.f k (l.map S56.f0) (l.map S56.f1) a) (c, s, true) ∧ Ev (fun k => spec_PayFrom.f k l a) (c, s, 0) ∧ Ev (fun k => spec_l01Take.f k l c) t ∧ Ev (fun k => impl_without.f k l c) t ∧ SV t ∧ Wf t ∧ t.length = l.length
def StepN (l : List S56) (a : Int) : Prop := (∃ c s, Ev (fun k => impl_purse_fewest.f k (l.map S56.f0) (l.map S56.f1) a) (c, s, false)) ∧ Ev (fun k => spec_PayFrom.f k l a) ([], 0, 6)
theorem step_dec (l : List S56) (hw : Wf l) (hs : SV l) (a : Int) (h0 : 0 ≤ a) (h1 : a ≤ 1000) : (∃ t, StepT l a t) ∨ StepN l a := by
  have hl := hs.1
  obtain ⟨c, s, b, f1, f2, f3⟩ := fewestBoth l hw hs a h0 h1
  cases b with
  | true =>
    obtain ⟨g1, g2⟩ := f3 rfl
    obtain ⟨t, t1, t2, t3, t4⟩ := takeBoth' l c (by omega) g1.symm
    obtain ⟨s1, w1⟩ := SV.taken hs c g2 t3 t4
    exact Or.inl ⟨t, c, s, f1, by simpa using f2, t1, t2, s1, w1, t3⟩
  | false => exact Or.inr ⟨⟨c, s, f1⟩, by simpa using f2⟩
open Classical in
noncomputable def stp (l : List S56) (a : Int) : Option (List S56) := if h : ∃ t, StepT l a t then some h.choose else none
theorem stp_some {l t : List S56} {a : Int} (h : stp l a = some t) : StepT l a t := by
  unfold stp at h
  split at h
  · rename_i q
    have := q.choose_spec
    rw [Option.some.inj h] at this
    exact this
  · cases h
theorem stp_none {l : List S56} (hw : Wf l) (hs : SV l) {a : Int} (h0 : 0 ≤ a) (h1 : a ≤ 1000) (h : stp l a = none) : StepN l a := by
  unfold stp at h
  split at h
  · cases h
  · rename_i q
    exact (step_dec l hw hs a h0 h1).resolve_left q
noncomputable def DD (p : List Int) : Nat → List S56 → Nat → List Int
  | 0, _, _ => []
  | d + 1, l, i => match stp l (p.getD i 0) with
    | some t => if (DD p d l (i + 1)).length ≤ (DD p d t (i + 1)).length + 1 then (i : Int) :: DD p d t (i + 1) else DD p d l (i + 1)
    | none => DD p d l (i + 1)
noncomputable def okA (p : List Int) : List S56 → List Int → Bool
  | _, [] => true
  | l, x :: xs => match stp l (p.getD x.toNat 0) with
    | some t => okA p t xs
    | none => false
theorem DD_len (p : List Int) : ∀ d l i, (DD p d l i).length ≤ d
  | 0, _, _ => Nat.le_refl _
  | d + 1, l, i => by
    rw [DD]
    have h0 := DD_len p d l (i + 1)
    split
    · rename_i t _
      have h1 := DD_len p d t (i + 1)
      split
      · simp only [List.length_cons]; omega
      · omega
    · omega
theorem DD_inc (p : List Int) (n : Nat) : ∀ d l i, i + d = n → Inc n i (DD p d l i)
  | 0, _, _, _ => trivial
  | d + 1, l, i, h => by
    rw [DD]
    have h0 := (DD_inc p n d l (i + 1) (by omega)).low (lo' := i) (by omega)
    split
    · rename_i t _
      split
      · exact ⟨i, rfl, Nat.le_refl _, by omega, DD_inc p n d t (i + 1) (by omega)⟩
      · exact h0
    · exact h0
theorem DD_ok (p : List Int) : ∀ d l i, okA p l (DD p d l i) = true
  | 0, _, _ => rfl
  | d + 1, l, i => by
    rw [DD]
    split
    · rename_i t ht
      split
      · rw [okA, Int.toNat_natCast, ht]; exact DD_ok p d t (i + 1)
      · exact DD_ok p d l (i + 1)
    · exact DD_ok p d l (i + 1)
theorem DD_dom (p : List Int) (n : Nat) : ∀ d l i, i + d = n → ∀ M, Inc n i M → okA p l M = true → Dom (DD p d l i) M
  | 0, l, i, h, M, hM, _ => by
    cases M with
    | nil => exact Or.inr ⟨rfl, Or.inl rfl⟩
    | cons x xs => obtain ⟨j, _, h1, h2, _⟩ := hM; omega
  | d + 1, l, i, h, M, hM, ha => by
    have later : ∀ M, Inc n (i + 1) M → okA p l M = true → Dom (DD p d l (i + 1)) M := fun M h1 h2 => DD_dom p n d l (i + 1) (by omega) M h1 h2
    rw [DD]
    split
    · rename_i t ht
      split
      · rename_i hle
        cases M with
        | nil => exact Or.inl (by simp)
        | cons x xs =>
          obtain ⟨j, rfl, h1, h2, h3⟩ := hM
          by_cases e : j = i
          · subst e
            rw [okA, Int.toNat_natCast, ht] at ha
            rcases DD_dom p n d t (j + 1) (by omega) xs h3 ha with k | ⟨k1, k2⟩
            · exact Or.inl (by simp only [List.length_cons]; omega)
            · refine Or.inr ⟨by simp only [List.length_cons]; omega, ?_⟩
              rcases k2 with k2 | k2
              · exact Or.inl (by rw [k2])
              · exact Or.inr (Or.inr ⟨rfl, k2⟩)
          · rcases later (↑j :: xs) ⟨j, rfl, by omega, h2, h3⟩ ha with k | ⟨k1, _⟩
            · exact Or.inl (by simp only [List.length_cons] at k ⊢; omega)
            · by_cases f : (DD p d l (i + 1)).length = (DD p d t (i + 1)).length + 1
              · exact Or.inr ⟨by simp only [List.length_cons] at k1 ⊢; omega, Or.inr (Or.inl (by omega))⟩
              · exact Or.inl (by simp only [List.length_cons] at k1 ⊢; omega)
      · rename_i hle
        cases M with
        | nil => exact Or.inl (by simp only [List.length_nil]; omega)
        | cons x xs =>
          obtain ⟨j, rfl, h1, h2, h3⟩ := hM
          by_cases e : j = i
          · subst e
            rw [okA, Int.toNat_natCast, ht] at ha
            rcases DD_dom p n d t (j + 1) (by omega) xs h3 ha with k | ⟨k1, k2⟩
            · exact Or.inl (by simp only [List.length_cons]; omega)
            · exact Or.inl (by simp only [List.length_cons]; omega)
          · exact later (↑j :: xs) ⟨j, rfl, by omega, h2, h3⟩ ha
    · rename_i ht
      cases M with
      | nil => exact later [] trivial rfl
      | cons x xs =>
        obtain ⟨j, rfl, h1, h2, h3⟩ := hM
        by_cases e : j = i
        · subst e
          rw [okA, Int.toNat_natCast, ht] at ha
          cases ha
        · exact later (↑j :: xs) ⟨j, rfl, by omega, h2, h3⟩ ha
theorem from_f (p : List Int) (hp : p.length ≤ 6) (hpo : ∀ j, j < p.length → 0 ≤ p.getD j 0 ∧ p.getD j 0 ≤ 1000) : ∀ d i (l : List S56) (best : List Int) (fo : Bool) (paid : List Int), p.length - i = d → i ≤ p.length → SV l → Wf l → paid.length ≤ i → best.length ≤ 6 →
    Ev (fun k => spec_l01Most_from.f k p best fo l (i : Int) paid) (if fo = true ∧ paid.length + (DD p d l i).length ≤ best.length then (best, true) else (paid ++ DD p d l i, true)) := by
  intro d
  induction d with
  | zero =>
    intro i l best fo paid hd hi hs hw hpd hbe
    have e1 : wrap64 ((p.length : Int) - (i : Int)) = 0 := by rw [w64 (by omega) (by omega)]; omega
    refine Ev.step (f := fun _ => some (if fo = true ∧ paid.length + (DD p 0 l i).length ≤ best.length then (best, true) else (paid ++ DD p 0 l i, true))) (fun k => ?_) (Ev.now _)
    rw [spec_l01Most_from.f, e1, Int.add_zero, w64 (x := (paid.length : Int)) (by omega) (by omega), DD, List.length_nil, Nat.add_zero, List.append_nil]
    by_cases c : fo = true ∧ paid.length ≤ best.length
    · rw [if_pos ⟨c.1, by omega⟩, if_pos c, c.1]
    · rw [if_neg (fun h => c ⟨h.1, by omega⟩), if_pos rfl, if_pos (by omega), if_neg c]
  | succ d ih =>
    intro i l best fo paid hd hi hs hw hpd hbe
    have hpi := hpo i (by omega)
    have hlen := DD_len p (d + 1) l i
    have e1 : wrap64 ((p.length : Int) - (i : Int)) = ((d + 1 : Nat) : Int) := by rw [w64 (by omega) (by omega)]; omega
    have e2 : wrap64 ((paid.length : Int) + ((d + 1 : Nat) : Int)) = (paid.length : Int) + ((d + 1 : Nat) : Int) := w64 (by omega) (by omega)
    by_cases c : fo = true ∧ paid.length + (d + 1) ≤ best.length
    · refine Ev.step (f := fun _ => some (best, true)) (fun k => ?_) (by rw [if_pos ⟨c.1, by omega⟩]; exact Ev.now _)
      rw [spec_l01Most_from.f, e1, e2, if_pos ⟨c.1, by omega⟩, c.1]
    · have eS : ∀ k, spec_l01Most_from.f (k + 1) p best fo l (i : Int) paid = (spec_PayFrom.f k l (p.getD i 0)).bind fun P =>
          (if P.2.2 = 0 then (spec_l01Take.f k l P.1).bind fun s' => (spec_l01Most_from.f k p best fo s' ((i + 1 : Nat) : Int) (paid ++ [(i : Int)])).bind fun b => spec_l01Most_from.f k p b.1 b.2 l ((i + 1 : Nat) : Int) paid
          else spec_l01Most_from.f k p best fo l ((i + 1 : Nat) : Int) paid) := fun k => by
        rw [spec_l01Most_from.f, e1, e2, if_neg (fun h => c ⟨h.1, by omega⟩), if_neg (by omega), if_pos (by omega), if_pos (by omega), rdN, wN i (by omega)]
        simp only [show paid.length < 8796093022208 by omega, if_true]
      cases ht : stp l (p.getD i 0) with
      | none =>
        obtain ⟨_, f2⟩ := stp_none hw hs hpi.1 hpi.2 ht
        obtain ⟨K1, f2⟩ := EvG f2
        obtain ⟨K2, g⟩ := EvG (ih (i + 1) l best fo paid (by omega) (by omega) hs hw (by omega) hbe)
        refine EvI (K1 + K2 + 1) fun k hk => ?_
        obtain ⟨k, rfl⟩ : ∃ m, k = m + 1 := ⟨k - 1, by omega⟩
        rw [eS, f2 k (by omega), Option.bind_some, if_neg (by simp), g k (by omega), DD, ht]
      | some t =>
        obtain ⟨cc, s, _, f2, t1, _, s1, w1, tl⟩ := stp_some ht
        obtain ⟨K1, f2⟩ := EvG f2
        obtain ⟨K2, t1⟩ := EvG t1
        have hA := DD_len p d t (i + 1)
        have hL := DD_len p d l (i + 1)
        have g1 := ih (i + 1) t best fo (paid ++ [(i : Int)]) (by omega) (by omega) s1 w1 (by simp; omega) hbe
        rw [List.length_append, List.length_singleton] at g1
        have e3 : DD p (d + 1) l i = if (DD p d l (i + 1)).length ≤ (DD p d t (i + 1)).length + 1 then (i : Int) :: DD p d t (i + 1) else DD p d l (i + 1) := by rw [DD, ht]
        rw [e3]
        by_cases q : fo = true ∧ paid.length + 1 + (DD p d t (i + 1)).length ≤ best.length
        · rw [if_pos q] at g1
          obtain ⟨K3, g1⟩ := EvG g1
          obtain ⟨K4, g2⟩ := EvG (ih (i + 1) l best true paid (by omega) (by omega) hs hw (by omega) hbe)
          refine EvI (K1 + K2 + K3 + K4 + 1) fun k hk => ?_
          obtain ⟨k, rfl⟩ : ∃ m, k = m + 1 := ⟨k - 1, by omega⟩
          rw [eS, f2 k (by omega), Option.bind_some, if_pos rfl, t1 k (by omega), Option.bind_some, g1 k (by omega), Option.bind_some, g2 k (by omega)]
          by_cases u : paid.length + (DD p d l (i + 1)).length ≤ best.length
          · rw [if_pos ⟨rfl, u⟩, if_pos ⟨q.1, by split <;> (try simp only [List.length_cons]) <;> omega⟩]
          · rw [if_neg (fun h => u h.2), if_neg (c := (DD p d l (i + 1)).length ≤ (DD p d t (i + 1)).length + 1) (by omega), if_neg (fun h => u h.2)]
        · rw [if_neg q] at g1
          obtain ⟨K3, g1⟩ := EvG g1
          have g2 := ih (i + 1) l (paid ++ [(i : Int)] ++ DD p d t (i + 1)) true paid (by omega) (by omega) hs hw (by omega) (by simp; omega)
          obtain ⟨K4, g2⟩ := EvG g2
          refine EvI (K1 + K2 + K3 + K4 + 1) fun k hk => ?_
          obtain ⟨k, rfl⟩ : ∃ m, k = m + 1 := ⟨k - 1, by omega⟩
          rw [eS, f2 k (by omega), Option.bind_some, if_pos rfl, t1 k (by omega), Option.bind_some, g1 k (by omega), Option.bind_some, g2 k (by omega)]
          have eL : (paid ++ [(i : Int)] ++ DD p d t (i + 1)).length = paid.length + 1 + (DD p d t (i + 1)).length := by simp; omega
          by_cases u : (DD p d l (i + 1)).length ≤ (DD p d t (i + 1)).length + 1
          · rw [if_pos ⟨rfl, by omega⟩, if_pos u, if_neg (fun h => q ⟨h.1, by have := h.2; simp only [List.length_cons] at this; omega⟩), List.append_assoc, List.singleton_append]
          · rw [if_neg (fun h => u (by have := h.2; omega)), if_neg u, if_neg (fun h => q ⟨h.1, by have := h.2; omega⟩)]
theorem picked_l0 (p y : List Int) (hy : y.length ≤ 1000) (hin : ∀ j, j < y.length → 0 ≤ y.getD j 0 ∧ y.getD j 0 < p.length) : ∀ d i (o : List Int), y.length - i = d → i ≤ y.length → o = (y.take i).map (fun x => p.getD x.toNat 0) → Ev (fun k => impl_picked_int64.l0 k p o y (y.length : Int) (i : Int)) (y.map (fun x => p.getD x.toNat 0)) := by
  intro d
  induction d with
  | zero =>
    intro i o hd hi ho
    obtain rfl : i = y.length := by omega
    rw [List.take_length] at ho
    refine Ev.step (f := fun _ => some o) (fun k => ?_) (by rw [ho]; exact Ev.now _)
    rw [impl_picked_int64.l0, if_neg (by omega)]
  | succ d ih =>
    intro i o hd hi ho
    have h := hin i (by omega)
    have ol : o.length = i := by rw [ho, List.length_map, List.length_take]; omega
    refine Ev.step (fun k => ?_) (ih (i + 1) (o ++ [p.getD (y.getD i 0).toNat 0]) (by omega) (by omega) (by rw [List.take_add_one, List.getElem?_eq_getElem (show i < y.length by omega), List.map_append, ← ho, ← getD_eq y i (by omega)]; rfl))
    rw [impl_picked_int64.l0, if_pos (by omega), if_pos (by omega), if_pos (by omega), rdN, if_pos (by omega), if_pos (by omega), if_pos (by omega), wN i (by omega)]
    rfl
theorem sp_l0 (p y : List Int) (hy : y.length ≤ 1000) (hpo : ∀ j, j < p.length → 0 ≤ p.getD j 0 ∧ p.getD j 0 ≤ 1000) (hin : ∀ j, j < y.length → 0 ≤ y.getD j 0 ∧ y.getD j 0 < p.length) (pk : List Int) (hpk : pk = y.map (fun x => p.getD x.toNat 0)) :
    ∀ d i (l : List S56) (o : List Int), y.length - i = d → i ≤ y.length → SV l → Wf l → o.length ≤ i → ∃ r : List S56 × List Int, Ev (fun k => impl_spend.l0 k l o pk (y.length : Int) (i : Int)) r ∧ r.2.length ≤ o.length + d ∧ (r.2.length = o.length + d ↔ okA p l (y.drop i) = true) := by
  have hl : pk.length = y.length := by rw [hpk, List.length_map]
  intro d
  induction d with
  | zero =>
    intro i l o hd hi hs hw ho
    obtain rfl : i = y.length := by omega
    refine ⟨(l, o), Ev.step (f := fun _ => some (l, o)) (fun k => ?_) (Ev.now _), Nat.le_refl _, ?_⟩
    · rw [impl_spend.l0, if_neg (by omega)]
    · rw [List.drop_length, okA]; simp
  | succ d ih =>
    intro i l o hd hi hs hw ho
    have hl8 := hs.1
    have hyi := hin i (by omega)
    have hpi := hpo (y.getD i 0).toNat (by omega)
    have hpki : pk.getD i 0 = p.getD (y.getD i 0).toNat 0 := by rw [getD_eq pk i (by omega)]; subst hpk; rw [List.getElem_map, getD_eq y i (by omega)]
    have hdr : y.drop i = y.getD i 0 :: y.drop (i + 1) := by rw [List.drop_eq_getElem_cons (by omega), getD_eq y i (by omega)]
    obtain ⟨K3, qf⟩ := EvG (purseF l hw (by omega))
    rw [hdr, okA]
    cases ht : stp l (p.getD (y.getD i 0).toNat 0) with
    | some t =>
      obtain ⟨cc, s, f1, _, _, t2, s1, w1, tl⟩ := stp_some ht
      obtain ⟨r, r4, r2, r3⟩ := ih (i + 1) t (o ++ [(i : Int)]) (by omega) (by omega) s1 w1 (by simp; omega)
      rw [List.length_append, List.length_singleton] at r2 r3
      obtain ⟨K1, f1⟩ := EvG f1
      obtain ⟨K5, t2⟩ := EvG t2
      obtain ⟨K7, r4⟩ := EvG r4
      refine ⟨r, EvI (K1 + K3 + K5 + K7 + 1) fun k hk => ?_, by omega, ?_⟩
      · obtain ⟨k, rfl⟩ : ∃ m, k = m + 1 := ⟨k - 1, by omega⟩
        rw [impl_spend.l0, if_pos (by omega), if_pos (by omega), if_pos (by omega), qf k (by omega), Option.bind_some, rdN, hpki, f1 k (by omega), Option.bind_some, if_pos rfl, t2 k (by omega), Option.bind_some, if_pos (by omega), wN i (by omega)]; exact r4 k (by omega)
      · simp only
        rw [← r3]
        omega
    | none =>
      obtain ⟨⟨cc, s, f1⟩, _⟩ := stp_none hw hs hpi.1 hpi.2 ht
      obtain ⟨r, r4, r2, r3⟩ := ih (i + 1) l o (by omega) (by omega) hs hw (by omega)
      obtain ⟨K1, f1⟩ := EvG f1
      obtain ⟨K7, r4⟩ := EvG r4
      refine ⟨r, EvI (K1 + K3 + K7 + 1) fun k hk => ?_, by omega, ?_⟩
      · obtain ⟨k, rfl⟩ : ∃ m, k = m + 1 := ⟨k - 1, by omega⟩
        rw [impl_spend.l0, if_pos (by omega), if_pos (by omega), if_pos (by omega), qf k (by omega), Option.bind_some, rdN, hpki, f1 k (by omega), Option.bind_some, if_neg (by simp), wN i (by omega)]; exact r4 k (by omega)
      · simp only
        constructor
        · intro h; omega
        · intro h; cases h
theorem Inc.at {n : Nat} : ∀ {lo : Nat} {L : List Int}, Inc n lo L → ∀ j, j < L.length → 0 ≤ L.getD j 0 ∧ L.getD j 0 < n
  | _, _ :: _, ⟨i, e, h1, h2, h3⟩, 0, _ => by show 0 ≤ _ ∧ _ < _; simp only [List.getD_cons_zero]; omega
  | _, x :: xs, ⟨i, e, h1, h2, h3⟩, j + 1, h => by rw [List.getD_cons_succ]; exact Inc.at h3 j (by simpa using h)
theorem accF (l : List S56) (p : List Int) (hw : Wf l) (hs : SV l) (hp : p.length ≤ 6) (hpo : ∀ j, j < p.length → 0 ≤ p.getD j 0 ∧ p.getD j 0 ≤ 1000) (y : List Int) (hy : Inc p.length 0 y) : Ev (fun k => impl_MostLetters_1.f k y l p) (okA p l y) := by
  have hyl := hy.len (Nat.zero_le _)
  obtain ⟨K1, h1⟩ := EvG (picked_l0 p y (by omega) hy.at _ 0 [] rfl (Nat.zero_le _) rfl)
  obtain ⟨r, h2, h3, h4⟩ := sp_l0 p y (by omega) hpo hy.at _ rfl _ 0 l [] rfl (Nat.zero_le _) hs hw (Nat.le_refl _)
  obtain ⟨K2, h2⟩ := EvG h2
  have hl8 := hs.1
  refine EvI (K1 + K2) fun k hk => ?_
  have e4 : impl_spend.f k l (y.map (fun x => p.getD x.toNat 0)) = some r := by
    rw [impl_spend.f, impl_Stamp_83.f, Option.bind_some, if_pos (by simp; omega), Option.bind_some, List.nil_append, List.length_map]; exact h2 k (by omega)
  rw [impl_MostLetters_1.f, impl_picked_int64.f, show impl_picked_int64.l0 k p ([] : List Int) y (y.length : Int) 0 = _ from h1 k (by omega), Option.bind_some, e4, Option.bind_some]
  congr 1
  simp only [List.length_nil, Nat.zero_add, Nat.sub_zero, List.drop_zero] at h3 h4
  rw [Bool.eq_iff_iff, ← h4, beq_iff_eq]
  omega
theorem evAll {α : Type} (m : Nat) (g : Nat → Nat → Option α) (v : Nat → α) (h : ∀ s, s < m → Ev (fun k => g k s) (v s)) : ∃ K, ∀ k, K ≤ k → ∀ s, s < m → g k s = some (v s) := by
  induction m with
  | zero => exact ⟨0, fun k _ s hs => absurd hs (Nat.not_lt_zero _)⟩
  | succ m ih =>
    obtain ⟨K1, h1⟩ := ih (fun s hs => h s (by omega))
    obtain ⟨K2, h2⟩ := EvG (h m (by omega))
    refine ⟨K1 + K2, fun k hk s hs => ?_⟩
    by_cases e : s = m
    · subst e; exact h2 k (by omega)
    · exact h1 k (by omega) s (by omega)
theorem mostBoth (l : List S56) (hw : Wf l) (hb : l.length ≤ 4398046511104) (p : List Int) (hp : p.length ≤ 4398046511104) : ∃ r : List Int × Int, r.1.length ≤ p.length ∧ Ev (fun k => spec_MostLetters.f k l p) r ∧ Ev (fun k => impl_MostLetters.f k l p) r := by
  obtain ⟨c, h1, h2, h3⟩ := bothLetters l hw hb p hp
  obtain ⟨K1, h1⟩ := EvG h1
  obtain ⟨K2, h2⟩ := EvG h2
  by_cases e : c = 0
  · obtain ⟨hs, hp6, hpo⟩ := h3 e
    have hD := DD_inc p p.length p.length l 0 (by omega)
    obtain ⟨K3, g1⟩ := EvG (from_f p hp6 hpo p.length 0 l [] false [] rfl (Nat.zero_le _) hs hw (Nat.le_refl _) (Nat.zero_le _))
    obtain ⟨K4, g2⟩ := evAll (2 ^ p.length) (fun k s => impl_MostLetters_1.f k (ow s p.length) l p) (fun s => okA p l (ow s p.length)) (fun s _ => accF l p hw hs hp6 hpo _ (ow_inc s p.length))
    obtain ⟨K5, g3⟩ := EvG (longestF (fun y => impl_MostLetters_1.f K4 y l p) (okA p l) p.length (by omega) (fun s hs' => g2 K4 (Nat.le_refl _) s hs') (DD p p.length l 0) hD (DD_ok p p.length l 0) (fun M m1 m2 => DD_dom p p.length p.length l 0 (by omega) M m1 m2))
    have up : ∀ d y, LeO (impl_MostLetters_1.f K4 y l p) (impl_MostLetters_1.f (K4 + d) y l p) := fun d y => by
      induction d with
      | zero => exact LeO.refl _
      | succ d ih => exact ih.trans (impl_MostLetters_1.mono y l p (K4 + d))
    refine ⟨(DD p p.length l 0, 0), by have := hD.len (Nat.zero_le _); simpa using this, EvI (K1 + K3) fun k hk => ?_, EvI (K2 + K4 + K5 + 1) fun k hk => ?_⟩
    · rw [spec_MostLetters.f, h1 k (by omega), Option.bind_some, if_pos e, show spec_l01Most_from.f k p [] false l 0 [] = _ from g1 k (by omega), Option.bind_some, if_neg (by simp), List.nil_append]
    · have hl := impl_longest.mono (fun y => impl_MostLetters_1.f K4 y l p) (fun y => impl_MostLetters_1.f k y l p) (fun y => by have := up (k - K4) y; rwa [show K4 + (k - K4) = k by omega] at this) (p.length : Int) (k - 1) _ (g3 (k - 1) (by omega))
      rw [show k - 1 + 1 = k by omega] at hl
      rw [impl_MostLetters.f, h2 k (by omega), Option.bind_some, if_pos e, hl, Option.bind_some]
  · refine ⟨([], c), Nat.zero_le _, EvI K1 fun k hk => ?_, EvI K2 fun k hk => ?_⟩
    · rw [spec_MostLetters.f, h1 k hk, Option.bind_some, if_neg e]
    · rw [impl_MostLetters.f, h2 k hk, Option.bind_some, if_neg e]
end Go.Proofs.Ytnhcdfikjfjkoaa.Pure

namespace Go.Proofs.Ytnhcdfikjfjkoaa.Pure
open Go.RowKit Go.Proofs.Ytnhcdfikjfjkoaa.P Go.Proofs.YtnhcdfikjfjkoaaW.PrintWords Go.Proofs.YtnhcdfikjfjkoaaW.PrintLast
set_option linter.unusedVariables false
set_option linter.unusedSimpArgs false
theorem FnExactMostLetters : laws_FnExactMostLetters.Pure := by
  intro x n ⟨hx, hw⟩ ⟨hn, _⟩
  by_cases h0 : (n.length : Int) > 1048576
  · exact ⟨0, by rw [laws_FnExactMostLetters.f, if_pos h0]⟩
  by_cases h1 : (x.length : Int) ≤ 1048576
  · obtain ⟨K1, e1⟩ := EvG (toS x (by omega))
    obtain ⟨K2, e2⟩ := EvG (toI n (by omega))
    obtain ⟨r, hr, h3, h4⟩ := mostBoth (x.map cv) (Wf.cv hw) (by rw [List.length_map]; omega) n (by omega)
    obtain ⟨K3, h3⟩ := EvG h3
    obtain ⟨K4, h4⟩ := EvG h4
    obtain ⟨K5, h5⟩ := EvG (eqS (x.map cv) (by rw [List.length_map]; omega))
    obtain ⟨K6, h6⟩ := EvG (eqI n (by omega))
    obtain ⟨K7, h7⟩ := EvG (eqI r.1 (by omega))
    obtain ⟨K8, h8⟩ := EvG (markS (x.map cv) (by rw [List.length_map]; omega))
    rw [List.length_map] at h8
    obtain ⟨K9, h9⟩ := EvG (markI n (1 + 2 * x.length) (by omega) (by omega))
    obtain ⟨K10, h10⟩ := EvG (markI r.1 1 (by omega) (by omega))
    obtain ⟨K11, h11⟩ := EvG (heldI r.1.length 1 (by omega) (by omega))
    obtain ⟨a, c⟩ := r
    simp only at h3 h4 h7 h10 h11 hr
    refine ⟨K1 + K2 + K3 + K4 + K5 + K6 + K7 + K8 + K9 + K10 + K11 + 3, ?_⟩
    rw [laws_FnExactMostLetters.f, if_neg h0, szS x _ (by omega) (by omega) hx, Option.bind_some, if_pos h1, if_neg (by omega),
      e1 _ (by omega), Option.bind_some, e2 _ (by omega), Option.bind_some, h3 _ (by omega), Option.bind_some, Option.bind_some, Option.bind_some, h4 _ (by omega), Option.bind_some, h7 _ (by omega), Option.bind_some, if_pos rfl, bne_self_eq_false,
      laws_FnExactMostLetters.j0, if_neg (by simp), e1 _ (by omega), Option.bind_some, h5 _ (by omega), Option.bind_some, if_pos rfl, e2 _ (by omega), Option.bind_some, h6 _ (by omega), Option.bind_some, if_pos rfl,
      h8 _ (by omega), Option.bind_some, h9 _ (by omega), Option.bind_some, if_neg (by simp only; omega), h7 _ (by omega), Option.bind_some, if_pos rfl, bne_self_eq_false,
      laws_FnExactMostLetters.j1, if_neg (by simp), show (1 : Int) = ((1 : Nat) : Int) from rfl, h10 _ (by omega), Option.bind_some, h11 _ (by omega), Option.bind_some, if_neg (by omega), if_pos rfl,
      e1 _ (by omega), Option.bind_some, e2 _ (by omega), Option.bind_some, h4 _ (by omega), Option.bind_some, h7 _ (by omega), Option.bind_some, if_pos rfl, bne_self_eq_false,
      laws_FnExactMostLetters.j2, if_neg (by simp), show (1 : Int) = ((1 : Nat) : Int) from rfl, h11 _ (by omega), Option.bind_some, if_neg (by omega), if_pos rfl]
  · exact ⟨0, by rw [laws_FnExactMostLetters.f, if_neg h0, szS x _ (by omega) (by omega) hx, Option.bind_some, if_neg h1, if_pos (by omega)]⟩
end Go.Proofs.Ytnhcdfikjfjkoaa.Pure

namespace Go.Proofs.Ytnhcdfikjfjkoaa.X
open Go.ChangeShapes Go.WideShapes Go.ChangeAt Go.RowKit Go.Proofs.YtnhcdfikjfjkoaaW.PrintWords Go.Deep
set_option linter.unusedVariables false
def Opens {α : Type} (P : Program) (t : TypeId) (d : Kd α) (wf : α → Prop) : Prop :=
  ∀ (H : Type) (enc : TypeId × Value → H) (W : World) (held : Bool) (fuel : Nat) (cs : List Value) (x : DataW H × List MemPlace), DataW.trod enc P W 0 (fun _ => true) held fuel t cs = some x → ∃ a, d.K W a cs ∧ wf a
theorem Opens.int {P : Program} {t : TypeId} {k : IntKind} (ht : P.underlying t = some (.int k)) : Opens P t (Kd.int k) (fun n => (Lit.int k n).wf = true) := by
  intro H enc W held fuel cs x h
  obtain ⟨n, rfl, _, hw⟩ := DataW.trod_int ht h
  exact ⟨n, rfl, hw⟩
theorem Opens.slice {α : Type} [Inhabited α] {P : Program} {t e : TypeId} {d : Kd α} {wf : α → Prop} (ht : P.underlying t = some (.slice e)) (hc : P.cellsOf e = d.sz) (h : Opens P e d wf) :
    Opens P t (Kd.slice e d) (fun l => l.length ≤ 9223372036854775807 ∧ ∀ a ∈ l, wf a) := by
  intro H enc W held fuel cs x hx
  rcases open_slice ht hx with ⟨rfl, _⟩ | ⟨ad, len, cap, m, n, D, Pl, rfl, _, hl, hm, hmm, _, hel⟩
  · exact ⟨[], ⟨none, 0, rfl, Nat.le_refl _, ⟨rfl, by simp, fun h => absurd h (Nat.lt_irrefl 0)⟩⟩, by simp, fun a ha => by cases ha⟩
  · have hmc : m = cap := by simpa using hmm
    have each : ∀ i, i < len → ∃ a : α, wf a ∧ ∃ c, c.length = d.sz ∧ d.K W a c ∧ ∀ j u, c[j]? = some u → W.cell? (ad.add (i * d.sz + j)) = some u := by
      intro i hi
      obtain ⟨cs', h1, h2⟩ := hel i (by omega)
      obtain ⟨_, hlen, hcell⟩ := World.cells?_some h1
      obtain ⟨a, hK, hw⟩ := h H enc W held n cs' _ h2
      refine ⟨a, hw, cs', by rw [hlen, hc], hK, fun j u hu => ?_⟩
      have hj : j < P.cellsOf e := by have := (List.getElem?_eq_some_iff.1 hu).1; omega
      have h3 := hcell j hj
      rw [hu, hc] at h3
      rw [← h3]
      congr 1
      unfold Addr.add
      by_cases h4 : i * d.sz = 0 <;> by_cases h5 : j = 0 <;> simp [h4, h5, Nat.add_assoc]
    obtain ⟨f, hf⟩ := choose_lt each
    have hlen : ((List.range len).map f).length = len := by simp
    refine ⟨(List.range len).map f, ⟨some ad, cap, by rw [hlen], by rw [hlen]; exact hl, ⟨rfl, by rw [hlen]; unfold maxLen at hm; omega, fun _ => ⟨ad, rfl, fun j p hp => ?_⟩⟩⟩, by rw [hlen]; unfold maxLen at hm; omega, fun a ha => ?_⟩
    · have hj : j < len := by have := (List.getElem?_eq_some_iff.1 hp).1; omega
      have hp2 : f j = p := by simpa [hj] using hp
      rw [← hp2]
      exact (hf j hj).2
    · obtain ⟨i, hi, rfl⟩ := List.mem_map.1 ha
      exact (hf i (List.mem_range.1 hi)).1
theorem Opens.pair {α β : Type} {P : Program} {t : TypeId} {a : Kd α} {b : Kd β} {wa : α → Prop} {wb : β → Prop} {f0 f1 : Field} (hs : P.underlying t = some (.struct #[f0, f1])) (o0 : f0.offset = 0) (c0 : P.cellsOf f0.type = a.sz) (o1 : f1.offset = a.sz) (c1 : P.cellsOf f1.type = b.sz) (hc : P.cellsOf t = a.sz + b.sz)
    (ha : Opens P f0.type a wa) (hb : Opens P f1.type b wb) : Opens P t (Kd.pair a b) (fun x => wa x.1 ∧ wb x.2) := by
  intro H enc W held fuel cs x hx
  obtain ⟨xs, n, _, _, hl, hxl, hf⟩ := DataW.trod_struct hs hx
  have hxl : xs.length = 2 := hxl
  have g0 := hf 0 f0 rfl
  have g1 := hf 1 f1 rfl
  rw [List.getElem?_eq_getElem (by omega)] at g0 g1
  obtain ⟨x0, k0, w0⟩ := ha H enc W held n _ _ g0
  obtain ⟨x1, k1, w1⟩ := hb H enc W held n _ _ g1
  refine ⟨(x0, x1), ⟨_, _, ?_, k0, k1⟩, w0, w1⟩
  rw [o0, o1, c0, c1, List.drop_zero]
  rw [List.take_of_length_le (l := cs.drop a.sz) (by rw [List.length_drop]; omega), List.take_append_drop]
theorem Opens.iso {α β : Type} {P : Program} {t : TypeId} {d : Kd α} {wf : α → Prop} (f : β → α) (g : α → β) (hg : ∀ a, f (g a) = a) (h : Opens P t d wf) : Opens P t (Kd.iso d f) (fun b => wf (f b)) := by
  intro H enc W held fuel cs x hx
  obtain ⟨a, hK, hw⟩ := h H enc W held fuel cs x hx
  refine ⟨g a, ?_, by show wf (f (g a)); rw [hg]; exact hw⟩
  show d.K W (f (g a)) cs
  rw [hg]; exact hK
theorem Opens.agg {α : Type} {P : Program} {t : TypeId} {d : Kd α} {wf : α → Prop} {fs : Array Field} (h : Opens P t d wf) (hs : P.underlying t = some (.struct fs)) {H : Type} {enc : TypeId × Value → H} {W : World} {r : Reach} {b0 : Nat} {v : Value} {dd : DataW H} {ps : List MemPlace}
    (hv : Value.okWide P W r b0 t v) (ht : DataW.Trod enc P W 0 (fun _ => true) true t v dd ps) : ∃ (a : α) (cs : List Value), v = .agg cs.toArray ∧ d.K W a cs ∧ wf a := by
  obtain ⟨cs, rfl, _⟩ := okWide_struct hs hv
  obtain ⟨fuel, hf⟩ := ht
  obtain ⟨a, hK, hw⟩ := h H enc W true fuel _ _ hf
  exact ⟨a, _, by simp [Value.cells], hK, hw⟩
theorem Opens.arg {α : Type} {P : Program} {t e : TypeId} {d : Kd α} {wf : List α → Prop} (h : Opens P t (Kd.slice e d) wf) (ht : P.underlying t = some (.slice e)) {H : Type} {enc : TypeId × Value → H} {W : World} {r : Reach} {b0 : Nat} {v : Value} {dd : DataW H} {ps : List MemPlace}
    (hv : Value.okWide P W r b0 t v) (hT : DataW.Trod enc P W 0 (fun _ => true) true t v dd ps) : ∃ (l : List α) (A : Option Addr) (c : Nat), v = .slice A l.length c ∧ l.length ≤ c ∧ d.C W A l.length l ∧ wf l := by
  obtain ⟨a, len, cap, rfl⟩ := okWide_slice ht hv
  obtain ⟨fuel, hf⟩ := hT
  obtain ⟨l, ⟨A, c, he, hl, hC⟩, hw⟩ := h H enc W true fuel _ _ hf
  have he2 : [Value.slice a len cap] = [Value.slice A l.length c] := by simpa [Value.cells] using he
  injection he2 with he2 _
  exact ⟨l, A, c, he2, hl, hC, hw⟩
end Go.Proofs.Ytnhcdfikjfjkoaa.X
