/- FnExactBestValue returns true at every list of numbers and every number of stamps; no condition. -/
import Derived.Test.YtnhcdfikjfjkoaaXLib
import Derived.OpenShut
import Derived.Test.YtnhcdfikjfjkoaaPimplBestValue
import Derived.Test.YtnhcdfikjfjkoaaPimplValidValues
import Derived.Test.YtnhcdfikjfjkoaaPimplleastFor
import Derived.Test.YtnhcdfikjfjkoaaPimplreach
import Derived.Test.YtnhcdfikjfjkoaaPimplsizeint64
import Derived.Test.YtnhcdfikjfjkoaaPimplunless
import Derived.Test.YtnhcdfikjfjkoaaPimplvaluesCode
import Derived.Test.YtnhcdfikjfjkoaaPimplwithin
import Derived.Test.YtnhcdfikjfjkoaaPlawsFnExactBestValue
import Derived.Test.YtnhcdfikjfjkoaaPlawseqInt64S
import Derived.Test.YtnhcdfikjfjkoaaPlawsheldInt64S
import Derived.Test.YtnhcdfikjfjkoaaPlawsmarkInt64S
import Derived.Test.YtnhcdfikjfjkoaaPlawstoInt64S
import Derived.Test.YtnhcdfikjfjkoaaPslicesCloneint64int64
import Derived.Test.YtnhcdfikjfjkoaaPslicesContainsint64int64
import Derived.Test.YtnhcdfikjfjkoaaPslicesIndexint64int64
import Derived.Test.YtnhcdfikjfjkoaaPspecBestValue
import Derived.Test.YtnhcdfikjfjkoaaPspecl00Has
import Derived.Test.YtnhcdfikjfjkoaaPspecl00In
import Derived.Test.YtnhcdfikjfjkoaaPspecl01Asked
import Derived.Test.YtnhcdfikjfjkoaaPspecl01Postage
import Derived.Test.YtnhcdfikjfjkoaaPspecl01Reach
import Derived.Test.YtnhcdfikjfjkoaaPspecl01Stamps
import Derived.Test.YtnhcdfikjfjkoaaPspecl01Values
namespace Go.Proofs.Ytnhcdfikjfjkoaa.Pure
open Go.RowKit Go.Proofs.Ytnhcdfikjfjkoaa.P Go.Proofs.YtnhcdfikjfjkoaaW.PrintWords Go.Proofs.YtnhcdfikjfjkoaaW.PrintLast
set_option linter.unusedVariables false
set_option linter.unusedSimpArgs false

theorem EvG {α : Type} {g : Nat → Option α} {r : α} (h : Ev g r) : ∃ K, ∀ k, K ≤ k → g k = some r := h
theorem EvI {α : Type} {g : Nat → Option α} {r : α} (K : Nat) (h : ∀ k, K ≤ k → g k = some r) : Ev g r := ⟨K, h⟩
theorem w64 {x : Int} (h0 : -9223372036854775808 ≤ x) (h1 : x ≤ 9223372036854775807) : wrap64 x = x := by
  unfold wrap64; omega
theorem wN (i : Nat) (h : i < 4611686018427387904) : wrap64 ((i : Int) + 1) = ((i + 1 : Nat) : Int) := by
  unfold wrap64; omega
theorem rdN (l : List Int) (i : Nat) : rd l (i : Int) = l.getD i 0 := rfl
theorem rd_at (l : List Int) (i : Int) (n : Nat) (h : i = n) : rd l i = l.getD n 0 := by subst h; rfl
theorem getD_eq (l : List Int) (i : Nat) (h : i < l.length) : l.getD i 0 = l[i] := by
  rw [List.getD_eq_getElem?_getD, List.getElem?_eq_getElem h]; rfl
theorem getD_mem (l : List Int) (i : Nat) (h : i < l.length) : l.getD i 0 ∈ l := by rw [getD_eq l i h]; exact List.getElem_mem h
theorem list_ext (a b : List Int) (hl : a.length = b.length) (h : ∀ j, j < b.length → a.getD j 0 = b.getD j 0) : a = b := by
  apply List.ext_getElem hl
  intro i h1 h2
  have := h i h2
  rwa [getD_eq a i h1, getD_eq b i h2] at this
theorem getD_set (l : List Int) (i j : Nat) (v : Int) (h : i < l.length) : (l.set i v).getD j 0 = if i = j then v else l.getD j 0 := by
  simp only [List.getD_eq_getElem?_getD, List.getElem?_set]
  by_cases e : i = j
  · subst e; simp [h]
  · simp [e]
theorem getD_rep (n j : Nat) (v : Int) (h : j < n) : (List.replicate n v).getD j 0 = v := by
  simp [List.getD_eq_getElem?_getD, List.getElem?_replicate, h]

set_option linter.unusedVariables false
set_option linter.unusedSimpArgs false

theorem toI_l0 (l : List Int) (hb : l.length ≤ 17592186044415) : ∀ d i x, l.length - i = d → i ≤ l.length → x.length = l.length → (∀ j, j < i → x.getD j 0 = l.getD j 0) → Ev (fun k => laws_toInt64S.l0 k l x (i : Int)) l := by
  intro d
  induction d with
  | zero =>
    intro i x hd hi hx hj
    refine Ev.step (f := fun _ => some x) (fun k => ?_) ?_
    · rw [laws_toInt64S.l0, if_neg (by omega)]
    · have : x = l := list_ext x l hx (fun j h => hj j (by omega))
      rw [this]; exact Ev.now l
  | succ d ih =>
    intro i x hd hi hx hj
    refine Ev.step (fun k => ?_) (ih (i + 1) (x.set i (l.getD i 0)) (by omega) (by omega) (by simpa using hx) ?_)
    · rw [laws_toInt64S.l0, if_pos (by omega), if_pos (by omega), if_pos (by omega), wN i (by omega), rdN, Int.toNat_natCast]
    · intro j h
      rw [getD_set x i j _ (by omega)]
      by_cases e : i = j
      · rw [if_pos e, e]
      · rw [if_neg e]; exact hj j (by omega)
/-- A list is copied. -/
theorem toI (l : List Int) (hb : l.length ≤ 17592186044415) : Ev (fun k => laws_toInt64S.f k l) l := by
  refine Ev.congr (f := fun k => laws_toInt64S.l0 k l (List.replicate l.length 0) ((0 : Nat) : Int)) (fun k => ?_) (toI_l0 l hb _ 0 _ rfl (Nat.zero_le _) (by simp) (fun j h => absurd h (Nat.not_lt_zero _)))
  simp only [laws_toInt64S.f, Int.toNat_natCast]
  rw [if_pos (by omega), if_pos (by omega)]; rfl

theorem eqI_l0 (l : List Int) (hb : l.length ≤ 17592186044415) : ∀ d i, l.length - i = d → i ≤ l.length → Ev (fun k => laws_eqInt64S.l0 k l l (i : Int)) true := by
  intro d
  induction d with
  | zero =>
    intro i hd hi
    refine Ev.step (f := fun _ => some true) (fun k => ?_) (Ev.now true)
    rw [laws_eqInt64S.l0, if_neg (by omega)]
  | succ d ih =>
    intro i hd hi
    refine Ev.step (fun k => ?_) (ih (i + 1) (by omega) (by omega))
    rw [laws_eqInt64S.l0, if_pos (by omega), if_pos (by omega), if_pos (by omega), if_pos rfl, wN i (by omega)]
/-- A list is equal to itself. -/
theorem eqI (l : List Int) (hb : l.length ≤ 17592186044415) : Ev (fun k => laws_eqInt64S.f k l l) true := by
  refine Ev.congr (f := fun k => laws_eqInt64S.l0 k l l ((0 : Nat) : Int)) (fun k => ?_) (eqI_l0 l hb _ 0 rfl (Nat.zero_le _))
  simp only [laws_eqInt64S.f, if_true]; rfl

/-- The numbers from m on. -/
def iota (m : Nat) : Nat → List Int
  | 0 => []
  | n + 1 => (m : Int) :: iota (m + 1) n
theorem iota_len (m n : Nat) : (iota m n).length = n := by
  induction n generalizing m with
  | zero => rfl
  | succ n ih => simp [iota, ih]
theorem iota_at (m n j : Nat) (h : j < n) : (iota m n).getD j 0 = ((m + j : Nat) : Int) := by
  induction n generalizing m j with
  | zero => omega
  | succ n ih =>
    cases j with
    | zero => rfl
    | succ j =>
      have := ih (m + 1) j (by omega)
      simp only [iota, List.getD_cons_succ, this]
      omega

theorem markI_l0 (n m : Nat) (hb : n ≤ 17592186044415) (hm : m ≤ 17592186044415) : ∀ d i x, n - i = d → i ≤ n → x.length = n → (∀ j, j < i → x.getD j 0 = ((m + j : Nat) : Int)) →
    Ev (fun k => laws_markInt64S.l0 k x ((m + i : Nat) : Int) (i : Int)) (((m + n : Nat) : Int), iota m n) := by
  intro d
  induction d with
  | zero =>
    intro i x hd hi hx hj
    obtain rfl : i = n := by omega
    refine Ev.step (f := fun _ => some (((m + i : Nat) : Int), x)) (fun k => ?_) ?_
    · rw [laws_markInt64S.l0, if_neg (by omega)]
    · have : x = iota m i := list_ext x _ (by rw [iota_len]; exact hx) (fun j h => by rw [iota_len] at h; rw [hj j h, iota_at m i j h])
      rw [this]; exact Ev.now _
  | succ d ih =>
    intro i x hd hi hx hj
    refine Ev.step (fun k => ?_) (ih (i + 1) (x.set i ((m + i : Nat) : Int)) (by omega) (by omega) (by simpa using hx) ?_)
    · rw [laws_markInt64S.l0, if_pos (by omega), if_pos (by omega), wN i (by omega), wN (m + i) (by omega), Int.toNat_natCast]; rfl
    · intro j h
      rw [getD_set x i j _ (by omega)]
      by_cases e : i = j
      · rw [if_pos e, e]
      · rw [if_neg e]; exact hj j (by omega)
/-- A list is marked with the numbers from m on. -/
theorem markI (l : List Int) (m : Nat) (hb : l.length ≤ 17592186044415) (hm : m ≤ 17592186044415) : Ev (fun k => laws_markInt64S.f k l (m : Int)) (((m + l.length : Nat) : Int), iota m l.length) :=
  markI_l0 l.length m hb hm _ 0 l rfl (Nat.zero_le _) rfl (fun j h => absurd h (Nat.not_lt_zero _))

theorem heldI_l0 (n m : Nat) (hb : n ≤ 17592186044415) (hm : m ≤ 17592186044415) : ∀ d i, n - i = d → i ≤ n → Ev (fun k => laws_heldInt64S.l0 k (iota m n) ((m + i : Nat) : Int) (i : Int)) ((m + n : Nat) : Int) := by
  intro d
  induction d with
  | zero =>
    intro i hd hi
    obtain rfl : i = n := by omega
    refine Ev.step (f := fun _ => some (((m + i : Nat) : Int))) (fun k => ?_) (Ev.now _)
    rw [laws_heldInt64S.l0, iota_len, if_neg (by omega)]
  | succ d ih =>
    intro i hd hi
    refine Ev.step (fun k => ?_) (ih (i + 1) (by omega) (by omega))
    rw [laws_heldInt64S.l0, iota_len, if_pos (by omega), if_pos (by omega), rdN, iota_at m n i (by omega), if_pos rfl, wN i (by omega), wN (m + i) (by omega)]; rfl
/-- What was marked is found again. -/
theorem heldI (n m : Nat) (hb : n ≤ 17592186044415) (hm : m ≤ 17592186044415) : Ev (fun k => laws_heldInt64S.f k (iota m n) (m : Int)) ((m + n : Nat) : Int) :=
  heldI_l0 n m hb hm _ 0 rfl (Nat.zero_le _)

set_option linter.unusedVariables false
set_option linter.unusedSimpArgs false

theorem inF (a lo hi : Int) : spec_l00In.f a lo hi = some (decide (lo ≤ a) && decide (a ≤ hi)) := by
  unfold spec_l00In.f; by_cases h : lo ≤ a <;> simp [h]
theorem withinF (a lo hi : Int) : impl_within.f a lo hi = some (decide (lo ≤ a) && decide (a ≤ hi)) := by
  unfold impl_within.f; by_cases h : lo ≤ a <;> simp [h]

/-- Values are valid: one to eight, rising, each from 1 to 500. -/
def VV (l : List Int) : Prop :=
  1 ≤ l.length ∧ l.length ≤ 8 ∧ (∀ j, j < l.length → 1 ≤ l.getD j 0 ∧ l.getD j 0 ≤ 500) ∧ (∀ j, 0 < j → j < l.length → l.getD (j - 1) 0 < l.getD j 0)

theorem specVV_l0 (l : List Int) (hb : l.length ≤ 17592186044415) : ∀ d i, l.length - i = d → i ≤ l.length →
    ∃ r, Ev (fun k => spec_l01Values.l0 k l (i : Int)) r ∧ (r = true ↔ (∀ j, i ≤ j → j < l.length → (1 ≤ l.getD j 0 ∧ l.getD j 0 ≤ 500) ∧ (0 < j → l.getD (j - 1) 0 < l.getD j 0)) ∧ 1 ≤ l.length ∧ l.length ≤ 8) := by
  intro d
  induction d with
  | zero =>
    intro i hd hi
    refine ⟨decide (1 ≤ l.length) && decide (l.length ≤ 8), Ev.step (f := fun _ => some (decide (1 ≤ l.length) && decide (l.length ≤ 8))) (fun k => ?_) (Ev.now _), ?_⟩
    · rw [spec_l01Values.l0, if_neg (by omega), inF, Option.bind_some]
      congr 2 <;> (rw [decide_eq_decide]; omega)
    · simp only [Bool.and_eq_true, decide_eq_true_eq]
      exact ⟨fun h => ⟨fun j h1 h2 => by omega, h⟩, fun h => h.2⟩
  | succ d ih =>
    intro i hd hi
    have hlt : i < l.length := by omega
    by_cases hin : 1 ≤ l.getD i 0 ∧ l.getD i 0 ≤ 500
    · have e1 : (decide (1 ≤ l.getD i 0) && decide (l.getD i 0 ≤ 500)) = true := by simp only [hin.1, hin.2, decide_true, Bool.and_self]
      rcases Nat.eq_zero_or_pos i with h0 | h0
      · subst h0
        obtain ⟨r, hr, hi'⟩ := ih 1 (by omega) (by omega)
        refine ⟨r, Ev.step (fun k => ?_) hr, ?_⟩
        · rw [spec_l01Values.l0, if_pos (by omega), if_pos (by omega), rdN, inF, Option.bind_some, if_pos e1, if_neg (by omega), wN 0 (by omega)]
        · rw [hi']
          refine ⟨fun h => ⟨fun j h1 h2 => ?_, h.2⟩, fun h => ⟨fun j h1 h2 => h.1 j (by omega) h2, h.2⟩⟩
          rcases Nat.eq_zero_or_pos j with e | e
          · subst e; exact ⟨hin, fun h => absurd h (Nat.lt_irrefl 0)⟩
          · exact h.1 j e h2
      · have e2 : wrap64 ((i : Int) - 1) = ((i - 1 : Nat) : Int) := by rw [w64 (by omega) (by omega)]; omega
        by_cases hle : l.getD i 0 ≤ l.getD (i - 1) 0
        · refine ⟨false, Ev.step (f := fun _ => some false) (fun k => ?_) (Ev.now _), ?_⟩
          · rw [spec_l01Values.l0, if_pos (by omega), if_pos (by omega), rdN, inF, Option.bind_some, if_pos e1, if_pos (by omega), e2, if_pos (by omega), if_pos (by omega), rdN, if_pos hle]
          · simp only [Bool.false_eq_true, false_iff]
            intro h
            have := (h.1 i (Nat.le_refl _) hlt).2 h0
            omega
        · obtain ⟨r, hr, hi'⟩ := ih (i + 1) (by omega) (by omega)
          refine ⟨r, Ev.step (fun k => ?_) hr, ?_⟩
          · rw [spec_l01Values.l0, if_pos (by omega), if_pos (by omega), rdN, inF, Option.bind_some, if_pos e1, if_pos (by omega), e2, if_pos (by omega), if_pos (by omega), rdN, if_neg hle, wN i (by omega)]
          · rw [hi']
            refine ⟨fun h => ⟨fun j h1 h2 => ?_, h.2⟩, fun h => ⟨fun j h1 h2 => h.1 j (by omega) h2, h.2⟩⟩
            rcases Nat.eq_or_lt_of_le h1 with e | e
            · subst e; exact ⟨hin, fun _ => by omega⟩
            · exact h.1 j e h2
    · have e1 : ¬ ((decide (1 ≤ l.getD i 0) && decide (l.getD i 0 ≤ 500)) = true) := by simpa using hin
      refine ⟨false, Ev.step (f := fun _ => some false) (fun k => ?_) (Ev.now _), ?_⟩
      · rw [spec_l01Values.l0, if_pos (by omega), if_pos (by omega), rdN, inF, Option.bind_some, if_neg e1]
      · simp only [Bool.false_eq_true, false_iff]
        intro h
        exact hin (h.1 i (Nat.le_refl _) hlt).1

theorem specVV (l : List Int) (hb : l.length ≤ 17592186044415) : ∃ r, Ev (fun k => spec_l01Values.f k l) r ∧ (r = true ↔ VV l) := by
  obtain ⟨r, hr, hi⟩ := specVV_l0 l hb _ 0 rfl (Nat.zero_le _)
  refine ⟨r, hr, hi.trans ⟨fun h => ⟨h.2.1, h.2.2, fun j hj => (h.1 j (Nat.zero_le _) hj).1, fun j h0 hj => (h.1 j (Nat.zero_le _) hj).2 h0⟩, fun h => ⟨fun j _ hj => ⟨h.2.2.1 j hj, fun h0 => h.2.2.2 j h0 hj⟩, h.1, h.2.1⟩⟩⟩

theorem rising_l0 (l : List Int) (hb : l.length ≤ 17592186044415) : ∀ d i, l.length - i = d → 1 ≤ i →
    ∃ r, Ev (fun k => impl_isRising.l0 k l (i : Int)) r ∧ (r = true ↔ (∀ j, i ≤ j → j < l.length → l.getD (j - 1) 0 < l.getD j 0)) := by
  intro d
  induction d with
  | zero =>
    intro i hd h1
    refine ⟨true, Ev.step (f := fun _ => some true) (fun k => ?_) (Ev.now _), ?_⟩
    · rw [impl_isRising.l0, if_neg (by omega)]
    · exact ⟨fun _ j h1 h2 => by omega, fun _ => rfl⟩
  | succ d ih =>
    intro i hd h1
    have hlt : i < l.length := by omega
    have e2 : wrap64 ((i : Int) - 1) = ((i - 1 : Nat) : Int) := by rw [w64 (by omega) (by omega)]; omega
    by_cases hle : l.getD i 0 ≤ l.getD (i - 1) 0
    · refine ⟨false, Ev.step (f := fun _ => some false) (fun k => ?_) (Ev.now _), ?_⟩
      · rw [impl_isRising.l0, if_pos (by omega), if_pos (by omega), e2, if_pos (by omega), if_pos (by omega), rdN, rdN, if_pos hle]
      · simp only [Bool.false_eq_true, false_iff]
        intro h
        have := h i (Nat.le_refl _) hlt
        omega
    · obtain ⟨r, hr, hi'⟩ := ih (i + 1) (by omega) (by omega)
      refine ⟨r, Ev.step (fun k => ?_) hr, ?_⟩
      · rw [impl_isRising.l0, if_pos (by omega), if_pos (by omega), e2, if_pos (by omega), if_pos (by omega), rdN, rdN, if_neg hle, wN i (by omega)]
      · rw [hi']
        refine ⟨fun h j h1 h2 => ?_, fun h j h1 h2 => h j (by omega) h2⟩
        rcases Nat.eq_or_lt_of_le h1 with e | e
        · subst e; omega
        · exact h j e h2
/-- Whether numbers rise. -/
theorem risingI (l : List Int) (hb : l.length ≤ 17592186044415) : ∃ r, Ev (fun k => impl_isRising.f k l) r ∧ (r = true ↔ (∀ j, 0 < j → j < l.length → l.getD (j - 1) 0 < l.getD j 0)) :=
  rising_l0 l hb _ 1 rfl (Nat.le_refl _)

theorem all_getD (p : Int → Bool) (l : List Int) : l.all p = true ↔ ∀ j, j < l.length → p (l.getD j 0) = true := by
  rw [List.all_eq_true]
  constructor
  · exact fun h j hj => h _ (getD_mem l j hj)
  · intro h x hx
    obtain ⟨j, hj, e⟩ := List.getElem_of_mem hx
    have := h j hj
    rwa [getD_eq l j hj, e] at this

theorem implVV (l : List Int) (hb : l.length ≤ 17592186044415) : ∃ r, Ev (fun k => impl_ValidValues.f k l) r ∧ (r = true ↔ VV l) := by
  obtain ⟨r, hr, hi⟩ := risingI l hb
  obtain ⟨K, hr⟩ := EvG hr
  have hs : impl_size_int64.f l = some (l.length : Int) := rfl
  by_cases h1 : 1 ≤ l.length ∧ l.length ≤ 8
  · have e1 : (decide ((1 : Int) ≤ (l.length : Int)) && decide ((l.length : Int) ≤ 8)) = true := by
      simp only [Bool.and_eq_true, decide_eq_true_eq]; omega
    by_cases h2 : (l.all fun x => decide (1 ≤ x) && decide (x ≤ 500)) = true
    · refine ⟨r, EvI K fun k hk => ?_, ?_⟩
      · rw [impl_ValidValues.f, hs, Option.bind_some, withinF, Option.bind_some, if_pos e1, impl_areWithin.f, Option.bind_some, if_pos h2, hr k hk]; rfl
      · rw [hi]
        rw [all_getD] at h2
        refine ⟨fun h => ⟨h1.1, h1.2, fun j hj => by simpa using h2 j hj, h⟩, fun h => h.2.2.2⟩
    · refine ⟨false, EvI 0 fun k hk => ?_, ?_⟩
      · rw [impl_ValidValues.f, hs, Option.bind_some, withinF, Option.bind_some, if_pos e1, impl_areWithin.f, Option.bind_some, if_neg h2]
      · simp only [Bool.false_eq_true, false_iff]
        intro h
        rw [all_getD] at h2
        exact h2 fun j hj => by simpa using h.2.2.1 j hj
  · have e1 : ¬ ((decide ((1 : Int) ≤ (l.length : Int)) && decide ((l.length : Int) ≤ 8)) = true) := by
      simp only [Bool.and_eq_true, decide_eq_true_eq]; omega
    refine ⟨false, EvI 0 fun k hk => ?_, ?_⟩
    · rw [impl_ValidValues.f, hs, Option.bind_some, withinF, Option.bind_some, if_neg e1]
    · simp only [Bool.false_eq_true, false_iff]
      exact fun h => h1 ⟨h.1, h.2.1⟩

/-- Both say the same of values. -/
theorem bothVV (l : List Int) (hb : l.length ≤ 17592186044415) : ∃ r, Ev (fun k => spec_l01Values.f k l) r ∧ Ev (fun k => impl_ValidValues.f k l) r ∧ (r = true ↔ VV l) := by
  obtain ⟨r, h1, h2⟩ := specVV l hb
  obtain ⟨r', h1', h2'⟩ := implVV l hb
  obtain rfl : r = r' := by rw [Bool.eq_iff_iff, h2, h2']
  exact ⟨r, h1, h1', h2⟩

/-- Both give the same code to values and a number from 0 on: 0 just where all is well. -/
theorem bothCode (l : List Int) (n most : Int) (hb : l.length ≤ 17592186044415) : ∃ c, Ev (fun k => spec_l01Asked.f k l (decide (0 ≤ n) && decide (n ≤ most))) c ∧ Ev (fun k => impl_valuesCode.f k l n most) c ∧ (c = 0 ↔ VV l ∧ 0 ≤ n ∧ n ≤ most) := by
  obtain ⟨r, h1, h2, h3⟩ := bothVV l hb
  obtain ⟨K1, h1⟩ := EvG h1
  obtain ⟨K2, h2⟩ := EvG h2
  cases r with
  | false =>
    refine ⟨1, EvI K1 fun k hk => ?_, EvI K2 fun k hk => ?_, ?_⟩
    · rw [spec_l01Asked.f, h1 k hk]; rfl
    · rw [impl_valuesCode.f, h2 k hk]; rfl
    · constructor
      · intro h; cases h
      · intro h; exact absurd (h3.2 h.1) (by simp)
  | true =>
    have hv := h3.1 rfl
    by_cases hn : 0 ≤ n ∧ n ≤ most
    · have e : (decide (0 ≤ n) && decide (n ≤ most)) = true := by simp [hn.1, hn.2]
      refine ⟨0, EvI K1 fun k hk => ?_, EvI K2 fun k hk => ?_, ⟨fun _ => ⟨hv, hn.1, hn.2⟩, fun _ => rfl⟩⟩
      · rw [spec_l01Asked.f, h1 k hk, e]; rfl
      · rw [impl_valuesCode.f, h2 k hk, Option.bind_some, if_pos rfl, withinF, Option.bind_some, e]; rfl
    · have e : (decide (0 ≤ n) && decide (n ≤ most)) = false := by
        rw [Bool.eq_false_iff]; intro h; simp at h; exact hn h
      refine ⟨2, EvI K1 fun k hk => ?_, EvI K2 fun k hk => ?_, ?_⟩
      · rw [spec_l01Asked.f, h1 k hk, e]; rfl
      · rw [impl_valuesCode.f, h2 k hk, Option.bind_some, if_pos rfl, withinF, Option.bind_some, e]; rfl
      · constructor
        · intro h; cases h
        · intro h; exact absurd h.2 hn
theorem postageF (n : Int) : spec_l01Postage.f n = some (decide (0 ≤ n) && decide (n ≤ 1000)) := by
  rw [spec_l01Postage.f, inF]; rfl

set_option linter.unusedVariables false
set_option linter.unusedSimpArgs false

/-- One value more is tried for the amount a: L tells the fewest stamps of lesser amounts. -/
def stp (L : List Int) (a : Nat) (b v : Int) : Int :=
  if v ≤ a ∧ 0 ≤ L.getD (a - v.toNat) 0 ∧ (b < 0 ∨ L.getD (a - v.toNat) 0 + 1 < b) then L.getD (a - v.toNat) 0 + 1 else b
/-- The fewest stamps for each amount up to n. -/
def fewL (vs : List Int) : Nat → List Int
  | 0 => [0]
  | n + 1 => fewL vs n ++ [vs.foldl (stp (fewL vs n) (n + 1)) (-1)]
theorem fewL_len (vs : List Int) (n : Nat) : (fewL vs n).length = n + 1 := by
  induction n with
  | zero => rfl
  | succ n ih => simp [fewL, ih]
def fw (vs : List Int) (a : Nat) : Int := (fewL vs a).getD a 0
theorem fewL_at (vs : List Int) (n j : Nat) (h : j ≤ n) : (fewL vs n).getD j 0 = fw vs j := by
  induction n with
  | zero => obtain rfl : j = 0 := by omega
            rfl
  | succ n ih =>
    rcases Nat.eq_or_lt_of_le h with e | e
    · subst e; rfl
    · rw [fewL, ← ih (by omega)]
      simp only [List.getD_eq_getElem?_getD]
      rw [List.getElem?_append_left (by rw [fewL_len]; omega)]
theorem fw_zero (vs : List Int) : fw vs 0 = 0 := rfl
theorem fw_succ (vs : List Int) (n : Nat) : fw vs (n + 1) = vs.foldl (stp (fewL vs n) (n + 1)) (-1) := by
  rw [fw, fewL]
  simp only [List.getD_eq_getElem?_getD]
  rw [List.getElem?_append_right (by rw [fewL_len]; omega), fewL_len]
  simp
theorem drop_step (l : List Int) (i : Nat) (h : i < l.length) : l.drop i = l.getD i 0 :: l.drop (i + 1) := by
  rw [List.drop_eq_getElem_cons h, getD_eq l i h]

/-- What holds of both choices, step by step. -/
theorem fold_ind (P : Int → Prop) (L : List Int) (a : Nat) (vs : List Int) (b : Int) (hb : P b) (hs : ∀ v, v ∈ vs → v ≤ a → 0 ≤ L.getD (a - v.toNat) 0 → P (L.getD (a - v.toNat) 0 + 1)) : P (vs.foldl (stp L a) b) := by
  induction vs generalizing b with
  | nil => exact hb
  | cons v vs ih =>
    rw [List.foldl_cons]
    refine ih _ ?_ (fun u hu => hs u (List.mem_cons_of_mem _ hu))
    unfold stp
    split
    · rename_i h; exact hs v List.mem_cons_self h.1 h.2.1
    · exact hb
theorem fold_keep (L : List Int) (a : Nat) (vs : List Int) (b : Int) (hb : 0 ≤ b) : 0 ≤ vs.foldl (stp L a) b ∧ vs.foldl (stp L a) b ≤ b := by
  induction vs generalizing b with
  | nil => exact ⟨hb, Int.le_refl b⟩
  | cons v vs ih =>
    rw [List.foldl_cons]
    have h1 : 0 ≤ stp L a b v ∧ stp L a b v ≤ b := by unfold stp; split <;> omega
    have h2 := ih (stp L a b v) h1.1
    omega
/-- Where some value serves, the fold finds one as good. -/
theorem fold_found (L : List Int) (a : Nat) (vs : List Int) (b v : Int) (hv : v ∈ vs) (h1 : v ≤ a) (h2 : 0 ≤ L.getD (a - v.toNat) 0) : 0 ≤ vs.foldl (stp L a) b ∧ vs.foldl (stp L a) b ≤ L.getD (a - v.toNat) 0 + 1 := by
  induction vs generalizing b with
  | nil => cases hv
  | cons u vs ih =>
    rw [List.foldl_cons]
    rcases List.mem_cons.1 hv with e | e
    · subst e
      have h3 : 0 ≤ stp L a b v ∧ stp L a b v ≤ L.getD (a - v.toNat) 0 + 1 := by unfold stp; split <;> omega
      have h4 := fold_keep L a vs _ h3.1
      omega
    · exact ih _ e

/-- Values of 1 to 500. -/
def InR (vs : List Int) : Prop := ∀ v, v ∈ vs → 1 ≤ v ∧ v ≤ 500
theorem VV.inR {l : List Int} (h : VV l) : InR l := by
  intro v hv
  obtain ⟨j, hj, e⟩ := List.getElem_of_mem hv
  have := h.2.2.1 j hj
  rwa [getD_eq l j hj, e] at this

theorem fw_lo (vs : List Int) (n : Nat) : -1 ≤ fw vs n := by
  cases n with
  | zero => rw [fw_zero]; omega
  | succ n => rw [fw_succ]; exact fold_ind (fun x => -1 ≤ x) _ _ _ _ (Int.le_refl _) (fun v _ _ h => by omega)
/-- No more stamps than the amount; each of at most 500. -/
theorem fw_bd (vs : List Int) (hvs : InR vs) (n : Nat) : fw vs n ≤ n ∧ (0 ≤ fw vs n → (n : Int) ≤ 500 * fw vs n) := by
  induction n using Nat.strongRecOn with
  | _ n ih =>
    cases n with
    | zero => rw [fw_zero]; omega
    | succ n =>
      rw [fw_succ]
      refine fold_ind (fun x => x ≤ ((n + 1 : Nat) : Int) ∧ (0 ≤ x → ((n + 1 : Nat) : Int) ≤ 500 * x)) _ _ _ _ ⟨by omega, fun h => absurd h (by omega)⟩ (fun v hv h1 h2 => ?_)
      obtain ⟨h3, h4⟩ := hvs v hv
      rw [fewL_at vs n _ (by omega)] at h2 ⊢
      have h5 := ih (n + 1 - v.toNat) (by omega)
      have h6 := h5.2 h2
      constructor
      · omega
      · intro _; omega
theorem fewL_bd (vs : List Int) (hvs : InR vs) (n j : Nat) : (fewL vs n).getD j 0 ≤ n := by
  rcases Nat.lt_or_ge n j with h | h
  · rw [List.getD_eq_getElem?_getD, List.getElem?_eq_none (by rw [fewL_len]; omega)]
    simp
  · rw [fewL_at vs n j h]
    have := (fw_bd vs hvs j).1
    omega

set_option linter.unusedVariables false
set_option linter.unusedSimpArgs false

theorem lf_l0 (vs : List Int) (hvs : InR vs) (hn : vs.length ≤ 1000) (L : List Int) (a : Nat) (ha : a ≤ 1000000) (hL : a ≤ L.length) (hLb : ∀ j, L.getD j 0 ≤ 1000000) : ∀ d i b, vs.length - i = d → i ≤ vs.length →
    Ev (fun k => impl_leastFor.l0 k L (a : Int) b vs (vs.length : Int) (i : Int)) ((vs.drop i).foldl (stp L a) b) := by
  intro d
  induction d with
  | zero =>
    intro i b hd hi
    rw [List.drop_eq_nil_of_le (by omega)]
    refine Ev.step (f := fun _ => some b) (fun k => ?_) (Ev.now b)
    rw [impl_leastFor.l0, if_neg (by omega)]
  | succ d ih =>
    intro i b hd hi
    have hlt : i < vs.length := by omega
    rw [drop_step vs i hlt, List.foldl_cons]
    refine Ev.step (fun k => ?_) (ih (i + 1) (stp L a b (vs.getD i 0)) (by omega) (by omega))
    obtain ⟨h1, h2⟩ := hvs _ (getD_mem vs i hlt)
    obtain ⟨v, hv⟩ : ∃ v : Nat, vs.getD i 0 = (v : Int) := ⟨(vs.getD i 0).toNat, by omega⟩
    rw [impl_leastFor.l0, if_pos (by omega), if_pos (by omega), if_pos (by omega), rdN, hv, wN i (by omega)]
    unfold stp
    rw [Int.toNat_natCast]
    by_cases hva : (v : Int) ≤ a
    · have e : wrap64 ((a : Int) - (v : Int)) = ((a - v : Nat) : Int) := by rw [w64 (by omega) (by omega)]; omega
      rw [if_pos hva, e, if_pos (by omega), if_pos (by omega), rdN]
      have hb := hLb (a - v)
      by_cases h0 : L.getD (a - v) 0 ≥ 0
      · rw [if_pos h0, w64 (by omega) (by omega)]
        by_cases hb0 : b < 0
        · rw [if_pos hb0, if_pos ⟨hva, h0, .inl hb0⟩]
        · rw [if_neg hb0]
          by_cases hb1 : L.getD (a - v) 0 + 1 < b
          · rw [if_pos hb1, if_pos ⟨hva, h0, .inr hb1⟩]
          · rw [if_neg hb1, if_neg (fun h => by omega)]
      · rw [if_neg h0, if_neg (fun h => h0 h.2.1)]
    · rw [if_neg hva, if_neg (fun h => hva h.1)]
theorem lf (vs : List Int) (hvs : InR vs) (hn : vs.length ≤ 1000) (n : Nat) (ha : n ≤ 900000) : Ev (fun k => impl_leastFor.f k vs (fewL vs n) (((n + 1 : Nat)) : Int)) (fw vs (n + 1)) := by
  rw [fw_succ]
  exact lf_l0 vs hvs hn (fewL vs n) (n + 1) (by omega) (by rw [fewL_len]; omega) (fun j => by have := fewL_bd vs hvs n j; omega) _ 0 (-1) rfl (Nat.zero_le _)

set_option linter.unusedVariables false
set_option linter.unusedSimpArgs false

theorem sr_l1 (vs : List Int) (hvs : InR vs) (hn : vs.length ≤ 1000) (st : Int) (n : Nat) (ha : n ≤ 900000) (r : Int)
    (H : Ev (fun k => if fw vs (n + 1) < 0 then some (wrap64 (((n + 1 : Nat) : Int) - 1)) else if fw vs (n + 1) > st then some (wrap64 (((n + 1 : Nat) : Int) - 1)) else if (fewL vs n).length < 17592186044416 then spec_l01Reach.l0 k vs st (fewL vs n ++ [fw vs (n + 1)]) (wrap64 (((n + 1 : Nat) : Int) + 1)) else none) r) :
    ∀ d i (b : Int), vs.length - i = d → i ≤ vs.length → (vs.drop i).foldl (stp (fewL vs n) (n + 1)) b = fw vs (n + 1) →
    Ev (fun k => spec_l01Reach.l1 k vs st (fewL vs n) ((n + 1 : Nat) : Int) b (i : Int)) r := by
  intro d
  induction d with
  | zero =>
    intro i b hd hi hf
    rw [List.drop_eq_nil_of_le (by omega)] at hf
    obtain rfl : b = fw vs (n + 1) := hf
    refine Ev.step (fun k => ?_) H
    rw [spec_l01Reach.l1, if_neg (by omega)]
  | succ d ih =>
    intro i b hd hi hf
    have hlt : i < vs.length := by omega
    rw [drop_step vs i hlt, List.foldl_cons] at hf
    have hi' := ih (i + 1) _ (by omega) (by omega) hf
    refine Ev.step (fun k => ?_) hi'
    obtain ⟨h1, h2⟩ := hvs _ (getD_mem vs i hlt)
    obtain ⟨v, hv⟩ : ∃ v : Nat, vs.getD i 0 = (v : Int) := ⟨(vs.getD i 0).toNat, by omega⟩
    rw [spec_l01Reach.l1, if_pos (by omega), if_pos (by omega), rdN, hv, wN i (by omega)]
    unfold stp
    rw [Int.toNat_natCast]
    by_cases hva : (v : Int) ≤ ((n + 1 : Nat) : Int)
    · have e : wrap64 (((n + 1 : Nat) : Int) - (v : Int)) = ((n + 1 - v : Nat) : Int) := by rw [w64 (by omega) (by omega)]; omega
      have hbd := fewL_bd vs hvs n (n + 1 - v)
      rw [if_pos hva, e, if_pos (by omega), if_pos (by rw [fewL_len]; omega), rdN]
      by_cases h0 : (fewL vs n).getD (n + 1 - v) 0 ≥ 0
      · rw [if_pos h0, w64 (by omega) (by omega)]
        by_cases hb0 : b < 0
        · rw [if_pos hb0, if_pos ⟨hva, h0, .inl hb0⟩]
        · rw [if_neg hb0]
          by_cases hb1 : (fewL vs n).getD (n + 1 - v) 0 + 1 < b
          · rw [if_pos hb1, if_pos ⟨hva, h0, .inr hb1⟩]
          · rw [if_neg hb1, if_neg (fun h => by omega)]
      · rw [if_neg h0, if_neg (fun h => h0 h.2.1)]
    · rw [if_neg hva, if_neg (fun h => hva h.1)]
theorem reach_l0 (vs : List Int) (hvs : InR vs) (hn : vs.length ≤ 1000) (st : Int) (hst : st ≤ 12) : ∀ d n, 6001 - n = d → n ≤ 6001 →
    ∃ r, Ev (fun k => spec_l01Reach.l0 k vs st (fewL vs n) ((n + 1 : Nat) : Int)) r ∧ Ev (fun k => impl_reach.l0 k vs st (fewL vs n) ((n + 1 : Nat) : Int)) r := by
  intro d
  induction d with
  | zero =>
    intro n hd hn2
    have hb := fw_bd vs hvs (n + 1)
    obtain ⟨K, hk⟩ := EvG (lf vs hvs hn n (by omega))
    have hor : fw vs (n + 1) < 0 ∨ fw vs (n + 1) > st := by omega
    refine ⟨wrap64 (((n + 1 : Nat) : Int) - 1), Ev.step (fun k => ?_) (sr_l1 vs hvs hn st n (by omega) _ ?_ _ 0 (-1) rfl (Nat.zero_le _) (fw_succ vs n).symm), EvI (K + 1) fun k hk2 => ?_⟩
    · rw [spec_l01Reach.l0]; rfl
    · refine EvI 0 fun k _ => ?_
      split
      · rfl
      · rw [if_pos (by omega)]
    · obtain ⟨k, rfl⟩ : ∃ m, k = m + 1 := ⟨k - 1, by omega⟩
      rw [impl_reach.l0, hk k (by omega), Option.bind_some]
      split
      · rfl
      · rw [if_pos (by omega)]
  | succ d ih =>
    intro n hd hn2
    obtain ⟨K, hk⟩ := EvG (lf vs hvs hn n (by omega))
    by_cases hor : fw vs (n + 1) < 0 ∨ fw vs (n + 1) > st
    · refine ⟨wrap64 (((n + 1 : Nat) : Int) - 1), Ev.step (fun k => ?_) (sr_l1 vs hvs hn st n (by omega) _ ?_ _ 0 (-1) rfl (Nat.zero_le _) (fw_succ vs n).symm), EvI (K + 1) fun k hk2 => ?_⟩
      · rw [spec_l01Reach.l0]; rfl
      · refine EvI 0 fun k _ => ?_
        split
        · rfl
        · rw [if_pos (by omega)]
      · obtain ⟨k, rfl⟩ : ∃ m, k = m + 1 := ⟨k - 1, by omega⟩
        rw [impl_reach.l0, hk k (by omega), Option.bind_some]
        split
        · rfl
        · rw [if_pos (by omega)]
    · obtain ⟨r, h1, h2⟩ := ih (n + 1) (by omega) (by omega)
      have e : fewL vs n ++ [fw vs (n + 1)] = fewL vs (n + 1) := by rw [fw_succ]; rfl
      obtain ⟨K2, h2⟩ := EvG h2
      refine ⟨r, Ev.step (fun k => ?_) (sr_l1 vs hvs hn st n (by omega) r (Ev.congr (fun k => ?_) h1) _ 0 (-1) rfl (Nat.zero_le _) (fw_succ vs n).symm), EvI (K + K2 + 1) fun k hk2 => ?_⟩
      · rw [spec_l01Reach.l0]; rfl
      · rw [if_neg (by omega), if_neg (by omega), if_pos (by rw [fewL_len]; omega), e, wN (n + 1) (by omega)]
      · obtain ⟨k, rfl⟩ : ∃ m, k = m + 1 := ⟨k - 1, by omega⟩
        rw [impl_reach.l0, hk k (by omega), Option.bind_some, if_neg (by omega), if_neg (by omega), if_pos (by rw [fewL_len]; omega), e, wN (n + 1) (by omega)]
        exact h2 k (by omega)
theorem bothReach (vs : List Int) (hvs : InR vs) (hn : vs.length ≤ 1000) (st : Int) (hst : st ≤ 12) : ∃ r, Ev (fun k => spec_l01Reach.f k vs st) r ∧ Ev (fun k => impl_reach.f k vs st) r :=
  reach_l0 vs hvs hn st hst _ 0 rfl (by omega)

set_option linter.unusedVariables false
set_option linter.unusedSimpArgs false

theorem has_l0 (l : List Int) (v : Int) (hb : l.length ≤ 1000) : ∀ d i, l.length - i = d → i ≤ l.length →
    ∃ r : Int, -1 ≤ r ∧ Ev (fun k => spec_l00Has.l0 k l v (i : Int)) (decide (r ≥ 0)) ∧ Ev (fun k => slices_Index_int64_int64.l0 k l v (l.length : Int) (i : Int)) r := by
  intro d
  induction d with
  | zero =>
    intro i hd hi
    refine ⟨-1, by omega, Ev.step (f := fun _ => some false) (fun k => ?_) (Ev.now _), Ev.step (f := fun _ => some (-1)) (fun k => ?_) (Ev.now _)⟩
    · rw [spec_l00Has.l0, if_neg (by omega)]
    · rw [slices_Index_int64_int64.l0, if_neg (by omega)]
  | succ d ih =>
    intro i hd hi
    by_cases e : l.getD i 0 = v
    · refine ⟨(i : Int), by omega, Ev.step (f := fun _ => some (decide ((i : Int) ≥ 0))) (fun k => ?_) (Ev.now _), Ev.step (f := fun _ => some (i : Int)) (fun k => ?_) (Ev.now _)⟩
      · rw [spec_l00Has.l0, if_pos (by omega), if_pos (by omega), rdN, if_pos e, decide_eq_true (by omega : (i : Int) ≥ 0)]
      · rw [slices_Index_int64_int64.l0, if_pos (by omega), if_pos (by omega), if_pos (by omega), rdN, if_pos e.symm]
    · obtain ⟨r, h0, h1, h2⟩ := ih (i + 1) (by omega) (by omega)
      refine ⟨r, h0, Ev.step (fun k => ?_) h1, Ev.step (fun k => ?_) h2⟩
      · rw [spec_l00Has.l0, if_pos (by omega), if_pos (by omega), rdN, if_neg e, wN i (by omega)]
      · rw [slices_Index_int64_int64.l0, if_pos (by omega), if_pos (by omega), if_pos (by omega), rdN, if_neg (fun q => e q.symm), wN i (by omega)]
theorem bothHas (l : List Int) (v : Int) (hb : l.length ≤ 1000) : ∃ r, Ev (fun k => spec_l00Has.f k l v) r ∧ Ev (fun k => slices_Contains_int64_int64.f k l v) r := by
  obtain ⟨r, h0, h1, h2⟩ := has_l0 l v hb _ 0 rfl (Nat.zero_le _)
  obtain ⟨K2, h2⟩ := EvG h2
  refine ⟨_, h1, EvI K2 fun k hk => ?_⟩
  rw [slices_Contains_int64_int64.f, slices_Index_int64_int64.f, show (0 : Int) = ((0 : Nat) : Int) from rfl, h2 k hk, Option.bind_some]

theorem best_l0 (l : List Int) (st : Int) (hvs : InR l) (hb : l.length ≤ 8) (hst : st ≤ 12) : ∀ d v b m, 501 - v = d → 1 ≤ v → v ≤ 501 →
    ∃ r, Ev (fun k => spec_BestValue.l0 k l st b m ((v : Nat) : Int)) r ∧ Ev (fun k => impl_BestValue.l0 k l st b m ((v : Nat) : Int)) r := by
  intro d
  induction d with
  | zero =>
    intro v b m hd h1 hi
    refine ⟨(b, m, 0), Ev.step (f := fun _ => some (b, m, 0)) (fun k => ?_) (Ev.now _), Ev.step (f := fun _ => some (b, m, 0)) (fun k => ?_) (Ev.now _)⟩
    · rw [spec_BestValue.l0, if_neg (by omega)]
    · rw [impl_BestValue.l0, if_neg (by omega)]
  | succ d ih =>
    intro v b m hd h1 hi
    obtain ⟨c, e1, e2⟩ := bothHas l v (by omega)
    obtain ⟨K1, e1⟩ := EvG e1
    obtain ⟨K2, e2⟩ := EvG e2
    cases c with
    | true =>
      obtain ⟨r, h3, h4⟩ := ih (v + 1) b m (by omega) (by omega) (by omega)
      obtain ⟨K3, h3⟩ := EvG h3
      obtain ⟨K4, h4⟩ := EvG h4
      refine ⟨r, EvI (K1 + K3 + 1) fun k hk => ?_, EvI (K2 + K4 + 1) fun k hk => ?_⟩
      · obtain ⟨k, rfl⟩ : ∃ q, k = q + 1 := ⟨k - 1, by omega⟩
        rw [spec_BestValue.l0, if_pos (by omega), e1 k (by omega), Option.bind_some, if_pos rfl, wN v (by omega)]; exact h3 k (by omega)
      · obtain ⟨k, rfl⟩ : ∃ q, k = q + 1 := ⟨k - 1, by omega⟩
        rw [impl_BestValue.l0, if_pos (by omega), e2 k (by omega), Option.bind_some, if_pos rfl, wN v (by omega)]; exact h4 k (by omega)
    | false =>
      have hvs2 : InR (l ++ [(v : Int)]) := by
        intro x hx
        rcases List.mem_append.1 hx with hx | hx
        · exact hvs x hx
        · rw [List.mem_singleton.1 hx]; omega
      obtain ⟨n, h5, h6⟩ := bothReach (l ++ [(v : Int)]) hvs2 (by simp; omega) st hst
      obtain ⟨K5, h5⟩ := EvG h5
      obtain ⟨K6, h6⟩ := EvG h6
      by_cases hm : n > m
      · obtain ⟨r, h3, h4⟩ := ih (v + 1) v n (by omega) (by omega) (by omega)
        obtain ⟨K3, h3⟩ := EvG h3
        obtain ⟨K4, h4⟩ := EvG h4
        refine ⟨r, EvI (K1 + K3 + K5 + 1) fun k hk => ?_, EvI (K2 + K4 + K6 + 1) fun k hk => ?_⟩
        · obtain ⟨k, rfl⟩ : ∃ q, k = q + 1 := ⟨k - 1, by omega⟩
          rw [spec_BestValue.l0, if_pos (by omega), e1 k (by omega), Option.bind_some, if_neg (by simp), Option.bind_some, if_pos (by simp; omega), Option.bind_some, List.nil_append, if_pos (by omega), h5 k (by omega), Option.bind_some, if_pos hm, wN v (by omega)]; exact h3 k (by omega)
        · obtain ⟨k, rfl⟩ : ∃ q, k = q + 1 := ⟨k - 1, by omega⟩
          rw [impl_BestValue.l0, if_pos (by omega), e2 k (by omega), Option.bind_some, if_neg (by simp), slices_Clone_int64_int64.f, Option.bind_some, if_pos (by simp; omega), Option.bind_some, List.nil_append, if_pos (by omega), h6 k (by omega), Option.bind_some, if_pos hm, wN v (by omega)]; exact h4 k (by omega)
      · obtain ⟨r, h3, h4⟩ := ih (v + 1) b m (by omega) (by omega) (by omega)
        obtain ⟨K3, h3⟩ := EvG h3
        obtain ⟨K4, h4⟩ := EvG h4
        refine ⟨r, EvI (K1 + K3 + K5 + 1) fun k hk => ?_, EvI (K2 + K4 + K6 + 1) fun k hk => ?_⟩
        · obtain ⟨k, rfl⟩ : ∃ q, k = q + 1 := ⟨k - 1, by omega⟩
          rw [spec_BestValue.l0, if_pos (by omega), e1 k (by omega), Option.bind_some, if_neg (by simp), Option.bind_some, if_pos (by simp; omega), Option.bind_some, List.nil_append, if_pos (by omega), h5 k (by omega), Option.bind_some, if_neg hm, wN v (by omega)]; exact h3 k (by omega)
        · obtain ⟨k, rfl⟩ : ∃ q, k = q + 1 := ⟨k - 1, by omega⟩
          rw [impl_BestValue.l0, if_pos (by omega), e2 k (by omega), Option.bind_some, if_neg (by simp), slices_Clone_int64_int64.f, Option.bind_some, if_pos (by simp; omega), Option.bind_some, List.nil_append, if_pos (by omega), h6 k (by omega), Option.bind_some, if_neg hm, wN v (by omega)]; exact h4 k (by omega)

theorem both_best (l : List Int) (a : Int) (hb : l.length ≤ 17592186044415) : ∃ r, Ev (fun k => spec_BestValue.f k l a) r ∧ Ev (fun k => impl_BestValue.f k l a) r := by
  obtain ⟨c, h1, h2, h3⟩ := bothCode l a 12 hb
  obtain ⟨K1, h1⟩ := EvG h1
  obtain ⟨K2, h2⟩ := EvG h2
  have hs : spec_l01Stamps.f a = some (decide (0 ≤ a) && decide (a ≤ 12)) := by rw [spec_l01Stamps.f, inF]; rfl
  by_cases hc : c = 0
  · obtain ⟨hv, h0, hm⟩ := h3.1 hc
    by_cases h8 : l.length = 8
    · refine ⟨(0, 0, 3), EvI K1 fun k hk => ?_, EvI (K2 + 2) fun k hk => ?_⟩
      · rw [spec_BestValue.f, hs, Option.bind_some, h1 k (by omega), Option.bind_some, if_pos hc, if_pos (by omega)]
      · obtain ⟨k, rfl⟩ : ∃ q, k = q + 2 := ⟨k - 2, by omega⟩
        rw [impl_BestValue.f, h2 _ (by omega), Option.bind_some, if_pos hc, impl_BestValue.j0, if_pos (by rw [h8]; rfl), impl_BestValue.j1, if_neg (by omega)]
    · obtain ⟨r, h4, h5⟩ := best_l0 l a hv.inR hv.2.1 hm _ 1 0 (-1) rfl (Nat.le_refl _) (by omega)
      obtain ⟨K3, h4⟩ := EvG h4
      obtain ⟨K4, h5⟩ := EvG h5
      refine ⟨r, EvI (K1 + K3) fun k hk => ?_, EvI (K2 + K4 + 2) fun k hk => ?_⟩
      · rw [spec_BestValue.f, hs, Option.bind_some, h1 k (by omega), Option.bind_some, if_pos hc, if_neg (by omega)]; exact h4 k (by omega)
      · obtain ⟨k, rfl⟩ : ∃ q, k = q + 2 := ⟨k - 2, by omega⟩
        rw [impl_BestValue.f, h2 _ (by omega), Option.bind_some, if_pos hc, impl_BestValue.j0, if_neg (by simp; omega), impl_BestValue.j1, if_pos hc]; exact h5 k (by omega)
  · refine ⟨(0, 0, c), EvI K1 fun k hk => ?_, EvI (K2 + 2) fun k hk => ?_⟩
    · rw [spec_BestValue.f, hs, Option.bind_some, h1 k hk, Option.bind_some, if_neg hc]
    · obtain ⟨k, rfl⟩ : ∃ q, k = q + 2 := ⟨k - 2, by omega⟩
      rw [impl_BestValue.f, h2 _ (by omega), Option.bind_some, if_neg hc, impl_BestValue.j0, if_neg (by simp), impl_BestValue.j1, if_neg hc]

theorem FnExactBestValue : laws_FnExactBestValue.Pure := by
  intro l a _ _ _ _
  by_cases hl : (l.length : Int) > 1048576
  · exact ⟨0, by rw [laws_FnExactBestValue.f, if_pos hl]⟩
  · obtain ⟨r, h1, h2⟩ := both_best l a (by omega)
    obtain ⟨K1, h1⟩ := EvG h1
    obtain ⟨K2, h2⟩ := EvG h2
    obtain ⟨K3, h3⟩ := EvG (toI l (by omega))
    obtain ⟨K4, h4⟩ := EvG (eqI l (by omega))
    refine ⟨K1 + K2 + K3 + K4 + 1, ?_⟩
    rw [laws_FnExactBestValue.f, if_neg hl, h3 _ (by omega), Option.bind_some, h1 _ (by omega), Option.bind_some, Option.bind_some, h2 _ (by omega), Option.bind_some, if_pos rfl, if_pos rfl, laws_FnExactBestValue.j0, if_neg (by simp), h3 _ (by omega), Option.bind_some, h4 _ (by omega)]
    rfl

end Go.Proofs.Ytnhcdfikjfjkoaa.Pure
