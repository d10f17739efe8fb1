/- The Go functions that the law FnExactFewestPiles comes to, as plain Lean functions, the proofs that calls of them return what those tell, and the plain lemmas on them; no condition but those that each theorem states. -/
import Derived.Test.YtipdmnibjkdpcaaMFewestPiles2
import Derived.OpenShut
import Derived.Test.YtipdmnibjkdpcaaMFewestPiles3
import Derived.Test.YtipdmnibjkdpcaaMFewestPiles4
import Derived.Test.YtipdmnibjkdpcaaMFewestPiles5
import Derived.Test.YtipdmnibjkdpcaaMFewestPiles6
import Derived.Test.YtipdmnibjkdpcaaRows
import Derived.Test.YtipdmnibjkdpcaaMFewestPiles1
import Derived.Deep.Slices
import Derived.WalkKit
import Derived.ProofKit
import Derived.ShutString
import Derived.ChangeOld
import Derived.Below
import Derived.SizedLaws
import Derived.ChangeArms
import Derived.Carry
namespace Go.Proofs.Ytipdmnibjkdpcaa.Pure
open Go.RowKit Go.Proofs.Ytipdmnibjkdpcaa.P Go.Proofs.YtipdmnibjkdpcaaW.PrintWords Go.Proofs.YtipdmnibjkdpcaaW.PrintLast
set_option linter.unusedVariables false
set_option linter.unusedSimpArgs false
theorem EvG {α : Type} {g : Nat → Option α} {r : α} (h : Ev g r) : ∃ K, ∀ k, K ≤ k → g k = some r := h
theorem EvI {α : Type} {g : Nat → Option α} {r : α} (K : Nat) (h : ∀ k, K ≤ k → g k = some r) : Ev g r := ⟨K, h⟩
theorem w64 {x : Int} (h0 : -9223372036854775808 ≤ x) (h1 : x ≤ 9223372036854775807) : wrap64 x = x := by
  unfold wrap64; omega
theorem wN (i : Nat) (h : i < 4611686018427387904) : wrap64 ((i : Int) + 1) = ((i + 1 : Nat) : Int) := by
  unfold wrap64; omega
theorem rdN (l : List Int) (i : Nat) : rd l (i : Int) = l.getD i 0 := rfl
theorem getD_eq (l : List Int) (i : Nat) (h : i < l.length) : l.getD i 0 = l[i] := by
  rw [List.getD_eq_getElem?_getD, List.getElem?_eq_getElem h]; rfl
theorem list_ext (a b : List Int) (hl : a.length = b.length) (h : ∀ j, j < b.length → a.getD j 0 = b.getD j 0) : a = b := by
  apply List.ext_getElem hl
  intro i h1 h2
  have := h i h2
  rwa [getD_eq a i h1, getD_eq b i h2] at this
theorem getD_set (l : List Int) (i j : Nat) (v : Int) (h : i < l.length) : (l.set i v).getD j 0 = if i = j then v else l.getD j 0 := by
  simp only [List.getD_eq_getElem?_getD, List.getElem?_set]
  by_cases e : i = j
  · subst e; simp [h]
  · simp [e]
end Go.Proofs.Ytipdmnibjkdpcaa.Pure

namespace Go.Proofs.Ytipdmnibjkdpcaa.Pure
open Go.RowKit Go.Proofs.Ytipdmnibjkdpcaa.P Go.Proofs.YtipdmnibjkdpcaaW.PrintWords Go.Proofs.YtipdmnibjkdpcaaW.PrintLast
set_option linter.unusedVariables false
set_option linter.unusedSimpArgs false
theorem eqI_l0 (l : List Int) (hb : l.length ≤ 17592186044415) : ∀ d i, l.length - i = d → i ≤ l.length → Ev (fun k => laws_eqInt64S.l0 k l l (i : Int)) true := by
  intro d
  induction d with
  | zero =>
    intro i hd hi
    refine Ev.step (f := fun _ => some true) (fun k => ?_) (Ev.now true)
    rw [laws_eqInt64S.l0, if_neg (by omega)]
  | succ d ih =>
    intro i hd hi
    refine Ev.step (fun k => ?_) (ih (i + 1) (by omega) (by omega))
    rw [laws_eqInt64S.l0, if_pos (by omega), if_pos (by omega), if_pos (by omega), if_pos rfl, wN i (by omega)]
theorem eqI (l : List Int) (hb : l.length ≤ 17592186044415) : Ev (fun k => laws_eqInt64S.f k l l) true := by
  refine Ev.congr (f := fun k => laws_eqInt64S.l0 k l l ((0 : Nat) : Int)) (fun k => ?_) (eqI_l0 l hb _ 0 rfl (Nat.zero_le _))
  simp only [laws_eqInt64S.f, if_true]; rfl
def iota (m : Nat) : Nat → List Int
  | 0 => []
  | n + 1 => (m : Int) :: iota (m + 1) n
theorem iota_len (m n : Nat) : (iota m n).length = n := by
  induction n generalizing m with
  | zero => rfl
  | succ n ih => simp [iota, ih]
theorem iota_at (m n j : Nat) (h : j < n) : (iota m n).getD j 0 = ((m + j : Nat) : Int) := by
  induction n generalizing m j with
  | zero => omega
  | succ n ih =>
    cases j with
    | zero => rfl
    | succ j =>
      have := ih (m + 1) j (by omega)
      simp only [iota, List.getD_cons_succ, this]
      omega
theorem markI_l0 (n m : Nat) (hb : n ≤ 17592186044415) (hm : m ≤ 17592186044415) : ∀ d i x, n - i = d → i ≤ n → x.length = n → (∀ j, j < i → x.getD j 0 = ((m + j : Nat) : Int)) →
    Ev (fun k => laws_markInt64S.l0 k x ((m + i : Nat) : Int) (i : Int)) (((m + n : Nat) : Int), iota m n) := by
  intro d
  induction d with
  | zero =>
    intro i x hd hi hx hj
    obtain rfl : i = n := by omega
    refine Ev.step (f := fun _ => some (((m + i : Nat) : Int), x)) (fun k => ?_) ?_
    · rw [laws_markInt64S.l0, if_neg (by omega)]
    · have : x = iota m i := list_ext x _ (by rw [iota_len]; exact hx) (fun j h => by rw [iota_len] at h; rw [hj j h, iota_at m i j h])
      rw [this]; exact Ev.now _
  | succ d ih =>
    intro i x hd hi hx hj
    refine Ev.step (fun k => ?_) (ih (i + 1) (x.set i ((m + i : Nat) : Int)) (by omega) (by omega) (by simpa using hx) ?_)
    · rw [laws_markInt64S.l0, if_pos (by omega), if_pos (by omega), wN i (by omega), wN (m + i) (by omega), Int.toNat_natCast]; rfl
    · intro j h
      rw [getD_set x i j _ (by omega)]
      by_cases e : i = j
      · rw [if_pos e, e]
      · rw [if_neg e]; exact hj j (by omega)
theorem markI (l : List Int) (m : Nat) (hb : l.length ≤ 17592186044415) (hm : m ≤ 17592186044415) : Ev (fun k => laws_markInt64S.f k l (m : Int)) (((m + l.length : Nat) : Int), iota m l.length) :=
  markI_l0 l.length m hb hm _ 0 l rfl (Nat.zero_le _) rfl (fun j h => absurd h (Nat.not_lt_zero _))
theorem heldI_l0 (n m : Nat) (hb : n ≤ 17592186044415) (hm : m ≤ 17592186044415) : ∀ d i, n - i = d → i ≤ n → Ev (fun k => laws_heldInt64S.l0 k (iota m n) ((m + i : Nat) : Int) (i : Int)) ((m + n : Nat) : Int) := by
  intro d
  induction d with
  | zero =>
    intro i hd hi
    obtain rfl : i = n := by omega
    refine Ev.step (f := fun _ => some (((m + i : Nat) : Int))) (fun k => ?_) (Ev.now _)
    rw [laws_heldInt64S.l0, iota_len, if_neg (by omega)]
  | succ d ih =>
    intro i hd hi
    refine Ev.step (fun k => ?_) (ih (i + 1) (by omega) (by omega))
    rw [laws_heldInt64S.l0, iota_len, if_pos (by omega), if_pos (by omega), rdN, iota_at m n i (by omega), if_pos rfl, wN i (by omega), wN (m + i) (by omega)]; rfl
theorem heldI (n m : Nat) (hb : n ≤ 17592186044415) (hm : m ≤ 17592186044415) : Ev (fun k => laws_heldInt64S.f k (iota m n) (m : Int)) ((m + n : Nat) : Int) :=
  heldI_l0 n m hb hm _ 0 rfl (Nat.zero_le _)
end Go.Proofs.Ytipdmnibjkdpcaa.Pure

namespace Go.Proofs.Ytipdmnibjkdpcaa.Pure
open Go.RowKit Go.Proofs.Ytipdmnibjkdpcaa.P Go.Proofs.YtipdmnibjkdpcaaW.PrintWords Go.Proofs.YtipdmnibjkdpcaaW.PrintLast
set_option linter.unusedVariables false
set_option linter.unusedSimpArgs false
theorem inF (a lo hi : Int) : spec_l00In.f a lo hi = some (decide (lo ≤ a) && decide (a ≤ hi)) := by
  unfold spec_l00In.f; by_cases h : lo ≤ a <;> simp [h]
theorem w8 {a : Int} (w : (Lit.int .i8 a).wf = true) : wrap64 a = a := by
  obtain ⟨h0, h1⟩ := bounds_i8 w
  exact w64 (by omega) (by omega)
def okB (a b c : Int) : Bool := (decide (1 ≤ a) && decide (a ≤ 60)) && ((decide (1 ≤ b) && decide (b ≤ 60)) && (decide (1 ≤ c) && decide (c ≤ 60)))
theorem specOk {a b c : Int} (wa : (Lit.int .i8 a).wf = true) (wb : (Lit.int .i8 b).wf = true) (wc : (Lit.int .i8 c).wf = true) : spec_l02Ok.f a b c = some (okB a b c) := by
  unfold spec_l02Ok.f okB
  rw [inF, inF, inF, w8 wa, w8 wb, w8 wc, Option.bind_some]
  cases (decide (1 ≤ a) && decide (a ≤ 60)) <;> cases (decide (1 ≤ b) && decide (b ≤ 60)) <;> rfl
theorem sidesF {a b c : Int} (wa : (Lit.int .i8 a).wf = true) (wb : (Lit.int .i8 b).wf = true) (wc : (Lit.int .i8 c).wf = true) : impl_Box_sides.f a b c = some [a, b, c] := by
  unfold impl_Box_sides.f; rw [w8 wa, w8 wb, w8 wc]
theorem implOk {a b c : Int} (wa : (Lit.int .i8 a).wf = true) (wb : (Lit.int .i8 b).wf = true) (wc : (Lit.int .i8 c).wf = true) : impl_ValidBox.f a b c = some (okB a b c) := by
  unfold impl_ValidBox.f impl_areWithin.f
  rw [sidesF wa wb wc]
  simp only [Option.bind_some, List.all_cons, List.all_nil, Bool.and_true, okB]
theorem toB (a b c : Int) : laws_toBox.f a b c = some (a, b, c) := rfl
end Go.Proofs.Ytipdmnibjkdpcaa.Pure

namespace Go.Proofs.Ytipdmnibjkdpcaa.Pure
open Go.RowKit Go.Proofs.Ytipdmnibjkdpcaa.P Go.Proofs.YtipdmnibjkdpcaaW.PrintWords Go.Proofs.YtipdmnibjkdpcaaW.PrintLast
set_option linter.unusedVariables false
set_option linter.unusedSimpArgs false
def ltx (p q : S64) : Prop := p.f0 < q.f0 ∨ (p.f0 = q.f0 ∧ (p.f1 < q.f1 ∨ (p.f1 = q.f1 ∧ p.f2 < q.f2)))
theorem ltx_asymm {p q : S64} : ltx p q → ¬ ltx q p := by unfold ltx; omega
theorem lex_trans {p q r : S64} : ¬ ltx q p → ¬ ltx r q → ¬ ltx r p := by unfold ltx; omega
theorem ltx_irrefl (p : S64) : ¬ ltx p p := by unfold ltx; omega
theorem ltx_le {p q r : S64} : ¬ ltx q p → ltx q r → ltx p r := by unfold ltx; omega
theorem S_ext {p q : S64} (h0 : p.f0 = q.f0) (h1 : p.f1 = q.f1) (h2 : p.f2 = q.f2) : p = q := by
  cases p; cases q; simp only at h0 h1 h2; subst h0 h1 h2; rfl
theorem ltx_eq {p q : S64} (h : ¬ ltx p q) (h' : ¬ ltx q p) : p = q := by
  unfold ltx at h h'
  exact S_ext (by omega) (by omega) (by omega)
def same (p q : S64) : Bool := (p.f0 == q.f0 && (p.f1 == q.f1 && p.f2 == q.f2))
theorem same_iff {p q : S64} : same p q = true ↔ p = q := by
  unfold same
  constructor
  · intro h
    simp only [Bool.and_eq_true, beq_iff_eq] at h
    exact S_ext h.1 h.2.1 h.2.2
  · rintro rfl; simp
theorem same_not (p q : S64) : (!(p.f0 == q.f0) || (!(p.f1 == q.f1) || (!(p.f2 == q.f2)))) = !same p q := by
  unfold same
  cases (p.f0 == q.f0) <;> cases (p.f1 == q.f1) <;> cases (p.f2 == q.f2) <;> rfl
theorem rise_uniq : ∀ (l m : List S64), l.Pairwise ltx → m.Pairwise ltx → (∀ s, s ∈ l ↔ s ∈ m) → l = m := by
  intro l
  induction l with
  | nil =>
    intro m _ _ h
    cases m with
    | nil => rfl
    | cons b m => exact absurd ((h b).2 (List.mem_cons_self ..)) (List.not_mem_nil)
  | cons a l ih =>
    intro m hl hm h
    cases m with
    | nil => exact absurd ((h a).1 (List.mem_cons_self ..)) (List.not_mem_nil)
    | cons b m =>
      rw [List.pairwise_cons] at hl hm
      have hab : a = b := by
        rcases List.mem_cons.1 ((h a).1 (List.mem_cons_self ..)) with e | e
        · exact e
        · rcases List.mem_cons.1 ((h b).2 (List.mem_cons_self ..)) with e' | e'
          · exact e'.symm
          · exact absurd (hm.1 a e) (ltx_asymm (hl.1 b e'))
      subst hab
      rw [ih m hl.2 hm.2 (fun s => ?_)]
      constructor
      · intro hs
        rcases List.mem_cons.1 ((h s).1 (List.mem_cons_of_mem _ hs)) with e | e
        · subst e; exact absurd (hl.1 s hs) (ltx_irrefl s)
        · exact e
      · intro hs
        rcases List.mem_cons.1 ((h s).2 (List.mem_cons_of_mem _ hs)) with e | e
        · subst e; exact absurd (hm.1 s hs) (ltx_irrefl s)
        · exact e
def c3 (a b : Int) : Int := if a < b then -1 else if a > b then 1 else 0
theorem cmpI (a b : Int) : cmp_Compare_int8.f a b = some (c3 a b) := by
  unfold cmp_Compare_int8.f cmp_isNaN_int8.f c3
  simp only [Option.bind_some, bne_self_eq_false, Bool.false_eq_true, if_false]
  split
  · rfl
  · split <;> rfl
theorem orF (x y z : Int) (k : Nat) : cmp_Or_int.f (k + 4) [x, y, z] = some (if x = 0 then (if y = 0 then z else y) else x) := by
  have l1 : (([x, y, z] : List Int).length : Int) = 3 := rfl
  have r0 : rd [x, y, z] 0 = x := rfl
  have r1 : rd [x, y, z] 1 = y := rfl
  have r2 : rd [x, y, z] 2 = z := rfl
  rw [cmp_Or_int.f, l1, show k + 4 = k + 3 + 1 from rfl, cmp_Or_int.l0, if_pos (by omega), if_pos (by omega), if_pos (by omega), r0, w64 (x := 0 + 1) (by omega) (by omega)]
  by_cases hx : x = 0
  · rw [if_pos hx, if_pos hx, show (0 : Int) + 1 = 1 from rfl, show k + 3 = k + 2 + 1 from rfl, cmp_Or_int.l0, if_pos (by omega), if_pos (by omega), if_pos (by omega), r1, w64 (x := 1 + 1) (by omega) (by omega)]
    by_cases hy : y = 0
    · rw [if_pos hy, if_pos hy, show (1 : Int) + 1 = 2 from rfl, show k + 2 = k + 1 + 1 from rfl, cmp_Or_int.l0, if_pos (by omega), if_pos (by omega), if_pos (by omega), r2, w64 (x := 2 + 1) (by omega) (by omega)]
      by_cases hz : z = 0
      · rw [if_pos hz, show (2 : Int) + 1 = 3 from rfl, cmp_Or_int.l0, if_neg (by omega), hz]
      · rw [if_neg hz]
    · rw [if_neg hy, if_neg hy]
  · rw [if_neg hx, if_neg hx]
theorem cmpEv (p q : S64) : ∃ c, (∀ k, impl_Box_turns_1.f (k + 4) p.f0 p.f1 p.f2 q.f0 q.f1 q.f2 = some c) ∧ (c < 0 ↔ ltx p q) := by
  refine ⟨_, fun k => by rw [impl_Box_turns_1.f, cmpI, cmpI, cmpI, Option.bind_some, Option.bind_some, Option.bind_some, orF, Option.bind_some], ?_⟩
  unfold c3 ltx
  by_cases h0 : p.f0 < q.f0 <;> by_cases h1 : p.f0 > q.f0 <;> by_cases h2 : p.f1 < q.f1 <;> by_cases h3 : p.f1 > q.f1 <;> by_cases h4 : p.f2 < q.f2 <;> by_cases h5 : p.f2 > q.f2 <;> simp only [h0, h1, h2, h3, h4, h5, if_true, if_false] <;> simp <;> omega
end Go.Proofs.Ytipdmnibjkdpcaa.Pure

namespace Go.Proofs.Ytipdmnibjkdpcaa.Pure
open Go.RowKit Go.Proofs.Ytipdmnibjkdpcaa.P Go.Proofs.YtipdmnibjkdpcaaW.PrintWords Go.Proofs.YtipdmnibjkdpcaaW.PrintLast
set_option linter.unusedVariables false
set_option linter.unusedSimpArgs false
theorem rdT (l : List S64) (i : Nat) : rd_T64 l (i : Int) = l.getD i z64 := rfl
theorem getD_eqG {α : Type} (z : α) (l : List α) (i : Nat) (h : i < l.length) : l.getD i z = l[i] := by
  rw [List.getD_eq_getElem?_getD, List.getElem?_eq_getElem h]; rfl
theorem getD_setG {α : Type} (z : α) (l : List α) (i j : Nat) (v : α) (h : i < l.length) : (l.set i v).getD j z = if i = j then v else l.getD j z := by
  simp only [List.getD_eq_getElem?_getD, List.getElem?_set]
  by_cases e : i = j
  · subst e; simp [h]
  · simp [e]
theorem mem_getDG {α : Type} (z : α) (l : List α) (s : α) : s ∈ l ↔ ∃ i, i < l.length ∧ l.getD i z = s := by
  rw [List.mem_iff_getElem]
  constructor
  · rintro ⟨i, hi, e⟩; exact ⟨i, hi, by rw [getD_eqG z l i hi, e]⟩
  · rintro ⟨i, hi, e⟩; exact ⟨i, hi, by rw [← getD_eqG z l i hi, e]⟩
def Srt (x : List S64) (i : Nat) : Prop := ∀ p q, p < q → q ≤ i → ¬ ltx (x.getD q z64) (x.getD p z64)
def Alike (x y : List S64) : Prop := ∀ s, s ∈ x ↔ s ∈ y
def Ins (x : List S64) (i j : Nat) : Prop := ∀ p q, p < q → q ≤ i → q ≠ j → ¬ ltx (x.getD q z64) (x.getD p z64)
def swp (x : List S64) (j : Nat) : List S64 := (x.set j (x.getD (j - 1) z64)).set (j - 1) (x.getD j z64)
theorem swp_len (x : List S64) (j : Nat) : (swp x j).length = x.length := by simp [swp]
theorem swp_at (x : List S64) (j q : Nat) (h0 : 0 < j) (hj : j < x.length) : (swp x j).getD q z64 = if q = j - 1 then x.getD j z64 else if q = j then x.getD (j - 1) z64 else x.getD q z64 := by
  unfold swp
  rw [getD_setG z64 _ _ _ _ (by rw [List.length_set]; omega), getD_setG z64 _ _ _ _ hj]
  by_cases e1 : q = j - 1
  · rw [if_pos e1, if_pos e1.symm]
  · rw [if_neg e1, if_neg (fun e => e1 e.symm)]
    by_cases e2 : q = j
    · rw [if_pos e2, if_pos e2.symm]
    · rw [if_neg e2, if_neg (fun e => e2 e.symm)]
theorem swp_mem (x : List S64) (j : Nat) (h0 : 0 < j) (hj : j < x.length) : Alike (swp x j) x := by
  intro s
  rw [mem_getDG z64, mem_getDG z64, swp_len]
  constructor
  · rintro ⟨i, hi, e⟩
    rw [swp_at x j i h0 hj] at e
    by_cases e1 : i = j - 1
    · rw [if_pos e1] at e; exact ⟨j, hj, e⟩
    · rw [if_neg e1] at e
      by_cases e2 : i = j
      · rw [if_pos e2] at e; exact ⟨j - 1, by omega, e⟩
      · rw [if_neg e2] at e; exact ⟨i, hi, e⟩
  · rintro ⟨i, hi, e⟩
    by_cases e1 : i = j - 1
    · exact ⟨j, hj, by rw [swp_at x j j h0 hj, if_neg (by omega), if_pos rfl, ← e1]; exact e⟩
    · by_cases e2 : i = j
      · exact ⟨j - 1, by omega, by rw [swp_at x j _ h0 hj, if_pos rfl, ← e2]; exact e⟩
      · exact ⟨i, hi, by rw [swp_at x j i h0 hj, if_neg e1, if_neg e2]; exact e⟩
theorem swp_ins (x : List S64) (i j : Nat) (h0 : 0 < j) (hji : j ≤ i) (hi : i < x.length) (h : Ins x i j) (hl : ltx (x.getD j z64) (x.getD (j - 1) z64)) : Ins (swp x j) i (j - 1) := by
  intro p q hpq hqi hqj
  rw [swp_at x j q h0 (by omega), swp_at x j p h0 (by omega), if_neg hqj]
  by_cases e2 : q = j
  · rw [if_pos e2]
    by_cases e3 : p = j - 1
    · rw [if_pos e3]; exact ltx_asymm hl
    · rw [if_neg e3, if_neg (by omega)]
      exact h p (j - 1) (by omega) (by omega) (by omega)
  · rw [if_neg e2]
    by_cases e3 : p = j - 1
    · rw [if_pos e3]; exact h j q (by omega) hqi e2
    · rw [if_neg e3]
      by_cases e4 : p = j
      · rw [if_pos e4]; exact h (j - 1) q (by omega) hqi e2
      · rw [if_neg e4]; exact h p q hpq hqi e2
theorem ins_srt (x : List S64) (i j : Nat) (h : Ins x i j) (he : j = 0 ∨ ¬ ltx (x.getD j z64) (x.getD (j - 1) z64)) : Srt x i := by
  intro p q hpq hqi
  by_cases e : q = j
  · subst e
    rcases he with he | he
    · omega
    · by_cases e2 : p = q - 1
      · subst e2; exact he
      · exact lex_trans (h p (q - 1) (by omega) (by omega) (by omega)) he
  · exact h p q hpq hqi e
theorem ins_l1 (n i : Nat) (hi : i < n) (hn : n ≤ 1000) : ∀ j x, x.length = n → j ≤ i → Ins x i j →
    ∃ x', x'.length = n ∧ Alike x' x ∧ Srt x' i ∧ ∀ r, Ev (fun k => impl_Box_86.l0 k x' 0 (n : Int) ((i + 1 : Nat) : Int)) r → Ev (fun k => impl_Box_86.l1 k x 0 (n : Int) (i : Int) (j : Int)) r := by
  intro j
  induction j with
  | zero =>
    intro x hx hj h
    refine ⟨x, hx, fun s => Iff.rfl, ins_srt x i 0 h (.inl rfl), fun r he => Ev.step (fun k => ?_) he⟩
    rw [impl_Box_86.l1, if_neg (by omega), wN i (by omega)]
  | succ j ih =>
    intro x hx hj h
    obtain ⟨c, hc, hcl⟩ := cmpEv (x.getD (j + 1) z64) (x.getD j z64)
    have ew : wrap64 (((j + 1 : Nat) : Int) - 1) = (j : Int) := by rw [w64 (by omega) (by omega)]; omega
    have e1 : ∀ k, impl_Box_86.l1 (k + 4 + 1) x 0 (n : Int) (i : Int) ((j + 1 : Nat) : Int) = if c < 0 then impl_Box_86.l1 (k + 4) (swp x (j + 1)) 0 (n : Int) (i : Int) (j : Int) else impl_Box_86.l0 (k + 4) x 0 (n : Int) ((i + 1 : Nat) : Int) := fun k => by
      rw [impl_Box_86.l1, if_pos (by omega), if_pos (by omega), if_pos (by omega), ew, if_pos (by omega), if_pos (by omega), rdT, rdT, hc k, Option.bind_some, wN i (by omega)]
      rfl
    by_cases hlt : ltx (x.getD (j + 1) z64) (x.getD j z64)
    · obtain ⟨x', a1, a2, a3, a4⟩ := ih (swp x (j + 1)) (by rw [swp_len, hx]) (by omega) (swp_ins x i (j + 1) (by omega) hj (by omega) h hlt)
      refine ⟨x', a1, fun s => (a2 s).trans (swp_mem x (j + 1) (by omega) (by omega) s), a3, fun r he => ?_⟩
      obtain ⟨K, hK⟩ := EvG (a4 r he)
      refine EvI (K + 5) fun k hk => ?_
      obtain ⟨m, rfl⟩ : ∃ m, k = m + 4 + 1 := ⟨k - 5, by omega⟩
      rw [e1, if_pos (hcl.2 hlt)]
      exact hK _ (by omega)
    · refine ⟨x, hx, fun s => Iff.rfl, ins_srt x i (j + 1) h (.inr hlt), fun r he => ?_⟩
      obtain ⟨K, hK⟩ := EvG he
      refine EvI (K + 5) fun k hk => ?_
      obtain ⟨m, rfl⟩ : ∃ m, k = m + 4 + 1 := ⟨k - 5, by omega⟩
      rw [e1, if_neg (fun q => hlt (hcl.1 q))]
      exact hK _ (by omega)
theorem ins_l0 (n : Nat) (hn : n ≤ 1000) : ∀ d i x, n - i = d → 1 ≤ i → i ≤ n → x.length = n → Srt x (i - 1) → ∃ y, y.length = n ∧ Alike y x ∧ Srt y (n - 1) ∧ Ev (fun k => impl_Box_86.l0 k x 0 (n : Int) (i : Int)) y := by
  intro d
  induction d with
  | zero =>
    intro i x hd h1 hi hx hs
    obtain rfl : i = n := by omega
    refine ⟨x, hx, fun s => Iff.rfl, hs, Ev.step (f := fun _ => some x) (fun k => ?_) (Ev.now _)⟩
    rw [impl_Box_86.l0, if_neg (by omega)]
  | succ d ih =>
    intro i x hd h1 hi hx hs
    obtain ⟨x', a1, a2, a3, a4⟩ := ins_l1 n i (by omega) hn i x hx (Nat.le_refl _) (fun p q hpq hqi hq => hs p q hpq (by omega))
    obtain ⟨y, b1, b2, b3, b4⟩ := ih (i + 1) x' (by omega) (by omega) (by omega) a1 (by rw [Nat.add_sub_cancel]; exact a3)
    refine ⟨y, b1, fun s => (b2 s).trans (a2 s), b3, Ev.step (fun k => ?_) (a4 y b4)⟩
    rw [impl_Box_86.l0, if_pos (by omega)]
theorem sort_small (x : List S64) (h1 : 1 ≤ x.length) (h12 : x.length ≤ 12) (r : Int) (hr : Ev (fun k => bits_Len.f k (IntKind.u64.wrap (x.length : Int))) r) : ∃ y, y.length = x.length ∧ Alike y x ∧ Srt y (x.length - 1) ∧ Ev (fun k => impl_Box_77.f k x) y := by
  obtain ⟨y, a1, a2, a3, a4⟩ := ins_l0 x.length (by omega) _ 1 x rfl (Nat.le_refl _) h1 rfl (fun p q hpq hq => by omega)
  obtain ⟨K1, hr⟩ := EvG hr
  obtain ⟨K2, a4⟩ := EvG a4
  refine ⟨y, a1, a2, a3, EvI (K1 + K2 + 3) fun k hk => ?_⟩
  obtain ⟨m, rfl⟩ : ∃ m, k = m + 2 := ⟨k - 2, by omega⟩
  rw [impl_Box_77.f, hr _ (by omega), Option.bind_some, impl_Box_83.f, impl_Box_83.l0, if_pos (by rw [w64 (by omega) (by omega)]; omega), impl_Box_86.f, w64 (x := 0 + 1) (by omega) (by omega), show (0 : Int) + 1 = ((1 : Nat) : Int) from rfl, a4 m (by omega)]
  rfl
end Go.Proofs.Ytipdmnibjkdpcaa.Pure

namespace Go.Proofs.Ytipdmnibjkdpcaa.Pure
open Go.RowKit Go.Proofs.Ytipdmnibjkdpcaa.P Go.Proofs.YtipdmnibjkdpcaaW.PrintWords Go.Proofs.YtipdmnibjkdpcaaW.PrintLast
set_option linter.unusedVariables false
set_option linter.unusedSimpArgs false
def thin (y : List S64) : Nat → List S64
  | 0 => []
  | p + 1 => if p = 0 then [y.getD 0 z64] else if same (y.getD p z64) (y.getD (p - 1) z64) = true then thin y p else thin y p ++ [y.getD p z64]
theorem thin_spec (y : List S64) (hs : Srt y (y.length - 1)) : ∀ p, p ≤ y.length → (thin y p).Pairwise ltx ∧ (∀ s, s ∈ thin y p ↔ ∃ i, i < p ∧ y.getD i z64 = s) := by
  intro p
  induction p with
  | zero => intro _; exact ⟨List.Pairwise.nil, fun s => ⟨fun h => absurd h List.not_mem_nil, fun ⟨i, hi, _⟩ => absurd hi (Nat.not_lt_zero _)⟩⟩
  | succ p ih =>
    intro hp
    obtain ⟨h1, h2⟩ := ih (by omega)
    rw [thin]
    by_cases h0 : p = 0
    · subst h0
      rw [if_pos rfl]
      refine ⟨List.pairwise_singleton _ _, fun s => ?_⟩
      rw [List.mem_singleton]
      exact ⟨fun e => ⟨0, by omega, e.symm⟩, fun ⟨i, hi, e⟩ => by have h0 : i = 0 := (by omega); rw [← e, h0]⟩
    · rw [if_neg h0]
      by_cases hq : same (y.getD p z64) (y.getD (p - 1) z64) = true
      · rw [if_pos hq]
        refine ⟨h1, fun s => (h2 s).trans ⟨fun ⟨i, hi, e⟩ => ⟨i, by omega, e⟩, fun ⟨i, hi, e⟩ => ?_⟩⟩
        by_cases e2 : i = p
        · subst e2; exact ⟨i - 1, by omega, by rw [← same_iff.1 hq]; exact e⟩
        · exact ⟨i, by omega, e⟩
      · rw [if_neg hq]
        refine ⟨List.pairwise_append.2 ⟨h1, List.pairwise_singleton _ _, fun a ha b hb => ?_⟩, fun s => ?_⟩
        · rw [List.mem_singleton.1 hb]
          obtain ⟨i, hi, e⟩ := (h2 a).1 ha
          have g1 : ltx (y.getD (p - 1) z64) (y.getD p z64) := by
            apply Classical.byContradiction
            intro hn
            exact hq (same_iff.2 (ltx_eq (hs (p - 1) p (by omega) (by omega)) hn))
          subst e
          by_cases e2 : i = p - 1
          · rw [e2]; exact g1
          · exact ltx_le (hs i (p - 1) (by omega) (by omega)) g1
        · rw [List.mem_append, List.mem_singleton, h2 s]
          constructor
          · rintro (⟨i, hi, e⟩ | e)
            · exact ⟨i, by omega, e⟩
            · exact ⟨p, by omega, e.symm⟩
          · rintro ⟨i, hi, e⟩
            by_cases e2 : i = p
            · subst e2; exact .inr e.symm
            · exact .inl ⟨i, by omega, e⟩
theorem getD_drop (y : List S64) (k i : Nat) : (y.drop k).getD i z64 = y.getD (k + i) z64 := by
  simp only [List.getD_eq_getElem?_getD, List.getElem?_drop]
theorem take_set (x : List S64) (k : Nat) (v : S64) (h : k < x.length) : (x.set k v).take (k + 1) = x.take k ++ [v] := by
  rw [List.take_add_one, List.take_set_of_le (Nat.le_refl _), List.getElem?_set_self h]; rfl
theorem comp_l1 (y : List S64) (hn : y.length ≤ 1000) (k0 : Nat) : ∀ d k2 x0 k, y.length - (k0 + k2) = d → 1 ≤ k2 → k0 + k2 ≤ y.length → x0.length = y.length → k < k0 + k2 → x0.take k = thin y (k0 + k2) → k = (thin y (k0 + k2)).length →
    Ev (fun q => impl_Box_81.l1 q x0 (k : Int) (y.drop k0) (k2 : Int)) (thin y y.length) := by
  intro d
  induction d with
  | zero =>
    intro k2 x0 k hd h1 hi hx hk ht hl
    have e : k0 + k2 = y.length := by omega
    rw [e] at ht
    refine Ev.step (f := fun _ => some (thin y y.length)) (fun q => ?_) (Ev.now _)
    rw [impl_Box_81.l1, if_neg (by rw [List.length_drop]; omega), if_pos (by omega), if_pos (by omega), Int.toNat_natCast, ht]
  | succ d ih =>
    intro k2 x0 k hd h1 hi hx hk ht hl
    have ew : wrap64 ((k2 : Int) - 1) = ((k2 - 1 : Nat) : Int) := by rw [w64 (by omega) (by omega)]; omega
    have e3 : thin y (k0 + (k2 + 1)) = if same (y.getD (k0 + k2) z64) (y.getD (k0 + k2 - 1) z64) = true then thin y (k0 + k2) else thin y (k0 + k2) ++ [y.getD (k0 + k2) z64] := by
      rw [← Nat.add_assoc, thin, if_neg (by omega)]
    have g0 : rd_T64 (y.drop k0) (k2 : Int) = y.getD (k0 + k2) z64 := by rw [rdT, getD_drop]
    have g1 : rd_T64 (y.drop k0) ((k2 - 1 : Nat) : Int) = y.getD (k0 + k2 - 1) z64 := by rw [rdT, getD_drop]; congr 1; omega
    have hd2 : (y.drop k0).length = y.length - k0 := List.length_drop
    by_cases hq : same (y.getD (k0 + k2) z64) (y.getD (k0 + k2 - 1) z64) = true
    · rw [if_pos hq] at e3
      refine Ev.step (fun q => ?_) (ih (k2 + 1) x0 k (by omega) (by omega) (by omega) hx (by omega) (by rw [e3]; exact ht) (by rw [e3]; exact hl))
      rw [impl_Box_81.l1, if_pos (by omega), if_pos (by omega), ew, if_pos (by omega), if_pos (by omega), g0, g1, same_not, if_neg (by rw [hq]; simp), wN k2 (by omega)]
    · rw [if_neg hq] at e3
      refine Ev.step (fun q => ?_) (ih (k2 + 1) (x0.set k (y.getD (k0 + k2) z64)) (k + 1) (by omega) (by omega) (by omega) (by rw [List.length_set, hx]) (by omega) (by rw [e3, take_set x0 k _ (by omega), ht]) (by rw [e3, List.length_append, ← hl]; rfl))
      rw [impl_Box_81.l1, if_pos (by omega), if_pos (by omega), ew, if_pos (by omega), if_pos (by omega), g0, g1, same_not, if_pos (by simpa using hq), if_pos (by omega), if_pos (by omega), wN k2 (by omega), wN k (by omega), Int.toNat_natCast]
theorem comp_l0 (y : List S64) (hn : y.length ≤ 1000) : ∀ d i, y.length - i = d → 1 ≤ i → i ≤ y.length → thin y i = y.take i → Ev (fun q => impl_Box_81.l0 q y (i : Int)) (thin y y.length) := by
  intro d
  induction d with
  | zero =>
    intro i hd h1 hi ht
    obtain rfl : i = y.length := by omega
    rw [List.take_length] at ht
    refine Ev.step (f := fun _ => some y) (fun q => ?_) (by rw [ht]; exact Ev.now _)
    rw [impl_Box_81.l0, if_neg (by omega)]
  | succ d ih =>
    intro i hd h1 hi ht
    have ew : wrap64 ((i : Int) - 1) = ((i - 1 : Nat) : Int) := by rw [w64 (by omega) (by omega)]; omega
    have e3 : thin y (i + 1) = if same (y.getD i z64) (y.getD (i - 1) z64) = true then thin y i else thin y i ++ [y.getD i z64] := by
      rw [thin, if_neg (by omega)]
    have hl : (thin y i).length = i := by rw [ht, List.length_take]; omega
    by_cases hq : same (y.getD i z64) (y.getD (i - 1) z64) = true
    · rw [if_pos hq] at e3
      refine Ev.step (fun q => ?_) (comp_l1 y hn i _ 1 y i rfl (Nat.le_refl _) (by omega) rfl (by omega) (by rw [e3, ht]) (by rw [e3, hl]))
      have hq' : (((y.getD i z64).f0 == (y.getD (i - 1) z64).f0) && (((y.getD i z64).f1 == (y.getD (i - 1) z64).f1) && ((y.getD i z64).f2 == (y.getD (i - 1) z64).f2))) = true := hq
      rw [impl_Box_81.l0, if_pos (by omega), if_pos (by omega), ew, if_pos (by omega), if_pos (by omega), rdT, rdT, if_pos hq', if_pos (by omega), Int.toNat_natCast]
      rfl
    · rw [if_neg hq] at e3
      refine Ev.step (fun q => ?_) (ih (i + 1) (by omega) (by omega) (by omega) (by rw [e3, ht, List.take_add_one, List.getD_eq_getElem?_getD, List.getElem?_eq_getElem (by omega)]; rfl))
      have hq' : ¬ (((y.getD i z64).f0 == (y.getD (i - 1) z64).f0) && (((y.getD i z64).f1 == (y.getD (i - 1) z64).f1) && ((y.getD i z64).f2 == (y.getD (i - 1) z64).f2))) = true := hq
      rw [impl_Box_81.l0, if_pos (by omega), if_pos (by omega), ew, if_pos (by omega), if_pos (by omega), rdT, rdT, if_neg hq', wN i (by omega)]
theorem compF (y : List S64) (hn : y.length ≤ 1000) (h2 : 2 ≤ y.length) : Ev (fun q => impl_Box_81.f q y) (thin y y.length) := by
  obtain ⟨K, h⟩ := EvG (comp_l0 y hn _ 1 rfl (Nat.le_refl _) (by omega) (by
    rw [thin, if_pos rfl]
    cases y with
    | nil => simp at h2
    | cons a y => rfl))
  refine EvI K fun q hq => ?_
  rw [impl_Box_81.f, if_neg (by omega)]
  exact h q hq
end Go.Proofs.Ytipdmnibjkdpcaa.Pure

namespace Go.Proofs.Ytipdmnibjkdpcaa.Pure
open Go.RowKit Go.Proofs.Ytipdmnibjkdpcaa.P Go.Proofs.YtipdmnibjkdpcaaW.PrintWords Go.Proofs.YtipdmnibjkdpcaaW.PrintLast
set_option linter.unusedVariables false
set_option linter.unusedSimpArgs false
def six (a b c : Int) : List S64 := [⟨a, b, c⟩, ⟨a, c, b⟩, ⟨b, a, c⟩, ⟨b, c, a⟩, ⟨c, a, b⟩, ⟨c, b, a⟩]
theorem len6 : ∃ r, Ev (fun k => bits_Len.f k (IntKind.u64.wrap ((6 : Nat) : Int))) r := by
  have h : bits_Len.f 1 (IntKind.u64.wrap ((6 : Nat) : Int)) = some 3 := by decide +kernel
  exact ⟨3, Ev.of (fun k => bits_Len.mono _ k) h⟩
theorem turnsI (a b c : Int) : ∃ l : List S64, l.Pairwise ltx ∧ (∀ s, s ∈ l ↔ s ∈ six a b c) ∧ Ev (fun k => impl_Box_turns.f k a b c) l := by
  obtain ⟨r, hr⟩ := len6
  obtain ⟨y, hy1, hy2, hy3, hy4⟩ := sort_small (six a b c) (by simp [six]) (by simp [six]) r hr
  have hl : y.length = 6 := by rw [hy1]; rfl
  obtain ⟨h1, h2⟩ := thin_spec y (by rw [hy1]; exact hy3) y.length (Nat.le_refl _)
  refine ⟨thin y y.length, h1, fun s => ?_, ?_⟩
  · rw [h2 s, ← mem_getDG z64, hy2 s]
  · obtain ⟨K1, h4⟩ := EvG hy4
    obtain ⟨K2, h5⟩ := EvG (compF y (by omega) (by omega))
    refine EvI (K1 + K2) fun k hk => ?_
    rw [impl_Box_turns.f]
    show (impl_Box_77.f k (six a b c)).bind _ = _
    rw [h4 k (by omega), Option.bind_some, h5 k (by omega), Option.bind_some]
def ded : List S64 → List S64 → List S64
  | acc, [] => acc
  | acc, a :: l => if acc.any (fun x => same x a) = true then ded acc l else ded (acc ++ [a]) l
def Good : List S64 → List S64 → Prop
  | _, [] => True
  | acc, a :: l => (a ∈ acc ∧ Good acc l) ∨ ((∀ x ∈ acc, ltx x a) ∧ Good (acc ++ [a]) l)
theorem ded_spec : ∀ (l acc : List S64), acc.Pairwise ltx → Good acc l →
    (ded acc l).Pairwise ltx ∧ ∀ s, s ∈ ded acc l ↔ (s ∈ acc ∨ s ∈ l) := by
  intro l
  induction l with
  | nil => intro acc h _; exact ⟨h, fun s => by simp [ded]⟩
  | cons a l ih =>
    intro acc h h2
    rw [ded]
    rcases h2 with ⟨hm, h2⟩ | ⟨hn, h2⟩
    · have hq : (acc.any fun x => same x a) = true := List.any_eq_true.2 ⟨a, hm, same_iff.2 rfl⟩
      rw [if_pos hq]
      obtain ⟨g1, g2⟩ := ih acc h h2
      refine ⟨g1, fun s => (g2 s).trans ⟨fun e => e.imp id (List.mem_cons_of_mem _), fun e => ?_⟩⟩
      rcases e with e | e
      · exact .inl e
      · rcases List.mem_cons.1 e with e | e
        · rw [e]; exact .inl hm
        · exact .inr e
    · rw [if_neg (fun hq => by
        obtain ⟨x, hx, hs⟩ := List.any_eq_true.1 hq
        have := hn x hx
        rw [same_iff.1 hs] at this
        exact ltx_irrefl _ this)]
      obtain ⟨g1, g2⟩ := ih (acc ++ [a]) (List.pairwise_append.2 ⟨h, List.pairwise_singleton _ _, fun x hx b hb => by rw [List.mem_singleton.1 hb]; exact hn x hx⟩) h2
      refine ⟨g1, fun s => (g2 s).trans ?_⟩
      rw [List.mem_append, List.mem_singleton, List.mem_cons, or_assoc]
theorem sortS (a b c : Int) : ∃ p q r : Int, r ≤ q ∧ q ≤ p ∧ (∀ k, spec_l02Sort.f (k + 2) a b c = some (p, q, r)) ∧ (∀ s, s ∈ six p q r ↔ s ∈ six a b c) := by
  have e : ∀ k, spec_l02Sort.f (k + 2) a b c = if a < b then (if a < c then (if b < c then some (c, b, a) else some (b, c, a)) else (if b < a then some (a, b, c) else some (b, a, c))) else (if b < c then (if a < c then some (c, a, b) else some (a, c, b)) else (if a < b then some (b, a, c) else some (a, b, c))) := fun k => by
    rw [spec_l02Sort.f, spec_l02Sort.j0, spec_l02Sort.j0, spec_l02Sort.j1, spec_l02Sort.j1, spec_l02Sort.j1, spec_l02Sort.j1]
  have m1 : ∀ s, s ∈ six a b c ↔ s ∈ six a b c := fun s => Iff.rfl
  have m2 : ∀ s, s ∈ six b a c ↔ s ∈ six a b c := fun s => by simp only [six, List.mem_cons, List.not_mem_nil, or_false]; exact ⟨fun h => by rcases h with h | h | h | h | h | h <;> simp [h], fun h => by rcases h with h | h | h | h | h | h <;> simp [h]⟩
  have m3 : ∀ s, s ∈ six a c b ↔ s ∈ six a b c := fun s => by simp only [six, List.mem_cons, List.not_mem_nil, or_false]; exact ⟨fun h => by rcases h with h | h | h | h | h | h <;> simp [h], fun h => by rcases h with h | h | h | h | h | h <;> simp [h]⟩
  have m4 : ∀ s, s ∈ six c a b ↔ s ∈ six a b c := fun s => by simp only [six, List.mem_cons, List.not_mem_nil, or_false]; exact ⟨fun h => by rcases h with h | h | h | h | h | h <;> simp [h], fun h => by rcases h with h | h | h | h | h | h <;> simp [h]⟩
  have m5 : ∀ s, s ∈ six b c a ↔ s ∈ six a b c := fun s => by simp only [six, List.mem_cons, List.not_mem_nil, or_false]; exact ⟨fun h => by rcases h with h | h | h | h | h | h <;> simp [h], fun h => by rcases h with h | h | h | h | h | h <;> simp [h]⟩
  have m6 : ∀ s, s ∈ six c b a ↔ s ∈ six a b c := fun s => by simp only [six, List.mem_cons, List.not_mem_nil, or_false]; exact ⟨fun h => by rcases h with h | h | h | h | h | h <;> simp [h], fun h => by rcases h with h | h | h | h | h | h <;> simp [h]⟩
  by_cases h1 : a < b
  · by_cases h2 : a < c
    · by_cases h3 : b < c
      · exact ⟨c, b, a, by omega, by omega, fun k => by rw [e, if_pos h1, if_pos h2, if_pos h3], m6⟩
      · exact ⟨b, c, a, by omega, by omega, fun k => by rw [e, if_pos h1, if_pos h2, if_neg h3], m5⟩
    · exact ⟨b, a, c, by omega, by omega, fun k => by rw [e, if_pos h1, if_neg h2, if_neg (by omega)], m2⟩
  · by_cases h2 : b < c
    · by_cases h3 : a < c
      · exact ⟨c, a, b, by omega, by omega, fun k => by rw [e, if_neg h1, if_pos h2, if_pos h3], m4⟩
      · exact ⟨a, c, b, by omega, by omega, fun k => by rw [e, if_neg h1, if_pos h2, if_neg h3], m3⟩
    · exact ⟨a, b, c, by omega, by omega, fun k => by rw [e, if_neg h1, if_neg h2, if_neg h1], m1⟩
theorem turnsB (a b c : Int) : ∃ (l : List S64) (p q r : Int), l.Pairwise ltx ∧ (∀ s, s ∈ l ↔ s ∈ six a b c) ∧ Ev (fun k => impl_Box_turns.f k a b c) l ∧
    (∀ k, spec_l02Sort.f (k + 2) a b c = some (p, q, r)) ∧ 1 ≤ l.length ∧ l.length ≤ 900 ∧ l.getD (l.length - 1) z64 = ⟨p, q, r⟩ := by
  obtain ⟨l, h1, h2, h3⟩ := turnsI a b c
  obtain ⟨p, q, r, o1, o2, hs, hm⟩ := sortS a b c
  obtain ⟨al, hal⟩ : ∃ al : List S64, al = [⟨r, q, p⟩, ⟨r, p, q⟩, ⟨q, r, p⟩, ⟨q, p, r⟩, ⟨p, r, q⟩, ⟨p, q, r⟩] := ⟨_, rfl⟩
  have hall : al.length = 6 := by rw [hal]; rfl
  have hw : Good [] al := by
    rw [hal]
    by_cases e1 : r = q
    · subst e1
      by_cases e2 : r = p
      · subst e2
        simp [Good]
      · have e3 : r < p := by omega
        simp [Good, ltx, e3]
    · have e3 : r < q := by omega
      by_cases e2 : q = p
      · subst e2
        simp [Good, ltx, e3]
      · have e4 : q < p := by omega
        have e5 : r < p := by omega
        simp [Good, ltx, e3, e4, e5]
  obtain ⟨g1, g2⟩ := ded_spec al [] List.Pairwise.nil hw
  have hmem : ∀ s, s ∈ al ↔ s ∈ six a b c := fun s => by
    rw [← hm s, hal]
    simp only [six, List.mem_cons, List.not_mem_nil, or_false]
    exact ⟨fun h => by rcases h with h | h | h | h | h | h <;> simp [h], fun h => by rcases h with h | h | h | h | h | h <;> simp [h]⟩
  have hd : ded [] al = l := rise_uniq _ _ g1 h1 (fun s => by rw [g2 s, h2 s, ← hmem s]; simp)
  have hlast : (⟨p, q, r⟩ : S64) ∈ l := by rw [h2, ← hmem, hal]; simp
  have hpos : 1 ≤ l.length := List.length_pos_of_mem hlast
  have hle : l.length ≤ 900 := by
    have hdl : ∀ (x acc : List S64), (ded acc x).length ≤ acc.length + x.length := by
      intro x
      induction x with
      | nil => intro acc; simp [ded]
      | cons t x ih =>
        intro acc
        rw [ded]
        split
        · have := ih acc; simp; omega
        · have := ih (acc ++ [t]); simp at this ⊢; omega
    have := hdl al []
    rw [hd, hall] at this
    simp at this; omega
  refine ⟨l, p, q, r, h1, h2, h3, hs, hpos, hle, ?_⟩
  obtain ⟨i, hi, hie⟩ := (mem_getDG z64 l _).1 hlast
  by_cases e : i = l.length - 1
  · rw [← e, hie]
  · exfalso
    have hlt := List.pairwise_iff_getElem.1 h1 i (l.length - 1) hi (by omega) (by omega)
    rw [← getD_eqG z64 l i hi, ← getD_eqG z64 l _ (by omega), hie] at hlt
    have hin : l.getD (l.length - 1) z64 ∈ al := by rw [hmem, ← h2, getD_eqG z64 l _ (by omega)]; exact List.getElem_mem _
    rw [hal] at hin
    generalize l.getD (l.length - 1) z64 = s at hlt hin
    simp only [List.mem_cons, List.not_mem_nil, or_false] at hin
    unfold ltx at hlt
    rcases hin with rfl | rfl | rfl | rfl | rfl | rfl <;> simp only at hlt <;> omega
end Go.Proofs.Ytipdmnibjkdpcaa.Pure

namespace Go.Proofs.Ytipdmnibjkdpcaa.Pure
open Go.RowKit Go.Proofs.Ytipdmnibjkdpcaa.P Go.Proofs.YtipdmnibjkdpcaaW.PrintWords Go.Proofs.YtipdmnibjkdpcaaW.PrintLast
set_option linter.unusedVariables false
set_option linter.unusedSimpArgs false
theorem eqBF (a b c : Int) : laws_eqBox.f a b c a b c = some true := by
  rw [laws_eqBox.f, if_pos rfl, if_pos rfl, if_pos rfl]
theorem eqB_l0 (l : List S64) (hb : l.length ≤ 17592186044415) : ∀ d i, l.length - i = d → i ≤ l.length → Ev (fun k => laws_eqBoxS.l0 k l l (i : Int)) true := by
  intro d
  induction d with
  | zero =>
    intro i hd hi
    refine Ev.step (f := fun _ => some true) (fun k => ?_) (Ev.now _)
    rw [laws_eqBoxS.l0, if_neg (by omega)]
  | succ d ih =>
    intro i hd hi
    refine Ev.step (fun k => ?_) (ih (i + 1) (by omega) (by omega))
    rw [laws_eqBoxS.l0, if_pos (by omega), if_pos (by omega), if_pos (by omega), eqBF, Option.bind_some, if_pos rfl, wN i (by omega)]
theorem eqB (l : List S64) (hb : l.length ≤ 17592186044415) : Ev (fun k => laws_eqBoxS.f k l l) true := by
  refine Ev.congr (f := fun k => laws_eqBoxS.l0 k l l ((0 : Nat) : Int)) (fun k => ?_) (eqB_l0 l hb _ 0 rfl (Nat.zero_le _))
  rw [laws_eqBoxS.f, if_pos rfl]; rfl
theorem getD_memG (l : List S64) (i : Nat) (h : i < l.length) : l.getD i z64 ∈ l := by rw [getD_eqG z64 l i h]; exact List.getElem_mem h
end Go.Proofs.Ytipdmnibjkdpcaa.Pure

namespace Go.Proofs.Ytipdmnibjkdpcaa.Pure
open Go.RowKit Go.Proofs.Ytipdmnibjkdpcaa.P Go.Proofs.YtipdmnibjkdpcaaW.PrintWords Go.Proofs.YtipdmnibjkdpcaaW.PrintLast
set_option linter.unusedVariables false
set_option linter.unusedSimpArgs false
def mkE (m : Nat) : S64 := ⟨IntKind.i8.wrap (m : Int), IntKind.i8.wrap ((m + 1 : Nat) : Int), IntKind.i8.wrap ((m + 2 : Nat) : Int)⟩
def mkB (n : Nat) : List S64 := (List.range n).map fun i => mkE (1 + 3 * i)
theorem mkB_len (n : Nat) : (mkB n).length = n := by simp [mkB]
theorem mkB_at (n i : Nat) (h : i < n) : (mkB n).getD i z64 = mkE (1 + 3 * i) := by
  simp [mkB, List.getD_eq_getElem?_getD, h]
theorem list_extB (a b : List S64) (hl : a.length = b.length) (h : ∀ j, j < b.length → a.getD j z64 = b.getD j z64) : a = b := by
  apply List.ext_getElem hl
  intro i h1 h2
  have := h i h2
  rwa [getD_eqG z64 a i h1, getD_eqG z64 b i h2] at this
theorem markB_l0 (n : Nat) (hb : n ≤ 2000000) : ∀ d i x, n - i = d → i ≤ n → x.length = n → (∀ j, j < i → x.getD j z64 = mkE (1 + 3 * j)) →
    Ev (fun k => laws_markBoxS.l0 k x ((1 + 3 * i : Nat) : Int) (i : Int)) (((1 + 3 * n : Nat) : Int), mkB n) := by
  intro d
  induction d with
  | zero =>
    intro i x hd hi hx hj
    obtain rfl : i = n := by omega
    refine Ev.step (f := fun _ => some (((1 + 3 * i : Nat) : Int), x)) (fun k => ?_) ?_
    · rw [laws_markBoxS.l0, if_neg (by omega)]
    · have : x = mkB i := list_extB x _ (by rw [mkB_len]; exact hx) (fun j h => by rw [mkB_len] at h; rw [hj j h, mkB_at i j h])
      rw [this]; exact Ev.now _
  | succ d ih =>
    intro i x hd hi hx hj
    refine Ev.step (fun k => ?_) (ih (i + 1) (x.set i (mkE (1 + 3 * i))) (by omega) (by omega) (by simpa using hx) ?_)
    · rw [laws_markBoxS.l0, if_pos (by omega), if_pos (by omega), Option.bind_some, Option.bind_some]
      rw [wN (1 + 3 * i) (by omega), wN (1 + 3 * i + 1) (by omega), wN (1 + 3 * i + 1 + 1) (by omega), wN i (by omega)]
      simp only [Int.toNat_natCast, rdT]
      rw [getD_setG z64 _ i i _ (by rw [hx]; omega), if_pos rfl, getD_setG z64 _ i i _ (by rw [List.length_set, hx]; omega), if_pos rfl, List.set_set, List.set_set]
      rfl
    · intro j h
      rw [getD_setG z64 x i j _ (by omega)]
      by_cases e : i = j
      · rw [if_pos e, e]
      · rw [if_neg e]; exact hj j (by omega)
theorem markB (l : List S64) (hb : l.length ≤ 2000000) : Ev (fun k => laws_markBoxS.f k l 1) (((1 + 3 * l.length : Nat) : Int), mkB l.length) :=
  markB_l0 l.length hb _ 0 l rfl (Nat.zero_le _) rfl (fun j h => absurd h (Nat.not_lt_zero _))
end Go.Proofs.Ytipdmnibjkdpcaa.Pure

namespace Go.Proofs.Ytipdmnibjkdpcaa.Pure
open Go.RowKit Go.Proofs.Ytipdmnibjkdpcaa.P Go.Proofs.YtipdmnibjkdpcaaW.PrintWords Go.Proofs.YtipdmnibjkdpcaaW.PrintLast
set_option linter.unusedVariables false
set_option linter.unusedSimpArgs false
theorem rdT66 (l : List S66) (i : Nat) : rd_T66 l (i : Int) = l.getD i z66 := rfl
theorem list_extT (a b : List S64) (hl : a.length = b.length) (h : ∀ j, j < b.length → a.getD j z64 = b.getD j z64) : a = b := by
  apply List.ext_getElem hl
  intro i h1 h2
  have := h i h2
  rwa [getD_eqG z64 a i h1, getD_eqG z64 b i h2] at this
def cvb (x : S66) : S64 := ⟨x.f0, x.f1, x.f2⟩
theorem szB (l : List S66) (a : Int) (h0 : 0 ≤ a) (h1 : a ≤ 1048576) (hl : l.length ≤ 9223372036854775807) : laws_szBoxS.f l a = some (if (l.length : Int) ≤ a then a - l.length else -1) := by
  unfold laws_szBoxS.f
  rw [w64 (by omega) (by omega)]
  split <;> split <;> first | rfl | omega
theorem toBS_l0 (l : List S66) (hb : l.length ≤ 1048576) : ∀ d i (x : List S64), l.length - i = d → i ≤ l.length → x.length = l.length → (∀ j, j < i → x.getD j z64 = cvb (l.getD j z66)) → Ev (fun k => laws_toBoxS.l0 k l x (i : Int)) (l.map cvb) := by
  intro d
  induction d with
  | zero =>
    intro i x hd hi hx hj
    refine Ev.step (f := fun _ => some x) (fun k => ?_) ?_
    · rw [laws_toBoxS.l0, if_neg (by omega)]
    · have : x = l.map cvb := list_extT x _ (by rw [List.length_map, hx]) (fun j h => by
        rw [List.length_map] at h
        rw [hj j (by omega), getD_eqG z64 _ j (by rw [List.length_map]; exact h), List.getElem_map, getD_eqG z66 l j h])
      rw [this]; exact Ev.now _
  | succ d ih =>
    intro i x hd hi hx hj
    refine Ev.step (fun k => ?_) (ih (i + 1) (x.set i (cvb (l.getD i z66))) (by omega) (by omega) (by simpa using hx) ?_)
    · rw [laws_toBoxS.l0, if_pos (by omega), if_pos (by omega), toB, Option.bind_some, if_pos (by omega), wN i (by omega), rdT66, Int.toNat_natCast]
      rfl
    · intro j h
      rw [getD_setG z64 x i j _ (by omega)]
      by_cases e : i = j
      · rw [if_pos e, e]
      · rw [if_neg e]; exact hj j (by omega)
theorem toBS (l : List S66) (hb : l.length ≤ 1048576) : Ev (fun k => laws_toBoxS.f k l) (l.map cvb) := by
  refine Ev.congr (f := fun k => laws_toBoxS.l0 k l (List.replicate l.length z64) ((0 : Nat) : Int)) (fun k => ?_) (toBS_l0 l hb _ 0 _ rfl (Nat.zero_le _) (by simp) (fun j h => absurd h (Nat.not_lt_zero _)))
  simp only [laws_toBoxS.f, Int.toNat_natCast]
  rw [if_pos (by omega), if_pos (by omega)]; rfl
def okS (s : S64) : Bool := okB s.f0 s.f1 s.f2
def boxesOk (l : List S64) : Bool := decide (l.length ≤ 10) && l.all okS
def wfS (l : List S64) : Prop := ∀ s ∈ l, (Lit.int .i8 s.f0).wf = true ∧ (Lit.int .i8 s.f1).wf = true ∧ (Lit.int .i8 s.f2).wf = true
theorem wf_cvb {l : List S66} (h : ∀ x ∈ l, (Lit.int .i8 x.f0).wf = true ∧ (Lit.int .i8 x.f1).wf = true ∧ (Lit.int .i8 x.f2).wf = true) : wfS (l.map cvb) := by
  intro s hs
  obtain ⟨x, hx, rfl⟩ := List.mem_map.1 hs
  exact h x hx
theorem any_l0 (l : List S64) (hb : l.length ≤ 1048576) (hw : wfS l) : ∀ d i, l.length - i = d → i ≤ l.length → (∀ j, j < i → okS (l.getD j z64) = true) → ∃ r : Int, Ev (fun k => impl_Box_72.l0 k l (l.length : Int) (i : Int)) r ∧ decide (r ≥ 0) = !(l.all okS) := by
  intro d
  induction d with
  | zero =>
    intro i hd hi hj
    refine ⟨-1, Ev.step (f := fun _ => some (-1)) (fun k => by rw [impl_Box_72.l0, if_neg (by omega)]) (Ev.now _), ?_⟩
    have e : l.all okS = true := List.all_eq_true.2 (fun s hs => by
      obtain ⟨j, h1, rfl⟩ := (mem_getDG z64 l s).1 hs
      exact hj j (by omega))
    rw [e]; rfl
  | succ d ih =>
    intro i hd hi hj
    obtain ⟨w0, w1, w2⟩ := hw _ (getD_memG l i (by omega))
    have e : ∀ k, impl_Box_72.l0 (k + 1) l (l.length : Int) (i : Int) = if (!okS (l.getD i z64)) = true then some (i : Int) else impl_Box_72.l0 k l (l.length : Int) ((i + 1 : Nat) : Int) := fun k => by
      rw [impl_Box_72.l0, if_pos (by omega), if_pos (by omega), if_pos (by omega), impl_boxesCode_1.f, rdT, implOk w0 w1 w2, Option.bind_some, Option.bind_some, wN i (by omega)]
      rfl
    by_cases c : okS (l.getD i z64) = true
    · obtain ⟨r, r1, r2⟩ := ih (i + 1) (by omega) (by omega) (fun j h => by
        by_cases e : j = i
        · subst e; exact c
        · exact hj j (by omega))
      exact ⟨r, Ev.step (fun k => by rw [e, c, if_neg (by decide)]) r1, r2⟩
    · have c' : okS (l.getD i z64) = false := by simpa using c
      refine ⟨(i : Int), Ev.step (f := fun _ => some (i : Int)) (fun k => by rw [e, c', if_pos (by decide)]) (Ev.now _), ?_⟩
      have e : l.all okS = false := by
        cases h : l.all okS with
        | false => rfl
        | true => exact absurd (List.all_eq_true.1 h _ (getD_memG l i (by omega))) c
      rw [e]; simp
theorem codeI (l : List S64) (hb : l.length ≤ 1048576) (hw : wfS l) : Ev (fun k => impl_boxesCode.f k l) (if boxesOk l = true then 0 else 1) := by
  obtain ⟨r, r1, r2⟩ := any_l0 l hb hw _ 0 rfl (Nat.zero_le _) (fun j h => absurd h (Nat.not_lt_zero _))
  obtain ⟨K, r1⟩ := EvG r1
  refine EvI K fun k hk => ?_
  have h1 : impl_Box_72.f k l = some r := r1 k hk
  rw [impl_boxesCode.f, boxesOk]
  by_cases c : l.length ≤ 10
  · rw [if_pos (by omega), impl_Box_60.f, h1, Option.bind_some, Option.bind_some, r2, Bool.not_not, impl_unless.f, decide_eq_true c, Bool.true_and]
    cases l.all okS <;> rfl
  · rw [if_neg (by omega), impl_unless.f, decide_eq_false c, Bool.false_and]
    rfl
theorem boxes_l0 (l : List S64) (hb : l.length ≤ 1048576) (hw : wfS l) : ∀ d i, l.length - i = d → i ≤ l.length → (∀ j, j < i → okS (l.getD j z64) = true) → Ev (fun k => spec_l02Boxes.l0 k l (i : Int)) (boxesOk l) := by
  intro d
  induction d with
  | zero =>
    intro i hd hi hj
    have e : l.all okS = true := List.all_eq_true.2 (fun s hs => by
      obtain ⟨j, h1, rfl⟩ := (mem_getDG z64 l s).1 hs
      exact hj j (by omega))
    refine Ev.step (f := fun _ => some (boxesOk l)) (fun k => ?_) (Ev.now _)
    rw [spec_l02Boxes.l0, if_neg (by omega), boxesOk, e, Bool.and_true]
    congr 1
    by_cases c : l.length ≤ 10 <;> simp [c] <;> omega
  | succ d ih =>
    intro i hd hi hj
    obtain ⟨w0, w1, w2⟩ := hw _ (getD_memG l i (by omega))
    have e : ∀ k, spec_l02Boxes.l0 (k + 1) l (i : Int) = if okS (l.getD i z64) = true then spec_l02Boxes.l0 k l ((i + 1 : Nat) : Int) else some false := fun k => by
      rw [spec_l02Boxes.l0, if_pos (by omega), if_pos (by omega), rdT, specOk w0 w1 w2, Option.bind_some, wN i (by omega)]
      rfl
    by_cases c : okS (l.getD i z64) = true
    · exact Ev.step (fun k => by rw [e, if_pos c]) (ih (i + 1) (by omega) (by omega) (fun j h => by
        by_cases e : j = i
        · subst e; exact c
        · exact hj j (by omega)))
    · have e2 : boxesOk l = false := by
        have : l.all okS = false := by
          cases h : l.all okS with
          | false => rfl
          | true => exact absurd (List.all_eq_true.1 h _ (getD_memG l i (by omega))) c
        rw [boxesOk, this, Bool.and_false]
      rw [e2]
      exact Ev.step (f := fun _ => some false) (fun k => by rw [e, if_neg c]) (Ev.now _)
theorem codeS (l : List S64) (hb : l.length ≤ 1048576) (hw : wfS l) : Ev (fun k => spec_l02Boxes.f k l) (boxesOk l) :=
  boxes_l0 l hb hw _ 0 rfl (Nat.zero_le _) (fun j h => absurd h (Nat.not_lt_zero _))
end Go.Proofs.Ytipdmnibjkdpcaa.Pure

namespace Go.Proofs.Ytipdmnibjkdpcaa.Pure
open Go.RowKit Go.Proofs.Ytipdmnibjkdpcaa.P Go.Proofs.YtipdmnibjkdpcaaW.PrintWords Go.Proofs.YtipdmnibjkdpcaaW.PrintLast
set_option linter.unusedVariables false
theorem sortedB (a b c : Int) : ∃ p q r : Int, Ev (fun k => impl_Box_sorted.f k a b c) (p, q, r) ∧ Ev (fun k => spec_l02Sort.f k a b c) (p, q, r) := by
  obtain ⟨l, p, q, r, _, _, hI, hs, h1, h9, hl⟩ := turnsB a b c
  obtain ⟨K, hI⟩ := EvG hI
  have ew : wrap64 ((l.length : Int) - 1) = ((l.length - 1 : Nat) : Int) := by rw [w64 (by omega) (by omega)]; omega
  refine ⟨p, q, r, EvI K fun k hk => ?_, EvI 2 fun k hk => ?_⟩
  · rw [impl_Box_sorted.f, hI k hk, Option.bind_some, ew, if_pos (by omega), if_pos (by omega), rdT, hl]
  · obtain ⟨m, rfl⟩ : ∃ m, k = m + 2 := ⟨k - 2, by omega⟩
    exact hs m
theorem insideB (a b c u v w : Int) : ∃ t : Bool, Ev (fun k => impl_Box_inside.f k a b c u v w) t ∧ Ev (fun k => spec_l02Inside.f k a b c u v w) t := by
  obtain ⟨p, q, r, i1, s1⟩ := sortedB a b c
  obtain ⟨x, y, z, i2, s2⟩ := sortedB u v w
  obtain ⟨K1, i1⟩ := EvG i1
  obtain ⟨K2, i2⟩ := EvG i2
  obtain ⟨K3, s1⟩ := EvG s1
  obtain ⟨K4, s2⟩ := EvG s2
  have eI : ∀ k, K1 + K2 ≤ k → impl_Box_inside.f k a b c u v w = if p < x then (if q < y then some (decide (r < z)) else some false) else some false := fun k hk => by
    rw [impl_Box_inside.f, i1 k (by omega), Option.bind_some, i2 k (by omega), Option.bind_some]
  have eS : ∀ k, K3 + K4 ≤ k → spec_l02Inside.f k a b c u v w = if p < x then (if q < y then some (decide (r < z)) else some false) else some false := fun k hk => by
    rw [spec_l02Inside.f, s1 k (by omega), Option.bind_some, s2 k (by omega), Option.bind_some]
  by_cases c1 : p < x
  · by_cases c2 : q < y
    · exact ⟨_, EvI _ fun k hk => by rw [eI k hk, if_pos c1, if_pos c2], EvI _ fun k hk => by rw [eS k hk, if_pos c1, if_pos c2]⟩
    · exact ⟨_, EvI _ fun k hk => by rw [eI k hk, if_pos c1, if_neg c2], EvI _ fun k hk => by rw [eS k hk, if_pos c1, if_neg c2]⟩
  · exact ⟨_, EvI _ fun k hk => by rw [eI k hk, if_neg c1], EvI _ fun k hk => by rw [eS k hk, if_neg c1]⟩
end Go.Proofs.Ytipdmnibjkdpcaa.Pure

namespace Go.Proofs.Ytipdmnibjkdpcaa.Pure
open Go.RowKit Go.Proofs.Ytipdmnibjkdpcaa.P Go.Proofs.YtipdmnibjkdpcaaW.PrintWords Go.Proofs.YtipdmnibjkdpcaaW.PrintLast
set_option linter.unusedVariables false
set_option linter.unusedSimpArgs false
noncomputable def insS (s t : S64) : Bool := (insideB s.f0 s.f1 s.f2 t.f0 t.f1 t.f2).choose
noncomputable def nestS (s t : S64) : Bool := insS s t || insS t s
theorem insS_i (s t : S64) : Ev (fun k => impl_Box_inside.f k s.f0 s.f1 s.f2 t.f0 t.f1 t.f2) (insS s t) := (insideB s.f0 s.f1 s.f2 t.f0 t.f1 t.f2).choose_spec.1
theorem insS_s (s t : S64) : Ev (fun k => spec_l02Inside.f k s.f0 s.f1 s.f2 t.f0 t.f1 t.f2) (insS s t) := (insideB s.f0 s.f1 s.f2 t.f0 t.f1 t.f2).choose_spec.2
theorem nestF (s t : S64) : Ev (fun k => impl_nested.f k s.f0 s.f1 s.f2 t.f0 t.f1 t.f2) (nestS s t) := by
  obtain ⟨K1, h1⟩ := EvG (insS_i s t)
  obtain ⟨K2, h2⟩ := EvG (insS_i t s)
  refine EvI (K1 + K2) fun k hk => ?_
  rw [impl_nested.f, h1 k (by omega), Option.bind_some, h2 k (by omega), Option.bind_some, nestS]
  cases insS s t <;> cases insS t s <;> rfl
theorem ownF (b : List Int) (h : b.length < 17592186044416) : spec_l00Own.f b = some b := by
  rw [spec_l00Own.f, Option.bind_some, if_pos (by simpa using h), List.nil_append]
theorem rdB (l : List S64) (x : Int) : rd_T64 l x = l.getD x.toNat z64 := rfl
end Go.Proofs.Ytipdmnibjkdpcaa.Pure

namespace Go.Proofs.Ytipdmnibjkdpcaa.Pure
open Go.RowKit Go.Proofs.Ytipdmnibjkdpcaa.P Go.Proofs.YtipdmnibjkdpcaaW.PrintWords Go.Proofs.YtipdmnibjkdpcaaW.PrintLast
set_option linter.unusedVariables false
set_option linter.unusedSimpArgs false
theorem rg1 (n i : Nat) (h : i < n) : (List.range n).drop i = i :: (List.range n).drop (i + 1) := by
  rw [List.drop_eq_getElem_cons (by simpa using h), List.getElem_range]
noncomputable def FP (l : List S64) (y : List Int) (m : Nat) (key : Int) (i : Nat) : Bool := ((List.range m).drop i).all fun j => !decide (y.getD j 0 = key) || nestS (l.getD j z64) (l.getD m z64)
theorem FP_end (l : List S64) (y : List Int) (m : Nat) (key : Int) : FP l y m key m = true := by
  rw [FP, List.drop_of_length_le (by simp)]; rfl
theorem FP_step (l : List S64) (y : List Int) (m : Nat) (key : Int) (i : Nat) (h : i < m) : FP l y m key i = ((!decide (y.getD i 0 = key) || nestS (l.getD i z64) (l.getD m z64)) && FP l y m key (i + 1)) := by
  rw [FP, rg1 m i h, List.all_cons]; rfl
theorem FP_congr {l : List S64} {y b : List Int} {m : Nat} (h : ∀ j, j < m → y.getD j 0 = b.getD j 0) (key : Int) : FP l y m key 0 = FP l b m key 0 := by
  rw [FP, FP, List.drop_zero]
  rw [Bool.eq_iff_iff, List.all_eq_true, List.all_eq_true]
  constructor
  · intro g j hj
    rw [← h j (List.mem_range.1 hj)]; exact g j hj
  · intro g j hj
    rw [h j (List.mem_range.1 hj)]; exact g j hj
theorem may_l0 (l : List S64) (hl : l.length ≤ 10) (b : List Int) (hb : b.length < l.length) (key : Int) : ∀ d i, b.length - i = d → i ≤ b.length → Ev (fun k => impl_mayPile_1.l0 k b key l b (b.length : Int) (i : Int)) (FP l b b.length key i) := by
  intro d
  induction d with
  | zero =>
    intro i hd hi
    obtain rfl : i = b.length := by omega
    rw [FP_end]
    exact Ev.step (f := fun _ => some true) (fun k => by rw [impl_mayPile_1.l0, if_neg (by omega)]) (Ev.now _)
  | succ d ih =>
    intro i hd hi
    rw [FP_step l b b.length key i (by omega)]
    by_cases c : b.getD i 0 = key
    · obtain ⟨K1, h1⟩ := EvG (nestF (l.getD i z64) (l.getD b.length z64))
      obtain ⟨K2, h2⟩ := EvG (ih (i + 1) (by omega) (by omega))
      refine EvI (K1 + K2 + 1) fun k hk => ?_
      obtain ⟨m, rfl⟩ : ∃ m, k = m + 1 := ⟨k - 1, by omega⟩
      rw [impl_mayPile_1.l0, if_pos (by omega), if_pos (by omega), if_pos (by omega), rdN, if_pos c, if_pos (by omega), if_pos (by omega), if_pos (by omega), rdB, rdB, Int.toNat_natCast, Int.toNat_natCast, h1 m (by omega), Option.bind_some, wN i (by omega), h2 m (by omega), decide_eq_true c]
      cases nestS (l.getD i z64) (l.getD b.length z64) <;> rfl
    · rw [decide_eq_false c, Bool.not_false, Bool.true_or, Bool.true_and]
      refine Ev.step (fun k => ?_) (ih (i + 1) (by omega) (by omega))
      rw [impl_mayPile_1.l0, if_pos (by omega), if_pos (by omega), if_pos (by omega), rdN, if_neg c, wN i (by omega)]
theorem mayF (l : List S64) (hl : l.length ≤ 10) (b : List Int) (hb : b.length < l.length) (key : Int) : Ev (fun k => impl_mayPile_1.f k b key l) (FP l b b.length key 0) :=
  may_l0 l hl b hb key _ 0 rfl (Nat.zero_le _)
theorem pil_l0 (l : List S64) (hl : l.length ≤ 10) (y : List Int) (m : Nat) (hy : y.length = m + 1) (hm : y.length ≤ l.length) : ∀ d i, m - i = d → i ≤ m → Ev (fun k => spec_l02Piled.l0 k l y (m : Int) (i : Int)) (FP l y m (y.getD m 0) i) := by
  intro d
  induction d with
  | zero =>
    intro i hd hi
    obtain rfl : i = m := by omega
    rw [FP_end]
    exact Ev.step (f := fun _ => some true) (fun k => by rw [spec_l02Piled.l0, if_neg (by omega)]) (Ev.now _)
  | succ d ih =>
    intro i hd hi
    rw [FP_step l y m (y.getD m 0) i (by omega)]
    by_cases c : y.getD i 0 = y.getD m 0
    · obtain ⟨K1, h1⟩ := EvG (insS_s (l.getD i z64) (l.getD m z64))
      obtain ⟨K3, h3⟩ := EvG (insS_s (l.getD m z64) (l.getD i z64))
      obtain ⟨K2, h2⟩ := EvG (ih (i + 1) (by omega) (by omega))
      refine EvI (K1 + K2 + K3 + 1) fun k hk => ?_
      obtain ⟨n, rfl⟩ : ∃ n, k = n + 1 := ⟨k - 1, by omega⟩
      rw [spec_l02Piled.l0, if_pos (by omega), if_pos (by omega), if_pos (by omega), if_pos (by omega), if_pos (by omega), rdN, rdN, if_pos c, if_pos (by omega), if_pos (by omega), rdB, rdB, Int.toNat_natCast, Int.toNat_natCast, h1 n (by omega), Option.bind_some, wN i (by omega), h2 n (by omega), h3 n (by omega), Option.bind_some, decide_eq_true c, nestS]
      cases insS (l.getD i z64) (l.getD m z64) <;> cases insS (l.getD m z64) (l.getD i z64) <;> rfl
    · rw [decide_eq_false c, Bool.not_false, Bool.true_or, Bool.true_and]
      refine Ev.step (fun k => ?_) (ih (i + 1) (by omega) (by omega))
      rw [spec_l02Piled.l0, if_pos (by omega), if_pos (by omega), if_pos (by omega), if_pos (by omega), if_pos (by omega), rdN, rdN, if_neg c, wN i (by omega)]
theorem pilF (l : List S64) (hl : l.length ≤ 10) (y : List Int) (m : Nat) (hy : y.length = m + 1) (hm : y.length ≤ l.length) : Ev (fun k => spec_l02Piled.f k l y) (FP l y m (y.getD m 0) 0) := by
  refine Ev.congr (fun k => ?_) (pil_l0 l hl y m hy hm _ 0 rfl (Nat.zero_le _))
  rw [spec_l02Piled.f, hy, w64 (by omega) (by omega), show (((m + 1 : Nat) : Int) - 1) = (m : Int) by omega]
  rfl
end Go.Proofs.Ytipdmnibjkdpcaa.Pure

namespace Go.Proofs.Ytipdmnibjkdpcaa.Pure
open Go.RowKit Go.Proofs.Ytipdmnibjkdpcaa.P Go.Proofs.YtipdmnibjkdpcaaW.PrintWords Go.Proofs.YtipdmnibjkdpcaaW.PrintLast
set_option linter.unusedVariables false
set_option linter.unusedSimpArgs false
theorem mxG (a b : Nat) : mx ((a : Nat) : Int) ((b : Nat) : Int) = ((max a b : Nat) : Int) := by
  unfold mx
  split <;> rename_i h <;> omega
theorem max0G (a b : Nat) : spec_l00Max.f ((a : Nat) : Int) ((b : Nat) : Int) = some ((max a b : Nat) : Int) := by
  unfold spec_l00Max.f
  split <;> rename_i h <;> (congr 1; omega)
noncomputable def pil (l : List S64) (most : Nat) : Nat → List Int → Nat → Option (List Int)
  | 0, b, _ => some b
  | d + 1, b, used => (List.range (used + 1)).findSome? fun p => if p < most ∧ FP l b b.length (p : Int) 0 = true then pil l most d (b ++ [(p : Int)]) (max used (p + 1)) else none
noncomputable def pilR (l : List S64) (most d : Nat) (b : List Int) (used i : Nat) : Option (List Int) := ((List.range (used + 1)).drop i).findSome? fun p => if p < most ∧ FP l b b.length (p : Int) 0 = true then pil l most d (b ++ [(p : Int)]) (max used (p + 1)) else none
theorem pilR_zero (l : List S64) (most d : Nat) (b : List Int) (used : Nat) : pilR l most d b used 0 = pil l most (d + 1) b used := by rw [pilR, List.drop_zero, pil]
theorem pilR_end (l : List S64) (most d : Nat) (b : List Int) (used : Nat) : pilR l most d b used (used + 1) = none := by
  rw [pilR, List.drop_of_length_le (by simp)]; rfl
theorem pilR_step (l : List S64) (most d : Nat) (b : List Int) (used i : Nat) (h : i < used + 1) : pilR l most d b used i = (if i < most ∧ FP l b b.length (i : Int) 0 = true then pil l most d (b ++ [(i : Int)]) (max used (i + 1)) else none).or (pilR l most d b used (i + 1)) := by
  rw [pilR, rg1 _ i h, List.findSome?_cons]
  split <;> rename_i e <;> rw [e] <;> rfl
theorem pilR_most (l : List S64) (most d : Nat) (b : List Int) (used i : Nat) (h : most ≤ i) : pilR l most d b used i = none := by
  rw [pilR, List.findSome?_eq_none_iff]
  intro x hx
  obtain ⟨j, hj, rfl⟩ := List.mem_iff_getElem.1 hx
  rw [List.getElem_drop, List.getElem_range, if_neg (by omega)]
theorem pil_len (l : List S64) (most : Nat) : ∀ (d : Nat) (b : List Int) (used : Nat) (x : List Int), pil l most d b used = some x → x.length = b.length + d := by
  intro d
  induction d with
  | zero => intro b used x h; rw [pil] at h; cases h; rfl
  | succ d ih =>
    intro b used x h
    rw [pil] at h
    obtain ⟨p, _, h⟩ := List.exists_of_findSome?_eq_some h
    split at h
    · have := ih _ _ _ h
      rw [List.length_append] at this
      simp at this; omega
    · cases h
theorem FP_fresh (l : List S64) (b : List Int) (used : Nat) (h : ∀ j, j < b.length → b.getD j 0 < (used : Int)) : FP l b b.length (used : Int) 0 = true := by
  rw [FP, List.drop_zero, List.all_eq_true]
  intro j hj
  have := h j (List.mem_range.1 hj)
  rw [decide_eq_false (by omega)]; rfl
theorem pil_some (l : List S64) (n : Nat) : ∀ (d : Nat) (b : List Int) (used : Nat), b.length + d = n → used ≤ b.length → (∀ j, j < b.length → b.getD j 0 < (used : Int)) → (pil l n d b used).isSome = true := by
  intro d
  induction d with
  | zero => intro b used _ _ _; rw [pil]; rfl
  | succ d ih =>
    intro b used hn hu hb
    rw [pil, List.findSome?_isSome_iff]
    refine ⟨used, List.mem_range.2 (by omega), ?_⟩
    rw [if_pos ⟨by omega, FP_fresh l b used hb⟩]
    refine ih _ _ (by rw [List.length_append]; simp; omega) (by rw [List.length_append]; simp; omega) ?_
    intro j hj
    rw [List.length_append] at hj
    simp at hj
    by_cases c : j < b.length
    · rw [List.getD_eq_getElem?_getD, List.getElem?_append_left c, ← List.getD_eq_getElem?_getD]
      have := hb j c; omega
    · obtain rfl : j = b.length := by omega
      rw [List.getD_eq_getElem?_getD, List.getElem?_append_right (Nat.le_refl _), Nat.sub_self, List.getElem?_cons_zero, Option.getD_some]
      omega
theorem iP (l : List S64) (hl : l.length ≤ 10) (most : Nat) (hm : most ≤ l.length) : ∀ (d : Nat) (b : List Int) (used : Nat), b.length + d = l.length → used ≤ b.length → Ev (fun k => impl_grouped_1.f k b (used : Int) (l.length : Int) (most : Int) l) (pil l most d b used) := by
  intro d
  induction d with
  | zero =>
    intro b used hd hu
    rw [pil]
    exact Ev.step (f := fun _ => some (some b)) (fun k => by rw [impl_grouped_1.f, if_pos (by omega)]) (Ev.now _)
  | succ d ih =>
    intro b used hd hu
    have loop : ∀ (m i : Nat), used + 1 - i = m → i ≤ used + 1 → Ev (fun k => impl_grouped_1.l0 k b (used : Int) (l.length : Int) (most : Int) l ((used + 1 : Nat) : Int) (i : Int)) (pilR l most d b used i) := by
      intro m
      induction m with
      | zero =>
        intro i hmm hi
        obtain rfl : i = used + 1 := by omega
        rw [pilR_end]
        exact Ev.step (f := fun _ => some none) (fun k => by rw [impl_grouped_1.l0, if_neg (by omega)]) (Ev.now _)
      | succ m ihm =>
        intro i hmm hi
        rw [pilR_step l most d b used i (by omega)]
        obtain ⟨K1, h1⟩ := EvG (mayF l hl b (by omega) (i : Int))
        obtain ⟨K2, h2⟩ := EvG (ihm (i + 1) (by omega) (by omega))
        by_cases c : i < most ∧ FP l b b.length (i : Int) 0 = true
        · rw [if_pos c]
          obtain ⟨K3, h3⟩ := EvG (ih (b ++ [(i : Int)]) (max used (i + 1)) (by rw [List.length_append]; simp; omega) (by rw [List.length_append]; simp; omega))
          refine EvI (K1 + K2 + K3 + 1) fun k hk => ?_
          obtain ⟨n, rfl⟩ : ∃ n, k = n + 1 := ⟨k - 1, by omega⟩
          rw [impl_grouped_1.l0, if_pos (by omega), impl_fewestGroups_1.f, if_pos (by omega), h1 n (by omega), Option.bind_some, Option.bind_some, if_pos c.2, slices_Clone_int64_int64.f, Option.bind_some, if_pos (by simp; omega), List.nil_append, Option.bind_some, Option.bind_some, if_pos (by simp; omega), wN i (by omega), mxG, h3 n (by omega), Option.bind_some]
          cases pil l most d (b ++ [(i : Int)]) (max used (i + 1)) with
          | none => rw [impl_grouped_1.nxt, h2 n (by omega), Option.none_or]
          | some x => rw [impl_grouped_1.nxt, Option.some_or]
        · rw [if_neg c, Option.none_or]
          refine EvI (K1 + K2 + 1) fun k hk => ?_
          obtain ⟨n, rfl⟩ : ∃ n, k = n + 1 := ⟨k - 1, by omega⟩
          rw [impl_grouped_1.l0, if_pos (by omega), impl_fewestGroups_1.f]
          by_cases c2 : i < most
          · rw [if_pos (by omega), h1 n (by omega), Option.bind_some, Option.bind_some, if_neg (fun e => c ⟨c2, e⟩), wN i (by omega), h2 n (by omega)]
          · rw [if_neg (by omega), Option.bind_some, if_neg (by decide), wN i (by omega), h2 n (by omega)]
    rw [← pilR_zero]
    refine Ev.step (fun k => ?_) (loop _ 0 rfl (Nat.zero_le _))
    rw [impl_grouped_1.f, if_neg (by omega), wN used (by omega)]
    rfl
def ansP : Option (List Int) → List Int × Bool
  | none => ([], false)
  | some x => (x, true)
theorem sP (l : List S64) (hl : l.length ≤ 10) (most : Nat) (hm : most ≤ l.length) : ∀ (d : Nat) (b : List Int) (used : Nat), b.length + d = l.length → used ≤ b.length → Ev (fun k => spec_l02Piles.f k l b (used : Int) (most : Int)) (ansP (pil l most d b used)) := by
  intro d
  induction d with
  | zero =>
    intro b used hd hu
    rw [pil]
    exact Ev.step (f := fun _ => some (b, true)) (fun k => by rw [spec_l02Piles.f, if_pos (by omega)]) (Ev.now _)
  | succ d ih =>
    intro b used hd hu
    have loop : ∀ (m i : Nat), used + 1 - i = m → i ≤ used + 1 → Ev (fun k => spec_l02Piles.l0 k l b (used : Int) (most : Int) (i : Int)) (ansP (pilR l most d b used i)) := by
      intro m
      induction m with
      | zero =>
        intro i hmm hi
        obtain rfl : i = used + 1 := by omega
        rw [pilR_end]
        refine Ev.step (f := fun k => spec_l02Piles.j1 k l b (used : Int) (most : Int) ((used + 1 : Nat) : Int) false) (fun k => ?_) (Ev.step (f := fun _ => some ([], false)) (fun k => ?_) (Ev.now _))
        · rw [spec_l02Piles.l0, if_neg (by omega)]
        · rw [spec_l02Piles.j1, if_neg (by decide)]
      | succ m ihm =>
        intro i hmm hi
        by_cases c2 : i < most
        · rw [pilR_step l most d b used i (by omega)]
          refine Ev.step (f := fun k => spec_l02Piles.j1 k l b (used : Int) (most : Int) (i : Int) true) (fun k => by rw [spec_l02Piles.l0, if_pos (by omega), decide_eq_true (by omega)]) ?_
          have hlast : (b ++ [(i : Int)]).getD b.length 0 = (i : Int) := by
            rw [List.getD_eq_getElem?_getD, List.getElem?_append_right (Nat.le_refl _), Nat.sub_self, List.getElem?_cons_zero, Option.getD_some]
          have hsame : FP l (b ++ [(i : Int)]) b.length (i : Int) 0 = FP l b b.length (i : Int) 0 := FP_congr (fun j hj => by
            rw [List.getD_eq_getElem?_getD, List.getElem?_append_left hj, ← List.getD_eq_getElem?_getD]) _
          have hp := pilF l hl (b ++ [(i : Int)]) b.length (by rw [List.length_append]; rfl) (by rw [List.length_append]; simp; omega)
          rw [hlast, hsame] at hp
          obtain ⟨K1, h1⟩ := EvG hp
          obtain ⟨K2, h2⟩ := EvG (ihm (i + 1) (by omega) (by omega))
          by_cases c : FP l b b.length (i : Int) 0 = true
          · rw [if_pos ⟨c2, c⟩]
            obtain ⟨K3, h3⟩ := EvG (ih (b ++ [(i : Int)]) (max used (i + 1)) (by rw [List.length_append]; simp; omega) (by rw [List.length_append]; simp; omega))
            refine EvI (K1 + K2 + K3 + 1) fun k hk => ?_
            obtain ⟨n, rfl⟩ : ∃ n, k = n + 1 := ⟨k - 1, by omega⟩
            rw [spec_l02Piles.j1, if_pos rfl, ownF b (by omega), Option.bind_some, if_pos (by omega), Option.bind_some, h1 n (by omega), Option.bind_some, if_pos c, wN i (by omega), max0G, Option.bind_some, h3 n (by omega), Option.bind_some]
            cases pil l most d (b ++ [(i : Int)]) (max used (i + 1)) with
            | none => rw [ansP, if_neg (by decide), h2 n (by omega), Option.none_or]
            | some x => rw [ansP, if_pos rfl, Option.some_or, ansP]
          · rw [if_neg (fun e => c e.2), Option.none_or]
            refine EvI (K1 + K2 + 1) fun k hk => ?_
            obtain ⟨n, rfl⟩ : ∃ n, k = n + 1 := ⟨k - 1, by omega⟩
            rw [spec_l02Piles.j1, if_pos rfl, ownF b (by omega), Option.bind_some, if_pos (by omega), Option.bind_some, h1 n (by omega), Option.bind_some, if_neg c, wN i (by omega), h2 n (by omega)]
        · rw [pilR_most l most d b used i (by omega), ansP]
          refine Ev.step (f := fun k => spec_l02Piles.j1 k l b (used : Int) (most : Int) (i : Int) false) (fun k => by rw [spec_l02Piles.l0, if_pos (by omega), decide_eq_false (by omega)]) (Ev.step (f := fun _ => some ([], false)) (fun k => ?_) (Ev.now _))
          rw [spec_l02Piles.j1, if_neg (by decide)]
    rw [← pilR_zero]
    refine Ev.step (fun k => ?_) (loop _ 0 rfl (Nat.zero_le _))
    rw [spec_l02Piles.f, if_neg (by omega)]
    rfl
theorem leastP (l : List S64) (hl : l.length ≤ 10) : ∀ d m, m + d = l.length → ∃ r : List Int × Nat, Ev (fun k => impl_fewestGroups.l0 k (l.length : Int) l (m : Int)) (r.1, (r.2 : Int), true) ∧ Ev (fun k => spec_FewestPiles.l0 k l (m : Int)) (r.1, (r.2 : Int), (0 : Int)) ∧ r.1.length ≤ 10 := by
  intro d
  induction d with
  | zero =>
    intro m hm
    obtain rfl : m = l.length := by omega
    obtain ⟨x, hx⟩ := Option.isSome_iff_exists.1 (pil_some l l.length l.length [] 0 (by simp) (Nat.le_refl _) (fun j h => absurd h (Nat.not_lt_zero _)))
    obtain ⟨K1, h1⟩ := EvG (iP l hl l.length (Nat.le_refl _) l.length [] 0 (by simp) (Nat.le_refl _))
    obtain ⟨K2, h2⟩ := EvG (sP l hl l.length (Nat.le_refl _) l.length [] 0 (by simp) (Nat.le_refl _))
    refine ⟨(x, l.length), EvI (K1 + 1) fun k hk => ?_, EvI (K2 + 1) fun k hk => ?_, ?_⟩
    · obtain ⟨n, rfl⟩ : ∃ n, k = n + 1 := ⟨k - 1, by omega⟩
      have := h1 n (by omega)
      rw [hx, Int.natCast_zero] at this
      rw [impl_fewestGroups.l0, if_pos (by omega), this, Option.bind_some]
    · obtain ⟨n, rfl⟩ : ∃ n, k = n + 1 := ⟨k - 1, by omega⟩
      have := h2 n (by omega)
      rw [hx, Int.natCast_zero, ansP] at this
      rw [spec_FewestPiles.l0, this, Option.bind_some, if_pos rfl]
    · have := pil_len _ _ _ _ _ _ hx
      simp at this
      simp only; omega
  | succ d ih =>
    intro m hm
    obtain ⟨K1, h1⟩ := EvG (iP l hl m (by omega) l.length [] 0 (by simp) (Nat.le_refl _))
    obtain ⟨K2, h2⟩ := EvG (sP l hl m (by omega) l.length [] 0 (by simp) (Nat.le_refl _))
    cases hx : pil l m l.length [] 0 with
    | some x =>
      refine ⟨(x, m), EvI (K1 + 1) fun k hk => ?_, EvI (K2 + 1) fun k hk => ?_, ?_⟩
      · obtain ⟨n, rfl⟩ : ∃ n, k = n + 1 := ⟨k - 1, by omega⟩
        have := h1 n (by omega)
        rw [hx, Int.natCast_zero] at this
        rw [impl_fewestGroups.l0, if_pos (by omega), this, Option.bind_some]
      · obtain ⟨n, rfl⟩ : ∃ n, k = n + 1 := ⟨k - 1, by omega⟩
        have := h2 n (by omega)
        rw [hx, Int.natCast_zero, ansP] at this
        rw [spec_FewestPiles.l0, this, Option.bind_some, if_pos rfl]
      · have := pil_len _ _ _ _ _ _ hx
        simp at this
        simp only; omega
    | none =>
      obtain ⟨r, r1, r2, r3⟩ := ih (m + 1) (by omega)
      obtain ⟨K3, r1⟩ := EvG r1
      obtain ⟨K4, r2⟩ := EvG r2
      refine ⟨r, EvI (K1 + K3 + 1) fun k hk => ?_, EvI (K2 + K4 + 1) fun k hk => ?_, r3⟩
      · obtain ⟨n, rfl⟩ : ∃ n, k = n + 1 := ⟨k - 1, by omega⟩
        have := h1 n (by omega)
        rw [hx, Int.natCast_zero] at this
        rw [impl_fewestGroups.l0, if_pos (by omega), this, Option.bind_some, wN m (by omega)]
        exact r1 n (by omega)
      · obtain ⟨n, rfl⟩ : ∃ n, k = n + 1 := ⟨k - 1, by omega⟩
        have := h2 n (by omega)
        rw [hx, Int.natCast_zero, ansP] at this
        rw [spec_FewestPiles.l0, this, Option.bind_some, if_neg (by decide), wN m (by omega)]
        exact r2 n (by omega)
theorem pilesBoth (l : List S64) (hb : l.length ≤ 1048576) (hw : wfS l) : ∃ r : List Int × Int × Int, Ev (fun k => impl_FewestPiles.f k l) r ∧ Ev (fun k => spec_FewestPiles.f k l) r ∧ r.1.length ≤ 10 := by
  obtain ⟨K1, cI⟩ := EvG (codeI l hb hw)
  obtain ⟨K2, cS⟩ := EvG (codeS l hb hw)
  by_cases h : boxesOk l = true
  · have h' := h
    rw [boxesOk, Bool.and_eq_true] at h
    have hlen : l.length ≤ 10 := of_decide_eq_true h.1
    obtain ⟨r, r1, r2, r3⟩ := leastP l hlen l.length 0 (by omega)
    obtain ⟨K3, r1⟩ := EvG r1
    obtain ⟨K4, r2⟩ := EvG r2
    refine ⟨(r.1, (r.2 : Int), 0), EvI (K1 + K3) fun k hk => ?_, EvI (K2 + K4) fun k hk => ?_, r3⟩
    · have := r1 k (by omega)
      rw [Int.natCast_zero] at this
      rw [impl_FewestPiles.f, cI k (by omega), if_pos h', Option.bind_some, if_pos rfl, impl_fewestGroups.f, this, Option.bind_some]
    · have := r2 k (by omega)
      rw [Int.natCast_zero] at this
      rw [spec_FewestPiles.f, cS k (by omega), Option.bind_some, if_pos h', this]
  · exact ⟨([], 0, 1), EvI K1 fun k hk => by rw [impl_FewestPiles.f, cI k hk, if_neg h, Option.bind_some, if_neg (by omega)],
      EvI K2 fun k hk => by rw [spec_FewestPiles.f, cS k hk, Option.bind_some, if_neg h], Nat.zero_le _⟩
end Go.Proofs.Ytipdmnibjkdpcaa.Pure

namespace Go.Proofs.Ytipdmnibjkdpcaa.Pure
open Go.RowKit Go.Proofs.Ytipdmnibjkdpcaa.P Go.Proofs.YtipdmnibjkdpcaaW.PrintWords Go.Proofs.YtipdmnibjkdpcaaW.PrintLast
set_option linter.unusedVariables false
theorem FnExactFewestPiles : laws_FnExactFewestPiles.Pure := by
  rintro l ⟨hl, hw⟩
  have hs := szB l 1048576 (by omega) (by omega) hl
  by_cases hb : (l.length : Int) ≤ 1048576
  · rw [if_pos hb] at hs
    obtain ⟨r, r1, r2, r3⟩ := pilesBoth (l.map cvb) (by rw [List.length_map]; omega) (wf_cvb hw)
    obtain ⟨K1, r1⟩ := EvG r1
    obtain ⟨K2, r2⟩ := EvG r2
    obtain ⟨K3, hT⟩ := EvG (toBS l (by omega))
    obtain ⟨K4, hE⟩ := EvG (eqI r.1 (by omega))
    obtain ⟨K5, hB⟩ := EvG (eqB (l.map cvb) (by rw [List.length_map]; omega))
    obtain ⟨K6, hM⟩ := EvG (markB (l.map cvb) (by rw [List.length_map]; omega))
    obtain ⟨K7, hN⟩ := EvG (markI r.1 1 (by omega) (by omega))
    obtain ⟨K8, hH⟩ := EvG (heldI r.1.length 1 (by omega) (by omega))
    refine ⟨K1 + K2 + K3 + K4 + K5 + K6 + K7 + K8 + 3, ?_⟩
    have hN' := fun k hk => hN k hk
    have hH' := fun k hk => hH k hk
    rw [show (((1 : Nat) : Int)) = (1 : Int) from rfl] at hN' hH'
    rw [laws_FnExactFewestPiles.f, hs, Option.bind_some, if_neg (by omega), hT _ (by omega), Option.bind_some, r2 _ (by omega), Option.bind_some, Option.bind_some, r1 _ (by omega), Option.bind_some, hE _ (by omega), Option.bind_some, if_pos rfl, if_pos rfl, bne_self_eq_false,
      laws_FnExactFewestPiles.j0, if_neg (by decide), hT _ (by omega), Option.bind_some, hB _ (by omega), Option.bind_some, if_pos rfl, hM _ (by omega), Option.bind_some, if_neg (by omega), hE _ (by omega), Option.bind_some, if_pos rfl, if_pos rfl, bne_self_eq_false,
      laws_FnExactFewestPiles.j1, if_neg (by decide), hN' _ (by omega), Option.bind_some, hH' _ (by omega), Option.bind_some, if_neg (by omega), if_pos rfl, hT _ (by omega), Option.bind_some, r1 _ (by omega), Option.bind_some, hE _ (by omega), Option.bind_some, if_pos rfl, if_pos rfl, bne_self_eq_false,
      laws_FnExactFewestPiles.j2, if_neg (by decide), hH' _ (by omega), Option.bind_some, if_neg (by omega), if_pos rfl]
  · rw [if_neg hb] at hs
    refine ⟨0, ?_⟩
    rw [laws_FnExactFewestPiles.f, hs, Option.bind_some, if_pos (by omega)]
end Go.Proofs.Ytipdmnibjkdpcaa.Pure

namespace Go.Proofs.Ytipdmnibjkdpcaa.X
open Go.ChangeShapes Go.WideShapes Go.ChangeAt Go.RowKit Go.Proofs.YtipdmnibjkdpcaaW.PrintWords Go.Deep
set_option linter.unusedVariables false
def Opens {α : Type} (P : Program) (t : TypeId) (d : Kd α) (wf : α → Prop) : Prop :=
  ∀ (H : Type) (enc : TypeId × Value → H) (W : World) (held : Bool) (fuel : Nat) (cs : List Value) (x : DataW H × List MemPlace), DataW.trod enc P W 0 (fun _ => true) held fuel t cs = some x → ∃ a, d.K W a cs ∧ wf a
theorem Opens.int {P : Program} {t : TypeId} {k : IntKind} (ht : P.underlying t = some (.int k)) : Opens P t (Kd.int k) (fun n => (Lit.int k n).wf = true) := by
  intro H enc W held fuel cs x h
  obtain ⟨n, rfl, _, hw⟩ := DataW.trod_int ht h
  exact ⟨n, rfl, hw⟩
theorem Opens.slice {α : Type} [Inhabited α] {P : Program} {t e : TypeId} {d : Kd α} {wf : α → Prop} (ht : P.underlying t = some (.slice e)) (hc : P.cellsOf e = d.sz) (h : Opens P e d wf) :
    Opens P t (Kd.slice e d) (fun l => l.length ≤ 9223372036854775807 ∧ ∀ a ∈ l, wf a) := by
  intro H enc W held fuel cs x hx
  rcases open_slice ht hx with ⟨rfl, _⟩ | ⟨ad, len, cap, m, n, D, Pl, rfl, _, hl, hm, hmm, _, hel⟩
  · exact ⟨[], ⟨none, 0, rfl, Nat.le_refl _, ⟨rfl, by simp, fun h => absurd h (Nat.lt_irrefl 0)⟩⟩, by simp, fun a ha => by cases ha⟩
  · have hmc : m = cap := by simpa using hmm
    have each : ∀ i, i < len → ∃ a : α, wf a ∧ ∃ c, c.length = d.sz ∧ d.K W a c ∧ ∀ j u, c[j]? = some u → W.cell? (ad.add (i * d.sz + j)) = some u := by
      intro i hi
      obtain ⟨cs', h1, h2⟩ := hel i (by omega)
      obtain ⟨_, hlen, hcell⟩ := World.cells?_some h1
      obtain ⟨a, hK, hw⟩ := h H enc W held n cs' _ h2
      refine ⟨a, hw, cs', by rw [hlen, hc], hK, fun j u hu => ?_⟩
      have hj : j < P.cellsOf e := by have := (List.getElem?_eq_some_iff.1 hu).1; omega
      have h3 := hcell j hj
      rw [hu, hc] at h3
      rw [← h3]
      congr 1
      unfold Addr.add
      by_cases h4 : i * d.sz = 0 <;> by_cases h5 : j = 0 <;> simp [h4, h5, Nat.add_assoc]
    obtain ⟨f, hf⟩ := choose_lt each
    have hlen : ((List.range len).map f).length = len := by simp
    refine ⟨(List.range len).map f, ⟨some ad, cap, by rw [hlen], by rw [hlen]; exact hl, ⟨rfl, by rw [hlen]; unfold maxLen at hm; omega, fun _ => ⟨ad, rfl, fun j p hp => ?_⟩⟩⟩, by rw [hlen]; unfold maxLen at hm; omega, fun a ha => ?_⟩
    · have hj : j < len := by have := (List.getElem?_eq_some_iff.1 hp).1; omega
      have hp2 : f j = p := by simpa [hj] using hp
      rw [← hp2]
      exact (hf j hj).2
    · obtain ⟨i, hi, rfl⟩ := List.mem_map.1 ha
      exact (hf i (List.mem_range.1 hi)).1
theorem Opens.pair {α β : Type} {P : Program} {t : TypeId} {a : Kd α} {b : Kd β} {wa : α → Prop} {wb : β → Prop} {f0 f1 : Field} (hs : P.underlying t = some (.struct #[f0, f1])) (o0 : f0.offset = 0) (c0 : P.cellsOf f0.type = a.sz) (o1 : f1.offset = a.sz) (c1 : P.cellsOf f1.type = b.sz) (hc : P.cellsOf t = a.sz + b.sz)
    (ha : Opens P f0.type a wa) (hb : Opens P f1.type b wb) : Opens P t (Kd.pair a b) (fun x => wa x.1 ∧ wb x.2) := by
  intro H enc W held fuel cs x hx
  obtain ⟨xs, n, _, _, hl, hxl, hf⟩ := DataW.trod_struct hs hx
  have hxl : xs.length = 2 := hxl
  have g0 := hf 0 f0 rfl
  have g1 := hf 1 f1 rfl
  rw [List.getElem?_eq_getElem (by omega)] at g0 g1
  obtain ⟨x0, k0, w0⟩ := ha H enc W held n _ _ g0
  obtain ⟨x1, k1, w1⟩ := hb H enc W held n _ _ g1
  refine ⟨(x0, x1), ⟨_, _, ?_, k0, k1⟩, w0, w1⟩
  rw [o0, o1, c0, c1, List.drop_zero]
  rw [List.take_of_length_le (l := cs.drop a.sz) (by rw [List.length_drop]; omega), List.take_append_drop]
theorem Opens.triple {α β γ : Type} {P : Program} {t : TypeId} {a : Kd α} {b : Kd β} {c : Kd γ} {wa : α → Prop} {wb : β → Prop} {wc : γ → Prop} {f0 f1 f2 : Field} (hs : P.underlying t = some (.struct #[f0, f1, f2])) (o0 : f0.offset = 0) (c0 : P.cellsOf f0.type = a.sz) (o1 : f1.offset = a.sz) (c1 : P.cellsOf f1.type = b.sz) (o2 : f2.offset = a.sz + b.sz) (c2 : P.cellsOf f2.type = c.sz) (hc : P.cellsOf t = a.sz + b.sz + c.sz)
    (ha : Opens P f0.type a wa) (hb : Opens P f1.type b wb) (hcc : Opens P f2.type c wc) : Opens P t (Kd.pair a (Kd.pair b c)) (fun x => wa x.1 ∧ wb x.2.1 ∧ wc x.2.2) := by
  intro H enc W held fuel cs x hx
  obtain ⟨xs, n, _, _, hl, hxl, hf⟩ := DataW.trod_struct hs hx
  have hxl : xs.length = 3 := hxl
  have g0 := hf 0 f0 rfl
  have g1 := hf 1 f1 rfl
  have g2 := hf 2 f2 rfl
  rw [List.getElem?_eq_getElem (by omega)] at g0 g1 g2
  obtain ⟨x0, k0, w0⟩ := ha H enc W held n _ _ g0
  obtain ⟨x1, k1, w1⟩ := hb H enc W held n _ _ g1
  obtain ⟨x2, k2, w2⟩ := hcc H enc W held n _ _ g2
  refine ⟨(x0, x1, x2), ⟨_, _, ?_, k0, ⟨_, _, rfl, k1, k2⟩⟩, w0, w1, w2⟩
  rw [o0, o1, o2, c0, c1, c2, List.drop_zero]
  rw [List.take_of_length_le (l := cs.drop (a.sz + b.sz)) (by rw [List.length_drop]; omega), ← List.drop_drop, List.take_append_drop, List.take_append_drop]
theorem Opens.iso {α β : Type} {P : Program} {t : TypeId} {d : Kd α} {wf : α → Prop} (f : β → α) (g : α → β) (hg : ∀ a, f (g a) = a) (h : Opens P t d wf) : Opens P t (Kd.iso d f) (fun b => wf (f b)) := by
  intro H enc W held fuel cs x hx
  obtain ⟨a, hK, hw⟩ := h H enc W held fuel cs x hx
  refine ⟨g a, ?_, by show wf (f (g a)); rw [hg]; exact hw⟩
  show d.K W (f (g a)) cs
  rw [hg]; exact hK
theorem Opens.agg {α : Type} {P : Program} {t : TypeId} {d : Kd α} {wf : α → Prop} {fs : Array Field} (h : Opens P t d wf) (hs : P.underlying t = some (.struct fs)) {H : Type} {enc : TypeId × Value → H} {W : World} {r : Reach} {b0 : Nat} {v : Value} {dd : DataW H} {ps : List MemPlace}
    (hv : Value.okWide P W r b0 t v) (ht : DataW.Trod enc P W 0 (fun _ => true) true t v dd ps) : ∃ (a : α) (cs : List Value), v = .agg cs.toArray ∧ d.K W a cs ∧ wf a := by
  obtain ⟨cs, rfl, _⟩ := okWide_struct hs hv
  obtain ⟨fuel, hf⟩ := ht
  obtain ⟨a, hK, hw⟩ := h H enc W true fuel _ _ hf
  exact ⟨a, _, by simp [Value.cells], hK, hw⟩
theorem Opens.arg {α : Type} {P : Program} {t e : TypeId} {d : Kd α} {wf : List α → Prop} (h : Opens P t (Kd.slice e d) wf) (ht : P.underlying t = some (.slice e)) {H : Type} {enc : TypeId × Value → H} {W : World} {r : Reach} {b0 : Nat} {v : Value} {dd : DataW H} {ps : List MemPlace}
    (hv : Value.okWide P W r b0 t v) (hT : DataW.Trod enc P W 0 (fun _ => true) true t v dd ps) : ∃ (l : List α) (A : Option Addr) (c : Nat), v = .slice A l.length c ∧ l.length ≤ c ∧ d.C W A l.length l ∧ wf l := by
  obtain ⟨a, len, cap, rfl⟩ := okWide_slice ht hv
  obtain ⟨fuel, hf⟩ := hT
  obtain ⟨l, ⟨A, c, he, hl, hC⟩, hw⟩ := h H enc W true fuel _ _ hf
  have he2 : [Value.slice a len cap] = [Value.slice A l.length c] := by simpa [Value.cells] using he
  injection he2 with he2 _
  exact ⟨l, A, c, he2, hl, hC, hw⟩
end Go.Proofs.Ytipdmnibjkdpcaa.X
