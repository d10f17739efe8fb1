/- The Go functions that the law FnExactFitsInside comes to, as plain Lean functions, the proofs that calls of them return what those tell, and the plain lemmas on them; no condition but those that each theorem states. -/
import Derived.Test.YtmbbkaoccmokeaaMFitsInside1
import Derived.Test.YtmbbkaoccmokeaaMFitsInside2
import Derived.Test.YtmbbkaoccmokeaaMFitsInside3
import Derived.Test.YtmbbkaoccmokeaaRows
import Derived.Test.YtmbbkaoccmokeaaWMore
import Derived.Deep.Slices
import Derived.WalkKit
import Derived.ProofKit
import Derived.OpenShut
import Derived.ShutString
import Derived.ChangeOld
import Derived.Below
import Derived.SizedLaws
import Derived.ChangeArms
import Derived.Carry
namespace Go.Proofs.Ytmbbkaoccmokeaa.Pure
open Go.RowKit Go.Proofs.Ytmbbkaoccmokeaa.P Go.Proofs.YtmbbkaoccmokeaaW.PrintWords Go.Proofs.YtmbbkaoccmokeaaW.PrintLast
set_option linter.unusedVariables false
set_option linter.unusedSimpArgs false

theorem rdT (l : List S26) (i : Nat) : rd_T26 l (i : Int) = l.getD i z26 := rfl
theorem getD_eqG {α : Type} (z : α) (l : List α) (i : Nat) (h : i < l.length) : l.getD i z = l[i] := by
  rw [List.getD_eq_getElem?_getD, List.getElem?_eq_getElem h]; rfl
theorem getD_setG {α : Type} (z : α) (l : List α) (i j : Nat) (v : α) (h : i < l.length) : (l.set i v).getD j z = if i = j then v else l.getD j z := by
  simp only [List.getD_eq_getElem?_getD, List.getElem?_set]
  by_cases e : i = j
  · subst e; simp [h]
  · simp [e]
theorem mem_getDG {α : Type} (z : α) (l : List α) (s : α) : s ∈ l ↔ ∃ i, i < l.length ∧ l.getD i z = s := by
  rw [List.mem_iff_getElem]
  constructor
  · rintro ⟨i, hi, e⟩; exact ⟨i, hi, by rw [getD_eqG z l i hi, e]⟩
  · rintro ⟨i, hi, e⟩; exact ⟨i, hi, by rw [← getD_eqG z l i hi, e]⟩

/-- Sorted up to a place. -/
def Srt (x : List S26) (i : Nat) : Prop := ∀ p q, p < q → q ≤ i → ¬ ltx (x.getD q z26) (x.getD p z26)
def Alike (x y : List S26) : Prop := ∀ s, s ∈ x ↔ s ∈ y
/-- Sorted up to a place, but for one box that may have to go on to the front. -/
def Ins (x : List S26) (i j : Nat) : Prop := ∀ p q, p < q → q ≤ i → q ≠ j → ¬ ltx (x.getD q z26) (x.getD p z26)

def swp (x : List S26) (j : Nat) : List S26 := (x.set j (x.getD (j - 1) z26)).set (j - 1) (x.getD j z26)
theorem swp_len (x : List S26) (j : Nat) : (swp x j).length = x.length := by simp [swp]
theorem swp_at (x : List S26) (j q : Nat) (h0 : 0 < j) (hj : j < x.length) : (swp x j).getD q z26 = if q = j - 1 then x.getD j z26 else if q = j then x.getD (j - 1) z26 else x.getD q z26 := by
  unfold swp
  rw [getD_setG z26 _ _ _ _ (by rw [List.length_set]; omega), getD_setG z26 _ _ _ _ hj]
  by_cases e1 : q = j - 1
  · rw [if_pos e1, if_pos e1.symm]
  · rw [if_neg e1, if_neg (fun e => e1 e.symm)]
    by_cases e2 : q = j
    · rw [if_pos e2, if_pos e2.symm]
    · rw [if_neg e2, if_neg (fun e => e2 e.symm)]
theorem swp_mem (x : List S26) (j : Nat) (h0 : 0 < j) (hj : j < x.length) : Alike (swp x j) x := by
  intro s
  rw [mem_getDG z26, mem_getDG z26, swp_len]
  constructor
  · rintro ⟨i, hi, e⟩
    rw [swp_at x j i h0 hj] at e
    by_cases e1 : i = j - 1
    · rw [if_pos e1] at e; exact ⟨j, hj, e⟩
    · rw [if_neg e1] at e
      by_cases e2 : i = j
      · rw [if_pos e2] at e; exact ⟨j - 1, by omega, e⟩
      · rw [if_neg e2] at e; exact ⟨i, hi, e⟩
  · rintro ⟨i, hi, e⟩
    by_cases e1 : i = j - 1
    · exact ⟨j, hj, by rw [swp_at x j j h0 hj, if_neg (by omega), if_pos rfl, ← e1]; exact e⟩
    · by_cases e2 : i = j
      · exact ⟨j - 1, by omega, by rw [swp_at x j _ h0 hj, if_pos rfl, ← e2]; exact e⟩
      · exact ⟨i, hi, by rw [swp_at x j i h0 hj, if_neg e1, if_neg e2]; exact e⟩
theorem swp_ins (x : List S26) (i j : Nat) (h0 : 0 < j) (hji : j ≤ i) (hi : i < x.length) (h : Ins x i j) (hl : ltx (x.getD j z26) (x.getD (j - 1) z26)) : Ins (swp x j) i (j - 1) := by
  intro p q hpq hqi hqj
  rw [swp_at x j q h0 (by omega), swp_at x j p h0 (by omega), if_neg hqj]
  by_cases e2 : q = j
  · rw [if_pos e2]
    by_cases e3 : p = j - 1
    · rw [if_pos e3]; exact ltx_asymm hl
    · rw [if_neg e3, if_neg (by omega)]
      exact h p (j - 1) (by omega) (by omega) (by omega)
  · rw [if_neg e2]
    by_cases e3 : p = j - 1
    · rw [if_pos e3]; exact h j q (by omega) hqi e2
    · rw [if_neg e3]
      by_cases e4 : p = j
      · rw [if_pos e4]; exact h (j - 1) q (by omega) hqi e2
      · rw [if_neg e4]; exact h p q hpq hqi e2
theorem ins_srt (x : List S26) (i j : Nat) (h : Ins x i j) (he : j = 0 ∨ ¬ ltx (x.getD j z26) (x.getD (j - 1) z26)) : Srt x i := by
  intro p q hpq hqi
  by_cases e : q = j
  · subst e
    rcases he with he | he
    · omega
    · by_cases e2 : p = q - 1
      · subst e2; exact he
      · exact lex_trans (h p (q - 1) (by omega) (by omega) (by omega)) he
  · exact h p q hpq hqi e

theorem ins_l1 (n i : Nat) (hi : i < n) (hn : n ≤ 1000) : ∀ j x, x.length = n → j ≤ i → Ins x i j →
    ∃ x', x'.length = n ∧ Alike x' x ∧ Srt x' i ∧ ∀ r, Ev (fun k => impl_Box_82.l0 k x' 0 (n : Int) ((i + 1 : Nat) : Int)) r → Ev (fun k => impl_Box_82.l1 k x 0 (n : Int) (i : Int) (j : Int)) r := by
  intro j
  induction j with
  | zero =>
    intro x hx hj h
    refine ⟨x, hx, fun s => Iff.rfl, ins_srt x i 0 h (.inl rfl), fun r he => Ev.step (fun k => ?_) he⟩
    rw [impl_Box_82.l1, if_neg (by omega), wN i (by omega)]
  | succ j ih =>
    intro x hx hj h
    obtain ⟨c, hc, hcl⟩ := cmpEv (x.getD (j + 1) z26) (x.getD j z26)
    have ew : wrap64 (((j + 1 : Nat) : Int) - 1) = (j : Int) := by rw [w64 (by omega) (by omega)]; omega
    have e1 : ∀ k, impl_Box_82.l1 (k + 4 + 1) x 0 (n : Int) (i : Int) ((j + 1 : Nat) : Int) = if c < 0 then impl_Box_82.l1 (k + 4) (swp x (j + 1)) 0 (n : Int) (i : Int) (j : Int) else impl_Box_82.l0 (k + 4) x 0 (n : Int) ((i + 1 : Nat) : Int) := fun k => by
      rw [impl_Box_82.l1, if_pos (by omega), if_pos (by omega), if_pos (by omega), ew, if_pos (by omega), if_pos (by omega), rdT, rdT, hc k, Option.bind_some, wN i (by omega)]
      rfl
    by_cases hlt : ltx (x.getD (j + 1) z26) (x.getD j z26)
    · obtain ⟨x', a1, a2, a3, a4⟩ := ih (swp x (j + 1)) (by rw [swp_len, hx]) (by omega) (swp_ins x i (j + 1) (by omega) hj (by omega) h hlt)
      refine ⟨x', a1, fun s => (a2 s).trans (swp_mem x (j + 1) (by omega) (by omega) s), a3, fun r he => ?_⟩
      obtain ⟨K, hK⟩ := EvG (a4 r he)
      refine EvI (K + 5) fun k hk => ?_
      obtain ⟨m, rfl⟩ : ∃ m, k = m + 4 + 1 := ⟨k - 5, by omega⟩
      rw [e1, if_pos (hcl.2 hlt)]
      exact hK _ (by omega)
    · refine ⟨x, hx, fun s => Iff.rfl, ins_srt x i (j + 1) h (.inr hlt), fun r he => ?_⟩
      obtain ⟨K, hK⟩ := EvG he
      refine EvI (K + 5) fun k hk => ?_
      obtain ⟨m, rfl⟩ : ∃ m, k = m + 4 + 1 := ⟨k - 5, by omega⟩
      rw [e1, if_neg (fun q => hlt (hcl.1 q))]
      exact hK _ (by omega)
theorem ins_l0 (n : Nat) (hn : n ≤ 1000) : ∀ d i x, n - i = d → 1 ≤ i → i ≤ n → x.length = n → Srt x (i - 1) → ∃ y, y.length = n ∧ Alike y x ∧ Srt y (n - 1) ∧ Ev (fun k => impl_Box_82.l0 k x 0 (n : Int) (i : Int)) y := by
  intro d
  induction d with
  | zero =>
    intro i x hd h1 hi hx hs
    obtain rfl : i = n := by omega
    refine ⟨x, hx, fun s => Iff.rfl, hs, Ev.step (f := fun _ => some x) (fun k => ?_) (Ev.now _)⟩
    rw [impl_Box_82.l0, if_neg (by omega)]
  | succ d ih =>
    intro i x hd h1 hi hx hs
    obtain ⟨x', a1, a2, a3, a4⟩ := ins_l1 n i (by omega) hn i x hx (Nat.le_refl _) (fun p q hpq hqi hq => hs p q hpq (by omega))
    obtain ⟨y, b1, b2, b3, b4⟩ := ih (i + 1) x' (by omega) (by omega) (by omega) a1 (by rw [Nat.add_sub_cancel]; exact a3)
    refine ⟨y, b1, fun s => (b2 s).trans (a2 s), b3, Ev.step (fun k => ?_) (a4 y b4)⟩
    rw [impl_Box_82.l0, if_pos (by omega)]
theorem sort_small (x : List S26) (h1 : 1 ≤ x.length) (h12 : x.length ≤ 12) (r : Int) (hr : Ev (fun k => bits_Len.f k (IntKind.u64.wrap (x.length : Int))) r) : ∃ y, y.length = x.length ∧ Alike y x ∧ Srt y (x.length - 1) ∧ Ev (fun k => impl_Box_69.f k x) y := by
  obtain ⟨y, a1, a2, a3, a4⟩ := ins_l0 x.length (by omega) _ 1 x rfl (Nat.le_refl _) h1 rfl (fun p q hpq hq => by omega)
  obtain ⟨K1, hr⟩ := EvG hr
  obtain ⟨K2, a4⟩ := EvG a4
  refine ⟨y, a1, a2, a3, EvI (K1 + K2 + 3) fun k hk => ?_⟩
  obtain ⟨m, rfl⟩ : ∃ m, k = m + 2 := ⟨k - 2, by omega⟩
  rw [impl_Box_69.f, hr _ (by omega), Option.bind_some, impl_Box_78.f, impl_Box_78.l0, if_pos (by rw [w64 (by omega) (by omega)]; omega), impl_Box_82.f, w64 (x := 0 + 1) (by omega) (by omega), show (0 : Int) + 1 = ((1 : Nat) : Int) from rfl, a4 m (by omega)]
  rfl

end Go.Proofs.Ytmbbkaoccmokeaa.Pure

namespace Go.Proofs.Ytmbbkaoccmokeaa.P
open Go.RowKit Go.Proofs.YtmbbkaoccmokeaaW.PrintWords Go.Proofs.YtmbbkaoccmokeaaW.PrintLast Go.Proofs.YtmbbkaoccmokeaaW.PrintMore
attribute [local go_sem] max2_int min2_int max_two min_two max_three min_three max_four min_four   -- for this text's walks alone
set_option linter.unusedVariables false
set_option linter.unusedSimpArgs false

attribute [local go_sem high] eqA26
/-! ### spec_l02Turns: function 54 -/
mutual
def spec_l02Turns.l0 : Nat → List (S26) → List (S26) → Int → Option ((List (S26)))
  | 0, _, _, _ => none
  | k + 1, x4, x5, x6 => if x6 < (x4.length : Int) then (spec_l02Turns.l1 k x4 x5 x6 true 0) else (some x5)
def spec_l02Turns.l1 : Nat → List (S26) → List (S26) → Int → Bool → Int → Option ((List (S26)))
  | 0, _, _, _, _, _ => none
  | k + 1, x4, x5, x6, x7, x8 => if x8 < (x5.length : Int) then (if x7 = true then (if 0 ≤ x8 then (if 0 ≤ x6 then (if x6 < (x4.length : Int) then (spec_l02Turns.l1 k x4 x5 x6 (!(((rd_T26 x5 x8).f0) == ((rd_T26 x4 x6).f0)) || (!(((rd_T26 x5 x8).f1) == ((rd_T26 x4 x6).f1)) || (!(((rd_T26 x5 x8).f2) == ((rd_T26 x4 x6).f2))))) (wrap64 (x8 + 1))) else (none)) else (none)) else (none)) else (spec_l02Turns.l1 k x4 x5 x6 false (wrap64 (x8 + 1)))) else (if x7 = true then (if 0 ≤ x6 then (if x6 < (x4.length : Int) then (if x5.length < 46912496118442 then (spec_l02Turns.l0 k x4 (x5 ++ [(⟨(rd_T26 x4 x6).f0, (rd_T26 x4 x6).f1, (rd_T26 x4 x6).f2⟩ : S26)]) (wrap64 (x6 + 1))) else (none)) else (none)) else (none)) else (spec_l02Turns.l0 k x4 x5 (wrap64 (x6 + 1))))
end
def spec_l02Turns.f (k : Nat) (a0_0 : Int) (a0_1 : Int) (a0_2 : Int) : Option ((List (S26))) := (spec_l02Sort.f k a0_0 a0_1 a0_2).bind fun bt221 => (spec_l02Turns.l0 k (([(⟨bt221.2.2, bt221.2.1, bt221.1⟩ : S26), (⟨bt221.2.2, bt221.1, bt221.2.1⟩ : S26), (⟨bt221.2.1, bt221.2.2, bt221.1⟩ : S26), (⟨bt221.2.1, bt221.1, bt221.2.2⟩ : S26), (⟨bt221.1, bt221.2.2, bt221.2.1⟩ : S26), (⟨bt221.1, bt221.2.1, bt221.2.2⟩ : S26)] : List (S26))) (([] : List (S26))) 0)
theorem spec_l02Turns.mono_l : ∀ k, (∀ y0 y1 y2, LeO (spec_l02Turns.l0 k y0 y1 y2) (spec_l02Turns.l0 (k + 1) y0 y1 y2)) ∧ (∀ y0 y1 y2 y3 y4, LeO (spec_l02Turns.l1 k y0 y1 y2 y3 y4) (spec_l02Turns.l1 (k + 1) y0 y1 y2 y3 y4))
  | 0 => ⟨fun _ _ _ r h => by simp [spec_l02Turns.l0] at h, fun _ _ _ _ _ r h => by simp [spec_l02Turns.l1] at h⟩
  | k + 1 => by
    obtain ⟨ih0, ih1⟩ := spec_l02Turns.mono_l k
    refine ⟨?_, ?_⟩
    · intro y0 y1 y2
      unfold spec_l02Turns.l0
      repeat' first
      | (with_reducible exact ih0 _ _ _)
      | (with_reducible exact ih1 _ _ _ _ _)
      | (with_reducible exact spec_l02Sort.mono _ _ _ _)
      | (with_reducible exact LeO.refl _)
      | (with_reducible exact LeO.none _)
      | (with_reducible refine LeO.ite ?_ ?_)
      | (with_reducible refine LeO.bind ?_ (fun _ => ?_))
      | exact ih0 _ _ _
      | exact ih1 _ _ _ _ _
      | exact spec_l02Sort.mono _ _ _ _
      | exact LeO.none _
      | refine LeO.ite ?_ ?_
      | refine LeO.bind ?_ (fun _ => ?_)
    · intro y0 y1 y2 y3 y4
      unfold spec_l02Turns.l1
      repeat' first
      | (with_reducible exact ih0 _ _ _)
      | (with_reducible exact ih1 _ _ _ _ _)
      | (with_reducible exact spec_l02Sort.mono _ _ _ _)
      | (with_reducible exact LeO.refl _)
      | (with_reducible exact LeO.none _)
      | (with_reducible refine LeO.ite ?_ ?_)
      | (with_reducible refine LeO.bind ?_ (fun _ => ?_))
      | exact ih0 _ _ _
      | exact ih1 _ _ _ _ _
      | exact spec_l02Sort.mono _ _ _ _
      | exact LeO.none _
      | refine LeO.ite ?_ ?_
      | refine LeO.bind ?_ (fun _ => ?_)
theorem spec_l02Turns.mono : ∀ a0 a1 a2 k, LeO (spec_l02Turns.f k a0 a1 a2) (spec_l02Turns.f (k + 1) a0 a1 a2) := by
  intro a0 a1 a2 k
  obtain ⟨ih0, ih1⟩ := spec_l02Turns.mono_l k
  unfold spec_l02Turns.f
  repeat' first
      | (with_reducible exact ih0 _ _ _)
      | (with_reducible exact ih1 _ _ _ _ _)
      | (with_reducible exact spec_l02Sort.mono _ _ _ _)
      | (with_reducible exact LeO.refl _)
      | (with_reducible exact LeO.none _)
      | (with_reducible refine LeO.ite ?_ ?_)
      | (with_reducible refine LeO.bind ?_ (fun _ => ?_))
      | exact ih0 _ _ _
      | exact ih1 _ _ _ _ _
      | exact spec_l02Sort.mono _ _ _ _
      | exact LeO.none _
      | refine LeO.ite ?_ ?_
      | refine LeO.bind ?_ (fun _ => ?_)
set_option maxHeartbeats 8000000 in
set_option maxRecDepth 100000 in
theorem spec_l02Turns.calls (k : Nat) (a0_0 : Int) (a0_1 : Int) (a0_2 : Int) (r : List (S26)) (w : World) (h : spec_l02Turns.f k a0_0 a0_1 a0_2 = some r) :
    Calls Try.prog 54 #[.agg #[.int .i8 a0_0, .int .i8 a0_1, .int .i8 a0_2]] w fun e w' => ∃ v0_ : Value, e = .returned (v0_) ∧ Kd.R k26 26 w' w.heap.size (fun _ => True) v0_ r ∧ Below w.heap.size w w' := by
  have hu26 := Try.underlying26
  have HB := Aside0.mk (Below.refl w.heap.size w)
  have H : ((spec_l02Sort.f k a0_0 a0_1 a0_2).bind fun bt221 => (spec_l02Turns.l0 k (([(⟨bt221.2.2, bt221.2.1, bt221.1⟩ : S26), (⟨bt221.2.2, bt221.1, bt221.2.1⟩ : S26), (⟨bt221.2.1, bt221.2.2, bt221.1⟩ : S26), (⟨bt221.2.1, bt221.1, bt221.2.2⟩ : S26), (⟨bt221.1, bt221.2.2, bt221.2.1⟩ : S26), (⟨bt221.1, bt221.2.1, bt221.2.2⟩ : S26)] : List (S26))) (([] : List (S26))) 0)) = some r := h
  clear h
  replace H := Option.bind_eq_some_iff.mp H
  obtain ⟨⟨t221, t222, t223⟩, A20, H⟩ := H
  replace H : (spec_l02Turns.l0 k (([(⟨t223, t222, t221⟩ : S26), (⟨t223, t221, t222⟩ : S26), (⟨t222, t223, t221⟩ : S26), (⟨t222, t221, t223⟩ : S26), (⟨t221, t223, t222⟩ : S26), (⟨t221, t222, t223⟩ : S26)] : List (S26))) (([] : List (S26))) 0) = some r := H
  have A2 := Aside0.mk A20
  clear A20
  obtain ⟨y225, hy225⟩ : ∃ y_ : List (S26), y_ = (([(⟨t223, t222, t221⟩ : S26), (⟨t223, t221, t222⟩ : S26), (⟨t222, t223, t221⟩ : S26), (⟨t222, t221, t223⟩ : S26), (⟨t221, t223, t222⟩ : S26), (⟨t221, t222, t223⟩ : S26)] : List (S26))) := ⟨_, rfl⟩
  replace H : (spec_l02Turns.l0 k y225 (([] : List (S26))) 0) = some r := by first | (rw [hy225]; with_reducible exact H) | (have H2_ := (Option.bind_some _ _).symm.trans H; rw [hy225]; with_reducible exact H2_) | (have H2_ := (Option.bind_some _ _).symm.trans H; with_reducible exact H2_) | with_reducible exact H | (rw [hy225]; exact H) | exact H
  have Ny225 := Aside0.mk hy225
  clear hy225
  obtain ⟨y228, hy228⟩ : ∃ y_ : List (S26), y_ = (([] : List (S26))) := ⟨_, rfl⟩
  replace H : (spec_l02Turns.l0 k y225 y228 0) = some r := by first | (rw [hy228]; with_reducible exact H) | (have H2_ := (Option.bind_some _ _).symm.trans H; rw [hy228]; with_reducible exact H2_) | (have H2_ := (Option.bind_some _ _).symm.trans H; with_reducible exact H2_) | with_reducible exact H | (rw [hy228]; exact H) | exact H
  have Ny228 := Aside0.mk hy228
  clear hy228
  have H' := Aside0.mk H
  clear H
  go_enter Try.func54, Try.ntmps54
  go_wp2_with (first | ((with_reducible refine gate_dst (N := 1) rfl ?_); refine box_event ?hg (N := 1) ?hd (cs := #[.int .i8 a0_0, .int .i8 a0_1, .int .i8 a0_2]) (t := 26) ?hr ?_; (case hd => rfl); (case hg => rfl); (case hr => first | (go_simp; done) | (go_simp; rfl)); intro gb220 hg w3 hbox hb; have n0_ := Aside0.mk (below_step (by repeat (first | (with_reducible first | exact HB.out | apply below_alloc | apply pw_below_drewN | apply below_drew1) | exact HB.out)) hb); have n1_ := Aside0.mk (hbox); have n2_ := Aside0.mk ((by rw [hg]; exact (below_size (by repeat (first | (with_reducible first | exact HB.out | apply below_alloc | apply pw_below_drewN | apply below_drew1) | exact HB.out))) : w.heap.size ≤ gb220)); have n3_ := Aside0.mk ((by rw [hg]; exact (below_size (by repeat (first | (with_reducible first | exact HB.out | apply below_alloc | apply pw_below_drewN | apply below_drew1) | exact HB.out))) : w.heap.size ≤ gb220)); clear HB; have HB := n0_; have BK220 := n1_; have GW220 := n2_; have GE220 := n3_; clear n0_ n1_ n2_ n3_; clear hb hbox hg; have hcz4_0 : w3.cell? ⟨gb220, 0, none⟩ = some (.int .i8 a0_0) := (blk_cell BK220.out 0).trans rfl; have hcz4_1 : w3.cell? ⟨gb220, 1, none⟩ = some (.int .i8 a0_1) := (blk_cell BK220.out 1).trans rfl; have hcz4_2 : w3.cell? ⟨gb220, 2, none⟩ = some (.int .i8 a0_2) := (blk_cell BK220.out 2).trans rfl; have hfz4_0 := blk_frozen BK220.out 0; have hfz4_1 := blk_frozen BK220.out 1; have hfz4_2 := blk_frozen BK220.out 2) | (go_at_call 52; (with_reducible refine (spec_l02Sort.calls k a0_0 a0_1 a0_2 t221 t222 t223 _ A2.out).mono ?_); rintro e w5 ⟨rfl, hb⟩; have n0_ := Aside0.mk (blk_below (g := gb220) (o := .cells #[.int .i8 a0_0, .int .i8 a0_1, .int .i8 a0_2] 26 (0, 0)) (by (with_reducible repeat (first | refine blk_drewN ?_ _ | refine blk_drew ?_ | refine blk_alloc ?_ _)); exact BK220.out) hb); have n1_ := Aside0.mk (below_step (by repeat (first | (with_reducible first | exact HB.out | apply below_alloc | apply pw_below_drewN | apply below_drew1 | refine below_set ?_ GE220.out) | exact HB.out)) hb); clear BK220; clear HB; have BK220 := n0_; have HB := n1_; clear n0_ n1_; (try clear hb); (try clear hb2); (try clear hk); (try clear hi)) | ((with_reducible refine gate_dst (N := 3) rfl ?_); refine box_event ?hg (N := 3) ?hd (cs := #[.int .i8 0, .int .i8 0, .int .i8 0]) (t := 26) ?hr ?_; (case hd => rfl); (case hg => rfl); (case hr => first | (go_simp; done) | (go_simp; rfl)); intro gb224 hg w6 hbox hb; have n0_ := Aside0.mk (blk_below (g := gb220) (o := .cells #[.int .i8 a0_0, .int .i8 a0_1, .int .i8 a0_2] 26 (0, 0)) (by (with_reducible repeat (first | refine blk_drewN ?_ _ | refine blk_drew ?_ | refine blk_alloc ?_ _)); exact BK220.out) hb); have n1_ := Aside0.mk (below_step (by repeat (first | (with_reducible first | exact HB.out | apply below_alloc | apply pw_below_drewN | apply below_drew1 | refine below_set ?_ GE220.out) | exact HB.out)) hb); have n2_ := Aside0.mk (hbox); have n3_ := Aside0.mk ((by rw [hg]; exact (below_size (by repeat (first | (with_reducible first | exact HB.out | apply below_alloc | apply pw_below_drewN | apply below_drew1 | refine below_set ?_ GE220.out) | exact HB.out))) : w.heap.size ≤ gb224)); have n4_ := Aside0.mk ((by rw [hg]; exact (below_size (by repeat (first | (with_reducible first | exact HB.out | apply below_alloc | apply pw_below_drewN | apply below_drew1 | refine below_set ?_ GE220.out) | exact HB.out))) : w.heap.size ≤ gb224)); have n5_ := Aside0.mk ((by rw [hg]; exact Nat.ne_of_lt (blk_lt (g := gb220) (o := .cells #[.int .i8 a0_0, .int .i8 a0_1, .int .i8 a0_2] 26 (0, 0)) (by (with_reducible repeat (first | refine blk_drewN ?_ _ | refine blk_drew ?_ | refine blk_alloc ?_ _)); exact BK220.out)) : gb220 ≠ gb224)); have n6_ := Aside0.mk ((by rw [hg]; exact Nat.ne_of_gt (blk_lt (g := gb220) (o := .cells #[.int .i8 a0_0, .int .i8 a0_1, .int .i8 a0_2] 26 (0, 0)) (by (with_reducible repeat (first | refine blk_drewN ?_ _ | refine blk_drew ?_ | refine blk_alloc ?_ _)); exact BK220.out)) : gb224 ≠ gb220)); clear BK220; clear HB; have BK220 := n0_; have HB := n1_; have BK224 := n2_; have GW224 := n3_; have GE224 := n4_; have NB220_224 := n5_; have NB224_220 := n6_; clear n0_ n1_ n2_ n3_ n4_ n5_ n6_; clear hb hbox hg; have hnb7 := NB224_220.out; have hnc7 := NB220_224.out; have hcz8_0 : w6.cell? ⟨gb224, 0, none⟩ = some (.int .i8 0) := (blk_cell BK224.out 0).trans rfl; have hcz8_1 : w6.cell? ⟨gb224, 1, none⟩ = some (.int .i8 0) := (blk_cell BK224.out 1).trans rfl; have hcz8_2 : w6.cell? ⟨gb224, 2, none⟩ = some (.int .i8 0) := (blk_cell BK224.out 2).trans rfl; have hfz8_0 := blk_frozen BK224.out 0; have hfz8_1 := blk_frozen BK224.out 1; have hfz8_2 := blk_frozen BK224.out 2) | ((with_reducible refine gate_dst (N := 53) rfl ?_); refine Kd.R_lit k26 _ 26 ?hg (N := 53) ?hd (xs := ([(⟨t223, t222, t221⟩ : S26), (⟨t223, t221, t222⟩ : S26), (⟨t222, t223, t221⟩ : S26), (⟨t222, t221, t223⟩ : S26), (⟨t221, t223, t222⟩ : S26), (⟨t221, t222, t223⟩ : S26)] : List (S26))) (inner := [.int .i8 t223, .int .i8 t222, .int .i8 t221, .int .i8 t223, .int .i8 t221, .int .i8 t222, .int .i8 t222, .int .i8 t223, .int .i8 t221, .int .i8 t222, .int .i8 t221, .int .i8 t223, .int .i8 t221, .int .i8 t223, .int .i8 t222, .int .i8 t221, .int .i8 t222, .int .i8 t223]) (ok := fun _ => True) (okp := fun _ => True) ?hr ?hp (fun _ hk => hk) trivial (Below.refl _ _) (Nat.le_refl _) (by simp) ?_; (case hd => rfl); (case hg => rfl); (case hr => first | (go_simp; done) | (go_simp; rfl)); (case hp => exact (Reps.c3 (show Kd.M k26 _ _ _ (⟨t223, t222, t221⟩ : S26) [.int .i8 t223, .int .i8 t222, .int .i8 t221] from (k26_mkM _ _ _ (⟨t223, t222, t221⟩ : S26) )) (Reps.c3 (show Kd.M k26 _ _ _ (⟨t223, t221, t222⟩ : S26) [.int .i8 t223, .int .i8 t221, .int .i8 t222] from (k26_mkM _ _ _ (⟨t223, t221, t222⟩ : S26) )) (Reps.c3 (show Kd.M k26 _ _ _ (⟨t222, t223, t221⟩ : S26) [.int .i8 t222, .int .i8 t223, .int .i8 t221] from (k26_mkM _ _ _ (⟨t222, t223, t221⟩ : S26) )) (Reps.c3 (show Kd.M k26 _ _ _ (⟨t222, t221, t223⟩ : S26) [.int .i8 t222, .int .i8 t221, .int .i8 t223] from (k26_mkM _ _ _ (⟨t222, t221, t223⟩ : S26) )) (Reps.c3 (show Kd.M k26 _ _ _ (⟨t221, t223, t222⟩ : S26) [.int .i8 t221, .int .i8 t223, .int .i8 t222] from (k26_mkM _ _ _ (⟨t221, t223, t222⟩ : S26) )) (Reps.c3 (show Kd.M k26 _ _ _ (⟨t221, t222, t223⟩ : S26) [.int .i8 t221, .int .i8 t222, .int .i8 t223] from (k26_mkM _ _ _ (⟨t221, t222, t223⟩ : S26) )) (Reps.none _ _)))))))); intro v226 w9 ho10 hb hg_ hnew_; clear hg_ hnew_; (first | rw [← Ny225.out] at ho10 | (simp only [Int.reduceToNat] at ho10; rw [← Ny225.out] at ho10)); have n0_ := Aside0.mk (Kd.R_lower (Kd.R_newB (Kd.R_newB ho10 (g := gb220) (o := .cells #[.int .i8 a0_0, .int .i8 a0_1, .int .i8 a0_2] 26 (0, 0)) (by (with_reducible repeat (first | refine blk_drewN ?_ _ | refine blk_drew ?_ | refine blk_alloc ?_ _)); refine blk_far ?_ NB220_224.out _; (with_reducible repeat (first | refine blk_drewN ?_ _ | refine blk_drew ?_ | refine blk_alloc ?_ _)); refine blk_far ?_ NB220_224.out _; (with_reducible repeat (first | refine blk_drewN ?_ _ | refine blk_drew ?_ | refine blk_alloc ?_ _)); refine blk_far ?_ NB220_224.out _; (with_reducible repeat (first | refine blk_drewN ?_ _ | refine blk_drew ?_ | refine blk_alloc ?_ _)); exact BK220.out)) (g := gb224) (o := .cells #[.int .i8 t221, .int .i8 t222, .int .i8 t223] 26 (0, 0)) (by (with_reducible repeat (first | refine blk_drewN ?_ _ | refine blk_drew ?_ | refine blk_alloc ?_ _)); refine blk_put (cs := #[.int .i8 t221, .int .i8 t222, .int .i8 0]) ?_ 2 _ rfl; (with_reducible repeat (first | refine blk_drewN ?_ _ | refine blk_drew ?_ | refine blk_alloc ?_ _)); refine blk_put (cs := #[.int .i8 t221, .int .i8 0, .int .i8 0]) ?_ 1 _ rfl; (with_reducible repeat (first | refine blk_drewN ?_ _ | refine blk_drew ?_ | refine blk_alloc ?_ _)); refine blk_put (cs := #[.int .i8 0, .int .i8 0, .int .i8 0]) ?_ 0 _ rfl; (with_reducible repeat (first | refine blk_drewN ?_ _ | refine blk_drew ?_ | refine blk_alloc ?_ _)); exact BK224.out)) (below_size (by repeat (first | (with_reducible first | exact HB.out | apply below_alloc | apply pw_below_drewN | apply below_drew1 | refine below_set ?_ GE220.out | refine below_set ?_ GE224.out) | exact HB.out)))); have n1_ := Aside0.mk (blk_below (g := gb220) (o := .cells #[.int .i8 a0_0, .int .i8 a0_1, .int .i8 a0_2] 26 (0, 0)) (by (with_reducible repeat (first | refine blk_drewN ?_ _ | refine blk_drew ?_ | refine blk_alloc ?_ _)); refine blk_far ?_ NB220_224.out _; (with_reducible repeat (first | refine blk_drewN ?_ _ | refine blk_drew ?_ | refine blk_alloc ?_ _)); refine blk_far ?_ NB220_224.out _; (with_reducible repeat (first | refine blk_drewN ?_ _ | refine blk_drew ?_ | refine blk_alloc ?_ _)); refine blk_far ?_ NB220_224.out _; (with_reducible repeat (first | refine blk_drewN ?_ _ | refine blk_drew ?_ | refine blk_alloc ?_ _)); exact BK220.out) hb); have n2_ := Aside0.mk (blk_below (g := gb224) (o := .cells #[.int .i8 t221, .int .i8 t222, .int .i8 t223] 26 (0, 0)) (by (with_reducible repeat (first | refine blk_drewN ?_ _ | refine blk_drew ?_ | refine blk_alloc ?_ _)); refine blk_put (cs := #[.int .i8 t221, .int .i8 t222, .int .i8 0]) ?_ 2 _ rfl; (with_reducible repeat (first | refine blk_drewN ?_ _ | refine blk_drew ?_ | refine blk_alloc ?_ _)); refine blk_put (cs := #[.int .i8 t221, .int .i8 0, .int .i8 0]) ?_ 1 _ rfl; (with_reducible repeat (first | refine blk_drewN ?_ _ | refine blk_drew ?_ | refine blk_alloc ?_ _)); refine blk_put (cs := #[.int .i8 0, .int .i8 0, .int .i8 0]) ?_ 0 _ rfl; (with_reducible repeat (first | refine blk_drewN ?_ _ | refine blk_drew ?_ | refine blk_alloc ?_ _)); exact BK224.out) hb); have n3_ := Aside0.mk (below_step (by repeat (first | (with_reducible first | exact HB.out | apply below_alloc | apply pw_below_drewN | apply below_drew1 | refine below_set ?_ GE220.out | refine below_set ?_ GE224.out) | exact HB.out)) hb); clear BK220; clear BK224; clear HB; have HO227 := n0_; have BK220 := n1_; have BK224 := n2_; have HB := n3_; clear n0_ n1_ n2_ n3_; clear hb ho10) | ((with_reducible refine gate_dst (N := 54) rfl ?_); refine Kd.R_lit k26 _ 26 ?hg (N := 54) ?hd (xs := ([] : List (S26))) (inner := []) (ok := fun _ => True) (okp := fun _ => True) ?hr ?hp (fun _ hk => hk) trivial (Below.refl _ _) (Nat.le_refl _) (by simp) ?_; (case hd => rfl); (case hg => rfl); (case hr => first | (go_simp; done) | (go_simp; rfl)); (case hp => exact (Reps.none _ _)); intro v229 w11 ho12 hb hg_ hnew_; clear hg_ hnew_; (first | rw [← Ny228.out] at ho12 | (simp only [Int.reduceToNat] at ho12; rw [← Ny228.out] at ho12)); have n0_ := Aside0.mk (Kd.R_elder' (by (with_reducible repeat (first | apply Kd.R_alloc | apply Kd.R_drewN | apply Kd.R_drew)); exact HO227.out) (Kd.R_base ho12) hb); have n1_ := Aside0.mk (Kd.R_lower (Kd.R_newB (Kd.R_newB (Kd.R_new' ho12 (Kd.R_lt (by (with_reducible repeat (first | apply Kd.R_alloc | apply Kd.R_drewN | apply Kd.R_drew)); exact HO227.out))) (g := gb220) (o := .cells #[.int .i8 a0_0, .int .i8 a0_1, .int .i8 a0_2] 26 (0, 0)) (by (with_reducible repeat (first | refine blk_drewN ?_ _ | refine blk_drew ?_ | refine blk_alloc ?_ _)); exact BK220.out)) (g := gb224) (o := .cells #[.int .i8 t221, .int .i8 t222, .int .i8 t223] 26 (0, 0)) (by (with_reducible repeat (first | refine blk_drewN ?_ _ | refine blk_drew ?_ | refine blk_alloc ?_ _)); exact BK224.out)) (below_size (by repeat (first | (with_reducible first | exact HB.out | apply below_alloc | apply pw_below_drewN | apply below_drew1 | refine below_set ?_ GE220.out | refine below_set ?_ GE224.out) | exact HB.out)))); have n2_ := Aside0.mk (blk_below (g := gb220) (o := .cells #[.int .i8 a0_0, .int .i8 a0_1, .int .i8 a0_2] 26 (0, 0)) (by (with_reducible repeat (first | refine blk_drewN ?_ _ | refine blk_drew ?_ | refine blk_alloc ?_ _)); exact BK220.out) hb); have n3_ := Aside0.mk (blk_below (g := gb224) (o := .cells #[.int .i8 t221, .int .i8 t222, .int .i8 t223] 26 (0, 0)) (by (with_reducible repeat (first | refine blk_drewN ?_ _ | refine blk_drew ?_ | refine blk_alloc ?_ _)); exact BK224.out) hb); have n4_ := Aside0.mk (below_step (by repeat (first | (with_reducible first | exact HB.out | apply below_alloc | apply pw_below_drewN | apply below_drew1 | refine below_set ?_ GE220.out | refine below_set ?_ GE224.out) | exact HB.out)) hb); clear HO227; clear BK220; clear BK224; clear HB; have HO227 := n0_; have HO230 := n1_; have BK220 := n2_; have BK224 := n3_; have HB := n4_; clear n0_ n1_ n2_ n3_ n4_; clear hb ho12))
  repeat (go_quiet (first | ((with_reducible refine gate_dst (N := 1) rfl ?_); refine box_event ?hg (N := 1) ?hd (cs := #[.int .i8 a0_0, .int .i8 a0_1, .int .i8 a0_2]) (t := 26) ?hr ?_; (case hd => rfl); (case hg => rfl); (case hr => first | (go_simp; done) | (go_simp; rfl)); intro gb220 hg w3 hbox hb; have n0_ := Aside0.mk (below_step (by repeat (first | (with_reducible first | exact HB.out | apply below_alloc | apply pw_below_drewN | apply below_drew1) | exact HB.out)) hb); have n1_ := Aside0.mk (hbox); have n2_ := Aside0.mk ((by rw [hg]; exact (below_size (by repeat (first | (with_reducible first | exact HB.out | apply below_alloc | apply pw_below_drewN | apply below_drew1) | exact HB.out))) : w.heap.size ≤ gb220)); have n3_ := Aside0.mk ((by rw [hg]; exact (below_size (by repeat (first | (with_reducible first | exact HB.out | apply below_alloc | apply pw_below_drewN | apply below_drew1) | exact HB.out))) : w.heap.size ≤ gb220)); clear HB; have HB := n0_; have BK220 := n1_; have GW220 := n2_; have GE220 := n3_; clear n0_ n1_ n2_ n3_; clear hb hbox hg; have hcz4_0 : w3.cell? ⟨gb220, 0, none⟩ = some (.int .i8 a0_0) := (blk_cell BK220.out 0).trans rfl; have hcz4_1 : w3.cell? ⟨gb220, 1, none⟩ = some (.int .i8 a0_1) := (blk_cell BK220.out 1).trans rfl; have hcz4_2 : w3.cell? ⟨gb220, 2, none⟩ = some (.int .i8 a0_2) := (blk_cell BK220.out 2).trans rfl; have hfz4_0 := blk_frozen BK220.out 0; have hfz4_1 := blk_frozen BK220.out 1; have hfz4_2 := blk_frozen BK220.out 2) | (go_at_call 52; (with_reducible refine (spec_l02Sort.calls k a0_0 a0_1 a0_2 t221 t222 t223 _ A2.out).mono ?_); rintro e w5 ⟨rfl, hb⟩; have n0_ := Aside0.mk (blk_below (g := gb220) (o := .cells #[.int .i8 a0_0, .int .i8 a0_1, .int .i8 a0_2] 26 (0, 0)) (by (with_reducible repeat (first | refine blk_drewN ?_ _ | refine blk_drew ?_ | refine blk_alloc ?_ _)); exact BK220.out) hb); have n1_ := Aside0.mk (below_step (by repeat (first | (with_reducible first | exact HB.out | apply below_alloc | apply pw_below_drewN | apply below_drew1 | refine below_set ?_ GE220.out) | exact HB.out)) hb); clear BK220; clear HB; have BK220 := n0_; have HB := n1_; clear n0_ n1_; (try clear hb); (try clear hb2); (try clear hk); (try clear hi)) | ((with_reducible refine gate_dst (N := 3) rfl ?_); refine box_event ?hg (N := 3) ?hd (cs := #[.int .i8 0, .int .i8 0, .int .i8 0]) (t := 26) ?hr ?_; (case hd => rfl); (case hg => rfl); (case hr => first | (go_simp; done) | (go_simp; rfl)); intro gb224 hg w6 hbox hb; have n0_ := Aside0.mk (blk_below (g := gb220) (o := .cells #[.int .i8 a0_0, .int .i8 a0_1, .int .i8 a0_2] 26 (0, 0)) (by (with_reducible repeat (first | refine blk_drewN ?_ _ | refine blk_drew ?_ | refine blk_alloc ?_ _)); exact BK220.out) hb); have n1_ := Aside0.mk (below_step (by repeat (first | (with_reducible first | exact HB.out | apply below_alloc | apply pw_below_drewN | apply below_drew1 | refine below_set ?_ GE220.out) | exact HB.out)) hb); have n2_ := Aside0.mk (hbox); have n3_ := Aside0.mk ((by rw [hg]; exact (below_size (by repeat (first | (with_reducible first | exact HB.out | apply below_alloc | apply pw_below_drewN | apply below_drew1 | refine below_set ?_ GE220.out) | exact HB.out))) : w.heap.size ≤ gb224)); have n4_ := Aside0.mk ((by rw [hg]; exact (below_size (by repeat (first | (with_reducible first | exact HB.out | apply below_alloc | apply pw_below_drewN | apply below_drew1 | refine below_set ?_ GE220.out) | exact HB.out))) : w.heap.size ≤ gb224)); have n5_ := Aside0.mk ((by rw [hg]; exact Nat.ne_of_lt (blk_lt (g := gb220) (o := .cells #[.int .i8 a0_0, .int .i8 a0_1, .int .i8 a0_2] 26 (0, 0)) (by (with_reducible repeat (first | refine blk_drewN ?_ _ | refine blk_drew ?_ | refine blk_alloc ?_ _)); exact BK220.out)) : gb220 ≠ gb224)); have n6_ := Aside0.mk ((by rw [hg]; exact Nat.ne_of_gt (blk_lt (g := gb220) (o := .cells #[.int .i8 a0_0, .int .i8 a0_1, .int .i8 a0_2] 26 (0, 0)) (by (with_reducible repeat (first | refine blk_drewN ?_ _ | refine blk_drew ?_ | refine blk_alloc ?_ _)); exact BK220.out)) : gb224 ≠ gb220)); clear BK220; clear HB; have BK220 := n0_; have HB := n1_; have BK224 := n2_; have GW224 := n3_; have GE224 := n4_; have NB220_224 := n5_; have NB224_220 := n6_; clear n0_ n1_ n2_ n3_ n4_ n5_ n6_; clear hb hbox hg; have hnb7 := NB224_220.out; have hnc7 := NB220_224.out; have hcz8_0 : w6.cell? ⟨gb224, 0, none⟩ = some (.int .i8 0) := (blk_cell BK224.out 0).trans rfl; have hcz8_1 : w6.cell? ⟨gb224, 1, none⟩ = some (.int .i8 0) := (blk_cell BK224.out 1).trans rfl; have hcz8_2 : w6.cell? ⟨gb224, 2, none⟩ = some (.int .i8 0) := (blk_cell BK224.out 2).trans rfl; have hfz8_0 := blk_frozen BK224.out 0; have hfz8_1 := blk_frozen BK224.out 1; have hfz8_2 := blk_frozen BK224.out 2) | ((with_reducible refine gate_dst (N := 53) rfl ?_); refine Kd.R_lit k26 _ 26 ?hg (N := 53) ?hd (xs := ([(⟨t223, t222, t221⟩ : S26), (⟨t223, t221, t222⟩ : S26), (⟨t222, t223, t221⟩ : S26), (⟨t222, t221, t223⟩ : S26), (⟨t221, t223, t222⟩ : S26), (⟨t221, t222, t223⟩ : S26)] : List (S26))) (inner := [.int .i8 t223, .int .i8 t222, .int .i8 t221, .int .i8 t223, .int .i8 t221, .int .i8 t222, .int .i8 t222, .int .i8 t223, .int .i8 t221, .int .i8 t222, .int .i8 t221, .int .i8 t223, .int .i8 t221, .int .i8 t223, .int .i8 t222, .int .i8 t221, .int .i8 t222, .int .i8 t223]) (ok := fun _ => True) (okp := fun _ => True) ?hr ?hp (fun _ hk => hk) trivial (Below.refl _ _) (Nat.le_refl _) (by simp) ?_; (case hd => rfl); (case hg => rfl); (case hr => first | (go_simp; done) | (go_simp; rfl)); (case hp => exact (Reps.c3 (show Kd.M k26 _ _ _ (⟨t223, t222, t221⟩ : S26) [.int .i8 t223, .int .i8 t222, .int .i8 t221] from (k26_mkM _ _ _ (⟨t223, t222, t221⟩ : S26) )) (Reps.c3 (show Kd.M k26 _ _ _ (⟨t223, t221, t222⟩ : S26) [.int .i8 t223, .int .i8 t221, .int .i8 t222] from (k26_mkM _ _ _ (⟨t223, t221, t222⟩ : S26) )) (Reps.c3 (show Kd.M k26 _ _ _ (⟨t222, t223, t221⟩ : S26) [.int .i8 t222, .int .i8 t223, .int .i8 t221] from (k26_mkM _ _ _ (⟨t222, t223, t221⟩ : S26) )) (Reps.c3 (show Kd.M k26 _ _ _ (⟨t222, t221, t223⟩ : S26) [.int .i8 t222, .int .i8 t221, .int .i8 t223] from (k26_mkM _ _ _ (⟨t222, t221, t223⟩ : S26) )) (Reps.c3 (show Kd.M k26 _ _ _ (⟨t221, t223, t222⟩ : S26) [.int .i8 t221, .int .i8 t223, .int .i8 t222] from (k26_mkM _ _ _ (⟨t221, t223, t222⟩ : S26) )) (Reps.c3 (show Kd.M k26 _ _ _ (⟨t221, t222, t223⟩ : S26) [.int .i8 t221, .int .i8 t222, .int .i8 t223] from (k26_mkM _ _ _ (⟨t221, t222, t223⟩ : S26) )) (Reps.none _ _)))))))); intro v226 w9 ho10 hb hg_ hnew_; clear hg_ hnew_; (first | rw [← Ny225.out] at ho10 | (simp only [Int.reduceToNat] at ho10; rw [← Ny225.out] at ho10)); have n0_ := Aside0.mk (Kd.R_lower (Kd.R_newB (Kd.R_newB ho10 (g := gb220) (o := .cells #[.int .i8 a0_0, .int .i8 a0_1, .int .i8 a0_2] 26 (0, 0)) (by (with_reducible repeat (first | refine blk_drewN ?_ _ | refine blk_drew ?_ | refine blk_alloc ?_ _)); refine blk_far ?_ NB220_224.out _; (with_reducible repeat (first | refine blk_drewN ?_ _ | refine blk_drew ?_ | refine blk_alloc ?_ _)); refine blk_far ?_ NB220_224.out _; (with_reducible repeat (first | refine blk_drewN ?_ _ | refine blk_drew ?_ | refine blk_alloc ?_ _)); refine blk_far ?_ NB220_224.out _; (with_reducible repeat (first | refine blk_drewN ?_ _ | refine blk_drew ?_ | refine blk_alloc ?_ _)); exact BK220.out)) (g := gb224) (o := .cells #[.int .i8 t221, .int .i8 t222, .int .i8 t223] 26 (0, 0)) (by (with_reducible repeat (first | refine blk_drewN ?_ _ | refine blk_drew ?_ | refine blk_alloc ?_ _)); refine blk_put (cs := #[.int .i8 t221, .int .i8 t222, .int .i8 0]) ?_ 2 _ rfl; (with_reducible repeat (first | refine blk_drewN ?_ _ | refine blk_drew ?_ | refine blk_alloc ?_ _)); refine blk_put (cs := #[.int .i8 t221, .int .i8 0, .int .i8 0]) ?_ 1 _ rfl; (with_reducible repeat (first | refine blk_drewN ?_ _ | refine blk_drew ?_ | refine blk_alloc ?_ _)); refine blk_put (cs := #[.int .i8 0, .int .i8 0, .int .i8 0]) ?_ 0 _ rfl; (with_reducible repeat (first | refine blk_drewN ?_ _ | refine blk_drew ?_ | refine blk_alloc ?_ _)); exact BK224.out)) (below_size (by repeat (first | (with_reducible first | exact HB.out | apply below_alloc | apply pw_below_drewN | apply below_drew1 | refine below_set ?_ GE220.out | refine below_set ?_ GE224.out) | exact HB.out)))); have n1_ := Aside0.mk (blk_below (g := gb220) (o := .cells #[.int .i8 a0_0, .int .i8 a0_1, .int .i8 a0_2] 26 (0, 0)) (by (with_reducible repeat (first | refine blk_drewN ?_ _ | refine blk_drew ?_ | refine blk_alloc ?_ _)); refine blk_far ?_ NB220_224.out _; (with_reducible repeat (first | refine blk_drewN ?_ _ | refine blk_drew ?_ | refine blk_alloc ?_ _)); refine blk_far ?_ NB220_224.out _; (with_reducible repeat (first | refine blk_drewN ?_ _ | refine blk_drew ?_ | refine blk_alloc ?_ _)); refine blk_far ?_ NB220_224.out _; (with_reducible repeat (first | refine blk_drewN ?_ _ | refine blk_drew ?_ | refine blk_alloc ?_ _)); exact BK220.out) hb); have n2_ := Aside0.mk (blk_below (g := gb224) (o := .cells #[.int .i8 t221, .int .i8 t222, .int .i8 t223] 26 (0, 0)) (by (with_reducible repeat (first | refine blk_drewN ?_ _ | refine blk_drew ?_ | refine blk_alloc ?_ _)); refine blk_put (cs := #[.int .i8 t221, .int .i8 t222, .int .i8 0]) ?_ 2 _ rfl; (with_reducible repeat (first | refine blk_drewN ?_ _ | refine blk_drew ?_ | refine blk_alloc ?_ _)); refine blk_put (cs := #[.int .i8 t221, .int .i8 0, .int .i8 0]) ?_ 1 _ rfl; (with_reducible repeat (first | refine blk_drewN ?_ _ | refine blk_drew ?_ | refine blk_alloc ?_ _)); refine blk_put (cs := #[.int .i8 0, .int .i8 0, .int .i8 0]) ?_ 0 _ rfl; (with_reducible repeat (first | refine blk_drewN ?_ _ | refine blk_drew ?_ | refine blk_alloc ?_ _)); exact BK224.out) hb); have n3_ := Aside0.mk (below_step (by repeat (first | (with_reducible first | exact HB.out | apply below_alloc | apply pw_below_drewN | apply below_drew1 | refine below_set ?_ GE220.out | refine below_set ?_ GE224.out) | exact HB.out)) hb); clear BK220; clear BK224; clear HB; have HO227 := n0_; have BK220 := n1_; have BK224 := n2_; have HB := n3_; clear n0_ n1_ n2_ n3_; clear hb ho10) | ((with_reducible refine gate_dst (N := 54) rfl ?_); refine Kd.R_lit k26 _ 26 ?hg (N := 54) ?hd (xs := ([] : List (S26))) (inner := []) (ok := fun _ => True) (okp := fun _ => True) ?hr ?hp (fun _ hk => hk) trivial (Below.refl _ _) (Nat.le_refl _) (by simp) ?_; (case hd => rfl); (case hg => rfl); (case hr => first | (go_simp; done) | (go_simp; rfl)); (case hp => exact (Reps.none _ _)); intro v229 w11 ho12 hb hg_ hnew_; clear hg_ hnew_; (first | rw [← Ny228.out] at ho12 | (simp only [Int.reduceToNat] at ho12; rw [← Ny228.out] at ho12)); have n0_ := Aside0.mk (Kd.R_elder' (by (with_reducible repeat (first | apply Kd.R_alloc | apply Kd.R_drewN | apply Kd.R_drew)); exact HO227.out) (Kd.R_base ho12) hb); have n1_ := Aside0.mk (Kd.R_lower (Kd.R_newB (Kd.R_newB (Kd.R_new' ho12 (Kd.R_lt (by (with_reducible repeat (first | apply Kd.R_alloc | apply Kd.R_drewN | apply Kd.R_drew)); exact HO227.out))) (g := gb220) (o := .cells #[.int .i8 a0_0, .int .i8 a0_1, .int .i8 a0_2] 26 (0, 0)) (by (with_reducible repeat (first | refine blk_drewN ?_ _ | refine blk_drew ?_ | refine blk_alloc ?_ _)); exact BK220.out)) (g := gb224) (o := .cells #[.int .i8 t221, .int .i8 t222, .int .i8 t223] 26 (0, 0)) (by (with_reducible repeat (first | refine blk_drewN ?_ _ | refine blk_drew ?_ | refine blk_alloc ?_ _)); exact BK224.out)) (below_size (by repeat (first | (with_reducible first | exact HB.out | apply below_alloc | apply pw_below_drewN | apply below_drew1 | refine below_set ?_ GE220.out | refine below_set ?_ GE224.out) | exact HB.out)))); have n2_ := Aside0.mk (blk_below (g := gb220) (o := .cells #[.int .i8 a0_0, .int .i8 a0_1, .int .i8 a0_2] 26 (0, 0)) (by (with_reducible repeat (first | refine blk_drewN ?_ _ | refine blk_drew ?_ | refine blk_alloc ?_ _)); exact BK220.out) hb); have n3_ := Aside0.mk (blk_below (g := gb224) (o := .cells #[.int .i8 t221, .int .i8 t222, .int .i8 t223] 26 (0, 0)) (by (with_reducible repeat (first | refine blk_drewN ?_ _ | refine blk_drew ?_ | refine blk_alloc ?_ _)); exact BK224.out) hb); have n4_ := Aside0.mk (below_step (by repeat (first | (with_reducible first | exact HB.out | apply below_alloc | apply pw_below_drewN | apply below_drew1 | refine below_set ?_ GE220.out | refine below_set ?_ GE224.out) | exact HB.out)) hb); clear HO227; clear BK220; clear BK224; clear HB; have HO227 := n0_; have HO230 := n1_; have BK220 := n2_; have BK224 := n3_; have HB := n4_; clear n0_ n1_ n2_ n3_ n4_; clear hb ho12)); try go_wp2_with (first | ((with_reducible refine gate_dst (N := 1) rfl ?_); refine box_event ?hg (N := 1) ?hd (cs := #[.int .i8 a0_0, .int .i8 a0_1, .int .i8 a0_2]) (t := 26) ?hr ?_; (case hd => rfl); (case hg => rfl); (case hr => first | (go_simp; done) | (go_simp; rfl)); intro gb220 hg w3 hbox hb; have n0_ := Aside0.mk (below_step (by repeat (first | (with_reducible first | exact HB.out | apply below_alloc | apply pw_below_drewN | apply below_drew1) | exact HB.out)) hb); have n1_ := Aside0.mk (hbox); have n2_ := Aside0.mk ((by rw [hg]; exact (below_size (by repeat (first | (with_reducible first | exact HB.out | apply below_alloc | apply pw_below_drewN | apply below_drew1) | exact HB.out))) : w.heap.size ≤ gb220)); have n3_ := Aside0.mk ((by rw [hg]; exact (below_size (by repeat (first | (with_reducible first | exact HB.out | apply below_alloc | apply pw_below_drewN | apply below_drew1) | exact HB.out))) : w.heap.size ≤ gb220)); clear HB; have HB := n0_; have BK220 := n1_; have GW220 := n2_; have GE220 := n3_; clear n0_ n1_ n2_ n3_; clear hb hbox hg; have hcz4_0 : w3.cell? ⟨gb220, 0, none⟩ = some (.int .i8 a0_0) := (blk_cell BK220.out 0).trans rfl; have hcz4_1 : w3.cell? ⟨gb220, 1, none⟩ = some (.int .i8 a0_1) := (blk_cell BK220.out 1).trans rfl; have hcz4_2 : w3.cell? ⟨gb220, 2, none⟩ = some (.int .i8 a0_2) := (blk_cell BK220.out 2).trans rfl; have hfz4_0 := blk_frozen BK220.out 0; have hfz4_1 := blk_frozen BK220.out 1; have hfz4_2 := blk_frozen BK220.out 2) | (go_at_call 52; (with_reducible refine (spec_l02Sort.calls k a0_0 a0_1 a0_2 t221 t222 t223 _ A2.out).mono ?_); rintro e w5 ⟨rfl, hb⟩; have n0_ := Aside0.mk (blk_below (g := gb220) (o := .cells #[.int .i8 a0_0, .int .i8 a0_1, .int .i8 a0_2] 26 (0, 0)) (by (with_reducible repeat (first | refine blk_drewN ?_ _ | refine blk_drew ?_ | refine blk_alloc ?_ _)); exact BK220.out) hb); have n1_ := Aside0.mk (below_step (by repeat (first | (with_reducible first | exact HB.out | apply below_alloc | apply pw_below_drewN | apply below_drew1 | refine below_set ?_ GE220.out) | exact HB.out)) hb); clear BK220; clear HB; have BK220 := n0_; have HB := n1_; clear n0_ n1_; (try clear hb); (try clear hb2); (try clear hk); (try clear hi)) | ((with_reducible refine gate_dst (N := 3) rfl ?_); refine box_event ?hg (N := 3) ?hd (cs := #[.int .i8 0, .int .i8 0, .int .i8 0]) (t := 26) ?hr ?_; (case hd => rfl); (case hg => rfl); (case hr => first | (go_simp; done) | (go_simp; rfl)); intro gb224 hg w6 hbox hb; have n0_ := Aside0.mk (blk_below (g := gb220) (o := .cells #[.int .i8 a0_0, .int .i8 a0_1, .int .i8 a0_2] 26 (0, 0)) (by (with_reducible repeat (first | refine blk_drewN ?_ _ | refine blk_drew ?_ | refine blk_alloc ?_ _)); exact BK220.out) hb); have n1_ := Aside0.mk (below_step (by repeat (first | (with_reducible first | exact HB.out | apply below_alloc | apply pw_below_drewN | apply below_drew1 | refine below_set ?_ GE220.out) | exact HB.out)) hb); have n2_ := Aside0.mk (hbox); have n3_ := Aside0.mk ((by rw [hg]; exact (below_size (by repeat (first | (with_reducible first | exact HB.out | apply below_alloc | apply pw_below_drewN | apply below_drew1 | refine below_set ?_ GE220.out) | exact HB.out))) : w.heap.size ≤ gb224)); have n4_ := Aside0.mk ((by rw [hg]; exact (below_size (by repeat (first | (with_reducible first | exact HB.out | apply below_alloc | apply pw_below_drewN | apply below_drew1 | refine below_set ?_ GE220.out) | exact HB.out))) : w.heap.size ≤ gb224)); have n5_ := Aside0.mk ((by rw [hg]; exact Nat.ne_of_lt (blk_lt (g := gb220) (o := .cells #[.int .i8 a0_0, .int .i8 a0_1, .int .i8 a0_2] 26 (0, 0)) (by (with_reducible repeat (first | refine blk_drewN ?_ _ | refine blk_drew ?_ | refine blk_alloc ?_ _)); exact BK220.out)) : gb220 ≠ gb224)); have n6_ := Aside0.mk ((by rw [hg]; exact Nat.ne_of_gt (blk_lt (g := gb220) (o := .cells #[.int .i8 a0_0, .int .i8 a0_1, .int .i8 a0_2] 26 (0, 0)) (by (with_reducible repeat (first | refine blk_drewN ?_ _ | refine blk_drew ?_ | refine blk_alloc ?_ _)); exact BK220.out)) : gb224 ≠ gb220)); clear BK220; clear HB; have BK220 := n0_; have HB := n1_; have BK224 := n2_; have GW224 := n3_; have GE224 := n4_; have NB220_224 := n5_; have NB224_220 := n6_; clear n0_ n1_ n2_ n3_ n4_ n5_ n6_; clear hb hbox hg; have hnb7 := NB224_220.out; have hnc7 := NB220_224.out; have hcz8_0 : w6.cell? ⟨gb224, 0, none⟩ = some (.int .i8 0) := (blk_cell BK224.out 0).trans rfl; have hcz8_1 : w6.cell? ⟨gb224, 1, none⟩ = some (.int .i8 0) := (blk_cell BK224.out 1).trans rfl; have hcz8_2 : w6.cell? ⟨gb224, 2, none⟩ = some (.int .i8 0) := (blk_cell BK224.out 2).trans rfl; have hfz8_0 := blk_frozen BK224.out 0; have hfz8_1 := blk_frozen BK224.out 1; have hfz8_2 := blk_frozen BK224.out 2) | ((with_reducible refine gate_dst (N := 53) rfl ?_); refine Kd.R_lit k26 _ 26 ?hg (N := 53) ?hd (xs := ([(⟨t223, t222, t221⟩ : S26), (⟨t223, t221, t222⟩ : S26), (⟨t222, t223, t221⟩ : S26), (⟨t222, t221, t223⟩ : S26), (⟨t221, t223, t222⟩ : S26), (⟨t221, t222, t223⟩ : S26)] : List (S26))) (inner := [.int .i8 t223, .int .i8 t222, .int .i8 t221, .int .i8 t223, .int .i8 t221, .int .i8 t222, .int .i8 t222, .int .i8 t223, .int .i8 t221, .int .i8 t222, .int .i8 t221, .int .i8 t223, .int .i8 t221, .int .i8 t223, .int .i8 t222, .int .i8 t221, .int .i8 t222, .int .i8 t223]) (ok := fun _ => True) (okp := fun _ => True) ?hr ?hp (fun _ hk => hk) trivial (Below.refl _ _) (Nat.le_refl _) (by simp) ?_; (case hd => rfl); (case hg => rfl); (case hr => first | (go_simp; done) | (go_simp; rfl)); (case hp => exact (Reps.c3 (show Kd.M k26 _ _ _ (⟨t223, t222, t221⟩ : S26) [.int .i8 t223, .int .i8 t222, .int .i8 t221] from (k26_mkM _ _ _ (⟨t223, t222, t221⟩ : S26) )) (Reps.c3 (show Kd.M k26 _ _ _ (⟨t223, t221, t222⟩ : S26) [.int .i8 t223, .int .i8 t221, .int .i8 t222] from (k26_mkM _ _ _ (⟨t223, t221, t222⟩ : S26) )) (Reps.c3 (show Kd.M k26 _ _ _ (⟨t222, t223, t221⟩ : S26) [.int .i8 t222, .int .i8 t223, .int .i8 t221] from (k26_mkM _ _ _ (⟨t222, t223, t221⟩ : S26) )) (Reps.c3 (show Kd.M k26 _ _ _ (⟨t222, t221, t223⟩ : S26) [.int .i8 t222, .int .i8 t221, .int .i8 t223] from (k26_mkM _ _ _ (⟨t222, t221, t223⟩ : S26) )) (Reps.c3 (show Kd.M k26 _ _ _ (⟨t221, t223, t222⟩ : S26) [.int .i8 t221, .int .i8 t223, .int .i8 t222] from (k26_mkM _ _ _ (⟨t221, t223, t222⟩ : S26) )) (Reps.c3 (show Kd.M k26 _ _ _ (⟨t221, t222, t223⟩ : S26) [.int .i8 t221, .int .i8 t222, .int .i8 t223] from (k26_mkM _ _ _ (⟨t221, t222, t223⟩ : S26) )) (Reps.none _ _)))))))); intro v226 w9 ho10 hb hg_ hnew_; clear hg_ hnew_; (first | rw [← Ny225.out] at ho10 | (simp only [Int.reduceToNat] at ho10; rw [← Ny225.out] at ho10)); have n0_ := Aside0.mk (Kd.R_lower (Kd.R_newB (Kd.R_newB ho10 (g := gb220) (o := .cells #[.int .i8 a0_0, .int .i8 a0_1, .int .i8 a0_2] 26 (0, 0)) (by (with_reducible repeat (first | refine blk_drewN ?_ _ | refine blk_drew ?_ | refine blk_alloc ?_ _)); refine blk_far ?_ NB220_224.out _; (with_reducible repeat (first | refine blk_drewN ?_ _ | refine blk_drew ?_ | refine blk_alloc ?_ _)); refine blk_far ?_ NB220_224.out _; (with_reducible repeat (first | refine blk_drewN ?_ _ | refine blk_drew ?_ | refine blk_alloc ?_ _)); refine blk_far ?_ NB220_224.out _; (with_reducible repeat (first | refine blk_drewN ?_ _ | refine blk_drew ?_ | refine blk_alloc ?_ _)); exact BK220.out)) (g := gb224) (o := .cells #[.int .i8 t221, .int .i8 t222, .int .i8 t223] 26 (0, 0)) (by (with_reducible repeat (first | refine blk_drewN ?_ _ | refine blk_drew ?_ | refine blk_alloc ?_ _)); refine blk_put (cs := #[.int .i8 t221, .int .i8 t222, .int .i8 0]) ?_ 2 _ rfl; (with_reducible repeat (first | refine blk_drewN ?_ _ | refine blk_drew ?_ | refine blk_alloc ?_ _)); refine blk_put (cs := #[.int .i8 t221, .int .i8 0, .int .i8 0]) ?_ 1 _ rfl; (with_reducible repeat (first | refine blk_drewN ?_ _ | refine blk_drew ?_ | refine blk_alloc ?_ _)); refine blk_put (cs := #[.int .i8 0, .int .i8 0, .int .i8 0]) ?_ 0 _ rfl; (with_reducible repeat (first | refine blk_drewN ?_ _ | refine blk_drew ?_ | refine blk_alloc ?_ _)); exact BK224.out)) (below_size (by repeat (first | (with_reducible first | exact HB.out | apply below_alloc | apply pw_below_drewN | apply below_drew1 | refine below_set ?_ GE220.out | refine below_set ?_ GE224.out) | exact HB.out)))); have n1_ := Aside0.mk (blk_below (g := gb220) (o := .cells #[.int .i8 a0_0, .int .i8 a0_1, .int .i8 a0_2] 26 (0, 0)) (by (with_reducible repeat (first | refine blk_drewN ?_ _ | refine blk_drew ?_ | refine blk_alloc ?_ _)); refine blk_far ?_ NB220_224.out _; (with_reducible repeat (first | refine blk_drewN ?_ _ | refine blk_drew ?_ | refine blk_alloc ?_ _)); refine blk_far ?_ NB220_224.out _; (with_reducible repeat (first | refine blk_drewN ?_ _ | refine blk_drew ?_ | refine blk_alloc ?_ _)); refine blk_far ?_ NB220_224.out _; (with_reducible repeat (first | refine blk_drewN ?_ _ | refine blk_drew ?_ | refine blk_alloc ?_ _)); exact BK220.out) hb); have n2_ := Aside0.mk (blk_below (g := gb224) (o := .cells #[.int .i8 t221, .int .i8 t222, .int .i8 t223] 26 (0, 0)) (by (with_reducible repeat (first | refine blk_drewN ?_ _ | refine blk_drew ?_ | refine blk_alloc ?_ _)); refine blk_put (cs := #[.int .i8 t221, .int .i8 t222, .int .i8 0]) ?_ 2 _ rfl; (with_reducible repeat (first | refine blk_drewN ?_ _ | refine blk_drew ?_ | refine blk_alloc ?_ _)); refine blk_put (cs := #[.int .i8 t221, .int .i8 0, .int .i8 0]) ?_ 1 _ rfl; (with_reducible repeat (first | refine blk_drewN ?_ _ | refine blk_drew ?_ | refine blk_alloc ?_ _)); refine blk_put (cs := #[.int .i8 0, .int .i8 0, .int .i8 0]) ?_ 0 _ rfl; (with_reducible repeat (first | refine blk_drewN ?_ _ | refine blk_drew ?_ | refine blk_alloc ?_ _)); exact BK224.out) hb); have n3_ := Aside0.mk (below_step (by repeat (first | (with_reducible first | exact HB.out | apply below_alloc | apply pw_below_drewN | apply below_drew1 | refine below_set ?_ GE220.out | refine below_set ?_ GE224.out) | exact HB.out)) hb); clear BK220; clear BK224; clear HB; have HO227 := n0_; have BK220 := n1_; have BK224 := n2_; have HB := n3_; clear n0_ n1_ n2_ n3_; clear hb ho10) | ((with_reducible refine gate_dst (N := 54) rfl ?_); refine Kd.R_lit k26 _ 26 ?hg (N := 54) ?hd (xs := ([] : List (S26))) (inner := []) (ok := fun _ => True) (okp := fun _ => True) ?hr ?hp (fun _ hk => hk) trivial (Below.refl _ _) (Nat.le_refl _) (by simp) ?_; (case hd => rfl); (case hg => rfl); (case hr => first | (go_simp; done) | (go_simp; rfl)); (case hp => exact (Reps.none _ _)); intro v229 w11 ho12 hb hg_ hnew_; clear hg_ hnew_; (first | rw [← Ny228.out] at ho12 | (simp only [Int.reduceToNat] at ho12; rw [← Ny228.out] at ho12)); have n0_ := Aside0.mk (Kd.R_elder' (by (with_reducible repeat (first | apply Kd.R_alloc | apply Kd.R_drewN | apply Kd.R_drew)); exact HO227.out) (Kd.R_base ho12) hb); have n1_ := Aside0.mk (Kd.R_lower (Kd.R_newB (Kd.R_newB (Kd.R_new' ho12 (Kd.R_lt (by (with_reducible repeat (first | apply Kd.R_alloc | apply Kd.R_drewN | apply Kd.R_drew)); exact HO227.out))) (g := gb220) (o := .cells #[.int .i8 a0_0, .int .i8 a0_1, .int .i8 a0_2] 26 (0, 0)) (by (with_reducible repeat (first | refine blk_drewN ?_ _ | refine blk_drew ?_ | refine blk_alloc ?_ _)); exact BK220.out)) (g := gb224) (o := .cells #[.int .i8 t221, .int .i8 t222, .int .i8 t223] 26 (0, 0)) (by (with_reducible repeat (first | refine blk_drewN ?_ _ | refine blk_drew ?_ | refine blk_alloc ?_ _)); exact BK224.out)) (below_size (by repeat (first | (with_reducible first | exact HB.out | apply below_alloc | apply pw_below_drewN | apply below_drew1 | refine below_set ?_ GE220.out | refine below_set ?_ GE224.out) | exact HB.out)))); have n2_ := Aside0.mk (blk_below (g := gb220) (o := .cells #[.int .i8 a0_0, .int .i8 a0_1, .int .i8 a0_2] 26 (0, 0)) (by (with_reducible repeat (first | refine blk_drewN ?_ _ | refine blk_drew ?_ | refine blk_alloc ?_ _)); exact BK220.out) hb); have n3_ := Aside0.mk (blk_below (g := gb224) (o := .cells #[.int .i8 t221, .int .i8 t222, .int .i8 t223] 26 (0, 0)) (by (with_reducible repeat (first | refine blk_drewN ?_ _ | refine blk_drew ?_ | refine blk_alloc ?_ _)); exact BK224.out) hb); have n4_ := Aside0.mk (below_step (by repeat (first | (with_reducible first | exact HB.out | apply below_alloc | apply pw_below_drewN | apply below_drew1 | refine below_set ?_ GE220.out | refine below_set ?_ GE224.out) | exact HB.out)) hb); clear HO227; clear BK220; clear BK224; clear HB; have HO227 := n0_; have HO230 := n1_; have BK220 := n2_; have BK224 := n3_; have HB := n4_; clear n0_ n1_ n2_ n3_ n4_; clear hb ho12)))
  go_loopg [5, 6] k (fun kq v5 v6 w' => ∃ (x5_1 : List (S26)) (x6_1 : Int), v6 = .int .i64 x6_1 ∧ Aside0 (spec_l02Turns.l0 kq y225 x5_1 x6_1 = some r) ∧ Aside0 (kq ≤ k) ∧ Aside0 (Kd.R k26 26 w' w.heap.size (fun k_ => some k_ ≠ (v5 : Value).ownBlock ∧ k_ ≠ gb220 ∧ k_ ≠ gb224) v226 y225) ∧ Aside0 (Kd.R k26 26 w' w.heap.size (fun k_ => some k_ ≠ (v226 : Value).ownBlock ∧ k_ ≠ gb220 ∧ k_ ≠ gb224) v5 x5_1) ∧ Aside0 (w'.heap[gb220]? = some (.cells #[.int .i8 a0_0, .int .i8 a0_1, .int .i8 a0_2] 26 (0, 0))) ∧ Aside0 (w'.heap[gb224]? = some (.cells #[.int .i8 t221, .int .i8 t222, .int .i8 t223] 26 (0, 0))) ∧ Aside0 (Below w.heap.size w w'))
  case atStart => exact ⟨(y228), (0), (by first | rfl | (simp; done) | (simp [*]; done)), H', ⟨Nat.le_refl _⟩, ⟨by (with_reducible repeat (first | apply Kd.R_alloc | apply Kd.R_drewN | apply Kd.R_drew)); exact Kd.R_mono HO227.out (fun _ hk => ⟨hk.2, ⟨hk.1.1.2, hk.1.2⟩⟩)⟩, ⟨by (with_reducible repeat (first | apply Kd.R_alloc | apply Kd.R_drewN | apply Kd.R_drew)); exact Kd.R_mono HO230.out (fun _ hk => ⟨hk.1.1.2, ⟨hk.1.2, hk.2⟩⟩)⟩, ⟨by (with_reducible repeat (first | refine blk_drewN ?_ _ | refine blk_drew ?_ | refine blk_alloc ?_ _)); exact BK220.out⟩, ⟨by (with_reducible repeat (first | refine blk_drewN ?_ _ | refine blk_drew ?_ | refine blk_alloc ?_ _)); exact BK224.out⟩, ⟨by repeat (first | (with_reducible first | exact HB.out | apply below_alloc | apply pw_below_drewN | apply below_drew1 | refine below_set ?_ GE220.out | refine below_set ?_ GE224.out) | exact HB.out)⟩⟩
  case round =>
    clear H'
    try clear p2
    try clear c3
    try clear c5
    try clear c7
    try clear hcz4_0
    try clear hcz4_1
    try clear hcz4_2
    try clear hcz8_0
    try clear hcz8_1
    try clear hcz8_2
    try clear hfz4_0
    try clear hfz4_1
    try clear hfz4_2
    try clear hfz8_0
    try clear hfz8_1
    try clear hfz8_2
    obtain ⟨x5_1, x6_1, rfl, HA, HK1, HO_4, HO_5, BK220, BK224, HB⟩ := hrel
    cases gk with
    | zero => exact absurd HA.out (by simp [spec_l02Turns.l0])
    | succ k1 =>
      have H := HA.out
      clear HA
      simp only [spec_l02Turns.l0] at H
      by_cases c13 : x6_1 < (y225.length : Int)
      · rw [if_pos c13] at H
        have c13b0 : decide (x6_1 < (y225.length : Int)) = true := decide_eq_true c13
        clear c13
        have H' := Aside0.mk H
        clear H
        obtain ⟨Ao14, co14, eo14⟩ := Kd.R_slice HO_4.out
        subst eo14
        go_wp2
        repeat (go_quiet (fail); try go_wp2)
        go_loopg [7, 8] k1 (fun kq v7 v8 w' => ∃ (x7_2 : Bool) (x8_2 : Int), v7 = .bool x7_2 ∧ v8 = .int .i64 x8_2 ∧ Aside0 (spec_l02Turns.l1 kq y225 x5_1 x6_1 x7_2 x8_2 = some r) ∧ Aside0 (kq ≤ k1) ∧ Aside0 (Kd.R k26 26 w' w.heap.size (fun k_ => some k_ ≠ (u5 : Value).ownBlock ∧ k_ ≠ gb220 ∧ k_ ≠ gb224) (.slice Ao14 y225.length co14) y225) ∧ Aside0 (Kd.R k26 26 w' w.heap.size (fun k_ => some k_ ≠ ((.slice Ao14 y225.length co14) : Value).ownBlock ∧ k_ ≠ gb220 ∧ k_ ≠ gb224) u5 x5_1) ∧ Aside0 (w'.heap[gb220]? = some (.cells #[.int .i8 a0_0, .int .i8 a0_1, .int .i8 a0_2] 26 (0, 0))) ∧ Aside0 (w'.heap[gb224]? = some (.cells #[.int .i8 t221, .int .i8 t222, .int .i8 t223] 26 (0, 0))) ∧ Aside0 (Below w.heap.size w w'))
        case atStart => exact ⟨(true), (0), (by first | rfl | (simp; done) | (simp [*]; done)), (by first | rfl | (simp; done) | (simp [*]; done)), H', ⟨Nat.le_refl _⟩, ⟨by (with_reducible repeat (first | apply Kd.R_alloc | apply Kd.R_drewN | apply Kd.R_drew)); exact HO_4.out⟩, ⟨by (with_reducible repeat (first | apply Kd.R_alloc | apply Kd.R_drewN | apply Kd.R_drew)); exact HO_5.out⟩, ⟨by (with_reducible repeat (first | refine blk_drewN ?_ _ | refine blk_drew ?_ | refine blk_alloc ?_ _)); exact BK220.out⟩, ⟨by (with_reducible repeat (first | refine blk_drewN ?_ _ | refine blk_drew ?_ | refine blk_alloc ?_ _)); exact BK224.out⟩, ⟨by repeat (first | (with_reducible first | exact HB.out | apply below_alloc | apply pw_below_drewN | apply below_drew1 | refine below_set ?_ GE220.out | refine below_set ?_ GE224.out) | exact HB.out)⟩⟩
        case round =>
          clear H'
          try clear c1
          try clear p2
          try clear c3
          try clear c5
          try clear c7
          try clear c13
          try clear c13b0
          try clear hcz4_0
          try clear hcz4_1
          try clear hcz4_2
          try clear hcz8_0
          try clear hcz8_1
          try clear hcz8_2
          try clear hfz4_0
          try clear hfz4_1
          try clear hfz4_2
          try clear hfz8_0
          try clear hfz8_1
          try clear hfz8_2
          try clear p2
          obtain ⟨x7_2, x8_2, rfl, rfl, HA, HK2, HO_4, HO_5, BK220, BK224, HB⟩ := hrel
          cases gk with
          | zero => exact absurd HA.out (by simp [spec_l02Turns.l1])
          | succ k2 =>
            have H := HA.out
            clear HA
            simp only [spec_l02Turns.l1] at H
            by_cases c15 : x8_2 < (x5_1.length : Int)
            · rw [if_pos c15] at H
              have c15b0 : decide (x8_2 < (x5_1.length : Int)) = true := decide_eq_true c15
              clear c15
              by_cases c16 : x7_2 = true
              · subst c16
                have H1 : (if 0 ≤ x8_2 then (if 0 ≤ x6_1 then (if x6_1 < (y225.length : Int) then (spec_l02Turns.l1 k2 y225 x5_1 x6_1 (!(((rd_T26 x5_1 x8_2).f0) == ((rd_T26 y225 x6_1).f0)) || (!(((rd_T26 x5_1 x8_2).f1) == ((rd_T26 y225 x6_1).f1)) || (!(((rd_T26 x5_1 x8_2).f2) == ((rd_T26 y225 x6_1).f2))))) (wrap64 (x8_2 + 1))) else (none)) else (none)) else (none)) = some r := by rw [if_pos rfl] at H; exact H
                clear H
                have H := H1
                clear H1
                by_cases c17 : 0 ≤ x8_2
                · rw [if_pos c17] at H
                  have c17b0 : decide (0 ≤ x8_2) = true := decide_eq_true c17
                  clear c17
                  by_cases c18 : 0 ≤ x6_1
                  · rw [if_pos c18] at H
                    have c18b0 : decide (0 ≤ x6_1) = true := decide_eq_true c18
                    clear c18
                    by_cases c19 : x6_1 < (y225.length : Int)
                    · rw [if_pos c19] at H
                      have c19b0 : decide (x6_1 < (y225.length : Int)) = true := decide_eq_true c19
                      clear c19
                      have H' := Aside0.mk H
                      clear H
                      obtain ⟨Ao20, co20, eo20⟩ := Kd.R_slice HO_5.out
                      subst eo20
                      have p231 : 0 ≤ (x8_2 : Int) := of_decide_eq_true (by first | (with_reducible assumption) | assumption)
                      have q231 : x8_2 < (x5_1.length : Int) := of_decide_eq_true (by first | (with_reducible assumption) | assumption)
                      obtain ⟨ad231, e231, hx231_0, hx231_1, hx231_2⟩ := at_T26 (Kd.R_reads' HO_5.out).2.2 x8_2 p231 q231
                      cases e231
                      replace p231 := eq_true p231
                      replace q231 := eq_true q231
                      have p232 : 0 ≤ (x6_1 : Int) := of_decide_eq_true (by first | (with_reducible assumption) | assumption)
                      have q232 : x6_1 < (y225.length : Int) := of_decide_eq_true (by first | (with_reducible assumption) | assumption)
                      obtain ⟨ad232, e232, hx232_0, hx232_1, hx232_2⟩ := at_T26 (Kd.R_reads' HO_4.out).2.2 x6_1 p232 q232
                      cases e232
                      replace p232 := eq_true p232
                      replace q232 := eq_true q232
                      go_wp2
                      repeat (go_quiet (fail); try go_wp2)
                      go_roundg k2
                      case measure => have := HK1.out; have := HK2.out; omega
                      case rel => exact ⟨((!(((rd_T26 x5_1 x8_2).f0) == ((rd_T26 y225 x6_1).f0)) || (!(((rd_T26 x5_1 x8_2).f1) == ((rd_T26 y225 x6_1).f1)) || (!(((rd_T26 x5_1 x8_2).f2) == ((rd_T26 y225 x6_1).f2)))))), (wrap64 (x8_2 + 1)), (by first | rfl | (simp; done) | (simp [*]; done)), (by first | rfl | (simp; done) | (simp [*]; done)), H', ⟨by have := HK1.out; have := HK2.out; omega⟩, ⟨by (with_reducible repeat (first | apply Kd.R_alloc | apply Kd.R_drewN | apply Kd.R_drew)); exact HO_4.out⟩, ⟨by (with_reducible repeat (first | apply Kd.R_alloc | apply Kd.R_drewN | apply Kd.R_drew)); exact HO_5.out⟩, ⟨by (with_reducible repeat (first | refine blk_drewN ?_ _ | refine blk_drew ?_ | refine blk_alloc ?_ _)); exact BK220.out⟩, ⟨by (with_reducible repeat (first | refine blk_drewN ?_ _ | refine blk_drew ?_ | refine blk_alloc ?_ _)); exact BK224.out⟩, ⟨by repeat (first | (with_reducible first | exact HB.out | apply below_alloc | apply pw_below_drewN | apply below_drew1 | refine below_set ?_ GE220.out | refine below_set ?_ GE224.out) | exact HB.out)⟩⟩
                    · rw [if_neg c19] at H
                      exact absurd H (by simp)
                  · rw [if_neg c18] at H
                    exact absurd H (by simp)
                · rw [if_neg c17] at H
                  exact absurd H (by simp)
              · replace c16 := Bool.eq_false_iff.mpr c16
                subst c16
                have H1 : (spec_l02Turns.l1 k2 y225 x5_1 x6_1 false (wrap64 (x8_2 + 1))) = some r := by rw [if_neg (show ¬ (false = true) by decide)] at H; exact H
                clear H
                have H := H1
                clear H1
                have H' := Aside0.mk H
                clear H
                obtain ⟨Ao21, co21, eo21⟩ := Kd.R_slice HO_5.out
                subst eo21
                go_wp2
                repeat (go_quiet (fail); try go_wp2)
                go_roundg k2
                case measure => have := HK1.out; have := HK2.out; omega
                case rel => exact ⟨(false), (wrap64 (x8_2 + 1)), (by first | rfl | (simp; done) | (simp [*]; done)), (by first | rfl | (simp; done) | (simp [*]; done)), H', ⟨by have := HK1.out; have := HK2.out; omega⟩, ⟨by (with_reducible repeat (first | apply Kd.R_alloc | apply Kd.R_drewN | apply Kd.R_drew)); exact HO_4.out⟩, ⟨by (with_reducible repeat (first | apply Kd.R_alloc | apply Kd.R_drewN | apply Kd.R_drew)); exact HO_5.out⟩, ⟨by (with_reducible repeat (first | refine blk_drewN ?_ _ | refine blk_drew ?_ | refine blk_alloc ?_ _)); exact BK220.out⟩, ⟨by (with_reducible repeat (first | refine blk_drewN ?_ _ | refine blk_drew ?_ | refine blk_alloc ?_ _)); exact BK224.out⟩, ⟨by repeat (first | (with_reducible first | exact HB.out | apply below_alloc | apply pw_below_drewN | apply below_drew1 | refine below_set ?_ GE220.out | refine below_set ?_ GE224.out) | exact HB.out)⟩⟩
            · rw [if_neg c15] at H
              have c15b0 : decide (x8_2 < (x5_1.length : Int)) = false := decide_eq_false c15
              clear c15
              by_cases c22 : x7_2 = true
              · subst c22
                have H1 : (if 0 ≤ x6_1 then (if x6_1 < (y225.length : Int) then (if x5_1.length < 46912496118442 then (spec_l02Turns.l0 k2 y225 (x5_1 ++ [(⟨(rd_T26 y225 x6_1).f0, (rd_T26 y225 x6_1).f1, (rd_T26 y225 x6_1).f2⟩ : S26)]) (wrap64 (x6_1 + 1))) else (none)) else (none)) else (none)) = some r := by rw [if_pos rfl] at H; exact H
                clear H
                have H := H1
                clear H1
                by_cases c23 : 0 ≤ x6_1
                · rw [if_pos c23] at H
                  have c23b0 : decide (0 ≤ x6_1) = true := decide_eq_true c23
                  clear c23
                  by_cases c24 : x6_1 < (y225.length : Int)
                  · rw [if_pos c24] at H
                    have c24b0 : decide (x6_1 < (y225.length : Int)) = true := decide_eq_true c24
                    clear c24
                    by_cases c25 : x5_1.length < 46912496118442
                    · rw [if_pos c25] at H
                      have LMc25 := Aside0.mk c25
                      clear c25
                      obtain ⟨y234, hy234⟩ : ∃ y_ : List (S26), y_ = (x5_1 ++ [(⟨(rd_T26 y225 x6_1).f0, (rd_T26 y225 x6_1).f1, (rd_T26 y225 x6_1).f2⟩ : S26)]) := ⟨_, rfl⟩
                      replace H : (spec_l02Turns.l0 k2 y225 y234 (wrap64 (x6_1 + 1))) = some r := by first | (rw [hy234]; with_reducible exact H) | (have H2_ := (Option.bind_some _ _).symm.trans H; rw [hy234]; with_reducible exact H2_) | (have H2_ := (Option.bind_some _ _).symm.trans H; with_reducible exact H2_) | with_reducible exact H | (rw [hy234]; exact H) | exact H
                      have Ny234 := Aside0.mk hy234
                      clear hy234
                      have H' := Aside0.mk H
                      clear H
                      obtain ⟨Ao26, co26, eo26⟩ := Kd.R_slice HO_5.out
                      subst eo26
                      have p233 : 0 ≤ (x6_1 : Int) := of_decide_eq_true (by first | (with_reducible assumption) | assumption)
                      have q233 : x6_1 < (y225.length : Int) := of_decide_eq_true (by first | (with_reducible assumption) | assumption)
                      obtain ⟨ad233, e233, hx233_0, hx233_1, hx233_2⟩ := at_T26 (Kd.R_reads' HO_4.out).2.2 x6_1 p233 q233
                      cases e233
                      replace p233 := eq_true p233
                      replace q233 := eq_true q233
                      go_wp2_with (first | ((with_reducible refine gate_builtin (b := .append) (xs := #[.tmp 80, .tmp 85]) rfl ?_); at_builtin; refine Kd.R_append k26 (w0 := w) w.heap.size rfl (.tmp 80) (.tmp 85) 33 26 (.agg #[(.int .i8 0), (.int .i8 0), (.int .i8 0)]) 3 rfl Try.underlying33 info26 rfl (by decide) (by omega) (.slice Ao26 x5_1.length co26) x5_1 (⟨(rd_T26 y225 x6_1).f0, (rd_T26 y225 x6_1).f1, (rd_T26 y225 x6_1).f2⟩ : S26) [.int .i8 ((rd_T26 y225 x6_1).f0), .int .i8 ((rd_T26 y225 x6_1).f1), .int .i8 ((rd_T26 y225 x6_1).f2)] (fun k_ => some k_ ≠ (.slice (some ad233) y225.length co14 : Value).ownBlock ∧ k_ ≠ gb220 ∧ k_ ≠ gb224) (fun _ => False) rfl rfl ?aP (fun _ hk => hk.elim) ?aF ?aO ?aB ?aS ?aL ?_; (case aP => exact k26_mkM _ _ _ (⟨(rd_T26 y225 x6_1).f0, (rd_T26 y225 x6_1).f1, (rd_T26 y225 x6_1).f2⟩ : S26)); (case aB => exact (by repeat (first | (with_reducible first | exact HB.out | apply below_alloc | apply pw_below_drewN | apply below_drew1 | refine below_set ?_ GE220.out | refine below_set ?_ GE224.out) | exact HB.out))); (case aF => exact (fun k_ hk => ⟨Kd.fresh' (Kd.R_lt (by (with_reducible repeat (first | apply Kd.R_alloc | apply Kd.R_drewN | apply Kd.R_drew)); exact HO_4.out)) k_ hk, Kd.freshB (g := gb220) (o := .cells #[.int .i8 a0_0, .int .i8 a0_1, .int .i8 a0_2] 26 (0, 0)) (by (with_reducible repeat (first | refine blk_drewN ?_ _ | refine blk_drew ?_ | refine blk_alloc ?_ _)); exact BK220.out) k_ hk, Kd.freshB (g := gb224) (o := .cells #[.int .i8 t221, .int .i8 t222, .int .i8 t223] 26 (0, 0)) (by (with_reducible repeat (first | refine blk_drewN ?_ _ | refine blk_drew ?_ | refine blk_alloc ?_ _)); exact BK224.out) k_ hk⟩)); (case aO => exact (by (with_reducible repeat (first | apply Kd.R_alloc | apply Kd.R_drewN | apply Kd.R_drew)); exact HO_5.out)); (case aS => exact (below_size (by repeat (first | (with_reducible first | exact HB.out | apply below_alloc | apply pw_below_drewN | apply below_drew1 | refine below_set ?_ GE220.out | refine below_set ?_ GE224.out) | exact HB.out)))); (case aL => have := LMc25.out; omega); intro v235 w27 ho hb hg hat; rw [← Ny234.out] at ho; have n0_ := Aside0.mk (Kd.R_after (ok := (fun k_ => k_ ≠ gb220 ∧ k_ ≠ gb224)) (by (with_reducible repeat (first | apply Kd.R_alloc | apply Kd.R_drewN | apply Kd.R_drew)); exact Kd.R_mono HO_4.out (fun _ hk => ⟨⟨hk.2.1, hk.2.2⟩, hk.1⟩)) hg hat); have n1_ := Aside0.mk (blk_grown (g := gb220) (o := .cells #[.int .i8 a0_0, .int .i8 a0_1, .int .i8 a0_2] 26 (0, 0)) (by (with_reducible repeat (first | refine blk_drewN ?_ _ | refine blk_drew ?_ | refine blk_alloc ?_ _)); exact BK220.out) hg (Kd.R_away HO_5.out (fun _ hk => hk.2.1))); have n2_ := Aside0.mk (blk_grown (g := gb224) (o := .cells #[.int .i8 t221, .int .i8 t222, .int .i8 t223] 26 (0, 0)) (by (with_reducible repeat (first | refine blk_drewN ?_ _ | refine blk_drew ?_ | refine blk_alloc ?_ _)); exact BK224.out) hg (Kd.R_away HO_5.out (fun _ hk => hk.2.2))); have n3_ := Aside0.mk (hb); have n4_ := Aside0.mk (ho); clear HO_4; clear BK220; clear BK224; clear HB; clear HO_5; have HO_4 := n0_; have BK220 := n1_; have BK224 := n2_; have HB := n3_; have HO236 := n4_; clear n0_ n1_ n2_ n3_ n4_; clear ho hb hg hat))
                      repeat (go_quiet (first | ((with_reducible refine gate_builtin (b := .append) (xs := #[.tmp 80, .tmp 85]) rfl ?_); at_builtin; refine Kd.R_append k26 (w0 := w) w.heap.size rfl (.tmp 80) (.tmp 85) 33 26 (.agg #[(.int .i8 0), (.int .i8 0), (.int .i8 0)]) 3 rfl Try.underlying33 info26 rfl (by decide) (by omega) (.slice Ao26 x5_1.length co26) x5_1 (⟨(rd_T26 y225 x6_1).f0, (rd_T26 y225 x6_1).f1, (rd_T26 y225 x6_1).f2⟩ : S26) [.int .i8 ((rd_T26 y225 x6_1).f0), .int .i8 ((rd_T26 y225 x6_1).f1), .int .i8 ((rd_T26 y225 x6_1).f2)] (fun k_ => some k_ ≠ (.slice (some ad233) y225.length co14 : Value).ownBlock ∧ k_ ≠ gb220 ∧ k_ ≠ gb224) (fun _ => False) rfl rfl ?aP (fun _ hk => hk.elim) ?aF ?aO ?aB ?aS ?aL ?_; (case aP => exact k26_mkM _ _ _ (⟨(rd_T26 y225 x6_1).f0, (rd_T26 y225 x6_1).f1, (rd_T26 y225 x6_1).f2⟩ : S26)); (case aB => exact (by repeat (first | (with_reducible first | exact HB.out | apply below_alloc | apply pw_below_drewN | apply below_drew1 | refine below_set ?_ GE220.out | refine below_set ?_ GE224.out) | exact HB.out))); (case aF => exact (fun k_ hk => ⟨Kd.fresh' (Kd.R_lt (by (with_reducible repeat (first | apply Kd.R_alloc | apply Kd.R_drewN | apply Kd.R_drew)); exact HO_4.out)) k_ hk, Kd.freshB (g := gb220) (o := .cells #[.int .i8 a0_0, .int .i8 a0_1, .int .i8 a0_2] 26 (0, 0)) (by (with_reducible repeat (first | refine blk_drewN ?_ _ | refine blk_drew ?_ | refine blk_alloc ?_ _)); exact BK220.out) k_ hk, Kd.freshB (g := gb224) (o := .cells #[.int .i8 t221, .int .i8 t222, .int .i8 t223] 26 (0, 0)) (by (with_reducible repeat (first | refine blk_drewN ?_ _ | refine blk_drew ?_ | refine blk_alloc ?_ _)); exact BK224.out) k_ hk⟩)); (case aO => exact (by (with_reducible repeat (first | apply Kd.R_alloc | apply Kd.R_drewN | apply Kd.R_drew)); exact HO_5.out)); (case aS => exact (below_size (by repeat (first | (with_reducible first | exact HB.out | apply below_alloc | apply pw_below_drewN | apply below_drew1 | refine below_set ?_ GE220.out | refine below_set ?_ GE224.out) | exact HB.out)))); (case aL => have := LMc25.out; omega); intro v235 w27 ho hb hg hat; rw [← Ny234.out] at ho; have n0_ := Aside0.mk (Kd.R_after (ok := (fun k_ => k_ ≠ gb220 ∧ k_ ≠ gb224)) (by (with_reducible repeat (first | apply Kd.R_alloc | apply Kd.R_drewN | apply Kd.R_drew)); exact Kd.R_mono HO_4.out (fun _ hk => ⟨⟨hk.2.1, hk.2.2⟩, hk.1⟩)) hg hat); have n1_ := Aside0.mk (blk_grown (g := gb220) (o := .cells #[.int .i8 a0_0, .int .i8 a0_1, .int .i8 a0_2] 26 (0, 0)) (by (with_reducible repeat (first | refine blk_drewN ?_ _ | refine blk_drew ?_ | refine blk_alloc ?_ _)); exact BK220.out) hg (Kd.R_away HO_5.out (fun _ hk => hk.2.1))); have n2_ := Aside0.mk (blk_grown (g := gb224) (o := .cells #[.int .i8 t221, .int .i8 t222, .int .i8 t223] 26 (0, 0)) (by (with_reducible repeat (first | refine blk_drewN ?_ _ | refine blk_drew ?_ | refine blk_alloc ?_ _)); exact BK224.out) hg (Kd.R_away HO_5.out (fun _ hk => hk.2.2))); have n3_ := Aside0.mk (hb); have n4_ := Aside0.mk (ho); clear HO_4; clear BK220; clear BK224; clear HB; clear HO_5; have HO_4 := n0_; have BK220 := n1_; have BK224 := n2_; have HB := n3_; have HO236 := n4_; clear n0_ n1_ n2_ n3_ n4_; clear ho hb hg hat)); try go_wp2_with (first | ((with_reducible refine gate_builtin (b := .append) (xs := #[.tmp 80, .tmp 85]) rfl ?_); at_builtin; refine Kd.R_append k26 (w0 := w) w.heap.size rfl (.tmp 80) (.tmp 85) 33 26 (.agg #[(.int .i8 0), (.int .i8 0), (.int .i8 0)]) 3 rfl Try.underlying33 info26 rfl (by decide) (by omega) (.slice Ao26 x5_1.length co26) x5_1 (⟨(rd_T26 y225 x6_1).f0, (rd_T26 y225 x6_1).f1, (rd_T26 y225 x6_1).f2⟩ : S26) [.int .i8 ((rd_T26 y225 x6_1).f0), .int .i8 ((rd_T26 y225 x6_1).f1), .int .i8 ((rd_T26 y225 x6_1).f2)] (fun k_ => some k_ ≠ (.slice (some ad233) y225.length co14 : Value).ownBlock ∧ k_ ≠ gb220 ∧ k_ ≠ gb224) (fun _ => False) rfl rfl ?aP (fun _ hk => hk.elim) ?aF ?aO ?aB ?aS ?aL ?_; (case aP => exact k26_mkM _ _ _ (⟨(rd_T26 y225 x6_1).f0, (rd_T26 y225 x6_1).f1, (rd_T26 y225 x6_1).f2⟩ : S26)); (case aB => exact (by repeat (first | (with_reducible first | exact HB.out | apply below_alloc | apply pw_below_drewN | apply below_drew1 | refine below_set ?_ GE220.out | refine below_set ?_ GE224.out) | exact HB.out))); (case aF => exact (fun k_ hk => ⟨Kd.fresh' (Kd.R_lt (by (with_reducible repeat (first | apply Kd.R_alloc | apply Kd.R_drewN | apply Kd.R_drew)); exact HO_4.out)) k_ hk, Kd.freshB (g := gb220) (o := .cells #[.int .i8 a0_0, .int .i8 a0_1, .int .i8 a0_2] 26 (0, 0)) (by (with_reducible repeat (first | refine blk_drewN ?_ _ | refine blk_drew ?_ | refine blk_alloc ?_ _)); exact BK220.out) k_ hk, Kd.freshB (g := gb224) (o := .cells #[.int .i8 t221, .int .i8 t222, .int .i8 t223] 26 (0, 0)) (by (with_reducible repeat (first | refine blk_drewN ?_ _ | refine blk_drew ?_ | refine blk_alloc ?_ _)); exact BK224.out) k_ hk⟩)); (case aO => exact (by (with_reducible repeat (first | apply Kd.R_alloc | apply Kd.R_drewN | apply Kd.R_drew)); exact HO_5.out)); (case aS => exact (below_size (by repeat (first | (with_reducible first | exact HB.out | apply below_alloc | apply pw_below_drewN | apply below_drew1 | refine below_set ?_ GE220.out | refine below_set ?_ GE224.out) | exact HB.out)))); (case aL => have := LMc25.out; omega); intro v235 w27 ho hb hg hat; rw [← Ny234.out] at ho; have n0_ := Aside0.mk (Kd.R_after (ok := (fun k_ => k_ ≠ gb220 ∧ k_ ≠ gb224)) (by (with_reducible repeat (first | apply Kd.R_alloc | apply Kd.R_drewN | apply Kd.R_drew)); exact Kd.R_mono HO_4.out (fun _ hk => ⟨⟨hk.2.1, hk.2.2⟩, hk.1⟩)) hg hat); have n1_ := Aside0.mk (blk_grown (g := gb220) (o := .cells #[.int .i8 a0_0, .int .i8 a0_1, .int .i8 a0_2] 26 (0, 0)) (by (with_reducible repeat (first | refine blk_drewN ?_ _ | refine blk_drew ?_ | refine blk_alloc ?_ _)); exact BK220.out) hg (Kd.R_away HO_5.out (fun _ hk => hk.2.1))); have n2_ := Aside0.mk (blk_grown (g := gb224) (o := .cells #[.int .i8 t221, .int .i8 t222, .int .i8 t223] 26 (0, 0)) (by (with_reducible repeat (first | refine blk_drewN ?_ _ | refine blk_drew ?_ | refine blk_alloc ?_ _)); exact BK224.out) hg (Kd.R_away HO_5.out (fun _ hk => hk.2.2))); have n3_ := Aside0.mk (hb); have n4_ := Aside0.mk (ho); clear HO_4; clear BK220; clear BK224; clear HB; clear HO_5; have HO_4 := n0_; have BK220 := n1_; have BK224 := n2_; have HB := n3_; have HO236 := n4_; clear n0_ n1_ n2_ n3_ n4_; clear ho hb hg hat)))
                      go_roundg k2
                      case measure => have := HK1.out; have := HK2.out; omega
                      case rel => exact ⟨(y234), (wrap64 (x6_1 + 1)), (by first | rfl | (simp; done) | (simp [*]; done)), H', ⟨by have := HK1.out; have := HK2.out; omega⟩, ⟨by (with_reducible repeat (first | apply Kd.R_alloc | apply Kd.R_drewN | apply Kd.R_drew)); exact Kd.R_mono HO_4.out (fun _ hk => ⟨hk.2, ⟨hk.1.1, hk.1.2⟩⟩)⟩, ⟨by (with_reducible repeat (first | apply Kd.R_alloc | apply Kd.R_drewN | apply Kd.R_drew)); exact HO236.out⟩, ⟨by (with_reducible repeat (first | refine blk_drewN ?_ _ | refine blk_drew ?_ | refine blk_alloc ?_ _)); exact BK220.out⟩, ⟨by (with_reducible repeat (first | refine blk_drewN ?_ _ | refine blk_drew ?_ | refine blk_alloc ?_ _)); exact BK224.out⟩, ⟨by repeat (first | (with_reducible first | exact HB.out | apply below_alloc | apply pw_below_drewN | apply below_drew1 | refine below_set ?_ GE220.out | refine below_set ?_ GE224.out) | exact HB.out)⟩⟩
                    · rw [if_neg c25] at H
                      exact absurd H (by simp)
                  · rw [if_neg c24] at H
                    exact absurd H (by simp)
                · rw [if_neg c23] at H
                  exact absurd H (by simp)
              · replace c22 := Bool.eq_false_iff.mpr c22
                subst c22
                have H1 : (spec_l02Turns.l0 k2 y225 x5_1 (wrap64 (x6_1 + 1))) = some r := by rw [if_neg (show ¬ (false = true) by decide)] at H; exact H
                clear H
                have H := H1
                clear H1
                have H' := Aside0.mk H
                clear H
                obtain ⟨Ao28, co28, eo28⟩ := Kd.R_slice HO_5.out
                subst eo28
                go_wp2
                repeat (go_quiet (fail); try go_wp2)
                go_roundg k2
                case measure => have := HK1.out; have := HK2.out; omega
                case rel => exact ⟨(x5_1), (wrap64 (x6_1 + 1)), (by first | rfl | (simp; done) | (simp [*]; done)), H', ⟨by have := HK1.out; have := HK2.out; omega⟩, ⟨by (with_reducible repeat (first | apply Kd.R_alloc | apply Kd.R_drewN | apply Kd.R_drew)); exact HO_4.out⟩, ⟨by (with_reducible repeat (first | apply Kd.R_alloc | apply Kd.R_drewN | apply Kd.R_drew)); exact HO_5.out⟩, ⟨by (with_reducible repeat (first | refine blk_drewN ?_ _ | refine blk_drew ?_ | refine blk_alloc ?_ _)); exact BK220.out⟩, ⟨by (with_reducible repeat (first | refine blk_drewN ?_ _ | refine blk_drew ?_ | refine blk_alloc ?_ _)); exact BK224.out⟩, ⟨by repeat (first | (with_reducible first | exact HB.out | apply below_alloc | apply pw_below_drewN | apply below_drew1 | refine below_set ?_ GE220.out | refine below_set ?_ GE224.out) | exact HB.out)⟩⟩
      · rw [if_neg c13] at H
        have c13b0 : decide (x6_1 < (y225.length : Int)) = false := decide_eq_false c13
        clear c13
        obtain rfl := Option.some.inj H
        obtain ⟨Ao29, co29, eo29⟩ := Kd.R_slice HO_4.out
        subst eo29
        go_wp2
        repeat (go_quiet (fail); try go_wp2)
        go_ret
        exact ⟨_, by first | rfl | (simp [errW_none, errW_some] <;> rfl) | (simp [*, errW_none, errW_some] <;> rfl), by (with_reducible repeat (first | apply Kd.R_alloc | apply Kd.R_drewN | apply Kd.R_drew)); exact Kd.R_mono HO_5.out (fun _ hk => trivial), by repeat (first | (with_reducible first | exact HB.out | apply below_alloc | apply pw_below_drewN | apply below_drew1 | refine below_set ?_ GE220.out | refine below_set ?_ GE224.out) | exact HB.out)⟩

end Go.Proofs.Ytmbbkaoccmokeaa.P

namespace Go.Proofs.Ytmbbkaoccmokeaa.Pure
open Go.RowKit Go.Proofs.Ytmbbkaoccmokeaa.P Go.Proofs.YtmbbkaoccmokeaaW.PrintWords Go.Proofs.YtmbbkaoccmokeaaW.PrintLast
set_option linter.unusedVariables false
set_option linter.unusedSimpArgs false

/-- The first n boxes of a list without duplicates in a row. -/
def thin (y : List S26) : Nat → List S26
  | 0 => []
  | p + 1 => if p = 0 then [y.getD 0 z26] else if same (y.getD p z26) (y.getD (p - 1) z26) = true then thin y p else thin y p ++ [y.getD p z26]
theorem thin_len (y : List S26) : ∀ p, (thin y p).length ≤ p := by
  intro p
  induction p with
  | zero => exact Nat.le_refl _
  | succ p ih =>
    rw [thin]
    split
    · simp
    · split
      · omega
      · rw [List.length_append]; simp; omega
theorem thin_spec (y : List S26) (hs : Srt y (y.length - 1)) : ∀ p, p ≤ y.length → (thin y p).Pairwise ltx ∧ (∀ s, s ∈ thin y p ↔ ∃ i, i < p ∧ y.getD i z26 = s) := by
  intro p
  induction p with
  | zero => intro _; exact ⟨List.Pairwise.nil, fun s => ⟨fun h => absurd h List.not_mem_nil, fun ⟨i, hi, _⟩ => absurd hi (Nat.not_lt_zero _)⟩⟩
  | succ p ih =>
    intro hp
    obtain ⟨h1, h2⟩ := ih (by omega)
    rw [thin]
    by_cases h0 : p = 0
    · subst h0
      rw [if_pos rfl]
      refine ⟨List.pairwise_singleton _ _, fun s => ?_⟩
      rw [List.mem_singleton]
      exact ⟨fun e => ⟨0, by omega, e.symm⟩, fun ⟨i, hi, e⟩ => by have h0 : i = 0 := (by omega); rw [← e, h0]⟩
    · rw [if_neg h0]
      by_cases hq : same (y.getD p z26) (y.getD (p - 1) z26) = true
      · rw [if_pos hq]
        refine ⟨h1, fun s => (h2 s).trans ⟨fun ⟨i, hi, e⟩ => ⟨i, by omega, e⟩, fun ⟨i, hi, e⟩ => ?_⟩⟩
        by_cases e2 : i = p
        · subst e2; exact ⟨i - 1, by omega, by rw [← same_iff.1 hq]; exact e⟩
        · exact ⟨i, by omega, e⟩
      · rw [if_neg hq]
        refine ⟨List.pairwise_append.2 ⟨h1, List.pairwise_singleton _ _, fun a ha b hb => ?_⟩, fun s => ?_⟩
        · rw [List.mem_singleton.1 hb]
          obtain ⟨i, hi, e⟩ := (h2 a).1 ha
          have g1 : ltx (y.getD (p - 1) z26) (y.getD p z26) := by
            apply Classical.byContradiction
            intro hn
            exact hq (same_iff.2 (ltx_eq (hs (p - 1) p (by omega) (by omega)) hn))
          subst e
          by_cases e2 : i = p - 1
          · rw [e2]; exact g1
          · exact ltx_le (hs i (p - 1) (by omega) (by omega)) g1
        · rw [List.mem_append, List.mem_singleton, h2 s]
          constructor
          · rintro (⟨i, hi, e⟩ | e)
            · exact ⟨i, by omega, e⟩
            · exact ⟨p, by omega, e.symm⟩
          · rintro ⟨i, hi, e⟩
            by_cases e2 : i = p
            · subst e2; exact .inr e.symm
            · exact .inl ⟨i, by omega, e⟩

theorem getD_drop (y : List S26) (k i : Nat) : (y.drop k).getD i z26 = y.getD (k + i) z26 := by
  simp only [List.getD_eq_getElem?_getD, List.getElem?_drop]
theorem take_set (x : List S26) (k : Nat) (v : S26) (h : k < x.length) : (x.set k v).take (k + 1) = x.take k ++ [v] := by
  rw [List.take_add_one, List.take_set_of_le (Nat.le_refl _), List.getElem?_set_self h]; rfl

theorem comp_l1 (y : List S26) (hn : y.length ≤ 1000) (k0 : Nat) : ∀ d k2 x0 k, y.length - (k0 + k2) = d → 1 ≤ k2 → k0 + k2 ≤ y.length → x0.length = y.length → k < k0 + k2 → x0.take k = thin y (k0 + k2) → k = (thin y (k0 + k2)).length →
    Ev (fun q => impl_Box_73.l1 q x0 (k : Int) (y.drop k0) (k2 : Int)) (thin y y.length) := by
  intro d
  induction d with
  | zero =>
    intro k2 x0 k hd h1 hi hx hk ht hl
    have e : k0 + k2 = y.length := by omega
    rw [e] at ht
    refine Ev.step (f := fun _ => some (thin y y.length)) (fun q => ?_) (Ev.now _)
    rw [impl_Box_73.l1, if_neg (by rw [List.length_drop]; omega), if_pos (by omega), if_pos (by omega), Int.toNat_natCast, ht]
  | succ d ih =>
    intro k2 x0 k hd h1 hi hx hk ht hl
    have ew : wrap64 ((k2 : Int) - 1) = ((k2 - 1 : Nat) : Int) := by rw [w64 (by omega) (by omega)]; omega
    have e3 : thin y (k0 + (k2 + 1)) = if same (y.getD (k0 + k2) z26) (y.getD (k0 + k2 - 1) z26) = true then thin y (k0 + k2) else thin y (k0 + k2) ++ [y.getD (k0 + k2) z26] := by
      rw [← Nat.add_assoc, thin, if_neg (by omega)]
    have g0 : rd_T26 (y.drop k0) (k2 : Int) = y.getD (k0 + k2) z26 := by rw [rdT, getD_drop]
    have g1 : rd_T26 (y.drop k0) ((k2 - 1 : Nat) : Int) = y.getD (k0 + k2 - 1) z26 := by rw [rdT, getD_drop]; congr 1; omega
    have hd2 : (y.drop k0).length = y.length - k0 := List.length_drop
    by_cases hq : same (y.getD (k0 + k2) z26) (y.getD (k0 + k2 - 1) z26) = true
    · rw [if_pos hq] at e3
      refine Ev.step (fun q => ?_) (ih (k2 + 1) x0 k (by omega) (by omega) (by omega) hx (by omega) (by rw [e3]; exact ht) (by rw [e3]; exact hl))
      rw [impl_Box_73.l1, if_pos (by omega), if_pos (by omega), ew, if_pos (by omega), if_pos (by omega), g0, g1, same_not, if_neg (by rw [hq]; simp), wN k2 (by omega)]
    · rw [if_neg hq] at e3
      refine Ev.step (fun q => ?_) (ih (k2 + 1) (x0.set k (y.getD (k0 + k2) z26)) (k + 1) (by omega) (by omega) (by omega) (by rw [List.length_set, hx]) (by omega) (by rw [e3, take_set x0 k _ (by omega), ht]) (by rw [e3, List.length_append, ← hl]; rfl))
      rw [impl_Box_73.l1, if_pos (by omega), if_pos (by omega), ew, if_pos (by omega), if_pos (by omega), g0, g1, same_not, if_pos (by simpa using hq), if_pos (by omega), if_pos (by omega), wN k2 (by omega), wN k (by omega), Int.toNat_natCast]
theorem comp_l0 (y : List S26) (hn : y.length ≤ 1000) : ∀ d i, y.length - i = d → 1 ≤ i → i ≤ y.length → thin y i = y.take i → Ev (fun q => impl_Box_73.l0 q y (i : Int)) (thin y y.length) := by
  intro d
  induction d with
  | zero =>
    intro i hd h1 hi ht
    obtain rfl : i = y.length := by omega
    rw [List.take_length] at ht
    refine Ev.step (f := fun _ => some y) (fun q => ?_) (by rw [ht]; exact Ev.now _)
    rw [impl_Box_73.l0, if_neg (by omega)]
  | succ d ih =>
    intro i hd h1 hi ht
    have ew : wrap64 ((i : Int) - 1) = ((i - 1 : Nat) : Int) := by rw [w64 (by omega) (by omega)]; omega
    have e3 : thin y (i + 1) = if same (y.getD i z26) (y.getD (i - 1) z26) = true then thin y i else thin y i ++ [y.getD i z26] := by
      rw [thin, if_neg (by omega)]
    have hl : (thin y i).length = i := by rw [ht, List.length_take]; omega
    by_cases hq : same (y.getD i z26) (y.getD (i - 1) z26) = true
    · rw [if_pos hq] at e3
      refine Ev.step (fun q => ?_) (comp_l1 y hn i _ 1 y i rfl (Nat.le_refl _) (by omega) rfl (by omega) (by rw [e3, ht]) (by rw [e3, hl]))
      have hq' : (((y.getD i z26).f0 == (y.getD (i - 1) z26).f0) && (((y.getD i z26).f1 == (y.getD (i - 1) z26).f1) && ((y.getD i z26).f2 == (y.getD (i - 1) z26).f2))) = true := hq
      rw [impl_Box_73.l0, if_pos (by omega), if_pos (by omega), ew, if_pos (by omega), if_pos (by omega), rdT, rdT, if_pos hq', if_pos (by omega), Int.toNat_natCast]
      rfl
    · rw [if_neg hq] at e3
      refine Ev.step (fun q => ?_) (ih (i + 1) (by omega) (by omega) (by omega) (by rw [e3, ht, List.take_add_one, List.getD_eq_getElem?_getD, List.getElem?_eq_getElem (by omega)]; rfl))
      have hq' : ¬ (((y.getD i z26).f0 == (y.getD (i - 1) z26).f0) && (((y.getD i z26).f1 == (y.getD (i - 1) z26).f1) && ((y.getD i z26).f2 == (y.getD (i - 1) z26).f2))) = true := hq
      rw [impl_Box_73.l0, if_pos (by omega), if_pos (by omega), ew, if_pos (by omega), if_pos (by omega), rdT, rdT, if_neg hq', wN i (by omega)]
theorem compF (y : List S26) (hn : y.length ≤ 1000) (h2 : 2 ≤ y.length) : Ev (fun q => impl_Box_73.f q y) (thin y y.length) := by
  obtain ⟨K, h⟩ := EvG (comp_l0 y hn _ 1 rfl (Nat.le_refl _) (by omega) (by
    rw [thin, if_pos rfl]
    cases y with
    | nil => simp at h2
    | cons a y => rfl))
  refine EvI K fun q hq => ?_
  rw [impl_Box_73.f, if_neg (by omega)]
  exact h q hq

end Go.Proofs.Ytmbbkaoccmokeaa.Pure

namespace Go.Proofs.Ytmbbkaoccmokeaa.Pure
open Go.RowKit Go.Proofs.Ytmbbkaoccmokeaa.P Go.Proofs.YtmbbkaoccmokeaaW.PrintWords Go.Proofs.YtmbbkaoccmokeaaW.PrintLast
set_option linter.unusedVariables false
set_option linter.unusedSimpArgs false

/-- The six orders of three sides. -/
def six (a b c : Int) : List S26 := [⟨a, b, c⟩, ⟨a, c, b⟩, ⟨b, a, c⟩, ⟨b, c, a⟩, ⟨c, a, b⟩, ⟨c, b, a⟩]
theorem len6 : ∃ r, Ev (fun k => bits_Len.f k (IntKind.u64.wrap ((6 : Nat) : Int))) r := by
  have h : bits_Len.f 1 (IntKind.u64.wrap ((6 : Nat) : Int)) = some 3 := by decide +kernel
  exact ⟨3, Ev.of (fun k => bits_Len.mono _ k) h⟩
theorem turnsI (a b c : Int) : ∃ l : List S26, l.Pairwise ltx ∧ (∀ s, s ∈ l ↔ s ∈ six a b c) ∧ Ev (fun k => impl_Box_turns.f k a b c) l := by
  obtain ⟨r, hr⟩ := len6
  obtain ⟨y, hy1, hy2, hy3, hy4⟩ := sort_small (six a b c) (by simp [six]) (by simp [six]) r hr
  have hl : y.length = 6 := by rw [hy1]; rfl
  obtain ⟨h1, h2⟩ := thin_spec y (by rw [hy1]; exact hy3) y.length (Nat.le_refl _)
  refine ⟨thin y y.length, h1, fun s => ?_, ?_⟩
  · rw [h2 s, ← mem_getDG z26, hy2 s]
  · obtain ⟨K1, h4⟩ := EvG hy4
    obtain ⟨K2, h5⟩ := EvG (compF y (by omega) (by omega))
    refine EvI (K1 + K2) fun k hk => ?_
    rw [impl_Box_turns.f]
    show (impl_Box_69.f k (six a b c)).bind _ = _
    rw [h4 k (by omega), Option.bind_some, h5 k (by omega), Option.bind_some]

/-- What is new, one after the other. -/
def ded : List S26 → List S26 → List S26
  | acc, [] => acc
  | acc, a :: l => if acc.any (fun x => same x a) = true then ded acc l else ded (acc ++ [a]) l
/-- Each member stands among those ahead of it, or behind all of them. -/
def Good : List S26 → List S26 → Prop
  | _, [] => True
  | acc, a :: l => (a ∈ acc ∧ Good acc l) ∨ ((∀ x ∈ acc, ltx x a) ∧ Good (acc ++ [a]) l)
theorem ded_spec : ∀ (l acc : List S26), acc.Pairwise ltx → Good acc l →
    (ded acc l).Pairwise ltx ∧ ∀ s, s ∈ ded acc l ↔ (s ∈ acc ∨ s ∈ l) := by
  intro l
  induction l with
  | nil => intro acc h _; exact ⟨h, fun s => by simp [ded]⟩
  | cons a l ih =>
    intro acc h h2
    rw [ded]
    rcases h2 with ⟨hm, h2⟩ | ⟨hn, h2⟩
    · have hq : (acc.any fun x => same x a) = true := List.any_eq_true.2 ⟨a, hm, same_iff.2 rfl⟩
      rw [if_pos hq]
      obtain ⟨g1, g2⟩ := ih acc h h2
      refine ⟨g1, fun s => (g2 s).trans ⟨fun e => e.imp id (List.mem_cons_of_mem _), fun e => ?_⟩⟩
      rcases e with e | e
      · exact .inl e
      · rcases List.mem_cons.1 e with e | e
        · rw [e]; exact .inl hm
        · exact .inr e
    · rw [if_neg (fun hq => by
        obtain ⟨x, hx, hs⟩ := List.any_eq_true.1 hq
        have := hn x hx
        rw [same_iff.1 hs] at this
        exact ltx_irrefl _ this)]
      obtain ⟨g1, g2⟩ := ih (acc ++ [a]) (List.pairwise_append.2 ⟨h, List.pairwise_singleton _ _, fun x hx b hb => by rw [List.mem_singleton.1 hb]; exact hn x hx⟩) h2
      refine ⟨g1, fun s => (g2 s).trans ?_⟩
      rw [List.mem_append, List.mem_singleton, List.mem_cons, or_assoc]

theorem drop_consG (y : List S26) (i : Nat) (h : i < y.length) : y.drop i = y.getD i z26 :: y.drop (i + 1) := by
  rw [List.drop_eq_getElem_cons h, getD_eqG z26 y i h]
theorem l02_l1 (y out : List S26) (i : Nat) (hi : i < y.length) (hy : y.length ≤ 1000) (ho : out.length ≤ 1000) : ∀ d j (fr : Bool), out.length - j = d → j ≤ out.length → ∀ r,
    Ev (fun k => spec_l02Turns.l0 k y (if (fr && !((out.drop j).any fun x => same x (y.getD i z26))) = true then out ++ [y.getD i z26] else out) ((i + 1 : Nat) : Int)) r → Ev (fun k => spec_l02Turns.l1 k y out (i : Int) fr (j : Int)) r := by
  intro d
  induction d with
  | zero =>
    intro j fr hd hj r he
    refine Ev.step (fun k => ?_) he
    rw [spec_l02Turns.l1, if_neg (by omega), List.drop_of_length_le (by omega), wN i (by omega)]
    cases fr with
    | true =>
      rw [if_pos rfl, if_pos (by omega), if_pos (by omega), if_pos (by omega)]
      rfl
    | false => rfl
  | succ d ih =>
    intro j fr hd hj r he
    rw [drop_consG out j (by omega), List.any_cons] at he
    cases fr with
    | true =>
      refine Ev.step (fun k => ?_) (ih (j + 1) (!same (out.getD j z26) (y.getD i z26)) (by omega) (by omega) r ?_)
      · rw [spec_l02Turns.l1, if_pos (by omega), if_pos rfl, if_pos (by omega), if_pos (by omega), if_pos (by omega), wN j (by omega), rdT, rdT, same_not]
      · rw [show (!same (out.getD j z26) (y.getD i z26) && !((out.drop (j + 1)).any fun x => same x (y.getD i z26))) = (true && !(same (out.getD j z26) (y.getD i z26) || (out.drop (j + 1)).any fun x => same x (y.getD i z26))) from by
          cases same (out.getD j z26) (y.getD i z26) <;> simp]
        exact he
    | false =>
      refine Ev.step (fun k => ?_) (ih (j + 1) false (by omega) (by omega) r ?_)
      · rw [spec_l02Turns.l1, if_pos (by omega), if_neg (by decide), wN j (by omega)]
      · simpa using he
theorem l02_l0 (y : List S26) (hy : y.length ≤ 900) : ∀ d i out, y.length - i = d → i ≤ y.length → out.length ≤ i → Ev (fun k => spec_l02Turns.l0 k y out (i : Int)) (ded out (y.drop i)) := by
  intro d
  induction d with
  | zero =>
    intro i out hd hi ho
    refine Ev.step (f := fun _ => some out) (fun k => ?_) ?_
    · rw [spec_l02Turns.l0, if_neg (by omega)]
    · rw [List.drop_of_length_le (by omega), ded]; exact Ev.now _
  | succ d ih =>
    intro i out hd hi ho
    rw [drop_consG y i (by omega), ded]
    refine Ev.step (f := fun k => spec_l02Turns.l1 k y out (i : Int) true ((0 : Nat) : Int)) (fun k => ?_) (l02_l1 y out i (by omega) (by omega) (by omega) _ 0 true rfl (Nat.zero_le _) _ ?_)
    · rw [spec_l02Turns.l0, if_pos (by omega)]; rfl
    · rw [List.drop_zero, Bool.true_and]
      by_cases hq : (out.any fun x => same x (y.getD i z26)) = true
      · rw [if_pos hq, hq, if_neg (by decide)]
        exact ih (i + 1) out (by omega) (by omega) (by omega)
      · rw [if_neg hq, if_pos (by simpa using hq)]
        exact ih (i + 1) (out ++ [y.getD i z26]) (by omega) (by omega) (by rw [List.length_append]; simp; omega)

/-- The sides in falling order. -/
theorem sortS (a b c : Int) : ∃ p q r : Int, r ≤ q ∧ q ≤ p ∧ (∀ k, spec_l02Sort.f (k + 2) a b c = some (p, q, r)) ∧ (∀ s, s ∈ six p q r ↔ s ∈ six a b c) := by
  have e : ∀ k, spec_l02Sort.f (k + 2) a b c = if a < b then (if a < c then (if b < c then some (c, b, a) else some (b, c, a)) else (if b < a then some (a, b, c) else some (b, a, c))) else (if b < c then (if a < c then some (c, a, b) else some (a, c, b)) else (if a < b then some (b, a, c) else some (a, b, c))) := fun k => by
    rw [spec_l02Sort.f, spec_l02Sort.j0, spec_l02Sort.j0, spec_l02Sort.j1, spec_l02Sort.j1, spec_l02Sort.j1, spec_l02Sort.j1]
  have m1 : ∀ s, s ∈ six a b c ↔ s ∈ six a b c := fun s => Iff.rfl
  have m2 : ∀ s, s ∈ six b a c ↔ s ∈ six a b c := fun s => by simp only [six, List.mem_cons, List.not_mem_nil, or_false]; exact ⟨fun h => by rcases h with h | h | h | h | h | h <;> simp [h], fun h => by rcases h with h | h | h | h | h | h <;> simp [h]⟩
  have m3 : ∀ s, s ∈ six a c b ↔ s ∈ six a b c := fun s => by simp only [six, List.mem_cons, List.not_mem_nil, or_false]; exact ⟨fun h => by rcases h with h | h | h | h | h | h <;> simp [h], fun h => by rcases h with h | h | h | h | h | h <;> simp [h]⟩
  have m4 : ∀ s, s ∈ six c a b ↔ s ∈ six a b c := fun s => by simp only [six, List.mem_cons, List.not_mem_nil, or_false]; exact ⟨fun h => by rcases h with h | h | h | h | h | h <;> simp [h], fun h => by rcases h with h | h | h | h | h | h <;> simp [h]⟩
  have m5 : ∀ s, s ∈ six b c a ↔ s ∈ six a b c := fun s => by simp only [six, List.mem_cons, List.not_mem_nil, or_false]; exact ⟨fun h => by rcases h with h | h | h | h | h | h <;> simp [h], fun h => by rcases h with h | h | h | h | h | h <;> simp [h]⟩
  have m6 : ∀ s, s ∈ six c b a ↔ s ∈ six a b c := fun s => by simp only [six, List.mem_cons, List.not_mem_nil, or_false]; exact ⟨fun h => by rcases h with h | h | h | h | h | h <;> simp [h], fun h => by rcases h with h | h | h | h | h | h <;> simp [h]⟩
  by_cases h1 : a < b
  · by_cases h2 : a < c
    · by_cases h3 : b < c
      · exact ⟨c, b, a, by omega, by omega, fun k => by rw [e, if_pos h1, if_pos h2, if_pos h3], m6⟩
      · exact ⟨b, c, a, by omega, by omega, fun k => by rw [e, if_pos h1, if_pos h2, if_neg h3], m5⟩
    · exact ⟨b, a, c, by omega, by omega, fun k => by rw [e, if_pos h1, if_neg h2, if_neg (by omega)], m2⟩
  · by_cases h2 : b < c
    · by_cases h3 : a < c
      · exact ⟨c, a, b, by omega, by omega, fun k => by rw [e, if_neg h1, if_pos h2, if_pos h3], m4⟩
      · exact ⟨a, c, b, by omega, by omega, fun k => by rw [e, if_neg h1, if_pos h2, if_neg h3], m3⟩
    · exact ⟨a, b, c, by omega, by omega, fun k => by rw [e, if_neg h1, if_neg h2, if_neg h1], m1⟩
/-- Both sides come to one rising list of the six orders, of which the sorted box is the last. -/
theorem turnsB (a b c : Int) : ∃ (l : List S26) (p q r : Int), l.Pairwise ltx ∧ (∀ s, s ∈ l ↔ s ∈ six a b c) ∧ Ev (fun k => impl_Box_turns.f k a b c) l ∧ Ev (fun k => spec_l02Turns.f k a b c) l ∧
    (∀ k, spec_l02Sort.f (k + 2) a b c = some (p, q, r)) ∧ 1 ≤ l.length ∧ l.length ≤ 900 ∧ l.getD (l.length - 1) z26 = ⟨p, q, r⟩ := by
  obtain ⟨l, h1, h2, h3⟩ := turnsI a b c
  obtain ⟨p, q, r, o1, o2, hs, hm⟩ := sortS a b c
  obtain ⟨al, hal⟩ : ∃ al : List S26, al = [⟨r, q, p⟩, ⟨r, p, q⟩, ⟨q, r, p⟩, ⟨q, p, r⟩, ⟨p, r, q⟩, ⟨p, q, r⟩] := ⟨_, rfl⟩
  have hall : al.length = 6 := by rw [hal]; rfl
  have hw : Good [] al := by
    rw [hal]
    by_cases e1 : r = q
    · subst e1
      by_cases e2 : r = p
      · subst e2
        simp [Good]
      · have e3 : r < p := by omega
        simp [Good, ltx, e3]
    · have e3 : r < q := by omega
      by_cases e2 : q = p
      · subst e2
        simp [Good, ltx, e3]
      · have e4 : q < p := by omega
        have e5 : r < p := by omega
        simp [Good, ltx, e3, e4, e5]
  obtain ⟨g1, g2⟩ := ded_spec al [] List.Pairwise.nil hw
  have hmem : ∀ s, s ∈ al ↔ s ∈ six a b c := fun s => by
    rw [← hm s, hal]
    simp only [six, List.mem_cons, List.not_mem_nil, or_false]
    exact ⟨fun h => by rcases h with h | h | h | h | h | h <;> simp [h], fun h => by rcases h with h | h | h | h | h | h <;> simp [h]⟩
  have hd : ded [] al = l := rise_uniq _ _ g1 h1 (fun s => by rw [g2 s, h2 s, ← hmem s]; simp)
  have h4 : Ev (fun k => spec_l02Turns.f k a b c) l := by
    obtain ⟨K, hK⟩ := EvG (l02_l0 al (by omega) _ 0 [] rfl (Nat.zero_le _) (Nat.le_refl _))
    refine EvI (K + 2) fun k hk => ?_
    obtain ⟨m, rfl⟩ : ∃ m, k = m + 2 := ⟨k - 2, by omega⟩
    rw [spec_l02Turns.f, hs, Option.bind_some]
    show spec_l02Turns.l0 (m + 2) [⟨r, q, p⟩, ⟨r, p, q⟩, ⟨q, r, p⟩, ⟨q, p, r⟩, ⟨p, r, q⟩, ⟨p, q, r⟩] [] ((0 : Nat) : Int) = _
    rw [← hal, hK _ (by omega), List.drop_zero, hd]
  have hlast : (⟨p, q, r⟩ : S26) ∈ l := by rw [h2, ← hmem, hal]; simp
  have hpos : 1 ≤ l.length := List.length_pos_of_mem hlast
  have hle : l.length ≤ 900 := by
    have hdl : ∀ (x acc : List S26), (ded acc x).length ≤ acc.length + x.length := by
      intro x
      induction x with
      | nil => intro acc; simp [ded]
      | cons t x ih =>
        intro acc
        rw [ded]
        split
        · have := ih acc; simp; omega
        · have := ih (acc ++ [t]); simp at this ⊢; omega
    have := hdl al []
    rw [hd, hall] at this
    simp at this; omega
  refine ⟨l, p, q, r, h1, h2, h3, h4, hs, hpos, hle, ?_⟩
  obtain ⟨i, hi, hie⟩ := (mem_getDG z26 l _).1 hlast
  by_cases e : i = l.length - 1
  · rw [← e, hie]
  · exfalso
    have hlt := List.pairwise_iff_getElem.1 h1 i (l.length - 1) hi (by omega) (by omega)
    rw [← getD_eqG z26 l i hi, ← getD_eqG z26 l _ (by omega), hie] at hlt
    have hin : l.getD (l.length - 1) z26 ∈ al := by rw [hmem, ← h2, getD_eqG z26 l _ (by omega)]; exact List.getElem_mem _
    rw [hal] at hin
    generalize l.getD (l.length - 1) z26 = s at hlt hin
    simp only [List.mem_cons, List.not_mem_nil, or_false] at hin
    unfold ltx at hlt
    rcases hin with rfl | rfl | rfl | rfl | rfl | rfl <;> simp only at hlt <;> omega

end Go.Proofs.Ytmbbkaoccmokeaa.Pure

namespace Go.Proofs.Ytmbbkaoccmokeaa.Pure
open Go.RowKit Go.Proofs.Ytmbbkaoccmokeaa.P Go.Proofs.YtmbbkaoccmokeaaW.PrintWords Go.Proofs.YtmbbkaoccmokeaaW.PrintLast
set_option linter.unusedVariables false

/-- The sides in falling order, on both sides. -/
theorem sortedB (a b c : Int) : ∃ p q r : Int, Ev (fun k => impl_Box_sorted.f k a b c) (p, q, r) ∧ Ev (fun k => spec_l02Sort.f k a b c) (p, q, r) := by
  obtain ⟨l, p, q, r, _, _, hI, _, hs, h1, h9, hl⟩ := turnsB a b c
  obtain ⟨K, hI⟩ := EvG hI
  have ew : wrap64 ((l.length : Int) - 1) = ((l.length - 1 : Nat) : Int) := by rw [w64 (by omega) (by omega)]; omega
  refine ⟨p, q, r, EvI K fun k hk => ?_, EvI 2 fun k hk => ?_⟩
  · rw [impl_Box_sorted.f, hI k hk, Option.bind_some, ew, if_pos (by omega), if_pos (by omega), rdT, hl]
  · obtain ⟨m, rfl⟩ : ∃ m, k = m + 2 := ⟨k - 2, by omega⟩
    exact hs m
theorem insideB (a b c u v w : Int) : ∃ t : Bool, Ev (fun k => impl_Box_inside.f k a b c u v w) t ∧ Ev (fun k => spec_l02Inside.f k a b c u v w) t := by
  obtain ⟨p, q, r, i1, s1⟩ := sortedB a b c
  obtain ⟨x, y, z, i2, s2⟩ := sortedB u v w
  obtain ⟨K1, i1⟩ := EvG i1
  obtain ⟨K2, i2⟩ := EvG i2
  obtain ⟨K3, s1⟩ := EvG s1
  obtain ⟨K4, s2⟩ := EvG s2
  have eI : ∀ k, K1 + K2 ≤ k → impl_Box_inside.f k a b c u v w = if p < x then (if q < y then some (decide (r < z)) else some false) else some false := fun k hk => by
    rw [impl_Box_inside.f, i1 k (by omega), Option.bind_some, i2 k (by omega), Option.bind_some]
  have eS : ∀ k, K3 + K4 ≤ k → spec_l02Inside.f k a b c u v w = if p < x then (if q < y then some (decide (r < z)) else some false) else some false := fun k hk => by
    rw [spec_l02Inside.f, s1 k (by omega), Option.bind_some, s2 k (by omega), Option.bind_some]
  by_cases c1 : p < x
  · by_cases c2 : q < y
    · exact ⟨_, EvI _ fun k hk => by rw [eI k hk, if_pos c1, if_pos c2], EvI _ fun k hk => by rw [eS k hk, if_pos c1, if_pos c2]⟩
    · exact ⟨_, EvI _ fun k hk => by rw [eI k hk, if_pos c1, if_neg c2], EvI _ fun k hk => by rw [eS k hk, if_pos c1, if_neg c2]⟩
  · exact ⟨_, EvI _ fun k hk => by rw [eI k hk, if_neg c1], EvI _ fun k hk => by rw [eS k hk, if_neg c1]⟩

end Go.Proofs.Ytmbbkaoccmokeaa.Pure

namespace Go.Proofs.Ytmbbkaoccmokeaa.Pure
open Go.RowKit Go.Proofs.Ytmbbkaoccmokeaa.P Go.Proofs.YtmbbkaoccmokeaaW.PrintWords Go.Proofs.YtmbbkaoccmokeaaW.PrintLast
set_option linter.unusedVariables false

theorem FnExactFitsInside : laws_FnExactFitsInside.Pure := by
  rintro x y ⟨w0, w1, w2⟩ ⟨v0, v1, v2⟩
  obtain ⟨t, hI, hS⟩ := insideB x.f0 x.f1 x.f2 y.f0 y.f1 y.f2
  obtain ⟨K1, hI⟩ := EvG hI
  obtain ⟨K2, hS⟩ := EvG hS
  have eI : impl_FitsInside.f (K1 + K2) x.f0 x.f1 x.f2 y.f0 y.f1 y.f2 = some (if okB x.f0 x.f1 x.f2 = true ∧ okB y.f0 y.f1 y.f2 = true then (t, 0) else (false, 1)) := by
    rw [impl_FitsInside.f, implOk w0 w1 w2, implOk v0 v1 v2, hI _ (by omega), Option.bind_some, Option.bind_some, Option.bind_some]
    cases okB x.f0 x.f1 x.f2 <;> cases okB y.f0 y.f1 y.f2 <;> rfl
  have eS : spec_FitsInside.f (K1 + K2) x.f0 x.f1 x.f2 y.f0 y.f1 y.f2 = some (if okB x.f0 x.f1 x.f2 = true ∧ okB y.f0 y.f1 y.f2 = true then (t, 0) else (false, 1)) := by
    rw [spec_FitsInside.f, specOk w0 w1 w2, specOk v0 v1 v2, hS _ (by omega), Option.bind_some, Option.bind_some, Option.bind_some]
    cases okB x.f0 x.f1 x.f2 <;> cases okB y.f0 y.f1 y.f2 <;> rfl
  refine ⟨K1 + K2, ?_⟩
  rw [laws_FnExactFitsInside.f, toB, toB]
  simp only [Option.bind_some]
  rw [eS, eI]
  simp only [Option.bind_some, bne_self_eq_false, Bool.false_eq_true, if_false, if_true]

end Go.Proofs.Ytmbbkaoccmokeaa.Pure

namespace Go.Proofs.Ytmbbkaoccmokeaa.X
open Go.ChangeShapes Go.WideShapes Go.ChangeAt Go.RowKit Go.Proofs.YtmbbkaoccmokeaaW.PrintWords Go.Deep
set_option linter.unusedVariables false

/-- What reads as data of type t is a value of kind d, and meets wf. -/
def Opens {α : Type} (P : Program) (t : TypeId) (d : Kd α) (wf : α → Prop) : Prop :=
  ∀ (H : Type) (enc : TypeId × Value → H) (W : World) (held : Bool) (fuel : Nat) (cs : List Value) (x : DataW H × List MemPlace), DataW.trod enc P W 0 (fun _ => true) held fuel t cs = some x → ∃ a, d.K W a cs ∧ wf a

theorem Opens.int {P : Program} {t : TypeId} {k : IntKind} (ht : P.underlying t = some (.int k)) : Opens P t (Kd.int k) (fun n => (Lit.int k n).wf = true) := by
  intro H enc W held fuel cs x h
  obtain ⟨n, rfl, _, hw⟩ := DataW.trod_int ht h
  exact ⟨n, rfl, hw⟩

theorem Opens.slice {α : Type} [Inhabited α] {P : Program} {t e : TypeId} {d : Kd α} {wf : α → Prop} (ht : P.underlying t = some (.slice e)) (hc : P.cellsOf e = d.sz) (h : Opens P e d wf) :
    Opens P t (Kd.slice e d) (fun l => l.length ≤ 9223372036854775807 ∧ ∀ a ∈ l, wf a) := by
  intro H enc W held fuel cs x hx
  rcases open_slice ht hx with ⟨rfl, _⟩ | ⟨ad, len, cap, m, n, D, Pl, rfl, _, hl, hm, hmm, _, hel⟩
  · exact ⟨[], ⟨none, 0, rfl, Nat.le_refl _, ⟨rfl, by simp, fun h => absurd h (Nat.lt_irrefl 0)⟩⟩, by simp, fun a ha => by cases ha⟩
  · have hmc : m = cap := by simpa using hmm
    have each : ∀ i, i < len → ∃ a : α, wf a ∧ ∃ c, c.length = d.sz ∧ d.K W a c ∧ ∀ j u, c[j]? = some u → W.cell? (ad.add (i * d.sz + j)) = some u := by
      intro i hi
      obtain ⟨cs', h1, h2⟩ := hel i (by omega)
      obtain ⟨_, hlen, hcell⟩ := World.cells?_some h1
      obtain ⟨a, hK, hw⟩ := h H enc W held n cs' _ h2
      refine ⟨a, hw, cs', by rw [hlen, hc], hK, fun j u hu => ?_⟩
      have hj : j < P.cellsOf e := by have := (List.getElem?_eq_some_iff.1 hu).1; omega
      have h3 := hcell j hj
      rw [hu, hc] at h3
      rw [← h3]
      congr 1
      unfold Addr.add
      by_cases h4 : i * d.sz = 0 <;> by_cases h5 : j = 0 <;> simp [h4, h5, Nat.add_assoc]
    obtain ⟨f, hf⟩ := choose_lt each
    have hlen : ((List.range len).map f).length = len := by simp
    refine ⟨(List.range len).map f, ⟨some ad, cap, by rw [hlen], by rw [hlen]; exact hl, ⟨rfl, by rw [hlen]; unfold maxLen at hm; omega, fun _ => ⟨ad, rfl, fun j p hp => ?_⟩⟩⟩, by rw [hlen]; unfold maxLen at hm; omega, fun a ha => ?_⟩
    · have hj : j < len := by have := (List.getElem?_eq_some_iff.1 hp).1; omega
      have hp2 : f j = p := by simpa [hj] using hp
      rw [← hp2]
      exact (hf j hj).2
    · obtain ⟨i, hi, rfl⟩ := List.mem_map.1 ha
      exact (hf i (List.mem_range.1 hi)).1

theorem Opens.pair {α β : Type} {P : Program} {t : TypeId} {a : Kd α} {b : Kd β} {wa : α → Prop} {wb : β → Prop} {f0 f1 : Field} (hs : P.underlying t = some (.struct #[f0, f1])) (o0 : f0.offset = 0) (c0 : P.cellsOf f0.type = a.sz) (o1 : f1.offset = a.sz) (c1 : P.cellsOf f1.type = b.sz) (hc : P.cellsOf t = a.sz + b.sz)
    (ha : Opens P f0.type a wa) (hb : Opens P f1.type b wb) : Opens P t (Kd.pair a b) (fun x => wa x.1 ∧ wb x.2) := by
  intro H enc W held fuel cs x hx
  obtain ⟨xs, n, _, _, hl, hxl, hf⟩ := DataW.trod_struct hs hx
  have hxl : xs.length = 2 := hxl
  have g0 := hf 0 f0 rfl
  have g1 := hf 1 f1 rfl
  rw [List.getElem?_eq_getElem (by omega)] at g0 g1
  obtain ⟨x0, k0, w0⟩ := ha H enc W held n _ _ g0
  obtain ⟨x1, k1, w1⟩ := hb H enc W held n _ _ g1
  refine ⟨(x0, x1), ⟨_, _, ?_, k0, k1⟩, w0, w1⟩
  rw [o0, o1, c0, c1, List.drop_zero]
  rw [List.take_of_length_le (l := cs.drop a.sz) (by rw [List.length_drop]; omega), List.take_append_drop]

theorem Opens.triple {α β γ : Type} {P : Program} {t : TypeId} {a : Kd α} {b : Kd β} {c : Kd γ} {wa : α → Prop} {wb : β → Prop} {wc : γ → Prop} {f0 f1 f2 : Field} (hs : P.underlying t = some (.struct #[f0, f1, f2])) (o0 : f0.offset = 0) (c0 : P.cellsOf f0.type = a.sz) (o1 : f1.offset = a.sz) (c1 : P.cellsOf f1.type = b.sz) (o2 : f2.offset = a.sz + b.sz) (c2 : P.cellsOf f2.type = c.sz) (hc : P.cellsOf t = a.sz + b.sz + c.sz)
    (ha : Opens P f0.type a wa) (hb : Opens P f1.type b wb) (hcc : Opens P f2.type c wc) : Opens P t (Kd.pair a (Kd.pair b c)) (fun x => wa x.1 ∧ wb x.2.1 ∧ wc x.2.2) := by
  intro H enc W held fuel cs x hx
  obtain ⟨xs, n, _, _, hl, hxl, hf⟩ := DataW.trod_struct hs hx
  have hxl : xs.length = 3 := hxl
  have g0 := hf 0 f0 rfl
  have g1 := hf 1 f1 rfl
  have g2 := hf 2 f2 rfl
  rw [List.getElem?_eq_getElem (by omega)] at g0 g1 g2
  obtain ⟨x0, k0, w0⟩ := ha H enc W held n _ _ g0
  obtain ⟨x1, k1, w1⟩ := hb H enc W held n _ _ g1
  obtain ⟨x2, k2, w2⟩ := hcc H enc W held n _ _ g2
  refine ⟨(x0, x1, x2), ⟨_, _, ?_, k0, ⟨_, _, rfl, k1, k2⟩⟩, w0, w1, w2⟩
  rw [o0, o1, o2, c0, c1, c2, List.drop_zero]
  rw [List.take_of_length_le (l := cs.drop (a.sz + b.sz)) (by rw [List.length_drop]; omega), ← List.drop_drop, List.take_append_drop, List.take_append_drop]

theorem Opens.iso {α β : Type} {P : Program} {t : TypeId} {d : Kd α} {wf : α → Prop} (f : β → α) (g : α → β) (hg : ∀ a, f (g a) = a) (h : Opens P t d wf) : Opens P t (Kd.iso d f) (fun b => wf (f b)) := by
  intro H enc W held fuel cs x hx
  obtain ⟨a, hK, hw⟩ := h H enc W held fuel cs x hx
  refine ⟨g a, ?_, by show wf (f (g a)); rw [hg]; exact hw⟩
  show d.K W (f (g a)) cs
  rw [hg]; exact hK

/-- An argument that is a struct. -/
theorem Opens.agg {α : Type} {P : Program} {t : TypeId} {d : Kd α} {wf : α → Prop} {fs : Array Field} (h : Opens P t d wf) (hs : P.underlying t = some (.struct fs)) {H : Type} {enc : TypeId × Value → H} {W : World} {r : Reach} {b0 : Nat} {v : Value} {dd : DataW H} {ps : List MemPlace}
    (hv : Value.okWide P W r b0 t v) (ht : DataW.Trod enc P W 0 (fun _ => true) true t v dd ps) : ∃ (a : α) (cs : List Value), v = .agg cs.toArray ∧ d.K W a cs ∧ wf a := by
  obtain ⟨cs, rfl, _⟩ := okWide_struct hs hv
  obtain ⟨fuel, hf⟩ := ht
  obtain ⟨a, hK, hw⟩ := h H enc W true fuel _ _ hf
  exact ⟨a, _, by simp [Value.cells], hK, hw⟩
/-- An argument that is a slice. -/
theorem Opens.arg {α : Type} {P : Program} {t e : TypeId} {d : Kd α} {wf : List α → Prop} (h : Opens P t (Kd.slice e d) wf) (ht : P.underlying t = some (.slice e)) {H : Type} {enc : TypeId × Value → H} {W : World} {r : Reach} {b0 : Nat} {v : Value} {dd : DataW H} {ps : List MemPlace}
    (hv : Value.okWide P W r b0 t v) (hT : DataW.Trod enc P W 0 (fun _ => true) true t v dd ps) : ∃ (l : List α) (A : Option Addr) (c : Nat), v = .slice A l.length c ∧ l.length ≤ c ∧ d.C W A l.length l ∧ wf l := by
  obtain ⟨a, len, cap, rfl⟩ := okWide_slice ht hv
  obtain ⟨fuel, hf⟩ := hT
  obtain ⟨l, ⟨A, c, he, hl, hC⟩, hw⟩ := h H enc W true fuel _ _ hf
  have he2 : [Value.slice a len cap] = [Value.slice A l.length c] := by simpa [Value.cells] using he
  injection he2 with he2 _
  exact ⟨l, A, c, he2, hl, hC, hw⟩

end Go.Proofs.Ytmbbkaoccmokeaa.X
