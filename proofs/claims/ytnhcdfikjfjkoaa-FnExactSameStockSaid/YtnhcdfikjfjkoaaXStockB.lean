/- Stocks are copied, compared and counted; no condition but those that each theorem states. -/
import Derived.Test.YtnhcdfikjfjkoaaPlawseqStamp
import Derived.Test.YtnhcdfikjfjkoaaPlawseqStampS
import Derived.Test.YtnhcdfikjfjkoaaPlawsszStampS
import Derived.Test.YtnhcdfikjfjkoaaPlawstoStamp
import Derived.Test.YtnhcdfikjfjkoaaPlawstoStampS
import Derived.Test.YtnhcdfikjfjkoaaXNum
namespace Go.Proofs.Ytnhcdfikjfjkoaa.Pure
open Go.RowKit Go.Proofs.Ytnhcdfikjfjkoaa.P Go.Proofs.YtnhcdfikjfjkoaaW.PrintWords Go.Proofs.YtnhcdfikjfjkoaaW.PrintLast
set_option linter.unusedVariables false
set_option linter.unusedSimpArgs false

theorem rdS (l : List S56) (i : Nat) : rd_T56 l (i : Int) = l.getD i z56 := rfl
theorem rdS' (l : List S58) (i : Nat) : rd_T58 l (i : Int) = l.getD i z58 := rfl
theorem getD_eqG {α : Type} (z : α) (l : List α) (i : Nat) (h : i < l.length) : l.getD i z = l[i] := by
  rw [List.getD_eq_getElem?_getD, List.getElem?_eq_getElem h]; rfl
theorem list_extG {α : Type} (z : α) (a b : List α) (hl : a.length = b.length) (h : ∀ j, j < b.length → a.getD j z = b.getD j z) : a = b := by
  apply List.ext_getElem hl
  intro i h1 h2
  have := h i h2
  rwa [getD_eqG z a i h1, getD_eqG z b i h2] at this
theorem getD_setG {α : Type} (z : α) (l : List α) (i j : Nat) (v : α) (h : i < l.length) : (l.set i v).getD j z = if i = j then v else l.getD j z := by
  simp only [List.getD_eq_getElem?_getD, List.getElem?_set]
  by_cases e : i = j
  · subst e; simp [h]
  · simp [e]
/-- A stock as the program has it. -/
def cv (x : S58) : S56 := ⟨x.f0, x.f1⟩
theorem szS (l : List S58) (a : Int) (h0 : 0 ≤ a) (h1 : a ≤ 1048576) (hl : l.length ≤ 9223372036854775807) : laws_szStampS.f l a = some (if (l.length : Int) ≤ a then a - l.length else -1) := by
  unfold laws_szStampS.f
  rw [w64 (by omega) (by omega)]
  split <;> split <;> first | rfl | omega
theorem toS_l0 (l : List S58) (hb : l.length ≤ 17592186044415) : ∀ d i (x : List S56), l.length - i = d → i ≤ l.length → x.length = l.length → (∀ j, j < i → x.getD j z56 = cv (l.getD j z58)) → Ev (fun k => laws_toStampS.l0 k l x (i : Int)) (l.map cv) := by
  intro d
  induction d with
  | zero =>
    intro i x hd hi hx hj
    refine Ev.step (f := fun _ => some x) (fun k => ?_) ?_
    · rw [laws_toStampS.l0, if_neg (by omega)]
    · have : x = l.map cv := list_extG z56 x _ (by rw [List.length_map, hx]) (fun j h => by
        rw [List.length_map] at h
        rw [hj j (by omega), getD_eqG z56 _ j (by rw [List.length_map]; exact h), List.getElem_map, getD_eqG z58 l j h])
      rw [this]; exact Ev.now _
  | succ d ih =>
    intro i x hd hi hx hj
    refine Ev.step (fun k => ?_) (ih (i + 1) (x.set i (cv (l.getD i z58))) (by omega) (by omega) (by simpa using hx) ?_)
    · rw [laws_toStampS.l0, if_pos (by omega), if_pos (by omega), laws_toStamp.f, Option.bind_some, if_pos (by omega), wN i (by omega), rdS', Int.toNat_natCast]
      rfl
    · intro j h
      rw [getD_setG z56 x i j _ (by omega)]
      by_cases e : i = j
      · rw [if_pos e, e]
      · rw [if_neg e]; exact hj j (by omega)
theorem toS (l : List S58) (hb : l.length ≤ 17592186044415) : Ev (fun k => laws_toStampS.f k l) (l.map cv) := by
  refine Ev.congr (f := fun k => laws_toStampS.l0 k l (List.replicate l.length z56) ((0 : Nat) : Int)) (fun k => ?_) (toS_l0 l hb _ 0 _ rfl (Nat.zero_le _) (by simp) (fun j h => absurd h (Nat.not_lt_zero _)))
  simp only [laws_toStampS.f, Int.toNat_natCast]
  rw [if_pos (by omega), if_pos (by omega)]; rfl
theorem eqS_l0 (l : List S56) (hb : l.length ≤ 17592186044415) : ∀ d i, l.length - i = d → i ≤ l.length → Ev (fun k => laws_eqStampS.l0 k l l (i : Int)) true := by
  intro d
  induction d with
  | zero =>
    intro i hd hi
    refine Ev.step (f := fun _ => some true) (fun k => ?_) (Ev.now _)
    rw [laws_eqStampS.l0, if_neg (by omega)]
  | succ d ih =>
    intro i hd hi
    refine Ev.step (fun k => ?_) (ih (i + 1) (by omega) (by omega))
    rw [laws_eqStampS.l0, if_pos (by omega), if_pos (by omega), if_pos (by omega), laws_eqStamp.f, if_pos rfl, if_pos rfl, Option.bind_some, if_pos rfl, wN i (by omega)]
theorem eqS (l : List S56) (hb : l.length ≤ 17592186044415) : Ev (fun k => laws_eqStampS.f k l l) true := by
  refine Ev.congr (f := fun k => laws_eqStampS.l0 k l l ((0 : Nat) : Int)) (fun k => ?_) (eqS_l0 l hb _ 0 rfl (Nat.zero_le _))
  rw [laws_eqStampS.f, if_pos rfl]; rfl

end Go.Proofs.Ytnhcdfikjfjkoaa.Pure
