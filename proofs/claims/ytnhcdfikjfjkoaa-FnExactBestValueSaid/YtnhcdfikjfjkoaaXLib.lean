/- Plain lemmas on lists, and on slices that are read, which the walks of this seat use; no condition but those that each theorem states. -/
import Derived.Test.YtnhcdfikjfjkoaaProg
import Derived.Test.YtnhcdfikjfjkoaaWMore
import Derived.Shelf.Abstract
namespace Go.Proofs.Ytnhcdfikjfjkoaa.P
open Go.RowKit Go.Proofs.YtnhcdfikjfjkoaaW.PrintWords Go.Proofs.YtnhcdfikjfjkoaaW.PrintLast Go.Proofs.YtnhcdfikjfjkoaaW.PrintMore

/-- The place of the first element of which p holds; -1 if there is none. -/
def idxF {α : Type} (p : α → Bool) : List α → Int
  | [] => -1
  | x :: xs => if p x then 0 else if idxF p xs < 0 then -1 else idxF p xs + 1

theorem idxF_ge {α : Type} (p : α → Bool) (l : List α) : -1 ≤ idxF p l := by
  induction l with
  | nil => simp [idxF]
  | cons x xs ih => simp only [idxF]; split <;> (try split) <;> omega
theorem idxF_hit {α : Type} (p : α → Bool) (z : α) (l : List α) (k : Nat) (hk : k < l.length) (h : p (l.getD k z) = true) (hn : ∀ j, j < k → p (l.getD j z) = false) : idxF p l = k := by
  induction l generalizing k with
  | nil => simp at hk
  | cons x xs ih =>
    cases k with
    | zero => simp at h; simp [idxF, h]
    | succ k =>
      have h0 := hn 0 (by omega)
      simp at h0
      have := ih k (by simpa using hk) (by simpa using h) (fun j hj => by simpa using hn (j + 1) (by omega))
      simp only [idxF, h0, this]
      simp; omega
theorem idxF_miss {α : Type} (p : α → Bool) (z : α) (l : List α) (hn : ∀ j, j < l.length → p (l.getD j z) = false) : idxF p l = -1 := by
  induction l with
  | nil => rfl
  | cons x xs ih =>
    have h0 := hn 0 (by simp)
    simp at h0
    have := ih (fun j hj => by simpa using hn (j + 1) (by simpa using hj))
    simp [idxF, h0, this]
theorem idxF_any {α : Type} (p : α → Bool) (l : List α) : decide (0 ≤ idxF p l) = l.any p := by
  induction l with
  | nil => rfl
  | cons x xs ih =>
    simp only [idxF, List.any_cons, ← ih]
    by_cases h : p x = true
    · simp [h]
    · simp only [h]
      have := idxF_ge p xs
      by_cases h2 : idxF p xs < 0
      · simp [h2]
      · simp [h2]; omega

/-- What is shared is told at the world behind some draws, too. -/
theorem xV_at {α : Type} {d : Kd α} {e : Nat} {W w1 : World} {m base : Nat} {ok : Nat → Prop} {v : Value} {xs : List α} (hq : W.drewN m = w1) (h : Kd.V d e W base ok v xs) : Kd.V d e w1 base ok v xs := by
  subst hq
  exact Kd.V_drewN h m

/-- A slice against nil. -/
theorem xeq_nil {P : Program} (w : World) (t e : TypeId) (a : Option Addr) (n c : Nat) (h : P.underlying t = some (.slice e)) :
    (Go.binOp .eql t (.slice a n c) (.slice none 0 0)).run P w = .ok (.bool a.isNone) w := by
  have h1 : ∀ d : Nat, (Op.equalIn (d + 1) t (.slice a n c) (.slice none 0 0)).run P w = .ok a.isNone w := fun d => by
    cases a <;> simp [Op.equalIn, run_underlying h]
  have h2 : (Op.equal t (.slice a n c) (.slice none 0 0)).run P w = .ok a.isNone w := h1 9999
  simp [Go.binOp, h2]

end Go.Proofs.Ytnhcdfikjfjkoaa.P
