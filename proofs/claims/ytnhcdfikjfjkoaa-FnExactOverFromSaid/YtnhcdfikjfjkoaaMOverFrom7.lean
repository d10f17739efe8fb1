/- The Go functions that the law FnExactOverFrom comes to, as plain Lean functions, the proofs that calls of them return what those tell, and the plain lemmas on them; no condition but those that each theorem states. -/
import Derived.Test.YtnhcdfikjfjkoaaMOverFrom3
import Derived.Test.YtnhcdfikjfjkoaaMOverFrom6
import Derived.Test.YtnhcdfikjfjkoaaMOverFrom5
import Derived.Test.YtnhcdfikjfjkoaaMOverFrom2
import Derived.Test.YtnhcdfikjfjkoaaMOverFrom4
import Derived.Test.YtnhcdfikjfjkoaaRows
import Derived.Test.YtnhcdfikjfjkoaaMOverFrom1
import Derived.Deep.Slices
import Derived.WalkKit
import Derived.ProofKit
import Derived.OpenShut
import Derived.ShutString
import Derived.ChangeOld
import Derived.Below
import Derived.SizedLaws
import Derived.ChangeArms
import Derived.Carry
namespace Go.Proofs.Ytnhcdfikjfjkoaa.Pure
open Go.RowKit Go.Proofs.Ytnhcdfikjfjkoaa.P Go.Proofs.YtnhcdfikjfjkoaaW.PrintWords Go.Proofs.YtnhcdfikjfjkoaaW.PrintLast
set_option linter.unusedVariables false
set_option linter.unusedSimpArgs false

theorem set_self (x : List Int) (a : Nat) (v : Int) (h : x.getD a 0 = v) (ha : a < x.length) : x.set a v = x := by
  refine list_ext _ _ (by simp) (fun j hj => ?_)
  rw [getD_set _ _ _ _ ha]
  split
  · rename_i e; subst e; exact h.symm
  · rfl
theorem mulC (K v : Nat) : (K : Int) * (v : Int) = ((K * v : Nat) : Int) := (Int.natCast_mul K v).symm
theorem st_l3 (vs hs : List Int) (m i v h : Nat) (hi : i < vs.length) (hl : hs.length = vs.length) (hv : vs.getD i 0 = (v : Int)) (v1 : 1 ≤ v) (v5 : v ≤ 500) (hh : hs.getD i 0 = (h : Int)) (h2 : h ≤ 2000000000000)
    (T : List (List Int)) (X : List Int) (hT : T.getD 0 [] = X) (hT0 : 0 < T.length) (hX : X.length = m + 1) (hXb : ∀ a, a ≤ m → X.getD a 0 ≤ a) (hm : m ≤ 2000) (a : Nat) (ha : a ≤ m) (r : List (List Int)) :
    ∀ d K (x : List Int), nk v h a - K = d → K ≤ nk v h a → x.length = m + 1 → x.getD a 0 = bk X v a K →
      Ev (fun k => spec_l01Table.l2 k vs hs (m : Int) T (i : Int) (x.set a (bk X v a (nk v h a))) ((a + 1 : Nat) : Int)) r → Ev (fun k => spec_l01Table.l3 k vs hs (m : Int) T (i : Int) x (a : Int) (K : Int)) r := by
  intro d
  induction d with
  | zero =>
    intro K x hd hK hx hxa hr
    obtain rfl : K = nk v h a := by omega
    have hb := nk_le v1 (Nat.le_refl (nk v h a))
    have hnot : ¬ (nk v h a ≤ h ∧ nk v h a * v ≤ a) := fun c => by have := (nk_lt v1).2 c; omega
    rw [set_self x a _ hxa (by omega)] at hr
    refine Ev.step (f := fun k => spec_l01Table.j4 k vs hs (m : Int) T (i : Int) x (a : Int) ((nk v h a : Nat) : Int) false) (fun k => ?_) (Ev.step (fun k => ?_) hr)
    · rw [spec_l01Table.l3, if_pos (by omega), if_pos (by omega), rdN, hh]
      by_cases c : ((nk v h a : Nat) : Int) ≤ (h : Int)
      · rw [if_pos c, if_pos (by omega), rdN, hv, mulC, w64 (by omega) (by omega), decide_eq_false (by omega)]
      · rw [if_neg c]
    · rw [spec_l01Table.j4, if_neg (by simp), wN a (by omega)]
  | succ d ih =>
    intro K x hd hK hx hxa hr
    obtain ⟨c1, c2⟩ := (nk_lt (h := h) (a := a) (K := K) v1).1 (by omega)
    have hKv : K ≤ K * v := Nat.le_mul_of_pos_right K v1
    have hRb := hXb (a - K * v) (by omega)
    have hidx : (a : Int) - ((K * v : Nat) : Int) = ((a - K * v : Nat) : Int) := by omega
    have e1 : ∀ k, spec_l01Table.l3 (k + 1) vs hs (m : Int) T (i : Int) x (a : Int) (K : Int) = spec_l01Table.j4 k vs hs (m : Int) T (i : Int) x (a : Int) (K : Int) true := fun k => by
      rw [spec_l01Table.l3, if_pos (by omega), if_pos (by omega), rdN, hh, if_pos (by omega), if_pos (by omega), rdN, hv, mulC, w64 (by omega) (by omega), decide_eq_true (by omega)]
    refine Ev.step (f := fun k => spec_l01Table.j4 k vs hs (m : Int) T (i : Int) x (a : Int) (K : Int) true) e1 ?_
    have e2 : ∀ k, spec_l01Table.j4 (k + 1) vs hs (m : Int) T (i : Int) x (a : Int) (K : Int) true = (if X.getD (a - K * v) 0 ≥ 0 then (if bk X v a K < 0 then spec_l01Table.l3 k vs hs (m : Int) T (i : Int) (x.set a (wrap64 (X.getD (a - K * v) 0 + (K : Int)))) (a : Int) ((K + 1 : Nat) : Int) else if wrap64 (X.getD (a - K * v) 0 + (K : Int)) < bk X v a K then spec_l01Table.l3 k vs hs (m : Int) T (i : Int) (x.set a (wrap64 (X.getD (a - K * v) 0 + (K : Int)))) (a : Int) ((K + 1 : Nat) : Int) else spec_l01Table.l3 k vs hs (m : Int) T (i : Int) x (a : Int) ((K + 1 : Nat) : Int)) else spec_l01Table.l3 k vs hs (m : Int) T (i : Int) x (a : Int) ((K + 1 : Nat) : Int)) := fun k => by
      rw [spec_l01Table.j4, if_pos rfl, if_pos (by omega), if_pos (by omega), if_pos (by omega), rdN, hv, mulC, w64 (x := ((K * v : Nat) : Int)) (by omega) (by omega), hidx, w64 (x := ((a - K * v : Nat) : Int)) (by omega) (by omega),
        show rd_L1 T 0 = T.getD 0 [] from rfl, hT, if_pos (by omega), if_pos (by omega), if_pos (show (0 : Int) ≤ (a : Int) by omega), if_pos (show (a : Int) < (x.length : Int) by omega), rdN, rdN, hxa, wN K (by omega), Int.toNat_natCast]
    have go : ∀ x' : List Int, x'.length = m + 1 → x'.getD a 0 = bk X v a (K + 1) → x'.set a (bk X v a (nk v h a)) = x.set a (bk X v a (nk v h a)) → Ev (fun k => spec_l01Table.l3 k vs hs (m : Int) T (i : Int) x' (a : Int) ((K + 1 : Nat) : Int)) r := fun x' g1 g2 g3 =>
      ih (K + 1) x' (by omega) (by omega) g1 g2 (by rw [g3]; exact hr)
    by_cases q1 : X.getD (a - K * v) 0 ≥ 0
    · have hw : wrap64 (X.getD (a - K * v) 0 + (K : Int)) = X.getD (a - K * v) 0 + (K : Int) := w64 (by omega) (by omega)
      by_cases q2 : bk X v a K < 0 ∨ X.getD (a - K * v) 0 + (K : Int) < bk X v a K
      · refine Ev.step (fun k => ?_) (go (x.set a (X.getD (a - K * v) 0 + (K : Int))) (by simpa using hx) (by rw [getD_set _ _ _ _ (by omega), if_pos rfl, bk, if_pos ⟨q1, q2⟩]) (by rw [List.set_set]))
        rw [e2, if_pos q1, hw]
        by_cases q3 : bk X v a K < 0
        · rw [if_pos q3]
        · rw [if_neg q3, if_pos (q2.resolve_left q3)]
      · refine Ev.step (fun k => ?_) (go x hx (by rw [hxa, bk, if_neg (fun c => q2 c.2)]) rfl)
        rw [e2, if_pos q1, hw, if_neg (fun c => q2 (Or.inl c)), if_neg (fun c => q2 (Or.inr c))]
    · refine Ev.step (fun k => ?_) (go x hx (by rw [hxa, bk, if_neg (fun c => q1 c.1)]) rfl)
      rw [e2, if_neg q1]
theorem rowS_at (X : List Int) (v h m a : Nat) (ha : a ≤ m) : (rowS X v h m).getD a 0 = bk X v a (nk v h a) := by unfold rowS; rw [getD_range _ _ _ _ (by omega)]
theorem rowS_len (X : List Int) (v h m : Nat) : (rowS X v h m).length = m + 1 := by simp [rowS]
theorem st_l2 (vs hs : List Int) (m i v h : Nat) (hi : i < vs.length) (hl : hs.length = vs.length) (hv : vs.getD i 0 = (v : Int)) (v1 : 1 ≤ v) (v5 : v ≤ 500) (hh : hs.getD i 0 = (h : Int)) (h2 : h ≤ 2000000000000)
    (T : List (List Int)) (X : List Int) (hT : T.getD 0 [] = X) (hT0 : 0 < T.length) (hT1 : T.length ≤ 2000) (hX : X.length = m + 1) (hXb : ∀ a, a ≤ m → X.getD a 0 ≤ a) (hm : m ≤ 2000) (hi2 : i ≤ 2000) (r : List (List Int))
    (hr : Ev (fun k => spec_l01Table.l1 k vs hs (m : Int) (rowS X v h m :: T) ((i : Int) - 1)) r) :
    ∀ d a (x : List Int), m + 1 - a = d → a ≤ m + 1 → x.length = m + 1 → (∀ j, j < a → x.getD j 0 = (rowS X v h m).getD j 0) → Ev (fun k => spec_l01Table.l2 k vs hs (m : Int) T (i : Int) x (a : Int)) r := by
  intro d
  induction d with
  | zero =>
    intro a x hd ha hx hj
    have e : x = rowS X v h m := list_ext _ _ (by rw [hx, rowS_len]) (fun j h => by rw [rowS_len] at h; exact hj j (by omega))
    refine Ev.step (fun k => ?_) hr
    rw [spec_l01Table.l2, if_neg (by omega), Option.bind_some, if_pos (by simp; omega), w64 (x := (i : Int) - 1) (by omega) (by omega), e]
    rfl
  | succ d ih =>
    intro a x hd ha hx hj
    refine Ev.step (f := fun k => spec_l01Table.l3 k vs hs (m : Int) T (i : Int) (x.set a (-1)) (a : Int) ((0 : Nat) : Int)) (fun k => ?_) (st_l3 vs hs m i v h hi hl hv v1 v5 hh h2 T X hT hT0 hX hXb hm a (by omega) r _ 0 (x.set a (-1)) rfl (Nat.zero_le _) (by simpa using hx) (by rw [getD_set _ _ _ _ (by omega), if_pos rfl]; rfl) ?_)
    · rw [spec_l01Table.l2, if_pos (by omega), if_pos (by omega), if_pos (by omega), Int.toNat_natCast]; rfl
    · rw [List.set_set]
      refine ih (a + 1) _ (by omega) (by omega) (by simpa using hx) (fun j hj' => ?_)
      rw [getD_set _ _ _ _ (by omega)]
      split
      · rename_i e; subst e; rw [rowS_at _ _ _ _ _ (by omega)]
      · exact hj j (by omega)
theorem st_l1 {vs hs : List Int} {m : Nat} {B : Nat → Nat} (q : Kinds vs hs m B) (hn : vs.length ≤ 1000) (hm : m ≤ 2000) : ∀ d k (T : List (List Int)), vs.length - k = d → k ≤ vs.length → T.length = k + 1 → (∀ j, j ≤ k → T.getD j [] = headS vs hs m (k - j)) →
    ∃ U, Ev (fun K => spec_l01Table.l1 K vs hs (m : Int) T ((vs.length : Int) - 1 - (k : Int))) U ∧ U.length = vs.length + 1 ∧ ∀ j, j ≤ vs.length → U.getD j [] = headS vs hs m (vs.length - j) := by
  intro d
  induction d with
  | zero =>
    intro k T hd hk hT hj
    obtain rfl : k = vs.length := by omega
    refine ⟨T, Ev.step (f := fun _ => some T) (fun K => ?_) (Ev.now _), hT, hj⟩
    rw [spec_l01Table.l1, if_neg (by omega)]
  | succ d ih =>
    intro k T hd hk hT hj
    have hval := q.val (vs.length - 1 - k) (by omega)
    have hhav := q.hav (vs.length - 1 - k) (by omega)
    have hT0 : T.getD 0 [] = headS vs hs m k := by rw [hj 0 (by omega)]; rfl
    have hXb : ∀ a, a ≤ m → (headS vs hs m k).getD a 0 ≤ a := fun a ha => by
      rcases relHead q k (by omega) a ha with ⟨e, _⟩ | ⟨_, e, _⟩ <;> omega
    obtain ⟨U, u1, u2, u3⟩ := ih (k + 1) (headS vs hs m (k + 1) :: T) (by omega) (by omega) (by simp [hT]) (fun j hj' => by
      cases j with
      | zero => rfl
      | succ j => rw [List.getD_cons_succ, hj j (by omega), show k + 1 - (j + 1) = k - j by omega])
    refine ⟨U, ?_, u2, u3⟩
    have hi : (vs.length : Int) - 1 - (k : Int) = ((vs.length - 1 - k : Nat) : Int) := by omega
    have hi2 : (vs.length : Int) - 1 - ((k + 1 : Nat) : Int) = ((vs.length - 1 - k : Nat) : Int) - 1 := by omega
    rw [hi2] at u1
    refine Ev.step (f := fun K => spec_l01Table.l2 K vs hs (m : Int) T ((vs.length - 1 - k : Nat) : Int) (List.replicate (m + 1) 0) ((0 : Nat) : Int)) (fun K => ?_) (st_l2 vs hs m (vs.length - 1 - k) (vs.getD (vs.length - 1 - k) 0).toNat (hs.getD (vs.length - 1 - k) 0).toNat (by omega) q.len (by omega) (by omega) (by omega) (by omega) (by omega) T _ hT0 (by omega) (by omega) (headS_len _ _ _ _) hXb hm (by omega) U u1 _ 0 _ rfl (Nat.zero_le _) (by simp) (fun j h => absurd h (Nat.not_lt_zero _)))
    rw [hi, spec_l01Table.l1, if_pos (by omega), w64 (x := (m : Int) + 1) (by omega) (by omega), if_pos (by omega), show ((m : Int) + 1).toNat = m + 1 by omega, if_pos (by omega)]
    rfl
theorem st_l0 {vs hs : List Int} {m : Nat} {B : Nat → Nat} (q : Kinds vs hs m B) (hn : vs.length ≤ 1000) (hm : m ≤ 2000) : ∀ d a (x : List Int), m + 1 - a = d → 1 ≤ a → a ≤ m + 1 → x.length = m + 1 → x.getD 0 0 = 0 → (∀ j, 1 ≤ j → j < a → x.getD j 0 = -1) →
    ∃ U, Ev (fun K => spec_l01Table.l0 K vs hs (m : Int) (vs.length : Int) x (a : Int)) U ∧ U.length = vs.length + 1 ∧ ∀ j, j ≤ vs.length → U.getD j [] = headS vs hs m (vs.length - j) := by
  intro d
  induction d with
  | zero =>
    intro a x hd h1 ha hx h0 hj
    have e : x = headS vs hs m 0 := list_ext _ _ (by rw [hx, headS_len]) (fun j h => by
      rw [headS_len] at h
      rw [headS, getD_range _ _ _ _ h]
      by_cases e : j = 0
      · rw [if_pos e, e, h0]
      · rw [if_neg e, hj j (by omega) (by omega)])
    obtain ⟨U, u1, u2, u3⟩ := st_l1 q hn hm _ 0 [x] rfl (Nat.zero_le _) rfl (fun j hj' => by obtain rfl : j = 0 := (by omega); exact e)
    refine ⟨U, Ev.step (fun K => ?_) u1, u2, u3⟩
    rw [spec_l01Table.l0, if_neg (by omega), w64 (x := (vs.length : Int) - 1) (by omega) (by omega), show (vs.length : Int) - 1 - ((0 : Nat) : Int) = (vs.length : Int) - 1 by omega]
  | succ d ih =>
    intro a x hd h1 ha hx h0 hj
    obtain ⟨U, u1, u2, u3⟩ := ih (a + 1) (x.set a (-1)) (by omega) (by omega) (by omega) (by simpa using hx) (by rw [getD_set _ _ _ _ (by omega), if_neg (by omega)]; exact h0) (fun j j1 j2 => by
      rw [getD_set _ _ _ _ (by omega)]
      split
      · rfl
      · exact hj j j1 (by omega))
    refine ⟨U, Ev.step (fun K => ?_) u1, u2, u3⟩
    rw [spec_l01Table.l0, if_pos (by omega), if_pos (by omega), if_pos (by omega), wN a (by omega), Int.toNat_natCast]
theorem tableS {vs hs : List Int} {m : Nat} {B : Nat → Nat} (q : Kinds vs hs m B) (hn : vs.length ≤ 1000) (hm : m ≤ 2000) :
    ∃ U, Ev (fun K => spec_l01Table.f K vs hs (m : Int)) U ∧ U.length = vs.length + 1 ∧ ∀ j, j ≤ vs.length → U.getD j [] = headS vs hs m (vs.length - j) := by
  obtain ⟨U, u1, u2, u3⟩ := st_l0 q hn hm _ 1 (List.replicate (m + 1) 0) rfl (Nat.le_refl _) (by omega) (by simp) (getD_rep _ _ _ (by omega)) (fun j h1 h2 => by omega)
  refine ⟨U, Ev.congr (fun K => ?_) u1, u2, u3⟩
  rw [spec_l01Table.f, w64 (x := (m : Int) + 1) (by omega) (by omega), if_pos (by omega), show ((m : Int) + 1).toNat = m + 1 by omega, if_pos (by omega)]
  rfl

end Go.Proofs.Ytnhcdfikjfjkoaa.Pure

namespace Go.Proofs.Ytnhcdfikjfjkoaa.Pure
open Go.RowKit Go.Proofs.Ytnhcdfikjfjkoaa.P Go.Proofs.YtnhcdfikjfjkoaaW.PrintWords Go.Proofs.YtnhcdfikjfjkoaaW.PrintLast
set_option linter.unusedVariables false
set_option linter.unusedSimpArgs false

theorem setI_at (x : List (List S77)) (i : Nat) (c : List S77) (h : i < x.length) : (x.set i c).getD i [] = c := by rw [getD_setG [] _ _ _ _ h, if_pos rfl]
theorem setI_ne (x : List (List S77)) (i j : Nat) (c : List S77) (h : i < x.length) (hn : i ≠ j) : (x.set i c).getD j [] = x.getD j [] := by rw [getD_setG [] _ _ _ _ h, if_neg hn]
theorem set_selfI (c : List S77) (a : Nat) (e : S77) (h : c.getD a z77 = e) (ha : a < c.length) : c.set a e = c := by
  refine list_extG z77 _ _ (by simp) (fun j hj => ?_)
  rw [getD_setG z77 _ _ _ _ ha]
  split
  · rename_i q; subst q; exact h.symm
  · rfl
theorem it_l2 {B B' m : Nat} {X : List Int} {Y : List S77} (hR : RelRow B m X Y) (vs hs : List Int) (i v h : Nat) (hi : i < vs.length) (hn : vs.length ≤ 1000) (hl : hs.length = vs.length) (hv : vs.getD i 0 = (v : Int)) (v1 : 1 ≤ v) (v5 : v ≤ 500) (hh : hs.getD i 0 = (h : Int)) (h2 : h ≤ 2000000000000)
    (hB : ∀ a, a ≤ m → nk v h a * B ≤ B') (hBB : B' ≤ 4000000000000000000) (x0 : List (List S77)) (hx0 : x0.length = vs.length + 1) (hY : x0.getD (i + 1) [] = Y) (hYl : Y.length = m + 1) (hm : m ≤ 2000) (a : Nat) (ha : a ≤ m) (r : List (List S77)) :
    ∀ d K (c : List S77), nk v h a - K = d → K ≤ nk v h a → c.length = m + 1 → c.getD a z77 = ⟨wk Y v a K, lk Y v a K⟩ →
      Ev (fun k => impl_purse_table.l1 k (m : Int) (x0.set i (c.set a ⟨wk Y v a (nk v h a), lk Y v a (nk v h a)⟩)) (i : Int) ((m + 1 : Nat) : Int) ((a + 1 : Nat) : Int) vs hs) r →
      Ev (fun k => impl_purse_table.l2 k (m : Int) (x0.set i c) (i : Int) (a : Int) (K : Int) ((m + 1 : Nat) : Int) (a : Int) vs hs) r := by
  intro d
  induction d with
  | zero =>
    intro K c hd hK hc hca hr
    obtain rfl : K = nk v h a := by omega
    have hb := nk_le v1 (Nat.le_refl (nk v h a))
    have hnot : ¬ (nk v h a ≤ h ∧ nk v h a * v ≤ a) := fun c => by have := (nk_lt v1).2 c; omega
    rw [set_selfI c a _ hca (by omega)] at hr
    refine Ev.step (f := fun k => impl_purse_table.j3 k (m : Int) (x0.set i c) (i : Int) (a : Int) ((nk v h a : Nat) : Int) ((m + 1 : Nat) : Int) (a : Int) false vs hs) (fun k => ?_) (Ev.step (fun k => ?_) hr)
    · rw [impl_purse_table.l2, if_pos (by omega), if_pos (by omega), rdN, hh]
      by_cases c : ((nk v h a : Nat) : Int) ≤ (h : Int)
      · rw [if_pos c, if_pos (by omega), rdN, hv, mulC, w64 (by omega) (by omega), decide_eq_false (by omega)]
      · rw [if_neg c]
    · rw [impl_purse_table.j3, if_neg (by simp), wN a (by omega)]
  | succ d ih =>
    intro K c hd hK hc hca hr
    obtain ⟨c1, c2⟩ := (nk_lt (h := h) (a := a) (K := K) v1).1 (by omega)
    have hKv : K ≤ K * v := Nat.le_mul_of_pos_right K v1
    have hidx : (a : Int) - ((K * v : Nat) : Int) = ((a - K * v : Nat) : Int) := by omega
    have hrel := relK hR v h a v1 ha K (by omega)
    have hrel1 := relK hR v h a v1 ha (K + 1) (by omega)
    have hKB : (K + 1) * B ≤ B' := Nat.le_trans (Nat.mul_le_mul_right B (by omega)) (hB a ha)
    have hKB0 : K * B ≤ B' := Nat.le_trans (Nat.mul_le_mul_right B (by omega)) (hB a ha)
    have he := hR (a - K * v) (by omega)
    have hxl : (x0.set i c).length = vs.length + 1 := by rw [List.length_set]; exact hx0
    have hci : (x0.set i c).getD i [] = c := setI_at x0 i c (by omega)
    have hcY : (x0.set i c).getD (i + 1) [] = Y := by rw [setI_ne x0 i (i + 1) c (by omega) (by omega)]; exact hY
    have e1 : ∀ k, impl_purse_table.l2 (k + 1) (m : Int) (x0.set i c) (i : Int) (a : Int) (K : Int) ((m + 1 : Nat) : Int) (a : Int) vs hs = impl_purse_table.j3 k (m : Int) (x0.set i c) (i : Int) (a : Int) (K : Int) ((m + 1 : Nat) : Int) (a : Int) true vs hs := fun k => by
      rw [impl_purse_table.l2, if_pos (by omega), if_pos (by omega), rdN, hh, if_pos (by omega), if_pos (by omega), rdN, hv, mulC, w64 (by omega) (by omega), decide_eq_true (by omega)]
    refine Ev.step (f := fun k => impl_purse_table.j3 k (m : Int) (x0.set i c) (i : Int) (a : Int) (K : Int) ((m + 1 : Nat) : Int) (a : Int) true vs hs) e1 ?_
    have e2 : ∀ k, impl_purse_table.j3 (k + 1) (m : Int) (x0.set i c) (i : Int) (a : Int) (K : Int) ((m + 1 : Nat) : Int) (a : Int) true vs hs = (if (Y.getD (a - K * v) z77).f0 = 0 then impl_purse_table.l2 k (m : Int) (x0.set i c) (i : Int) (a : Int) ((K + 1 : Nat) : Int) ((m + 1 : Nat) : Int) (a : Int) vs hs else (if wk Y v a K = 0 then impl_purse_table.j4 k (m : Int) (x0.set i c) (i : Int) (a : Int) (K : Int) ((m + 1 : Nat) : Int) (a : Int) true vs hs (Y.getD (a - K * v) z77).f0 (Y.getD (a - K * v) z77).f1 else impl_purse_table.j4 k (m : Int) (x0.set i c) (i : Int) (a : Int) (K : Int) ((m + 1 : Nat) : Int) (a : Int) (decide (wrap64 ((Y.getD (a - K * v) z77).f1 + (K : Int)) < lk Y v a K)) vs hs (Y.getD (a - K * v) z77).f0 (Y.getD (a - K * v) z77).f1)) := fun k => by
      rw [impl_purse_table.j3, if_pos rfl, wN i (by omega), if_pos (by omega), if_pos (by omega), if_pos (by omega), if_pos (by omega), rdN, hv, mulC, w64 (x := ((K * v : Nat) : Int)) (by omega) (by omega), hidx, w64 (x := ((a - K * v : Nat) : Int)) (by omega) (by omega),
        rdL7, hcY, if_pos (by omega), if_pos (by omega), rdP, wN K (by omega), if_pos (show (i : Int) < ((x0.set i c).length : Int) by omega), if_pos (show (0 : Int) ≤ (a : Int) by omega), rdL7, hci, if_pos (show (a : Int) < (c.length : Int) by omega), rdP, hca]
    have go : ∀ c' : List S77, c'.length = m + 1 → c'.getD a z77 = ⟨wk Y v a (K + 1), lk Y v a (K + 1)⟩ → c'.set a ⟨wk Y v a (nk v h a), lk Y v a (nk v h a)⟩ = c.set a ⟨wk Y v a (nk v h a), lk Y v a (nk v h a)⟩ → Ev (fun k => impl_purse_table.l2 k (m : Int) (x0.set i c') (i : Int) (a : Int) ((K + 1 : Nat) : Int) ((m + 1 : Nat) : Int) (a : Int) vs hs) r := fun c' g1 g2 g3 =>
      ih (K + 1) c' (by omega) (by omega) g1 g2 (by rw [g3]; exact hr)
    have j4t : ∀ (l : Int) k, wrap64 ((Y.getD (a - K * v) z77).f1 + (K : Int)) = l → impl_purse_table.j4 (k + 1) (m : Int) (x0.set i c) (i : Int) (a : Int) (K : Int) ((m + 1 : Nat) : Int) (a : Int) true vs hs (Y.getD (a - K * v) z77).f0 (Y.getD (a - K * v) z77).f1 =
        impl_purse_table.l2 k (m : Int) (x0.set i (c.set a ⟨wrap64 (wk Y v a K + (Y.getD (a - K * v) z77).f0), l⟩)) (i : Int) (a : Int) ((K + 1 : Nat) : Int) ((m + 1 : Nat) : Int) (a : Int) vs hs := fun l k hlw => by
      rw [impl_purse_table.j4, if_pos rfl, if_pos (by omega), if_pos (by omega), if_pos (show (0 : Int) ≤ (a : Int) by omega), rdL7, hci, if_pos (show (a : Int) < (c.length : Int) by omega), rdP, hca, Option.bind_some, Int.toNat_natCast, Int.toNat_natCast, List.set_set, rdL7, setI_at x0 i _ (by omega), if_pos (by rw [List.length_set]; omega), rdP, getD_setG z77 _ _ _ _ (by omega), if_pos rfl, List.set_set, List.set_set, wN K (by omega), hlw]
    have j4f : ∀ k, impl_purse_table.j4 (k + 1) (m : Int) (x0.set i c) (i : Int) (a : Int) (K : Int) ((m + 1 : Nat) : Int) (a : Int) false vs hs (Y.getD (a - K * v) z77).f0 (Y.getD (a - K * v) z77).f1 =
        impl_purse_table.l2 k (m : Int) (x0.set i (c.set a ⟨wrap64 (wk Y v a K + (Y.getD (a - K * v) z77).f0), lk Y v a K⟩)) (i : Int) (a : Int) ((K + 1 : Nat) : Int) ((m + 1 : Nat) : Int) (a : Int) vs hs := fun k => by
      rw [impl_purse_table.j4, if_neg (by simp), if_pos (by omega), if_pos (by omega), if_pos (show (0 : Int) ≤ (a : Int) by omega), rdL7, hci, if_pos (show (a : Int) < (c.length : Int) by omega), rdP, hca, Int.toNat_natCast, Int.toNat_natCast, List.set_set, wN K (by omega)]
    have hwk : wk Y v a (K + 1) = wk Y v a K + (Y.getD (a - K * v) z77).f0 := rfl
    have hww : wrap64 (wk Y v a K + (Y.getD (a - K * v) z77).f0) = wk Y v a (K + 1) := by
      rw [hwk]
      rw [hwk] at hrel1
      apply w64 <;> omega
    rw [hww] at j4t j4f
    unfold RelE at he
    by_cases q1 : (Y.getD (a - K * v) z77).f0 = 0
    · refine Ev.step (fun k => ?_) (go c hc (by rw [hca, hwk, q1, Int.add_zero, lk, if_neg (fun q => q.1 q1)]) rfl)
      rw [e2, if_pos q1]
    · have hf1 : 0 ≤ (Y.getD (a - K * v) z77).f1 ∧ (Y.getD (a - K * v) z77).f1 ≤ 2000 := by omega
      have hw : wrap64 ((Y.getD (a - K * v) z77).f1 + (K : Int)) = (Y.getD (a - K * v) z77).f1 + (K : Int) := w64 (by omega) (by omega)
      have ge : ∀ l, l = lk Y v a (K + 1) → Ev (fun k => impl_purse_table.l2 k (m : Int) (x0.set i (c.set a ⟨wk Y v a (K + 1), l⟩)) (i : Int) (a : Int) ((K + 1 : Nat) : Int) ((m + 1 : Nat) : Int) (a : Int) vs hs) r := fun l hl' =>
        go (c.set a ⟨wk Y v a (K + 1), l⟩) (by simpa using hc) (by rw [getD_setG z77 _ _ _ _ (by omega), if_pos rfl, hl']) (by rw [List.set_set])
      by_cases q2 : wk Y v a K = 0
      · refine Ev.step (f := fun k => impl_purse_table.j4 k (m : Int) (x0.set i c) (i : Int) (a : Int) (K : Int) ((m + 1 : Nat) : Int) (a : Int) true vs hs (Y.getD (a - K * v) z77).f0 (Y.getD (a - K * v) z77).f1) (fun k => by rw [e2, if_neg q1, if_pos q2]) ?_
        exact Ev.step (fun k => j4t _ k hw) (ge _ (by rw [lk, if_pos ⟨q1, Or.inl q2⟩]))
      · by_cases q3 : (Y.getD (a - K * v) z77).f1 + (K : Int) < lk Y v a K
        · refine Ev.step (f := fun k => impl_purse_table.j4 k (m : Int) (x0.set i c) (i : Int) (a : Int) (K : Int) ((m + 1 : Nat) : Int) (a : Int) true vs hs (Y.getD (a - K * v) z77).f0 (Y.getD (a - K * v) z77).f1) (fun k => by rw [e2, if_neg q1, if_neg q2, hw, decide_eq_true q3]) ?_
          exact Ev.step (fun k => j4t _ k hw) (ge _ (by rw [lk, if_pos ⟨q1, Or.inr q3⟩]))
        · refine Ev.step (f := fun k => impl_purse_table.j4 k (m : Int) (x0.set i c) (i : Int) (a : Int) (K : Int) ((m + 1 : Nat) : Int) (a : Int) false vs hs (Y.getD (a - K * v) z77).f0 (Y.getD (a - K * v) z77).f1) (fun k => by rw [e2, if_neg q1, if_neg q2, hw, decide_eq_false q3]) ?_
          exact Ev.step (fun k => j4f k) (ge _ (by rw [lk, if_neg (fun q => q.2.elim q2 q3)]))
theorem rowI_at (Y : List S77) (v h m a : Nat) (ha : a ≤ m) : (rowI Y v h m).getD a z77 = ⟨wk Y v a (nk v h a), lk Y v a (nk v h a)⟩ := by unfold rowI; rw [getD_range _ _ _ _ (by omega)]
theorem rowI_len (Y : List S77) (v h m : Nat) : (rowI Y v h m).length = m + 1 := by simp [rowI]
theorem it_l1 {B B' m : Nat} {X : List Int} {Y : List S77} (hR : RelRow B m X Y) (vs hs : List Int) (i v h : Nat) (hi : i < vs.length) (hn : vs.length ≤ 1000) (hl : hs.length = vs.length) (hv : vs.getD i 0 = (v : Int)) (v1 : 1 ≤ v) (v5 : v ≤ 500) (hh : hs.getD i 0 = (h : Int)) (h2 : h ≤ 2000000000000)
    (hB : ∀ a, a ≤ m → nk v h a * B ≤ B') (hBB : B' ≤ 4000000000000000000) (x0 : List (List S77)) (hx0 : x0.length = vs.length + 1) (hY : x0.getD (i + 1) [] = Y) (hYl : Y.length = m + 1) (hm : m ≤ 2000) (r : List (List S77))
    (hr : Ev (fun k => impl_purse_table.l0 k (m : Int) (x0.set i (rowI Y v h m)) ((i : Int) - 1) vs hs) r) :
    ∀ d a (c : List S77), m + 1 - a = d → a ≤ m + 1 → c.length = m + 1 → (∀ j, j < a → c.getD j z77 = (rowI Y v h m).getD j z77) → (∀ j, a ≤ j → j ≤ m → c.getD j z77 = z77) →
      Ev (fun k => impl_purse_table.l1 k (m : Int) (x0.set i c) (i : Int) ((m + 1 : Nat) : Int) (a : Int) vs hs) r := by
  intro d
  induction d with
  | zero =>
    intro a c hd ha hc hj hz
    have e : c = rowI Y v h m := list_extG z77 _ _ (by rw [hc, rowI_len]) (fun j h => by rw [rowI_len] at h; exact hj j (by omega))
    refine Ev.step (fun k => ?_) hr
    rw [impl_purse_table.l1, if_neg (by omega), w64 (x := (i : Int) - 1) (by omega) (by omega), e]
  | succ d ih =>
    intro a c hd ha hc hj hz
    refine Ev.step (f := fun k => impl_purse_table.l2 k (m : Int) (x0.set i c) (i : Int) (a : Int) ((0 : Nat) : Int) ((m + 1 : Nat) : Int) (a : Int) vs hs) (fun k => ?_)
      (it_l2 hR vs hs i v h hi hn hl hv v1 v5 hh h2 hB hBB x0 hx0 hY hYl hm a (by omega) r _ 0 c rfl (Nat.zero_le _) hc (by rw [hz a (Nat.le_refl _) (by omega)]; rfl) (ih (a + 1) _ (by omega) (by omega) (by simpa using hc) (fun j hj' => ?_) (fun j j1 j2 => ?_)))
    · rw [impl_purse_table.l1, if_pos (by omega)]; rfl
    · rw [getD_setG z77 _ _ _ _ (by omega)]
      split
      · rename_i e; subst e; rw [rowI_at _ _ _ _ _ (by omega)]
      · exact hj j (by omega)
    · rw [getD_setG z77 _ _ _ _ (by omega), if_neg (by omega)]; exact hz j (by omega) j2
theorem rep_z (n j : Nat) (h : j < n) : (List.replicate n z77).getD j z77 = z77 := by simp [List.getD_eq_getElem?_getD, h]
theorem it_l0 {vs hs : List Int} {m : Nat} {B : Nat → Nat} (q : Kinds vs hs m B) (hn : vs.length ≤ 1000) (hm : m ≤ 2000) : ∀ d k (x0 : List (List S77)), vs.length - k = d → k ≤ vs.length → x0.length = vs.length + 1 → (∀ j, vs.length - k ≤ j → j ≤ vs.length → x0.getD j [] = headI vs hs m (vs.length - j)) →
    ∃ U, Ev (fun K => impl_purse_table.l0 K (m : Int) x0 ((vs.length : Int) - 1 - (k : Int)) vs hs) U ∧ U.length = vs.length + 1 ∧ ∀ j, j ≤ vs.length → U.getD j [] = headI vs hs m (vs.length - j) := by
  intro d
  induction d with
  | zero =>
    intro k x0 hd hk hx hj
    obtain rfl : k = vs.length := by omega
    refine ⟨x0, Ev.step (f := fun _ => some x0) (fun K => ?_) (Ev.now _), hx, fun j h => hj j (by omega) h⟩
    rw [impl_purse_table.l0, if_neg (by omega)]
  | succ d ih =>
    intro k x0 hd hk hx hj
    have hval := q.val (vs.length - 1 - k) (by omega)
    have hhav := q.hav (vs.length - 1 - k) (by omega)
    have hY : x0.getD (vs.length - 1 - k + 1) [] = headI vs hs m k := by rw [show vs.length - 1 - k + 1 = vs.length - k by omega, hj _ (Nat.le_refl _) (by omega), show vs.length - (vs.length - k) = k by omega]
    obtain ⟨U, u1, u2, u3⟩ := ih (k + 1) (x0.set (vs.length - 1 - k) (headI vs hs m (k + 1))) (by omega) (by omega) (by simpa using hx) (fun j j1 j2 => by
      by_cases e : vs.length - 1 - k = j
      · subst e
        rw [setI_at _ _ _ (by omega), show vs.length - (vs.length - 1 - k) = k + 1 by omega]
      · rw [setI_ne _ _ _ _ (by omega) e]; exact hj j (by omega) j2)
    refine ⟨U, ?_, u2, u3⟩
    have hi : (vs.length : Int) - 1 - (k : Int) = ((vs.length - 1 - k : Nat) : Int) := by omega
    have hi2 : (vs.length : Int) - 1 - ((k + 1 : Nat) : Int) = ((vs.length - 1 - k : Nat) : Int) - 1 := by omega
    rw [hi2] at u1
    refine Ev.step (f := fun K => impl_purse_table.l1 K (m : Int) (x0.set (vs.length - 1 - k) (List.replicate (m + 1) z77)) ((vs.length - 1 - k : Nat) : Int) ((m + 1 : Nat) : Int) ((0 : Nat) : Int) vs hs) (fun K => ?_)
      (it_l1 (relHead q k (by omega)) vs hs (vs.length - 1 - k) (vs.getD (vs.length - 1 - k) 0).toNat (hs.getD (vs.length - 1 - k) 0).toNat (by omega) hn q.len (by omega) (by omega) (by omega) (by omega) (by omega) (q.bs k (by omega)) (q.bb (k + 1) (by omega)) x0 hx hY (headI_len _ _ _ _) hm U u1 _ 0 _ rfl (Nat.zero_le _) (by simp) (fun j h => absurd h (Nat.not_lt_zero _)) (fun j _ h => rep_z _ _ (by omega)))
    rw [hi, impl_purse_table.l0, if_pos (by omega), w64 (x := (m : Int) + 1) (by omega) (by omega), if_pos (by omega), show ((m : Int) + 1).toNat = m + 1 by omega, if_pos (by omega), if_pos (by omega), if_pos (by omega), Option.bind_some, if_neg (by omega), Int.toNat_natCast]
    rfl
theorem tableI {vs hs : List Int} {m : Nat} {B : Nat → Nat} (q : Kinds vs hs m B) (hn : vs.length ≤ 1000) (hm : m ≤ 2000) :
    ∃ U, Ev (fun K => impl_purse_table.f K vs hs (m : Int)) U ∧ U.length = vs.length + 1 ∧ ∀ j, j ≤ vs.length → U.getD j [] = headI vs hs m (vs.length - j) := by
  have e0 : (List.replicate (m + 1) z77).set 0 (⟨1, 0⟩ : S77) = headI vs hs m 0 := list_extG z77 _ _ (by simp [headI]) (fun j h => by
    rw [headI_len] at h
    rw [getD_setG z77 _ _ _ _ (by simp), headI, getD_range _ _ _ _ h]
    by_cases e : j = 0
    · rw [if_pos e.symm, if_pos e]
    · rw [if_neg (fun q => e q.symm), if_neg e, rep_z _ _ h]; rfl)
  obtain ⟨U, u1, u2, u3⟩ := it_l0 q hn hm _ 0 ((List.replicate (vs.length + 1) ([] : List S77)).set vs.length (headI vs hs m 0)) rfl (Nat.zero_le _) (by simp) (fun j j1 j2 => by
    obtain rfl : j = vs.length := by omega
    rw [setI_at _ _ _ (by simp), Nat.sub_self])
  refine ⟨U, Ev.congr (f := fun K => impl_purse_table.l0 K (m : Int) (List.replicate (vs.length + 1) []) (vs.length : Int) vs hs) (fun K => ?_) (Ev.step (fun K => ?_) u1), u2, u3⟩
  · rw [impl_purse_table.f, w64 (x := (vs.length : Int) + 1) (by omega) (by omega), if_pos (by omega), show ((vs.length : Int) + 1).toNat = vs.length + 1 by omega, if_pos (by omega)]
  · rw [impl_purse_table.l0, if_pos (by omega), w64 (x := (m : Int) + 1) (by omega) (by omega), if_pos (by omega), show ((m : Int) + 1).toNat = m + 1 by omega, if_pos (by omega), if_pos (by omega), if_pos (by simp <;> omega), Option.bind_some, if_pos rfl, Int.toNat_natCast, rdL7, setI_at _ _ _ (by simp), if_pos (by simp <;> omega), List.set_set, Int.toNat_zero, e0, w64 (x := (vs.length : Int) - 1) (by omega) (by omega), show (vs.length : Int) - 1 - ((0 : Nat) : Int) = (vs.length : Int) - 1 by omega]

end Go.Proofs.Ytnhcdfikjfjkoaa.Pure

namespace Go.Proofs.Ytnhcdfikjfjkoaa.Pure
open Go.RowKit Go.Proofs.Ytnhcdfikjfjkoaa.P Go.Proofs.YtnhcdfikjfjkoaaW.PrintWords Go.Proofs.YtnhcdfikjfjkoaaW.PrintLast
set_option linter.unusedVariables false
set_option linter.unusedSimpArgs false

theorem least_of (P : Nat → Prop) : ∀ n, P n → ∃ k, k ≤ n ∧ P k ∧ ∀ j, j < k → ¬ P j := by
  intro n
  induction n using Nat.strongRecOn with
  | ind n ih =>
    intro h
    by_cases c : ∃ j, j < n ∧ P j
    · obtain ⟨j, h1, h2⟩ := c
      obtain ⟨k, k1, k2, k3⟩ := ih j h1 h2
      exact ⟨k, by omega, k2, k3⟩
    · exact ⟨n, Nat.le_refl _, h, fun j hj hp => c ⟨j, hj, hp⟩⟩
theorem snoc_at (l : List Int) (x : Int) (j : Nat) : (l ++ [x]).getD j 0 = if j < l.length then l.getD j 0 else if j = l.length then x else 0 := by
  simp only [List.getD_eq_getElem?_getD, List.getElem?_append]
  split
  · rfl
  · split
    · rename_i e; subst e; simp
    · rename_i h1 h2
      rw [List.getElem?_eq_none (by simp; omega)]; rfl
theorem cnt {vs hs : List Int} {m : Nat} {B : Nat → Nat} (q : Kinds vs hs m B) (hn : vs.length ≤ 1000) (hm : m ≤ 2000) (T : List (List Int)) (U : List (List S77)) (hT : T.length = vs.length + 1) (hU : U.length = vs.length + 1)
    (hTj : ∀ j, j ≤ vs.length → T.getD j [] = headS vs hs m (vs.length - j)) (hUj : ∀ j, j ≤ vs.length → U.getD j [] = headI vs hs m (vs.length - j)) : ∀ d i a (out : List Int), vs.length - i = d → i ≤ vs.length → a ≤ m → out.length = i → (∀ j, j < i → 0 ≤ out.getD j 0 ∧ out.getD j 0 ≤ hs.getD j 0) → 0 ≤ (headS vs hs m (vs.length - i)).getD a 0 →
    ∃ r, (r.length = vs.length ∧ ∀ j, j < vs.length → 0 ≤ r.getD j 0 ∧ r.getD j 0 ≤ hs.getD j 0) ∧ Ev (fun k => spec_l01Counts.l0 k T vs (a : Int) out (i : Int)) r ∧ Ev (fun k => impl_purse_counts.l0 k U (a : Int) out ((headS vs hs m (vs.length - i)).getD a 0) vs (vs.length : Int) (i : Int)) r := by
  intro d
  induction d with
  | zero =>
    intro i a out hd hi ha ho hob hx
    obtain rfl : i = vs.length := by omega
    refine ⟨out, ⟨ho, hob⟩, Ev.step (f := fun _ => some out) (fun k => ?_) (Ev.now _), Ev.step (f := fun _ => some out) (fun k => ?_) (Ev.now _)⟩
    · rw [spec_l01Counts.l0, if_neg (by omega)]
    · rw [impl_purse_counts.l0, if_neg (by omega)]
  | succ d ih =>
    intro i a out hd hi ha ho hob hx
    have hval := q.val i (by omega)
    have hhav := q.hav i (by omega)
    obtain ⟨v, hv⟩ := Int.eq_ofNat_of_zero_le (show 0 ≤ vs.getD i 0 by omega)
    obtain ⟨h, hh⟩ := Int.eq_ofNat_of_zero_le (show 0 ≤ hs.getD i 0 by omega)
    have v1 : 1 ≤ v := by omega
    have hTi := hTj i hi
    have hTi1 := hTj (i + 1) (by omega)
    have hUi1 := hUj (i + 1) (by omega)
    have hR := relHead q (vs.length - (i + 1)) (by omega)
    have hXl := headS_len vs hs m (vs.length - (i + 1))
    have hYl := headI_len vs hs m (vs.length - (i + 1))
    have hZl := headS_len vs hs m (vs.length - i)
    have hstep : headS vs hs m (vs.length - i) = rowS (headS vs hs m (vs.length - (i + 1))) v h m := by
      rw [show vs.length - i = (vs.length - (i + 1)) + 1 by omega, headS, show vs.length - 1 - (vs.length - (i + 1)) = i by omega, hv, hh]; rfl
    obtain ⟨x, hxx⟩ : ∃ x, x = (headS vs hs m (vs.length - i)).getD a 0 := ⟨_, rfl⟩
    have hbk : x = bk (headS vs hs m (vs.length - (i + 1))) v a (nk v h a) := by rw [hxx, hstep, rowS_at _ _ _ _ _ ha]
    rw [← hxx] at hx ⊢
    have hih := ih (i + 1)
    generalize headS vs hs m (vs.length - (i + 1)) = X at *
    generalize headI vs hs m (vs.length - (i + 1)) = Y at *
    obtain ⟨j, j1, j2, j3⟩ := bk_found X v a (nk v h a) (by rw [← hbk]; exact hx)
    obtain ⟨K0, k1, ⟨k2, k3⟩, k4⟩ := least_of (fun j => 0 ≤ X.getD (a - j * v) 0 ∧ X.getD (a - j * v) 0 + (j : Int) = x) j ⟨j2, by rw [j3, hbk]⟩
    have hK0 : K0 * v ≤ a := ((nk_lt v1).1 (show K0 < nk v h a by omega)).2
    have hidx0 : (a : Int) - ((K0 * v : Nat) : Int) = ((a - K0 * v : Nat) : Int) := by omega
    have hKv0 : K0 ≤ K0 * v := Nat.le_mul_of_pos_right K0 v1
    have hxa : x ≤ 4000 := by
      have := hR (a - K0 * v) (by omega)
      unfold RelE at this
      omega
    obtain ⟨r, r1, r2, r3⟩ := hih (a - K0 * v) (out ++ [(K0 : Int)]) (by omega) (by omega) (by omega) (by simp [ho]) (fun j hj => by
      rw [snoc_at, ho]
      by_cases c : j < i
      · rw [if_pos c]; exact hob j c
      · obtain rfl : j = i := by omega
        rw [if_neg (by omega), if_pos rfl, hh]
        have := ((nk_lt (h := h) (a := a) (K := K0) v1).1 (show K0 < nk v h a by omega)).1
        omega) k2
    have key : ∀ e K, K0 - K = e → K ≤ K0 → Ev (fun k => spec_l01Counts.l1 k T vs (a : Int) out (i : Int) (K : Int)) r ∧ Ev (fun k => impl_purse_counts.l1 k U (a : Int) out x (i : Int) (v : Int) (K : Int) vs (vs.length : Int) (i : Int)) r := by
      intro e
      induction e with
      | zero =>
        intro K he hK
        obtain rfl : K = K0 := by omega
        refine ⟨Ev.step (fun k => ?_) r2, Ev.step (fun k => ?_) r3⟩
        · rw [spec_l01Counts.l1, if_pos (by omega), if_pos (by omega), rdN, hv, mulC, w64 (x := ((K * v : Nat) : Int)) (by omega) (by omega), if_neg (by omega), wN i (by omega), if_pos (by omega), if_pos (by omega), hidx0, w64 (x := ((a - K * v : Nat) : Int)) (by omega) (by omega), if_pos (by omega), rdL1, hTi1, if_pos (by omega), rdN, if_neg (by omega),
            if_pos (show (i : Int) < (T.length : Int) by omega), if_pos (show (0 : Int) ≤ (a : Int) by omega), rdL1, hTi, if_pos (by omega), rdN, ← hxx, k3, w64 (x := x) (by omega) (by omega), if_pos rfl, if_pos (by omega)]
        · have hE := hR (a - K * v) (by omega)
          unfold RelE at hE
          rw [impl_purse_counts.l1, wN i (by omega), if_pos (by omega), if_pos (by omega), mulC, w64 (x := ((K * v : Nat) : Int)) (by omega) (by omega), hidx0, w64 (x := ((a - K * v : Nat) : Int)) (by omega) (by omega), if_pos (by omega), rdL7, hUi1, if_pos (by omega), rdP, if_pos (by omega),
            show (Y.getD (a - K * v) z77).f1 + (K : Int) = x by omega, w64 (x := x) (by omega) (by omega), if_pos rfl, if_pos (by omega), w64 (x := x - (K : Int)) (by omega) (by omega), show x - (K : Int) = X.getD (a - K * v) 0 by omega]
      | succ e ih2 =>
        intro K he hK
        obtain ⟨g1, g2⟩ := ih2 (K + 1) (by omega) (by omega)
        have hKK : K * v ≤ K0 * v := Nat.mul_le_mul_right v (by omega)
        have hKv : K ≤ K * v := Nat.le_mul_of_pos_right K v1
        have hidx : (a : Int) - ((K * v : Nat) : Int) = ((a - K * v : Nat) : Int) := by omega
        have hno := k4 K (by omega)
        have hE := hR (a - K * v) (by omega)
        unfold RelE at hE
        refine ⟨Ev.step (fun k => ?_) g1, Ev.step (fun k => ?_) g2⟩
        · rw [spec_l01Counts.l1, if_pos (by omega), if_pos (by omega), rdN, hv, mulC, w64 (x := ((K * v : Nat) : Int)) (by omega) (by omega), if_neg (by omega), wN i (by omega), if_pos (by omega), if_pos (by omega), hidx, w64 (x := ((a - K * v : Nat) : Int)) (by omega) (by omega), if_pos (by omega), rdL1, hTi1, if_pos (by omega), rdN, wN K (by omega)]
          by_cases c : X.getD (a - K * v) 0 < 0
          · rw [if_pos c]
          · rw [if_neg c, if_pos (show (i : Int) < (T.length : Int) by omega), if_pos (show (0 : Int) ≤ (a : Int) by omega), rdL1, hTi, if_pos (by omega), rdN, ← hxx, w64 (x := X.getD (a - K * v) 0 + (K : Int)) (by omega) (by omega), if_neg (fun c2 => hno ⟨by omega, c2⟩)]
        · rw [impl_purse_counts.l1, wN i (by omega), if_pos (by omega), if_pos (by omega), mulC, w64 (x := ((K * v : Nat) : Int)) (by omega) (by omega), hidx, w64 (x := ((a - K * v : Nat) : Int)) (by omega) (by omega), if_pos (by omega), rdL7, hUi1, if_pos (by omega), rdP, wN K (by omega)]
          by_cases c : (Y.getD (a - K * v) z77).f0 > 0
          · rw [if_pos c, w64 (x := (Y.getD (a - K * v) z77).f1 + (K : Int)) (by omega) (by omega), if_neg (fun c2 => hno ⟨by omega, by omega⟩)]
          · rw [if_neg c]
    obtain ⟨g1, g2⟩ := key _ 0 rfl (Nat.zero_le _)
    refine ⟨r, r1, Ev.step (fun k => ?_) g1, Ev.step (fun k => ?_) g2⟩
    · rw [spec_l01Counts.l0, if_pos (by omega)]; rfl
    · rw [impl_purse_counts.l0, if_pos (by omega), if_pos (by omega), if_pos (by omega), rdN, hv]; rfl
/-- Both tables, with the same counts out of them. -/
theorem tables {vs hs : List Int} {m : Nat} {B : Nat → Nat} (q : Kinds vs hs m B) (hn : vs.length ≤ 1000) (hm : m ≤ 2000) : ∃ T U, Ev (fun k => spec_l01Table.f k vs hs (m : Int)) T ∧ Ev (fun k => impl_purse_table.f k vs hs (m : Int)) U ∧ 0 < T.length ∧ 0 < U.length ∧ (rd_L1 T 0).length = m + 1 ∧ (rd_L7 U 0).length = m + 1 ∧
    ∀ a, a ≤ m → -1 ≤ rd (rd_L1 T 0) (a : Int) ∧ rd (rd_L1 T 0) (a : Int) ≤ 2000 ∧ (rd (rd_L1 T 0) (a : Int) < 0 ↔ (rd_T77 (rd_L7 U 0) (a : Int)).f0 = 0) ∧ 0 ≤ (rd_T77 (rd_L7 U 0) (a : Int)).f0 ∧ (0 ≤ rd (rd_L1 T 0) (a : Int) → (rd_T77 (rd_L7 U 0) (a : Int)).f1 = rd (rd_L1 T 0) (a : Int) ∧
      ∃ r, (r.length = vs.length ∧ ∀ j, j < vs.length → 0 ≤ r.getD j 0 ∧ r.getD j 0 ≤ hs.getD j 0) ∧ Ev (fun k => spec_l01Counts.f k T vs (a : Int)) r ∧ Ev (fun k => impl_purse_counts.f k vs hs U (a : Int)) r) := by
  obtain ⟨T, t1, t2, t3⟩ := tableS q hn hm
  obtain ⟨U, u1, u2, u3⟩ := tableI q hn hm
  have hT0 := t3 0 (Nat.zero_le _)
  have hU0 := u3 0 (Nat.zero_le _)
  have eT : rd_L1 T 0 = headS vs hs m vs.length := hT0
  have eU : rd_L7 U 0 = headI vs hs m vs.length := hU0
  refine ⟨T, U, t1, u1, by omega, by omega, by rw [eT, headS_len], by rw [eU, headI_len], fun a ha => ?_⟩
  have hR := relHead q vs.length (Nat.le_refl _) a ha
  rw [eT, eU, rdN, rdP]
  unfold RelE at hR
  refine ⟨by omega, by omega, by omega, by omega, fun h0 => ⟨by omega, ?_⟩⟩
  obtain ⟨r, r1, r2, r3⟩ := cnt q hn hm T U t2 u2 t3 u3 _ 0 a [] rfl (Nat.zero_le _) ha rfl (fun j h => absurd h (Nat.not_lt_zero _)) h0
  refine ⟨r, r1, Ev.congr (fun k => ?_) r2, Ev.congr (fun k => ?_) r3⟩
  · rw [spec_l01Counts.f]; rfl
  · rw [impl_purse_counts.f, if_pos (by omega), if_pos (by omega), eU, if_pos (by rw [headI_len]; omega), rdP, show (headI vs hs m vs.length |>.getD a z77).f1 = (headS vs hs m vs.length).getD a 0 by omega]; rfl

end Go.Proofs.Ytnhcdfikjfjkoaa.Pure

namespace Go.Proofs.Ytnhcdfikjfjkoaa.P
open Go.RowKit Go.Proofs.YtnhcdfikjfjkoaaW.PrintWords Go.Proofs.YtnhcdfikjfjkoaaW.PrintLast Go.Proofs.YtnhcdfikjfjkoaaW.PrintMore
attribute [local go_sem] max2_int min2_int max_two min_two max_three min_three max_four min_four   -- for this text's walks alone
set_option linter.unusedVariables false
set_option linter.unusedSimpArgs false

/-! ### impl_purse_fewest: function 59 -/
def impl_purse_fewest.f (k : Nat) (l0_0 : List Int) (l0_1 : List Int) (a1 : Int) : Option (List Int × Int × Bool) := (impl_purse_table.f k l0_0 l0_1 a1).bind fun t444 => (if 0 < (t444.length : Int) then (if 0 ≤ a1 then (if a1 < ((rd_L7 t444 0).length : Int) then (if ((rd_T77 (rd_L7 t444 0) a1).f0) = 0 then (some (([] : List Int), 0, false)) else ((impl_purse_counts.f k l0_0 l0_1 t444 a1).bind fun t449 => (some (t449, (rd_T77 (rd_L7 t444 0) a1).f1, true)))) else (none)) else (none)) else (none))
theorem impl_purse_fewest.mono : ∀ a0 a1 a2 k, LeO (impl_purse_fewest.f k a0 a1 a2) (impl_purse_fewest.f (k + 1) a0 a1 a2) := by
  intro a0 a1 a2 k
  unfold impl_purse_fewest.f
  repeat' first
      | (with_reducible exact impl_purse_counts.mono _ _ _ _ _)
      | (with_reducible exact impl_purse_table.mono _ _ _ _)
      | (with_reducible exact LeO.refl _)
      | (with_reducible exact LeO.none _)
      | (with_reducible refine LeO.ite ?_ ?_)
      | (with_reducible refine LeO.bind ?_ (fun _ => ?_))
      | exact impl_purse_counts.mono _ _ _ _ _
      | exact impl_purse_table.mono _ _ _ _
      | exact LeO.none _
      | refine LeO.ite ?_ ?_
      | refine LeO.bind ?_ (fun _ => ?_)
def impl_purse_fewest.T4 : Bool × List (List Nat × List Nat) := (true, [([], []), ([], []), ([], []), ([0, 1, 2], [0, 1, 2]), ([], []), ([4], [4]), ([5], [5]), ([], []), ([6, 7], [6, 7]), ([8], [8]), ([9], [9]), ([3, 3, 0, 1, 2, 3], [3]), ([10, 11, 0, 1, 2, 3, 4, 5, 6, 7, 8, 9, 10, 11], [10]), ([12, 0, 1, 2, 3, 4, 5, 6, 7, 8, 9, 10, 11, 12], [])])
def impl_purse_fewest.B4 : List Nat := [0, 0, 0, 7, 0, 16, 48, 0, 240, 496, 1008, 15, 4095, 8191]
theorem impl_purse_fewest.tab4 : rtab .any (opsOf Try.f59 4) = impl_purse_fewest.T4 := by kernel_rfl
theorem impl_purse_fewest.bits4 : waitsOk impl_purse_fewest.T4.2 impl_purse_fewest.B4 = true := by kernel_rfl
set_option maxHeartbeats 8000000 in
set_option maxRecDepth 100000 in
theorem impl_purse_fewest.calls (k : Nat) (A0_0 : Option Addr) (c0_0 : Nat) (l0_0 : List Int) (A0_1 : Option Addr) (c0_1 : Nat) (l0_1 : List Int) (a1 : Int) (r1 : List Int) (r2 : Int) (r3 : Bool) (w : World) (hr0_0 : Kd.C (Kd.int .i64) w A0_0 l0_0.length l0_0) (hc0_0 : l0_0.length ≤ c0_0) (hr0_1 : Kd.C (Kd.int .i64) w A0_1 l0_1.length l0_1) (hc0_1 : l0_1.length ≤ c0_1) (h : impl_purse_fewest.f k l0_0 l0_1 a1 = some (r1, r2, r3)) :
    Calls Try.prog 59 #[.agg #[.slice A0_0 l0_0.length c0_0, .slice A0_1 l0_1.length c0_1], .int .i64 a1] w fun e w' => ∃ v0_ : Value, e = .returned (.tuple #[v0_, .int .i64 r2, .bool r3]) ∧ Kd.R (Kd.int .i64) 2 w' w.heap.size (fun _ => True) v0_ r1 ∧ Below w.heap.size w w' := by
  have hu60 := Try.underlying60
  have HR0_0 := Aside0.mk hr0_0
  have HC0_0 := Aside0.mk hc0_0
  clear hr0_0 hc0_0
  have HR0_1 := Aside0.mk hr0_1
  have HC0_1 := Aside0.mk hc0_1
  clear hr0_1 hc0_1
  have HB := Aside0.mk (Below.refl w.heap.size w)
  have H : ((impl_purse_table.f k l0_0 l0_1 a1).bind fun t444 => (if 0 < (t444.length : Int) then (if 0 ≤ a1 then (if a1 < ((rd_L7 t444 0).length : Int) then (if ((rd_T77 (rd_L7 t444 0) a1).f0) = 0 then (some (([] : List Int), 0, false)) else ((impl_purse_counts.f k l0_0 l0_1 t444 a1).bind fun t449 => (some (t449, (rd_T77 (rd_L7 t444 0) a1).f1, true)))) else (none)) else (none)) else (none))) = some (r1, r2, r3) := h
  clear h
  replace H := Option.bind_eq_some_iff.mp H
  obtain ⟨t444, A30, H⟩ := H
  replace H : (if 0 < (t444.length : Int) then (if 0 ≤ a1 then (if a1 < ((rd_L7 t444 0).length : Int) then (if ((rd_T77 (rd_L7 t444 0) a1).f0) = 0 then (some (([] : List Int), 0, false)) else ((impl_purse_counts.f k l0_0 l0_1 t444 a1).bind fun t449 => (some (t449, (rd_T77 (rd_L7 t444 0) a1).f1, true)))) else (none)) else (none)) else (none)) = some (r1, r2, r3) := H
  have A3 := Aside0.mk A30
  clear A30
  by_cases c4 : 0 < (t444.length : Int)
  rotate_left
  · rw [if_neg c4] at H
    exact absurd H (by simp)

  rw [if_pos c4] at H
  have c4b0 : decide (0 < (t444.length : Int)) = true := decide_eq_true c4
  have c4b1 : decide (0 < t444.length) = true := decide_eq_true (by omega)
  clear c4
  by_cases c5 : 0 ≤ a1
  rotate_left
  · rw [if_neg c5] at H
    exact absurd H (by simp)
  rw [if_pos c5] at H
  have c5b0 : decide (0 ≤ a1) = true := decide_eq_true c5
  clear c5
  by_cases c6 : a1 < ((rd_L7 t444 0).length : Int)
  rotate_left
  · rw [if_neg c6] at H
    exact absurd H (by simp)
  rw [if_pos c6] at H
  have c6b0 : decide (a1 < ((rd_L7 t444 0).length : Int)) = true := decide_eq_true c6
  clear c6
  by_cases c7 : ((rd_T77 (rd_L7 t444 0) a1).f0) = 0
  rotate_left
  · rw [if_neg c7] at H
    have c7b0 : (((rd_T77 (rd_L7 t444 0) a1).f0) == 0) = false := beq_eq_false_iff_ne.mpr c7
    have c7b1 : (((rd_T77 (rd_L7 t444 0) a1).f0) != 0) = true := bne_iff_ne.mpr c7
    replace H := Option.bind_eq_some_iff.mp H
    obtain ⟨t449, A120, H⟩ := H
    replace H : (some (t449, (rd_T77 (rd_L7 t444 0) a1).f1, true)) = some (r1, r2, r3) := H
    have A12 := Aside0.mk A120
    clear A120
    simp only [Option.some.injEq, Prod.mk.injEq] at H
    obtain ⟨rfl, rfl, rfl⟩ := H
    go_enter Try.func59, Try.ntmps59
    try go_wp2_with (first | ((with_reducible refine gate_dst (N := 2) rfl ?_); refine box_event ?hg (N := 2) ?hd (cs := #[.slice A0_0 l0_0.length c0_0, .slice A0_1 l0_1.length c0_1]) (t := 60) ?hr ?_; (case hd => rfl); (case hg => rfl); (case hr => first | (go_simp; done) | (go_simp; rfl)); intro gb443 hg w13 hbox hb; have n0_ := Aside0.mk (below_step (by repeat (first | (with_reducible first | exact HB.out | apply below_alloc | apply pw_below_drewN | apply below_drew1) | exact HB.out)) hb); have n1_ := Aside0.mk (hbox); have n2_ := Aside0.mk ((by rw [hg]; exact (below_size (by repeat (first | (with_reducible first | exact HB.out | apply below_alloc | apply pw_below_drewN | apply below_drew1) | exact HB.out))) : w.heap.size ≤ gb443)); have n3_ := Aside0.mk ((by rw [hg]; exact (below_size (by repeat (first | (with_reducible first | exact HB.out | apply below_alloc | apply pw_below_drewN | apply below_drew1) | exact HB.out))) : w.heap.size ≤ gb443)); clear HB; have HB := n0_; have BK443 := n1_; have GW443 := n2_; have GE443 := n3_; clear n0_ n1_ n2_ n3_; clear hb hbox hg; have hcz14_0 : w13.cell? ⟨gb443, 0, none⟩ = some (.slice A0_0 l0_0.length c0_0) := (blk_cell BK443.out 0).trans rfl; have hcz14_1 : w13.cell? ⟨gb443, 1, none⟩ = some (.slice A0_1 l0_1.length c0_1) := (blk_cell BK443.out 1).trans rfl; have hfz14_0 := blk_frozen BK443.out 0; have hfz14_1 := blk_frozen BK443.out 1) | ((with_reducible refine gate_callee (f := 60) rfl ?_); refine goesL_ (some 10) rfl rfl Try.func60 (by kernel_rfl) rfl #[.agg #[.slice A0_0 l0_0.length c0_0, .slice A0_1 l0_1.length c0_1], .int .i64 a1] rfl (by (try simp only [List.map_toArray, List.map_cons, List.map_nil]); first | done | rfl | (simp only [List.length_drop, List.length_take]; rfl)) ?_; (with_reducible refine (impl_purse_table.calls k _ _ l0_0 _ _ l0_1 a1 t444 _ ?side1 ?side2 ?side3 ?side4 A3.out).mono ?_); (case side1 => repeat (first | exact (Kd.C_below HR0_0.out HB.out) | (with_reducible refine Kd.C_alloc ?_ _) | (with_reducible refine Kd.C_drewN ?_ _) | (with_reducible refine Kd.C_drew ?_))); (case side2 => exact HC0_0.out); (case side3 => repeat (first | exact (Kd.C_below HR0_1.out HB.out) | (with_reducible refine Kd.C_alloc ?_ _) | (with_reducible refine Kd.C_drewN ?_ _) | (with_reducible refine Kd.C_drew ?_))); (case side4 => exact HC0_1.out); rintro e w15 ⟨v445, rfl, ho0, hb⟩; refine ⟨_, rfl, ?_⟩; have n0_ := Aside0.mk (Kd.S_lower ho0 (below_size (by repeat (first | (with_reducible first | exact HB.out | apply below_alloc | apply pw_below_drewN | apply below_drew1 | refine below_set ?_ GE443.out) | exact HB.out)))); have n1_ := Aside0.mk (blk_below (g := gb443) (o := .cells #[.slice A0_0 l0_0.length c0_0, .slice A0_1 l0_1.length c0_1] 60 (0, 0)) (by (with_reducible repeat (first | refine blk_drewN ?_ _ | refine blk_drew ?_ | refine blk_alloc ?_ _)); exact BK443.out) hb); have n2_ := Aside0.mk (below_step (by repeat (first | (with_reducible first | exact HB.out | apply below_alloc | apply pw_below_drewN | apply below_drew1 | refine below_set ?_ GE443.out) | exact HB.out)) hb); clear BK443; clear HB; have HO446 := n0_; have BK443 := n1_; have HB := n2_; clear n0_ n1_ n2_; (try clear hb); (try clear hb2); (try clear hk); (try clear hi); (try clear ho0); obtain ⟨Ao16, co16, eo16⟩ := Kd.S_slice HO446.out; subst eo16; have p447 : 0 ≤ (0 : Int) := (by omega); have q447 : 0 < (t444.length : Int) := of_decide_eq_true (by first | (with_reducible assumption) | assumption); obtain ⟨ad447, A447_0, c447_0, e447, hx447_0, hl447_0, hi447_0⟩ := at_L7 (Kd.S_reads' HO446.out).2.2 0 p447 q447; cases e447; obtain ⟨ce447, hce447, hMe447, hcc447⟩ := Kd.S_get HO446.out [] 0 p447 (by first | exact q447 | exact of_decide_eq_true (by first | (with_reducible assumption) | assumption) | (have e_ := (Kd.S_reads' HO446.out).1; omega)); obtain ⟨ve447_0, rfl, ge447_0⟩ := hMe447; have hv447_0 := hcc447 0 _ rfl; rw [Nat.add_zero, show ((Kd.slice 77 k77)).sz = 1 from rfl, Nat.mul_one] at hv447_0; replace hv447_0 := Option.some.inj (hv447_0.symm.trans hx447_0); rw [hv447_0] at ge447_0; have HL447_0 := Aside0.mk (show Kd.R k77 77 _ _ _ _ (rd_L7 t444 0) from ge447_0); clear hv447_0 ge447_0; clear hcc447 hce447; have qi447 : (0 < t444.length) = True := eq_true (by omega); (try rw [show ((0 : Int)).toNat = 0 from rfl] at hx447_0); (try rw [Addr.add_zero'] at hx447_0); have HR447_0 := Aside0.mk hi447_0; have HC447_0 := Aside0.mk hl447_0; clear hi447_0 hl447_0; replace p447 := eq_true p447; replace q447 := eq_true q447; have p448 : 0 ≤ (a1 : Int) := of_decide_eq_true (by first | (with_reducible assumption) | assumption); have q448 : a1 < ((rd_L7 t444 0).length : Int) := of_decide_eq_true (by first | (with_reducible assumption) | assumption); obtain ⟨ad448, e448, hx448_0, hx448_1⟩ := at_T77 (by repeat (first | (with_reducible exact HR447_0.out) | (with_reducible refine Kd.C_alloc ?_ _) | (with_reducible refine Kd.C_drewN ?_ _) | (with_reducible refine Kd.C_drew ?_) | exact HR447_0.out)) a1 p448 q448; cases e448; replace p448 := eq_true p448; replace q448 := eq_true q448))
    have n0_ := Aside0.mk (Kd.S_drew HO446.out)
    have n1_ := Aside0.mk (Kd.R_drew HL447_0.out)
    have n2_ := Aside0.mk (blk_drew BK443.out)
    have n3_ := Aside0.mk (Kd.C_drew HR447_0.out)
    have n4_ := Aside0.mk (below_drew1 HB.out)
    clear HO446
    clear HL447_0
    clear BK443
    clear HR447_0
    clear HB
    have HO446 := n0_
    have HL447_0 := n1_
    have BK443 := n2_
    have HR447_0 := n3_
    have HB := n4_
    clear n0_ n1_ n2_ n3_ n4_
    have p452 : 0 ≤ (0 : Int) := (by omega)
    have q452 : 0 < (t444.length : Int) := of_decide_eq_true (by first | (with_reducible assumption) | assumption)
    obtain ⟨ad452, A452_0, c452_0, e452, hx452_0, hl452_0, hi452_0⟩ := at_L7 (Kd.S_reads' HO446.out).2.2 0 p452 q452
    obtain rfl : ad447 = ad452 := (by injection e452)
    obtain ⟨ce452, hce452, hMe452, hcc452⟩ := Kd.S_get HO446.out [] 0 p452 (by first | exact q452 | exact of_decide_eq_true (by first | (with_reducible assumption) | assumption) | (have e_ := (Kd.S_reads' HO446.out).1; omega))
    obtain ⟨ve452_0, rfl, ge452_0⟩ := hMe452
    have hv452_0 := hcc452 0 _ rfl
    rw [Nat.add_zero, show ((Kd.slice 77 k77)).sz = 1 from rfl, Nat.mul_one] at hv452_0
    replace hv452_0 := Option.some.inj (hv452_0.symm.trans hx452_0)
    rw [hv452_0] at ge452_0
    have HL452_0 := Aside0.mk (show Kd.R k77 77 _ _ _ _ (rd_L7 t444 0) from ge452_0)
    clear hv452_0 ge452_0
    clear hcc452 hce452
    have qi452 : (0 < t444.length) = True := eq_true (by omega)
    (try rw [show ((0 : Int)).toNat = 0 from rfl] at hx452_0)
    (try rw [Addr.add_zero'] at hx452_0)
    have HR452_0 := Aside0.mk hi452_0
    have HC452_0 := Aside0.mk hl452_0
    clear hi452_0 hl452_0
    replace p452 := eq_true p452
    replace q452 := eq_true q452
    have p453 : 0 ≤ (a1 : Int) := of_decide_eq_true (by first | (with_reducible assumption) | assumption)
    have q453 : a1 < ((rd_L7 t444 0).length : Int) := of_decide_eq_true (by first | (with_reducible assumption) | assumption)
    obtain ⟨ad453, e453, hx453_0, hx453_1⟩ := at_T77 (by repeat (first | (with_reducible exact HR452_0.out) | (with_reducible refine Kd.C_alloc ?_ _) | (with_reducible refine Kd.C_drewN ?_ _) | (with_reducible refine Kd.C_drew ?_) | exact HR452_0.out)) a1 p453 q453
    cases e453
    replace p453 := eq_true p453
    replace q453 := eq_true q453
    refine start_ (n := 14) (S := fun w' => w'.cell? ⟨gb443, 0, none⟩ = some (.slice A0_0 l0_0.length c0_0) ∧ w'.cell? ⟨gb443, 1, none⟩ = some (.slice A0_1 l0_1.length c0_1) ∧ w'.cell? ad447 = some (.slice (some ad453) (rd_L7 t444 0).length c452_0) ∧ w'.cell? (ad453.add ((a1).toNat * 2)) = some (.int .i64 ((rd_T77 (rd_L7 t444 0) a1).f0)) ∧ w'.cell? ⟨(ad453.add ((a1).toNat * 2)).block, (ad453.add ((a1).toNat * 2)).off + 1, none⟩ = some (.int .i64 ((rd_T77 (rd_L7 t444 0) a1).f1))) (ds := []) #[false, false, false, false, false, false, false, false, false, false, false, false, false, false] (by kernel_rfl) rfl rfl ⟨(blk_cell BK443.out 0).trans rfl, (blk_cell BK443.out 1).trans rfl, hx452_0, hx453_0, hx453_1⟩ (fun hHeld => ?_); refine with_tabW impl_purse_fewest.tab4 impl_purse_fewest.bits4 (fun HT_ HW_ => ?_)
    generalize w15.drew = w17 at HO446 HL447_0 BK443 HR447_0 HB HL452_0 HR452_0 hx452_0 hx453_0 hx453_1 hHeld ⊢
    refine pure_ (i := 1) (N := some 20) (v := ?_) (a' := ?_) #[false, true, false, false, false, false, false, false, false, false, false, false, false, false] rfl rfl (any_of HT_.out (by kernel_rfl)) (fun _ _ _ h => h) (Or.inl ⟨by rfl, ?_⟩) ?_ ?_
    rotate_left
    · intro w'
      go_simp
      with_reducible rfl
    rotate_left
    · simp only [Act.put, List.setIfInBounds_toArray, List.set_cons_zero, List.set_cons_succ, i64_w, i32_w]
      rfl
    refine pure_ (i := 2) (N := some 21) (v := ?_) (a' := ?_) #[false, true, true, false, false, false, false, false, false, false, false, false, false, false] rfl rfl (any_of HT_.out (by kernel_rfl)) (fun _ _ _ h => h) (Or.inl ⟨by rfl, ?_⟩) ?_ ?_
    rotate_left
    · intro w'
      go_simp
      with_reducible rfl
    rotate_left
    · simp only [Act.put, List.setIfInBounds_toArray, List.set_cons_zero, List.set_cons_succ, i64_w, i32_w]
      rfl
    refine pure_ (i := 4) (N := some 23) (v := ?_) (a' := ?_) #[false, true, true, false, true, false, false, false, false, false, false, false, false, false] rfl rfl (any_of HT_.out (by kernel_rfl)) (fun _ _ _ h => h) (Or.inl ⟨by rfl, ?_⟩) ?_ ?_
    rotate_left
    · intro w'
      go_simp
      with_reducible rfl
    rotate_left
    · simp only [Act.put, List.setIfInBounds_toArray, List.set_cons_zero, List.set_cons_succ, i64_w, i32_w]
      rfl
    refine pure_ (i := 5) (N := some 24) (v := ?_) (a' := ?_) #[false, true, true, false, true, true, false, false, false, false, false, false, false, false] rfl rfl (any_of HT_.out (by kernel_rfl)) (fun _ _ _ h => h) (Or.inl ⟨by rfl, ?_⟩) ?_ ?_
    rotate_left
    · intro w'
      go_simp
      with_reducible rfl
    rotate_left
    · simp only [Act.put, List.setIfInBounds_toArray, List.set_cons_zero, List.set_cons_succ, i64_w, i32_w]
      rfl
    refine pure_ (i := 7) (N := some 26) (v := ?_) (a' := ?_) #[false, true, true, false, true, true, false, true, false, false, false, false, false, false] rfl rfl (any_of HT_.out (by kernel_rfl)) (fun _ _ _ h => h) (Or.inl ⟨by rfl, ?_⟩) ?_ ?_
    rotate_left
    · intro w'
      go_simp
      with_reducible rfl
    rotate_left
    · simp only [Act.put, List.setIfInBounds_toArray, List.set_cons_zero, List.set_cons_succ, i64_w, i32_w]
      rfl
    refine take_ (i := 0) (N := some 19) (v := ?_) (a' := ?_) #[true, true, true, false, true, true, false, true, false, false, false, false, false, false] rfl rfl (take_ofW HT_.out HW_.out (by kernel_rfl)) (fun _ _ _ h => h) (Or.inl ⟨by rfl, ?_⟩) hHeld ?_ ?_
    rotate_left
    · rintro w' ⟨s0, s1, s2, s3, s4⟩
      go_simp
      with_reducible rfl
    rotate_left
    · simp only [Act.put, List.setIfInBounds_toArray, List.set_cons_zero, List.set_cons_succ, i64_w, i32_w]
      rfl
    refine take_ (i := 6) (N := some 25) (v := ?_) (a' := ?_) #[true, true, true, false, true, true, true, true, false, false, false, false, false, false] rfl rfl (take_ofW HT_.out HW_.out (by kernel_rfl)) (fun _ _ _ h => h) (Or.inl ⟨by rfl, ?_⟩) hHeld ?_ ?_
    rotate_left
    · rintro w' ⟨s0, s1, s2, s3, s4⟩
      go_simp
      with_reducible rfl
    rotate_left
    · simp only [Act.put, List.setIfInBounds_toArray, List.set_cons_zero, List.set_cons_succ, i64_w, i32_w]
      rfl
    refine pure_ (i := 8) (N := some 27) (v := ?_) (a' := ?_) #[true, true, true, false, true, true, true, true, true, false, false, false, false, false] rfl rfl (any_of HT_.out (by kernel_rfl)) (fun _ _ _ h => h) (Or.inl ⟨by rfl, ?_⟩) ?_ ?_
    rotate_left
    · intro w'
      go_simp
      with_reducible rfl
    rotate_left
    · simp only [Act.put, List.setIfInBounds_toArray, List.set_cons_zero, List.set_cons_succ, i64_w, i32_w]
      rfl
    refine pure_ (i := 9) (N := some 28) (v := ?_) (a' := ?_) #[true, true, true, false, true, true, true, true, true, true, false, false, false, false] rfl rfl (any_of HT_.out (by kernel_rfl)) (fun _ _ _ h => h) (Or.inl ⟨by rfl, ?_⟩) ?_ ?_
    rotate_left
    · intro w'
      go_simp
      with_reducible rfl
    rotate_left
    · simp only [Act.put, List.setIfInBounds_toArray, List.set_cons_zero, List.set_cons_succ, i64_w, i32_w]
      rfl
    refine take_ (i := 10) (N := some 29) (v := ?_) (a' := ?_) #[true, true, true, false, true, true, true, true, true, true, true, false, false, false] rfl rfl (take_ofW HT_.out HW_.out (by kernel_rfl)) (fun _ _ _ h => h) (Or.inl ⟨by rfl, ?_⟩) hHeld ?_ ?_
    rotate_left
    · rintro w' ⟨s0, s1, s2, s3, s4⟩
      go_simp
      with_reducible rfl
    rotate_left
    · simp only [Act.put, List.setIfInBounds_toArray, List.set_cons_zero, List.set_cons_succ, i64_w, i32_w]
      rfl
    refine one_ (i := 3) (N := some 22) #[true, true, true, true, true, true, true, true, true, true, true, false, false, false] rfl rfl (one_of HT_.out (by kernel_rfl)) (by decide) (fun K hK => ?_)
    refine goes_ Try.func61 (by kernel_rfl) rfl #[.agg #[.slice A0_0 l0_0.length c0_0, .slice A0_1 l0_1.length c0_1], .slice (some ad447) t444.length co16, .int .i64 a1] (by rfl) rfl rfl (by (try simp only [List.map_toArray, List.map_cons, List.map_nil]); first | done | rfl | (simp only [List.length_drop, List.length_take]; rfl)) ?_
    with_reducible refine (impl_purse_counts.calls k _ _ l0_0 _ _ l0_1 _ _ t444 a1 t449 _ ?side1 ?side2 ?side3 ?side4 ?side5 ?side6 A12.out).mono ?_
    (case side1 => repeat (first | exact (Kd.C_below HR0_0.out HB.out) | (with_reducible refine Kd.C_alloc ?_ _) | (with_reducible refine Kd.C_drewN ?_ _) | (with_reducible refine Kd.C_drew ?_)))
    (case side2 => exact HC0_0.out)
    (case side3 => repeat (first | exact (Kd.C_below HR0_1.out HB.out) | (with_reducible refine Kd.C_alloc ?_ _) | (with_reducible refine Kd.C_drewN ?_ _) | (with_reducible refine Kd.C_drew ?_)))
    (case side4 => exact HC0_1.out)
    (case side5 => repeat (first | exact (Kd.S_reads' HO446.out).2.2 | (with_reducible refine Kd.C_alloc ?_ _) | (with_reducible refine Kd.C_drewN ?_ _) | (with_reducible refine Kd.C_drew ?_)))
    (case side6 => exact (Kd.S_reads' HO446.out).2.1)
    rintro e w18 ⟨v450, rfl, ho0, hb⟩
    have HS2_ := (hb.cell (World.block_lt_of_cell? _ _ (hHeld.2.2.1))).trans (hHeld.2.2.1)
    have HS3_ := (hb.cell (World.block_lt_of_cell? _ _ (hHeld.2.2.2.1))).trans (hHeld.2.2.2.1)
    have HS4_ := (hb.cell (World.block_lt_of_cell? _ _ (hHeld.2.2.2.2))).trans (hHeld.2.2.2.2)
    refine ⟨_, rfl, ?_⟩
    have n0_ := Aside0.mk (Kd.S_below (by (with_reducible repeat (first | apply Kd.S_alloc | apply Kd.S_drewN | apply Kd.S_drew)); exact HO446.out) hb)
    have n1_ := Aside0.mk (Kd.R_below (by (with_reducible repeat (first | apply Kd.R_alloc | apply Kd.R_drewN | apply Kd.R_drew)); exact HL447_0.out) hb)
    have n2_ := Aside0.mk (Kd.R_below (by (with_reducible repeat (first | apply Kd.R_alloc | apply Kd.R_drewN | apply Kd.R_drew)); exact HL452_0.out) hb)
    have n3_ := Aside0.mk (Kd.R_lower ho0 (below_size (by repeat (first | (with_reducible first | exact HB.out | apply below_alloc | apply pw_below_drewN | apply below_drew1 | refine below_set ?_ GE443.out) | exact HB.out))))
    have n4_ := Aside0.mk (blk_below (g := gb443) (o := .cells #[.slice A0_0 l0_0.length c0_0, .slice A0_1 l0_1.length c0_1] 60 (0, 0)) (by (with_reducible repeat (first | refine blk_drewN ?_ _ | refine blk_drew ?_ | refine blk_alloc ?_ _)); exact BK443.out) hb)
    have n5_ := Aside0.mk (Kd.C_below (by repeat (first | (with_reducible exact HR447_0.out) | (with_reducible refine Kd.C_alloc ?_ _) | (with_reducible refine Kd.C_drewN ?_ _) | (with_reducible refine Kd.C_drew ?_) | exact HR447_0.out)) hb)
    have n6_ := Aside0.mk (Kd.C_below (by repeat (first | (with_reducible exact HR452_0.out) | (with_reducible refine Kd.C_alloc ?_ _) | (with_reducible refine Kd.C_drewN ?_ _) | (with_reducible refine Kd.C_drew ?_) | exact HR452_0.out)) hb)
    have n7_ := Aside0.mk (below_step (by repeat (first | (with_reducible first | exact HB.out | apply below_alloc | apply pw_below_drewN | apply below_drew1 | refine below_set ?_ GE443.out) | exact HB.out)) hb)
    clear HO446
    clear HL447_0
    clear HL452_0
    clear BK443
    clear HR447_0
    clear HR452_0
    clear HB
    have HO446 := n0_
    have HL447_0 := n1_
    have HL452_0 := n2_
    have HO451 := n3_
    have BK443 := n4_
    have HR447_0 := n5_
    have HR452_0 := n6_
    have HB := n7_
    clear n0_ n1_ n2_ n3_ n4_ n5_ n6_ n7_
    (try clear hb)
    (try clear hb2)
    (try clear hk)
    (try clear hi)
    (try clear ho0)
    refine hK.out _ _ ⟨(blk_cell BK443.out 0).trans rfl, (blk_cell BK443.out 1).trans rfl, HS2_, HS3_, HS4_⟩ (fun hHeld => ?_)
    clear hK K
    refine norm_ (a' := ?_) ?_ ?_
    rotate_left
    · show Act.put _ (some 22) _ = _
      simp only [Act.put, List.setIfInBounds_toArray, List.set_cons_zero, List.set_cons_succ, i64_w, i32_w]
      rfl
    refine pure_ (i := 11) (N := some 4) (v := ?_) (a' := ?_) #[true, true, true, true, true, true, true, true, true, true, true, true, false, false] rfl rfl (any_of HT_.out (by kernel_rfl)) (fun _ _ _ h => h) (Or.inl ⟨by rfl, ?_⟩) ?_ ?_
    rotate_left
    · intro w'
      go_simp
      with_reducible rfl
    rotate_left
    · simp only [Act.put, List.setIfInBounds_toArray, List.set_cons_zero, List.set_cons_succ, i64_w, i32_w]
      rfl
    refine pure_ (i := 12) (N := some 5) (v := ?_) (a' := ?_) #[true, true, true, true, true, true, true, true, true, true, true, true, true, false] rfl rfl (any_of HT_.out (by kernel_rfl)) (fun _ _ _ h => h) (Or.inl ⟨by rfl, ?_⟩) ?_ ?_
    rotate_left
    · intro w'
      go_simp
      with_reducible rfl
    rotate_left
    · simp only [Act.put, List.setIfInBounds_toArray, List.set_cons_zero, List.set_cons_succ, i64_w, i32_w]
      rfl
    refine pure_ (i := 13) (N := some 6) (v := ?_) (a' := ?_) #[true, true, true, true, true, true, true, true, true, true, true, true, true, true] rfl rfl (any_of HT_.out (by kernel_rfl)) (fun _ _ _ h => h) (Or.inl ⟨by rfl, ?_⟩) ?_ ?_
    rotate_left
    · intro w'
      go_simp
      with_reducible rfl
    rotate_left
    · simp only [Act.put, List.setIfInBounds_toArray, List.set_cons_zero, List.set_cons_succ, i64_w, i32_w]
      rfl
    refine done_ (done_of HT_.out (by kernel_rfl)) ?_
    try go_wp2
    go_ret3
    exact ⟨_, by first | rfl | (simp [errW_none, errW_some] <;> rfl) | (simp [*, errW_none, errW_some] <;> rfl), by (with_reducible repeat (first | apply Kd.R_alloc | apply Kd.R_drewN | apply Kd.R_drew)); exact HO451.out, by repeat (first | (with_reducible first | exact HB.out | apply below_alloc | apply pw_below_drewN | apply below_drew1 | refine below_set ?_ GE443.out) | exact HB.out)⟩
  rw [if_pos c7] at H
  have c7b0 : (((rd_T77 (rd_L7 t444 0) a1).f0) == 0) = true := beq_iff_eq.mpr c7
  have c7b1 : (((rd_T77 (rd_L7 t444 0) a1).f0) != 0) = false := bne_eq_false_iff_eq.mpr c7
  clear c7
  simp only [Option.some.injEq, Prod.mk.injEq] at H
  obtain ⟨rfl, rfl, rfl⟩ := H
  go_enter Try.func59, Try.ntmps59
  go_wp2_with (first | ((with_reducible refine gate_dst (N := 2) rfl ?_); refine box_event ?hg (N := 2) ?hd (cs := #[.slice A0_0 l0_0.length c0_0, .slice A0_1 l0_1.length c0_1]) (t := 60) ?hr ?_; (case hd => rfl); (case hg => rfl); (case hr => first | (go_simp; done) | (go_simp; rfl)); intro gb443 hg w8 hbox hb; have n0_ := Aside0.mk (below_step (by repeat (first | (with_reducible first | exact HB.out | apply below_alloc | apply pw_below_drewN | apply below_drew1) | exact HB.out)) hb); have n1_ := Aside0.mk (hbox); have n2_ := Aside0.mk ((by rw [hg]; exact (below_size (by repeat (first | (with_reducible first | exact HB.out | apply below_alloc | apply pw_below_drewN | apply below_drew1) | exact HB.out))) : w.heap.size ≤ gb443)); have n3_ := Aside0.mk ((by rw [hg]; exact (below_size (by repeat (first | (with_reducible first | exact HB.out | apply below_alloc | apply pw_below_drewN | apply below_drew1) | exact HB.out))) : w.heap.size ≤ gb443)); clear HB; have HB := n0_; have BK443 := n1_; have GW443 := n2_; have GE443 := n3_; clear n0_ n1_ n2_ n3_; clear hb hbox hg; have hcz9_0 : w8.cell? ⟨gb443, 0, none⟩ = some (.slice A0_0 l0_0.length c0_0) := (blk_cell BK443.out 0).trans rfl; have hcz9_1 : w8.cell? ⟨gb443, 1, none⟩ = some (.slice A0_1 l0_1.length c0_1) := (blk_cell BK443.out 1).trans rfl; have hfz9_0 := blk_frozen BK443.out 0; have hfz9_1 := blk_frozen BK443.out 1) | ((with_reducible refine gate_callee (f := 60) rfl ?_); refine goesL_ (some 10) rfl rfl Try.func60 (by kernel_rfl) rfl #[.agg #[.slice A0_0 l0_0.length c0_0, .slice A0_1 l0_1.length c0_1], .int .i64 a1] rfl (by (try simp only [List.map_toArray, List.map_cons, List.map_nil]); first | done | rfl | (simp only [List.length_drop, List.length_take]; rfl)) ?_; (with_reducible refine (impl_purse_table.calls k _ _ l0_0 _ _ l0_1 a1 t444 _ ?side1 ?side2 ?side3 ?side4 A3.out).mono ?_); (case side1 => repeat (first | exact (Kd.C_below HR0_0.out HB.out) | (with_reducible refine Kd.C_alloc ?_ _) | (with_reducible refine Kd.C_drewN ?_ _) | (with_reducible refine Kd.C_drew ?_))); (case side2 => exact HC0_0.out); (case side3 => repeat (first | exact (Kd.C_below HR0_1.out HB.out) | (with_reducible refine Kd.C_alloc ?_ _) | (with_reducible refine Kd.C_drewN ?_ _) | (with_reducible refine Kd.C_drew ?_))); (case side4 => exact HC0_1.out); rintro e w10 ⟨v445, rfl, ho0, hb⟩; refine ⟨_, rfl, ?_⟩; have n0_ := Aside0.mk (Kd.S_lower ho0 (below_size (by repeat (first | (with_reducible first | exact HB.out | apply below_alloc | apply pw_below_drewN | apply below_drew1 | refine below_set ?_ GE443.out) | exact HB.out)))); have n1_ := Aside0.mk (blk_below (g := gb443) (o := .cells #[.slice A0_0 l0_0.length c0_0, .slice A0_1 l0_1.length c0_1] 60 (0, 0)) (by (with_reducible repeat (first | refine blk_drewN ?_ _ | refine blk_drew ?_ | refine blk_alloc ?_ _)); exact BK443.out) hb); have n2_ := Aside0.mk (below_step (by repeat (first | (with_reducible first | exact HB.out | apply below_alloc | apply pw_below_drewN | apply below_drew1 | refine below_set ?_ GE443.out) | exact HB.out)) hb); clear BK443; clear HB; have HO446 := n0_; have BK443 := n1_; have HB := n2_; clear n0_ n1_ n2_; (try clear hb); (try clear hb2); (try clear hk); (try clear hi); (try clear ho0); obtain ⟨Ao11, co11, eo11⟩ := Kd.S_slice HO446.out; subst eo11; have p447 : 0 ≤ (0 : Int) := (by omega); have q447 : 0 < (t444.length : Int) := of_decide_eq_true (by first | (with_reducible assumption) | assumption); obtain ⟨ad447, A447_0, c447_0, e447, hx447_0, hl447_0, hi447_0⟩ := at_L7 (Kd.S_reads' HO446.out).2.2 0 p447 q447; cases e447; obtain ⟨ce447, hce447, hMe447, hcc447⟩ := Kd.S_get HO446.out [] 0 p447 (by first | exact q447 | exact of_decide_eq_true (by first | (with_reducible assumption) | assumption) | (have e_ := (Kd.S_reads' HO446.out).1; omega)); obtain ⟨ve447_0, rfl, ge447_0⟩ := hMe447; have hv447_0 := hcc447 0 _ rfl; rw [Nat.add_zero, show ((Kd.slice 77 k77)).sz = 1 from rfl, Nat.mul_one] at hv447_0; replace hv447_0 := Option.some.inj (hv447_0.symm.trans hx447_0); rw [hv447_0] at ge447_0; have HL447_0 := Aside0.mk (show Kd.R k77 77 _ _ _ _ (rd_L7 t444 0) from ge447_0); clear hv447_0 ge447_0; clear hcc447 hce447; have qi447 : (0 < t444.length) = True := eq_true (by omega); (try rw [show ((0 : Int)).toNat = 0 from rfl] at hx447_0); (try rw [Addr.add_zero'] at hx447_0); have HR447_0 := Aside0.mk hi447_0; have HC447_0 := Aside0.mk hl447_0; clear hi447_0 hl447_0; replace p447 := eq_true p447; replace q447 := eq_true q447; have p448 : 0 ≤ (a1 : Int) := of_decide_eq_true (by first | (with_reducible assumption) | assumption); have q448 : a1 < ((rd_L7 t444 0).length : Int) := of_decide_eq_true (by first | (with_reducible assumption) | assumption); obtain ⟨ad448, e448, hx448_0, hx448_1⟩ := at_T77 (by repeat (first | (with_reducible exact HR447_0.out) | (with_reducible refine Kd.C_alloc ?_ _) | (with_reducible refine Kd.C_drewN ?_ _) | (with_reducible refine Kd.C_drew ?_) | exact HR447_0.out)) a1 p448 q448; cases e448; replace p448 := eq_true p448; replace q448 := eq_true q448))
  go_ret3
  exact ⟨_, by first | rfl | (simp [errW_none, errW_some] <;> rfl) | (simp [*, errW_none, errW_some] <;> rfl), by first | exact Kd.R_nil _ _ _ _ _ | exact Kd.N_nil _ _ _ _ _ | exact Kd.V_nil _ _ _ _ _ | exact Kd.Q_nil _ _ _ _ _ | exact Kd.S_nil _ _ _ _ _, by repeat (first | (with_reducible first | exact HB.out | apply below_alloc | apply pw_below_drewN | apply below_drew1 | refine below_set ?_ GE443.out) | exact HB.out)⟩
end Go.Proofs.Ytnhcdfikjfjkoaa.P

namespace Go.Proofs.Ytnhcdfikjfjkoaa.P
open Go.RowKit Go.Proofs.YtnhcdfikjfjkoaaW.PrintWords Go.Proofs.YtnhcdfikjfjkoaaW.PrintLast Go.Proofs.YtnhcdfikjfjkoaaW.PrintMore
attribute [local go_sem] max2_int min2_int max_two min_two max_three min_three max_four min_four   -- for this text's walks alone
set_option linter.unusedVariables false
set_option linter.unusedSimpArgs false

/-! ### impl_PayFrom: function 26 -/
def impl_PayFrom.f (k : Nat) (l0 : List (S56)) (a1 : Int) : Option (List Int × Int × Int) := (impl_stockCode.f k l0 (([a1] : List Int))).bind fun t457 => (if t457 = 0 then ((impl_purseOf.f k l0).bind fun bt458 => ((impl_purse_fewest.f k bt458.1 bt458.2 a1).bind fun bt464 => (if bt464.2.2 = true then (some (bt464.1, bt464.2.1, 0)) else (some (([] : List Int), 0, 6))))) else (some (([] : List Int), 0, t457)))
theorem impl_PayFrom.mono : ∀ a0 a1 k, LeO (impl_PayFrom.f k a0 a1) (impl_PayFrom.f (k + 1) a0 a1) := by
  intro a0 a1 k
  unfold impl_PayFrom.f
  repeat' first
      | (with_reducible exact impl_purseOf.mono _ _)
      | (with_reducible exact impl_purse_fewest.mono _ _ _ _)
      | (with_reducible exact impl_stockCode.mono _ _ _)
      | (with_reducible exact LeO.refl _)
      | (with_reducible exact LeO.none _)
      | (with_reducible refine LeO.ite ?_ ?_)
      | (with_reducible refine LeO.bind ?_ (fun _ => ?_))
      | exact impl_purseOf.mono _ _
      | exact impl_purse_fewest.mono _ _ _ _
      | exact impl_stockCode.mono _ _ _
      | exact LeO.none _
      | refine LeO.ite ?_ ?_
      | refine LeO.bind ?_ (fun _ => ?_)
set_option maxHeartbeats 8000000 in
set_option maxRecDepth 100000 in
theorem impl_PayFrom.calls (k : Nat) (A0 : Option Addr) (c0 : Nat) (l0 : List (S56)) (a1 : Int) (r1 : List Int) (r2 : Int) (r3 : Int) (w : World) (hr0 : Kd.C k56 w A0 l0.length l0) (hc0 : l0.length ≤ c0) (h : impl_PayFrom.f k l0 a1 = some (r1, r2, r3)) :
    Calls Try.prog 26 #[.slice A0 l0.length c0, .int .i64 a1] w fun e w' => ∃ v0_ : Value, e = .returned (.tuple #[v0_, .int .i64 r2, .int .i64 r3]) ∧ Kd.R (Kd.int .i64) 2 w' w.heap.size (fun _ => True) v0_ r1 ∧ Below w.heap.size w w' := by
  have HR0 := Aside0.mk hr0
  have HC0 := Aside0.mk hc0
  clear hr0 hc0
  have HB := Aside0.mk (Below.refl w.heap.size w)
  have H : ((impl_stockCode.f k l0 (([a1] : List Int))).bind fun t457 => (if t457 = 0 then ((impl_purseOf.f k l0).bind fun bt458 => ((impl_purse_fewest.f k bt458.1 bt458.2 a1).bind fun bt464 => (if bt464.2.2 = true then (some (bt464.1, bt464.2.1, 0)) else (some (([] : List Int), 0, 6))))) else (some (([] : List Int), 0, t457)))) = some (r1, r2, r3) := h
  clear h
  obtain ⟨y454, hy454⟩ : ∃ y_ : List Int, y_ = (([a1] : List Int)) := ⟨_, rfl⟩
  replace H : ((impl_stockCode.f k l0 y454).bind fun t457 => (if t457 = 0 then ((impl_purseOf.f k l0).bind fun bt458 => ((impl_purse_fewest.f k bt458.1 bt458.2 a1).bind fun bt464 => (if bt464.2.2 = true then (some (bt464.1, bt464.2.1, 0)) else (some (([] : List Int), 0, 6))))) else (some (([] : List Int), 0, t457)))) = some (r1, r2, r3) := by first | (rw [hy454]; with_reducible exact H) | (have H2_ := (Option.bind_some _ _).symm.trans H; rw [hy454]; with_reducible exact H2_) | (have H2_ := (Option.bind_some _ _).symm.trans H; with_reducible exact H2_) | with_reducible exact H | (rw [hy454]; exact H) | exact H
  have Ny454 := Aside0.mk hy454
  clear hy454
  replace H := Option.bind_eq_some_iff.mp H
  obtain ⟨t457, A30, H⟩ := H
  replace H : (if t457 = 0 then ((impl_purseOf.f k l0).bind fun bt458 => ((impl_purse_fewest.f k bt458.1 bt458.2 a1).bind fun bt464 => (if bt464.2.2 = true then (some (bt464.1, bt464.2.1, 0)) else (some (([] : List Int), 0, 6))))) else (some (([] : List Int), 0, t457))) = some (r1, r2, r3) := H
  have A3 := Aside0.mk A30
  clear A30
  by_cases c4 : t457 = 0
  rotate_left
  · rw [if_neg c4] at H
    have c4b0 : (t457 == 0) = false := beq_eq_false_iff_ne.mpr c4
    have c4b1 : (t457 != 0) = true := bne_iff_ne.mpr c4
    simp only [Option.some.injEq, Prod.mk.injEq] at H
    obtain ⟨rfl, rfl, rfl⟩ := H
    go_enter Try.func26, Try.ntmps26
    go_wp2_with (first | ((with_reducible refine gate_dst (N := 13) rfl ?_); refine Kd.R_lit (Kd.int .i64) _ 2 ?hg (N := 13) ?hd (xs := ([a1] : List Int)) (inner := [.int .i64 a1]) (ok := fun _ => True) (okp := fun _ => True) ?hr ?hp (fun _ hk => hk) trivial (Below.refl _ _) (Nat.le_refl _) (by simp) ?_; (case hd => rfl); (case hg => rfl); (case hr => first | (go_simp; done) | (go_simp; rfl)); (case hp => exact (Reps.one (show Kd.M (Kd.int .i64) _ _ _ a1 [.int .i64 a1] from rfl) (Reps.none _ _))); intro v455 w24 ho25 hb hg_ hnew_; clear hg_ hnew_; (first | rw [← Ny454.out] at ho25 | (simp only [Int.reduceToNat] at ho25; rw [← Ny454.out] at ho25)); have n0_ := Aside0.mk (Kd.R_lower ho25 (below_size (by repeat (first | (with_reducible first | exact HB.out | apply below_alloc | apply pw_below_drewN | apply below_drew1) | exact HB.out)))); have n1_ := Aside0.mk (below_step (by repeat (first | (with_reducible first | exact HB.out | apply below_alloc | apply pw_below_drewN | apply below_drew1) | exact HB.out)) hb); clear HB; have HO456 := n0_; have HB := n1_; clear n0_ n1_; clear hb ho25; obtain ⟨Ao26, co26, eo26⟩ := Kd.R_slice HO456.out; subst eo26) | ((with_reducible refine gate_callee (f := 58) rfl ?_); refine goesL_ (some 14) rfl rfl Try.func58 (by kernel_rfl) rfl #[.slice A0 l0.length c0, .slice Ao26 y454.length co26] rfl (by (try simp only [List.map_toArray, List.map_cons, List.map_nil]); first | done | rfl | (simp only [List.length_drop, List.length_take]; rfl)) ?_; (with_reducible refine (impl_stockCode.calls k _ _ l0 _ _ y454 t457 _ ?side1 ?side2 ?side3 ?side4 A3.out).mono ?_); (case side1 => repeat (first | exact (Kd.C_below HR0.out HB.out) | (with_reducible refine Kd.C_alloc ?_ _) | (with_reducible refine Kd.C_drewN ?_ _) | (with_reducible refine Kd.C_drew ?_))); (case side2 => exact HC0.out); (case side3 => repeat (first | exact (Kd.R_reads' HO456.out).2.2 | (with_reducible refine Kd.C_alloc ?_ _) | (with_reducible refine Kd.C_drewN ?_ _) | (with_reducible refine Kd.C_drew ?_))); (case side4 => exact (Kd.R_reads' HO456.out).2.1); rintro e w27 ⟨rfl, hb⟩; refine ⟨_, rfl, ?_⟩; have n0_ := Aside0.mk (Kd.R_below (by (with_reducible repeat (first | apply Kd.R_alloc | apply Kd.R_drewN | apply Kd.R_drew)); exact HO456.out) hb); have n1_ := Aside0.mk (below_step (by repeat (first | (with_reducible first | exact HB.out | apply below_alloc | apply pw_below_drewN | apply below_drew1) | exact HB.out)) hb); clear HO456; clear HB; have HO456 := n0_; have HB := n1_; clear n0_ n1_; (try clear hb); (try clear hb2); (try clear hk); (try clear hi)))
    go_ret3
    exact ⟨_, by first | rfl | (simp [errW_none, errW_some] <;> rfl) | (simp [*, errW_none, errW_some] <;> rfl), by first | exact Kd.R_nil _ _ _ _ _ | exact Kd.N_nil _ _ _ _ _ | exact Kd.V_nil _ _ _ _ _ | exact Kd.Q_nil _ _ _ _ _ | exact Kd.S_nil _ _ _ _ _, by repeat (first | (with_reducible first | exact HB.out | apply below_alloc | apply pw_below_drewN | apply below_drew1) | exact HB.out)⟩

  rw [if_pos c4] at H
  have c4b0 : (t457 == 0) = true := beq_iff_eq.mpr c4
  have c4b1 : (t457 != 0) = false := bne_eq_false_iff_eq.mpr c4
  clear c4
  replace H := Option.bind_eq_some_iff.mp H
  obtain ⟨⟨t458, t461⟩, A50, H⟩ := H
  replace H : ((impl_purse_fewest.f k t458 t461 a1).bind fun bt464 => (if bt464.2.2 = true then (some (bt464.1, bt464.2.1, 0)) else (some (([] : List Int), 0, 6)))) = some (r1, r2, r3) := H
  have A5 := Aside0.mk A50
  clear A50
  replace H := Option.bind_eq_some_iff.mp H
  obtain ⟨⟨t464, t467, t468⟩, A60, H⟩ := H
  replace H : (if t468 = true then (some (t464, t467, 0)) else (some (([] : List Int), 0, 6))) = some (r1, r2, r3) := H
  have A6 := Aside0.mk A60
  clear A60
  by_cases c7 : t468 = true
  rotate_left
  · replace c7 := Bool.eq_false_iff.mpr c7
    subst c7
    have H1 : (some (([] : List Int), 0, 6)) = some (r1, r2, r3) := by rw [if_neg (show ¬ (false = true) by decide)] at H; exact H
    clear H
    have H := H1
    clear H1
    simp only [Option.some.injEq, Prod.mk.injEq] at H
    obtain ⟨rfl, rfl, rfl⟩ := H
    go_enter Try.func26, Try.ntmps26
    go_wp2_with (first | ((with_reducible refine gate_dst (N := 13) rfl ?_); refine Kd.R_lit (Kd.int .i64) _ 2 ?hg (N := 13) ?hd (xs := ([a1] : List Int)) (inner := [.int .i64 a1]) (ok := fun _ => True) (okp := fun _ => True) ?hr ?hp (fun _ hk => hk) trivial (Below.refl _ _) (Nat.le_refl _) (by simp) ?_; (case hd => rfl); (case hg => rfl); (case hr => first | (go_simp; done) | (go_simp; rfl)); (case hp => exact (Reps.one (show Kd.M (Kd.int .i64) _ _ _ a1 [.int .i64 a1] from rfl) (Reps.none _ _))); intro v455 w16 ho17 hb hg_ hnew_; clear hg_ hnew_; (first | rw [← Ny454.out] at ho17 | (simp only [Int.reduceToNat] at ho17; rw [← Ny454.out] at ho17)); have n0_ := Aside0.mk (Kd.R_lower ho17 (below_size (by repeat (first | (with_reducible first | exact HB.out | apply below_alloc | apply pw_below_drewN | apply below_drew1) | exact HB.out)))); have n1_ := Aside0.mk (below_step (by repeat (first | (with_reducible first | exact HB.out | apply below_alloc | apply pw_below_drewN | apply below_drew1) | exact HB.out)) hb); clear HB; have HO456 := n0_; have HB := n1_; clear n0_ n1_; clear hb ho17; obtain ⟨Ao18, co18, eo18⟩ := Kd.R_slice HO456.out; subst eo18) | ((with_reducible refine gate_callee (f := 58) rfl ?_); refine goesL_ (some 14) rfl rfl Try.func58 (by kernel_rfl) rfl #[.slice A0 l0.length c0, .slice Ao18 y454.length co18] rfl (by (try simp only [List.map_toArray, List.map_cons, List.map_nil]); first | done | rfl | (simp only [List.length_drop, List.length_take]; rfl)) ?_; (with_reducible refine (impl_stockCode.calls k _ _ l0 _ _ y454 t457 _ ?side1 ?side2 ?side3 ?side4 A3.out).mono ?_); (case side1 => repeat (first | exact (Kd.C_below HR0.out HB.out) | (with_reducible refine Kd.C_alloc ?_ _) | (with_reducible refine Kd.C_drewN ?_ _) | (with_reducible refine Kd.C_drew ?_))); (case side2 => exact HC0.out); (case side3 => repeat (first | exact (Kd.R_reads' HO456.out).2.2 | (with_reducible refine Kd.C_alloc ?_ _) | (with_reducible refine Kd.C_drewN ?_ _) | (with_reducible refine Kd.C_drew ?_))); (case side4 => exact (Kd.R_reads' HO456.out).2.1); rintro e w19 ⟨rfl, hb⟩; refine ⟨_, rfl, ?_⟩; have n0_ := Aside0.mk (Kd.R_below (by (with_reducible repeat (first | apply Kd.R_alloc | apply Kd.R_drewN | apply Kd.R_drew)); exact HO456.out) hb); have n1_ := Aside0.mk (below_step (by repeat (first | (with_reducible first | exact HB.out | apply below_alloc | apply pw_below_drewN | apply below_drew1) | exact HB.out)) hb); clear HO456; clear HB; have HO456 := n0_; have HB := n1_; clear n0_ n1_; (try clear hb); (try clear hb2); (try clear hk); (try clear hi)) | ((with_reducible refine gate_callee (f := 49) rfl ?_); refine goesL_ (some 20) rfl rfl Try.func49 (by kernel_rfl) rfl #[.slice A0 l0.length c0] rfl (by (try simp only [List.map_toArray, List.map_cons, List.map_nil]); first | done | rfl | (simp only [List.length_drop, List.length_take]; rfl)) ?_; (with_reducible refine (impl_purseOf.calls k _ _ l0 t458 t461 _ ?side1 ?side2 A5.out).mono ?_); (case side1 => repeat (first | exact (Kd.C_below HR0.out HB.out) | (with_reducible refine Kd.C_alloc ?_ _) | (with_reducible refine Kd.C_drewN ?_ _) | (with_reducible refine Kd.C_drew ?_))); (case side2 => exact HC0.out); rintro e w20 ⟨v459, v462, rfl, ho0, ho1, hb⟩; refine ⟨_, rfl, ?_⟩; have n0_ := Aside0.mk (Kd.R_mono (Kd.R_told (Kd.R_told (Kd.R_old (by (with_reducible repeat (first | apply Kd.R_alloc | apply Kd.R_drewN | apply Kd.R_drew)); exact HO456.out) hb) (Kd.R_base ho0)) (Kd.R_base ho1)) (fun _ h_ => h_.1)); have n1_ := Aside0.mk (Kd.R_lower (Kd.R_new' ho0 (Kd.R_lt (by (with_reducible repeat (first | apply Kd.R_alloc | apply Kd.R_drewN | apply Kd.R_drew)); exact HO456.out))) (below_size (by repeat (first | (with_reducible first | exact HB.out | apply below_alloc | apply pw_below_drewN | apply below_drew1) | exact HB.out)))); have n2_ := Aside0.mk (Kd.R_lower (Kd.R_new' ho1 (Kd.R_lt (by (with_reducible repeat (first | apply Kd.R_alloc | apply Kd.R_drewN | apply Kd.R_drew)); exact HO456.out))) (below_size (by repeat (first | (with_reducible first | exact HB.out | apply below_alloc | apply pw_below_drewN | apply below_drew1) | exact HB.out)))); have n3_ := Aside0.mk (below_step (by repeat (first | (with_reducible first | exact HB.out | apply below_alloc | apply pw_below_drewN | apply below_drew1) | exact HB.out)) hb); clear HO456; clear HB; have HO456 := n0_; have HO460 := n1_; have HO463 := n2_; have HB := n3_; clear n0_ n1_ n2_ n3_; (try clear hb); (try clear hb2); (try clear hk); (try clear hi); (try clear ho0); (try clear ho1); obtain ⟨Ao21, co21, eo21⟩ := Kd.R_slice HO460.out; subst eo21; obtain ⟨Ao22, co22, eo22⟩ := Kd.R_slice HO463.out; subst eo22) | ((with_reducible refine gate_callee (f := 59) rfl ?_); refine goesL_ (some 22) rfl rfl Try.func59 (by kernel_rfl) rfl #[.agg #[.slice Ao21 t458.length co21, .slice Ao22 t461.length co22], .int .i64 a1] rfl (by (try simp only [List.map_toArray, List.map_cons, List.map_nil]); first | done | rfl | (simp only [List.length_drop, List.length_take]; rfl)) ?_; (with_reducible refine (impl_purse_fewest.calls k _ _ t458 _ _ t461 a1 t464 t467 false _ ?side1 ?side2 ?side3 ?side4 A6.out).mono ?_); (case side1 => repeat (first | exact (Kd.R_reads' HO460.out).2.2 | (with_reducible refine Kd.C_alloc ?_ _) | (with_reducible refine Kd.C_drewN ?_ _) | (with_reducible refine Kd.C_drew ?_))); (case side2 => exact (Kd.R_reads' HO460.out).2.1); (case side3 => repeat (first | exact (Kd.R_reads' HO463.out).2.2 | (with_reducible refine Kd.C_alloc ?_ _) | (with_reducible refine Kd.C_drewN ?_ _) | (with_reducible refine Kd.C_drew ?_))); (case side4 => exact (Kd.R_reads' HO463.out).2.1); rintro e w23 ⟨v465, rfl, ho0, hb⟩; refine ⟨_, rfl, ?_⟩; have n0_ := Aside0.mk (Kd.R_elder' (by (with_reducible repeat (first | apply Kd.R_alloc | apply Kd.R_drewN | apply Kd.R_drew)); exact HO456.out) (Kd.R_base ho0) hb); have n1_ := Aside0.mk (Kd.R_elder' (by (with_reducible repeat (first | apply Kd.R_alloc | apply Kd.R_drewN | apply Kd.R_drew)); exact HO460.out) (Kd.R_base ho0) hb); have n2_ := Aside0.mk (Kd.R_elder' (by (with_reducible repeat (first | apply Kd.R_alloc | apply Kd.R_drewN | apply Kd.R_drew)); exact HO463.out) (Kd.R_base ho0) hb); have n3_ := Aside0.mk (Kd.R_lower (Kd.R_new' (Kd.R_new' (Kd.R_new' ho0 (Kd.R_lt (by (with_reducible repeat (first | apply Kd.R_alloc | apply Kd.R_drewN | apply Kd.R_drew)); exact HO456.out))) (Kd.R_lt (by (with_reducible repeat (first | apply Kd.R_alloc | apply Kd.R_drewN | apply Kd.R_drew)); exact HO460.out))) (Kd.R_lt (by (with_reducible repeat (first | apply Kd.R_alloc | apply Kd.R_drewN | apply Kd.R_drew)); exact HO463.out))) (below_size (by repeat (first | (with_reducible first | exact HB.out | apply below_alloc | apply pw_below_drewN | apply below_drew1) | exact HB.out)))); have n4_ := Aside0.mk (below_step (by repeat (first | (with_reducible first | exact HB.out | apply below_alloc | apply pw_below_drewN | apply below_drew1) | exact HB.out)) hb); clear HO456; clear HO460; clear HO463; clear HB; have HO456 := n0_; have HO460 := n1_; have HO463 := n2_; have HO466 := n3_; have HB := n4_; clear n0_ n1_ n2_ n3_ n4_; (try clear hb); (try clear hb2); (try clear hk); (try clear hi); (try clear ho0)))
    go_ret3
    exact ⟨_, by first | rfl | (simp [errW_none, errW_some] <;> rfl) | (simp [*, errW_none, errW_some] <;> rfl), by first | exact Kd.R_nil _ _ _ _ _ | exact Kd.N_nil _ _ _ _ _ | exact Kd.V_nil _ _ _ _ _ | exact Kd.Q_nil _ _ _ _ _ | exact Kd.S_nil _ _ _ _ _, by repeat (first | (with_reducible first | exact HB.out | apply below_alloc | apply pw_below_drewN | apply below_drew1) | exact HB.out)⟩
  subst c7
  have H1 : (some (t464, t467, 0)) = some (r1, r2, r3) := by rw [if_pos rfl] at H; exact H
  clear H
  have H := H1
  clear H1
  simp only [Option.some.injEq, Prod.mk.injEq] at H
  obtain ⟨rfl, rfl, rfl⟩ := H
  go_enter Try.func26, Try.ntmps26
  go_wp2_with (first | ((with_reducible refine gate_dst (N := 13) rfl ?_); refine Kd.R_lit (Kd.int .i64) _ 2 ?hg (N := 13) ?hd (xs := ([a1] : List Int)) (inner := [.int .i64 a1]) (ok := fun _ => True) (okp := fun _ => True) ?hr ?hp (fun _ hk => hk) trivial (Below.refl _ _) (Nat.le_refl _) (by simp) ?_; (case hd => rfl); (case hg => rfl); (case hr => first | (go_simp; done) | (go_simp; rfl)); (case hp => exact (Reps.one (show Kd.M (Kd.int .i64) _ _ _ a1 [.int .i64 a1] from rfl) (Reps.none _ _))); intro v455 w8 ho9 hb hg_ hnew_; clear hg_ hnew_; (first | rw [← Ny454.out] at ho9 | (simp only [Int.reduceToNat] at ho9; rw [← Ny454.out] at ho9)); have n0_ := Aside0.mk (Kd.R_lower ho9 (below_size (by repeat (first | (with_reducible first | exact HB.out | apply below_alloc | apply pw_below_drewN | apply below_drew1) | exact HB.out)))); have n1_ := Aside0.mk (below_step (by repeat (first | (with_reducible first | exact HB.out | apply below_alloc | apply pw_below_drewN | apply below_drew1) | exact HB.out)) hb); clear HB; have HO456 := n0_; have HB := n1_; clear n0_ n1_; clear hb ho9; obtain ⟨Ao10, co10, eo10⟩ := Kd.R_slice HO456.out; subst eo10) | ((with_reducible refine gate_callee (f := 58) rfl ?_); refine goesL_ (some 14) rfl rfl Try.func58 (by kernel_rfl) rfl #[.slice A0 l0.length c0, .slice Ao10 y454.length co10] rfl (by (try simp only [List.map_toArray, List.map_cons, List.map_nil]); first | done | rfl | (simp only [List.length_drop, List.length_take]; rfl)) ?_; (with_reducible refine (impl_stockCode.calls k _ _ l0 _ _ y454 t457 _ ?side1 ?side2 ?side3 ?side4 A3.out).mono ?_); (case side1 => repeat (first | exact (Kd.C_below HR0.out HB.out) | (with_reducible refine Kd.C_alloc ?_ _) | (with_reducible refine Kd.C_drewN ?_ _) | (with_reducible refine Kd.C_drew ?_))); (case side2 => exact HC0.out); (case side3 => repeat (first | exact (Kd.R_reads' HO456.out).2.2 | (with_reducible refine Kd.C_alloc ?_ _) | (with_reducible refine Kd.C_drewN ?_ _) | (with_reducible refine Kd.C_drew ?_))); (case side4 => exact (Kd.R_reads' HO456.out).2.1); rintro e w11 ⟨rfl, hb⟩; refine ⟨_, rfl, ?_⟩; have n0_ := Aside0.mk (Kd.R_below (by (with_reducible repeat (first | apply Kd.R_alloc | apply Kd.R_drewN | apply Kd.R_drew)); exact HO456.out) hb); have n1_ := Aside0.mk (below_step (by repeat (first | (with_reducible first | exact HB.out | apply below_alloc | apply pw_below_drewN | apply below_drew1) | exact HB.out)) hb); clear HO456; clear HB; have HO456 := n0_; have HB := n1_; clear n0_ n1_; (try clear hb); (try clear hb2); (try clear hk); (try clear hi)) | ((with_reducible refine gate_callee (f := 49) rfl ?_); refine goesL_ (some 20) rfl rfl Try.func49 (by kernel_rfl) rfl #[.slice A0 l0.length c0] rfl (by (try simp only [List.map_toArray, List.map_cons, List.map_nil]); first | done | rfl | (simp only [List.length_drop, List.length_take]; rfl)) ?_; (with_reducible refine (impl_purseOf.calls k _ _ l0 t458 t461 _ ?side1 ?side2 A5.out).mono ?_); (case side1 => repeat (first | exact (Kd.C_below HR0.out HB.out) | (with_reducible refine Kd.C_alloc ?_ _) | (with_reducible refine Kd.C_drewN ?_ _) | (with_reducible refine Kd.C_drew ?_))); (case side2 => exact HC0.out); rintro e w12 ⟨v459, v462, rfl, ho0, ho1, hb⟩; refine ⟨_, rfl, ?_⟩; have n0_ := Aside0.mk (Kd.R_mono (Kd.R_told (Kd.R_told (Kd.R_old (by (with_reducible repeat (first | apply Kd.R_alloc | apply Kd.R_drewN | apply Kd.R_drew)); exact HO456.out) hb) (Kd.R_base ho0)) (Kd.R_base ho1)) (fun _ h_ => h_.1)); have n1_ := Aside0.mk (Kd.R_lower (Kd.R_new' ho0 (Kd.R_lt (by (with_reducible repeat (first | apply Kd.R_alloc | apply Kd.R_drewN | apply Kd.R_drew)); exact HO456.out))) (below_size (by repeat (first | (with_reducible first | exact HB.out | apply below_alloc | apply pw_below_drewN | apply below_drew1) | exact HB.out)))); have n2_ := Aside0.mk (Kd.R_lower (Kd.R_new' ho1 (Kd.R_lt (by (with_reducible repeat (first | apply Kd.R_alloc | apply Kd.R_drewN | apply Kd.R_drew)); exact HO456.out))) (below_size (by repeat (first | (with_reducible first | exact HB.out | apply below_alloc | apply pw_below_drewN | apply below_drew1) | exact HB.out)))); have n3_ := Aside0.mk (below_step (by repeat (first | (with_reducible first | exact HB.out | apply below_alloc | apply pw_below_drewN | apply below_drew1) | exact HB.out)) hb); clear HO456; clear HB; have HO456 := n0_; have HO460 := n1_; have HO463 := n2_; have HB := n3_; clear n0_ n1_ n2_ n3_; (try clear hb); (try clear hb2); (try clear hk); (try clear hi); (try clear ho0); (try clear ho1); obtain ⟨Ao13, co13, eo13⟩ := Kd.R_slice HO460.out; subst eo13; obtain ⟨Ao14, co14, eo14⟩ := Kd.R_slice HO463.out; subst eo14) | ((with_reducible refine gate_callee (f := 59) rfl ?_); refine goesL_ (some 22) rfl rfl Try.func59 (by kernel_rfl) rfl #[.agg #[.slice Ao13 t458.length co13, .slice Ao14 t461.length co14], .int .i64 a1] rfl (by (try simp only [List.map_toArray, List.map_cons, List.map_nil]); first | done | rfl | (simp only [List.length_drop, List.length_take]; rfl)) ?_; (with_reducible refine (impl_purse_fewest.calls k _ _ t458 _ _ t461 a1 t464 t467 true _ ?side1 ?side2 ?side3 ?side4 A6.out).mono ?_); (case side1 => repeat (first | exact (Kd.R_reads' HO460.out).2.2 | (with_reducible refine Kd.C_alloc ?_ _) | (with_reducible refine Kd.C_drewN ?_ _) | (with_reducible refine Kd.C_drew ?_))); (case side2 => exact (Kd.R_reads' HO460.out).2.1); (case side3 => repeat (first | exact (Kd.R_reads' HO463.out).2.2 | (with_reducible refine Kd.C_alloc ?_ _) | (with_reducible refine Kd.C_drewN ?_ _) | (with_reducible refine Kd.C_drew ?_))); (case side4 => exact (Kd.R_reads' HO463.out).2.1); rintro e w15 ⟨v465, rfl, ho0, hb⟩; refine ⟨_, rfl, ?_⟩; have n0_ := Aside0.mk (Kd.R_elder' (by (with_reducible repeat (first | apply Kd.R_alloc | apply Kd.R_drewN | apply Kd.R_drew)); exact HO456.out) (Kd.R_base ho0) hb); have n1_ := Aside0.mk (Kd.R_elder' (by (with_reducible repeat (first | apply Kd.R_alloc | apply Kd.R_drewN | apply Kd.R_drew)); exact HO460.out) (Kd.R_base ho0) hb); have n2_ := Aside0.mk (Kd.R_elder' (by (with_reducible repeat (first | apply Kd.R_alloc | apply Kd.R_drewN | apply Kd.R_drew)); exact HO463.out) (Kd.R_base ho0) hb); have n3_ := Aside0.mk (Kd.R_lower (Kd.R_new' (Kd.R_new' (Kd.R_new' ho0 (Kd.R_lt (by (with_reducible repeat (first | apply Kd.R_alloc | apply Kd.R_drewN | apply Kd.R_drew)); exact HO456.out))) (Kd.R_lt (by (with_reducible repeat (first | apply Kd.R_alloc | apply Kd.R_drewN | apply Kd.R_drew)); exact HO460.out))) (Kd.R_lt (by (with_reducible repeat (first | apply Kd.R_alloc | apply Kd.R_drewN | apply Kd.R_drew)); exact HO463.out))) (below_size (by repeat (first | (with_reducible first | exact HB.out | apply below_alloc | apply pw_below_drewN | apply below_drew1) | exact HB.out)))); have n4_ := Aside0.mk (below_step (by repeat (first | (with_reducible first | exact HB.out | apply below_alloc | apply pw_below_drewN | apply below_drew1) | exact HB.out)) hb); clear HO456; clear HO460; clear HO463; clear HB; have HO456 := n0_; have HO460 := n1_; have HO463 := n2_; have HO466 := n3_; have HB := n4_; clear n0_ n1_ n2_ n3_ n4_; (try clear hb); (try clear hb2); (try clear hk); (try clear hi); (try clear ho0)))
  go_ret3
  exact ⟨_, by first | rfl | (simp [errW_none, errW_some] <;> rfl) | (simp [*, errW_none, errW_some] <;> rfl), by (with_reducible repeat (first | apply Kd.R_alloc | apply Kd.R_drewN | apply Kd.R_drew)); exact Kd.R_mono HO466.out (fun _ hk => trivial), by repeat (first | (with_reducible first | exact HB.out | apply below_alloc | apply pw_below_drewN | apply below_drew1) | exact HB.out)⟩
end Go.Proofs.Ytnhcdfikjfjkoaa.P

namespace Go.Proofs.Ytnhcdfikjfjkoaa.P
open Go.RowKit Go.Proofs.YtnhcdfikjfjkoaaW.PrintWords Go.Proofs.YtnhcdfikjfjkoaaW.PrintLast Go.Proofs.YtnhcdfikjfjkoaaW.PrintMore
attribute [local go_sem] max2_int min2_int max_two min_two max_three min_three max_four min_four   -- for this text's walks alone
set_option linter.unusedVariables false
set_option linter.unusedSimpArgs false

/-! ### spec_PayFrom: function 25 -/
def spec_PayFrom.f (k : Nat) (l0 : List (S56)) (a1 : Int) : Option (List Int × Int × Int) := (spec_l01Stocked.f k l0 a1).bind fun t368 => (if t368 = 0 then ((spec_l01Parts.f k l0).bind fun bt372 => ((spec_l01Table.f k bt372.1 bt372.2 a1).bind fun t378 => (if 0 < (t378.length : Int) then (if 0 ≤ a1 then (if a1 < ((rd_L1 t378 0).length : Int) then (if (rd (rd_L1 t378 0) a1) < 0 then (some ((([] : List Int)), 0, 6)) else ((spec_l01Counts.f k t378 bt372.1 a1).bind fun t386 => (some (t386, rd (rd_L1 t378 0) a1, 0)))) else (none)) else (none)) else (none)))) else (some ((([] : List Int)), 0, t368)))
theorem spec_PayFrom.mono : ∀ a0 a1 k, LeO (spec_PayFrom.f k a0 a1) (spec_PayFrom.f (k + 1) a0 a1) := by
  intro a0 a1 k
  unfold spec_PayFrom.f
  repeat' first
      | (with_reducible exact spec_l01Counts.mono _ _ _ _)
      | (with_reducible exact spec_l01Parts.mono _ _)
      | (with_reducible exact spec_l01Stocked.mono _ _ _)
      | (with_reducible exact spec_l01Table.mono _ _ _ _)
      | (with_reducible exact LeO.refl _)
      | (with_reducible exact LeO.none _)
      | (with_reducible refine LeO.ite ?_ ?_)
      | (with_reducible refine LeO.bind ?_ (fun _ => ?_))
      | exact spec_l01Counts.mono _ _ _ _
      | exact spec_l01Parts.mono _ _
      | exact spec_l01Stocked.mono _ _ _
      | exact spec_l01Table.mono _ _ _ _
      | exact LeO.none _
      | refine LeO.ite ?_ ?_
      | refine LeO.bind ?_ (fun _ => ?_)
def spec_PayFrom.T8 : Bool × List (List Nat × List Nat) := (true, [([], []), ([], []), ([], []), ([0, 1, 2], [0, 1, 2]), ([], []), ([4], [4]), ([5], [5]), ([], []), ([6, 7], [6, 7]), ([8], [8]), ([3, 3, 0, 1, 2, 3], [3]), ([9, 10, 0, 1, 2, 3, 4, 5, 6, 7, 8, 9, 10], [9]), ([11, 0, 1, 2, 3, 4, 5, 6, 7, 8, 9, 10, 11], [])])
def spec_PayFrom.B8 : List Nat := [0, 0, 0, 7, 0, 16, 48, 0, 240, 496, 15, 2047, 4095]
theorem spec_PayFrom.tab8 : rtab .any (opsOf Try.f25 8) = spec_PayFrom.T8 := by kernel_rfl
theorem spec_PayFrom.bits8 : waitsOk spec_PayFrom.T8.2 spec_PayFrom.B8 = true := by kernel_rfl
set_option maxHeartbeats 8000000 in
set_option maxRecDepth 100000 in
theorem spec_PayFrom.calls (k : Nat) (A0 : Option Addr) (c0 : Nat) (l0 : List (S56)) (a1 : Int) (r1 : List Int) (r2 : Int) (r3 : Int) (w : World) (hr0 : Kd.C k56 w A0 l0.length l0) (hc0 : l0.length ≤ c0) (h : spec_PayFrom.f k l0 a1 = some (r1, r2, r3)) :
    Calls Try.prog 25 #[.slice A0 l0.length c0, .int .i64 a1] w fun e w' => ∃ v0_ : Value, e = .returned (.tuple #[v0_, .int .i64 r2, .int .i64 r3]) ∧ Kd.R (Kd.int .i64) 2 w' w.heap.size (fun _ => True) v0_ r1 ∧ Below w.heap.size w w' := by
  have HR0 := Aside0.mk hr0
  have HC0 := Aside0.mk hc0
  clear hr0 hc0
  have HB := Aside0.mk (Below.refl w.heap.size w)
  have H : ((spec_l01Stocked.f k l0 a1).bind fun t368 => (if t368 = 0 then ((spec_l01Parts.f k l0).bind fun bt372 => ((spec_l01Table.f k bt372.1 bt372.2 a1).bind fun t378 => (if 0 < (t378.length : Int) then (if 0 ≤ a1 then (if a1 < ((rd_L1 t378 0).length : Int) then (if (rd (rd_L1 t378 0) a1) < 0 then (some ((([] : List Int)), 0, 6)) else ((spec_l01Counts.f k t378 bt372.1 a1).bind fun t386 => (some (t386, rd (rd_L1 t378 0) a1, 0)))) else (none)) else (none)) else (none)))) else (some ((([] : List Int)), 0, t368)))) = some (r1, r2, r3) := h
  clear h
  replace H := Option.bind_eq_some_iff.mp H
  obtain ⟨t368, A30, H⟩ := H
  replace H : (if t368 = 0 then ((spec_l01Parts.f k l0).bind fun bt372 => ((spec_l01Table.f k bt372.1 bt372.2 a1).bind fun t378 => (if 0 < (t378.length : Int) then (if 0 ≤ a1 then (if a1 < ((rd_L1 t378 0).length : Int) then (if (rd (rd_L1 t378 0) a1) < 0 then (some ((([] : List Int)), 0, 6)) else ((spec_l01Counts.f k t378 bt372.1 a1).bind fun t386 => (some (t386, rd (rd_L1 t378 0) a1, 0)))) else (none)) else (none)) else (none)))) else (some ((([] : List Int)), 0, t368))) = some (r1, r2, r3) := H
  have A3 := Aside0.mk A30
  clear A30
  by_cases c4 : t368 = 0
  rotate_left
  · rw [if_neg c4] at H
    have c4b0 : (t368 == 0) = false := beq_eq_false_iff_ne.mpr c4
    have c4b1 : (t368 != 0) = true := bne_iff_ne.mpr c4
    obtain ⟨y369, hy369⟩ : ∃ y_ : List Int, y_ = (([] : List Int)) := ⟨_, rfl⟩
    replace H : (some (y369, 0, t368)) = some (r1, r2, r3) := by first | (rw [hy369]; with_reducible exact H) | (have H2_ := (Option.bind_some _ _).symm.trans H; rw [hy369]; with_reducible exact H2_) | (have H2_ := (Option.bind_some _ _).symm.trans H; with_reducible exact H2_) | with_reducible exact H | (rw [hy369]; exact H) | exact H
    have Ny369 := Aside0.mk hy369
    clear hy369
    simp only [Option.some.injEq, Prod.mk.injEq] at H
    obtain ⟨rfl, rfl, rfl⟩ := H
    go_enter Try.func25, Try.ntmps25
    go_wp2_with (first | ((with_reducible refine gate_callee (f := 54) rfl ?_); refine goesL_ (some 13) rfl rfl Try.func54 (by kernel_rfl) rfl #[.slice A0 l0.length c0, .int .i64 a1] rfl (by (try simp only [List.map_toArray, List.map_cons, List.map_nil]); first | done | rfl | (simp only [List.length_drop, List.length_take]; rfl)) ?_; (with_reducible refine (spec_l01Stocked.calls k _ _ l0 a1 t368 _ ?side1 ?side2 A3.out).mono ?_); (case side1 => repeat (first | exact HR0.out | (with_reducible refine Kd.C_alloc ?_ _) | (with_reducible refine Kd.C_drewN ?_ _) | (with_reducible refine Kd.C_drew ?_))); (case side2 => exact HC0.out); rintro e w' ⟨rfl, ⟨nd, rfl⟩⟩; refine ⟨_, rfl, ?_⟩) | ((with_reducible refine gate_dst (N := 16) rfl ?_); refine Kd.R_lit (Kd.int .i64) _ 2 ?hg (N := 16) ?hd (xs := ([] : List Int)) (inner := []) (ok := fun _ => True) (okp := fun _ => True) ?hr ?hp (fun _ hk => hk) trivial (Below.refl _ _) (Nat.le_refl _) (by simp) ?_; (case hd => rfl); (case hg => rfl); (case hr => first | (go_simp; done) | (go_simp; rfl)); (case hp => exact (Reps.none _ _)); intro v370 w26 ho27 hb hg_ hnew_; clear hg_ hnew_; (first | rw [← Ny369.out] at ho27 | (simp only [Int.reduceToNat] at ho27; rw [← Ny369.out] at ho27)); have n0_ := Aside0.mk (Kd.R_lower ho27 (below_size (by repeat (first | (with_reducible first | exact HB.out | apply below_alloc | apply pw_below_drewN | apply below_drew1) | exact HB.out)))); have n1_ := Aside0.mk (below_step (by repeat (first | (with_reducible first | exact HB.out | apply below_alloc | apply pw_below_drewN | apply below_drew1) | exact HB.out)) hb); clear HB; have HO371 := n0_; have HB := n1_; clear n0_ n1_; clear hb ho27))
    go_ret3
    exact ⟨_, by first | rfl | (simp [errW_none, errW_some] <;> rfl) | (simp [*, errW_none, errW_some] <;> rfl), by (with_reducible repeat (first | apply Kd.R_alloc | apply Kd.R_drewN | apply Kd.R_drew)); exact HO371.out, by repeat (first | (with_reducible first | exact HB.out | apply below_alloc | apply pw_below_drewN | apply below_drew1) | exact HB.out)⟩

  rw [if_pos c4] at H
  have c4b0 : (t368 == 0) = true := beq_iff_eq.mpr c4
  have c4b1 : (t368 != 0) = false := bne_eq_false_iff_eq.mpr c4
  clear c4
  replace H := Option.bind_eq_some_iff.mp H
  obtain ⟨⟨t372, t373⟩, A50, H⟩ := H
  replace H : ((spec_l01Table.f k t372 t373 a1).bind fun t378 => (if 0 < (t378.length : Int) then (if 0 ≤ a1 then (if a1 < ((rd_L1 t378 0).length : Int) then (if (rd (rd_L1 t378 0) a1) < 0 then (some ((([] : List Int)), 0, 6)) else ((spec_l01Counts.f k t378 t372 a1).bind fun t386 => (some (t386, rd (rd_L1 t378 0) a1, 0)))) else (none)) else (none)) else (none))) = some (r1, r2, r3) := H
  have A5 := Aside0.mk A50
  clear A50
  replace H := Option.bind_eq_some_iff.mp H
  obtain ⟨t378, A60, H⟩ := H
  replace H : (if 0 < (t378.length : Int) then (if 0 ≤ a1 then (if a1 < ((rd_L1 t378 0).length : Int) then (if (rd (rd_L1 t378 0) a1) < 0 then (some ((([] : List Int)), 0, 6)) else ((spec_l01Counts.f k t378 t372 a1).bind fun t386 => (some (t386, rd (rd_L1 t378 0) a1, 0)))) else (none)) else (none)) else (none)) = some (r1, r2, r3) := H
  have A6 := Aside0.mk A60
  clear A60
  by_cases c7 : 0 < (t378.length : Int)
  rotate_left
  · rw [if_neg c7] at H
    exact absurd H (by simp)
  rw [if_pos c7] at H
  have c7b0 : decide (0 < (t378.length : Int)) = true := decide_eq_true c7
  have c7b1 : decide (0 < t378.length) = true := decide_eq_true (by omega)
  clear c7
  by_cases c8 : 0 ≤ a1
  rotate_left
  · rw [if_neg c8] at H
    exact absurd H (by simp)
  rw [if_pos c8] at H
  have c8b0 : decide (0 ≤ a1) = true := decide_eq_true c8
  clear c8
  by_cases c9 : a1 < ((rd_L1 t378 0).length : Int)
  rotate_left
  · rw [if_neg c9] at H
    exact absurd H (by simp)
  rw [if_pos c9] at H
  have c9b0 : decide (a1 < ((rd_L1 t378 0).length : Int)) = true := decide_eq_true c9
  clear c9
  by_cases c10 : (rd (rd_L1 t378 0) a1) < 0
  rotate_left
  · rw [if_neg c10] at H
    have c10b0 : decide ((rd (rd_L1 t378 0) a1) < 0) = false := decide_eq_false c10
    clear c10
    replace H := Option.bind_eq_some_iff.mp H
    obtain ⟨t386, A180, H⟩ := H
    replace H : (some (t386, rd (rd_L1 t378 0) a1, 0)) = some (r1, r2, r3) := H
    have A18 := Aside0.mk A180
    clear A180
    simp only [Option.some.injEq, Prod.mk.injEq] at H
    obtain ⟨rfl, rfl, rfl⟩ := H
    go_enter Try.func25, Try.ntmps25
    try go_wp2_with (first | ((with_reducible refine gate_callee (f := 54) rfl ?_); refine goesL_ (some 13) rfl rfl Try.func54 (by kernel_rfl) rfl #[.slice A0 l0.length c0, .int .i64 a1] rfl (by (try simp only [List.map_toArray, List.map_cons, List.map_nil]); first | done | rfl | (simp only [List.length_drop, List.length_take]; rfl)) ?_; (with_reducible refine (spec_l01Stocked.calls k _ _ l0 a1 t368 _ ?side1 ?side2 A3.out).mono ?_); (case side1 => repeat (first | exact HR0.out | (with_reducible refine Kd.C_alloc ?_ _) | (with_reducible refine Kd.C_drewN ?_ _) | (with_reducible refine Kd.C_drew ?_))); (case side2 => exact HC0.out); rintro e w' ⟨rfl, ⟨nd, rfl⟩⟩; refine ⟨_, rfl, ?_⟩) | ((with_reducible refine gate_callee (f := 55) rfl ?_); refine goesL_ (some 20) rfl rfl Try.func55 (by kernel_rfl) rfl #[.slice A0 l0.length c0] rfl (by (try simp only [List.map_toArray, List.map_cons, List.map_nil]); first | done | rfl | (simp only [List.length_drop, List.length_take]; rfl)) ?_; (with_reducible refine (spec_l01Parts.calls k _ _ l0 t372 t373 _ ?side1 ?side2 A5.out).mono ?_); (case side1 => repeat (first | exact HR0.out | (with_reducible refine Kd.C_alloc ?_ _) | (with_reducible refine Kd.C_drewN ?_ _) | (with_reducible refine Kd.C_drew ?_))); (case side2 => exact HC0.out); rintro e w19 ⟨v374, v376, rfl, ho0, ho1, hb⟩; refine ⟨_, rfl, ?_⟩; have n0_ := Aside0.mk (Kd.R_lower ho0 (below_size (by repeat (first | (with_reducible first | exact HB.out | apply below_alloc | apply pw_below_drewN | apply below_drew1) | exact HB.out)))); have n1_ := Aside0.mk (Kd.R_lower ho1 (below_size (by repeat (first | (with_reducible first | exact HB.out | apply below_alloc | apply pw_below_drewN | apply below_drew1) | exact HB.out)))); have n2_ := Aside0.mk (below_step (by repeat (first | (with_reducible first | exact HB.out | apply below_alloc | apply pw_below_drewN | apply below_drew1) | exact HB.out)) hb); clear HB; have HO375 := n0_; have HO377 := n1_; have HB := n2_; clear n0_ n1_ n2_; (try clear hb); (try clear hb2); (try clear hk); (try clear hi); (try clear ho0); (try clear ho1); obtain ⟨Ao20, co20, eo20⟩ := Kd.R_slice HO375.out; subst eo20; obtain ⟨Ao21, co21, eo21⟩ := Kd.R_slice HO377.out; subst eo21) | ((with_reducible refine gate_callee (f := 56) rfl ?_); refine goesL_ (some 26) rfl rfl Try.func56 (by kernel_rfl) rfl #[.slice Ao20 t372.length co20, .slice Ao21 t373.length co21, .int .i64 a1] rfl (by (try simp only [List.map_toArray, List.map_cons, List.map_nil]); first | done | rfl | (simp only [List.length_drop, List.length_take]; rfl)) ?_; (with_reducible refine (spec_l01Table.calls k _ _ t372 _ _ t373 a1 t378 _ ?side1 ?side2 ?side3 ?side4 A6.out).mono ?_); (case side1 => repeat (first | exact (Kd.R_reads' HO375.out).2.2 | (with_reducible refine Kd.C_alloc ?_ _) | (with_reducible refine Kd.C_drewN ?_ _) | (with_reducible refine Kd.C_drew ?_))); (case side2 => exact (Kd.R_reads' HO375.out).2.1); (case side3 => repeat (first | exact (Kd.R_reads' HO377.out).2.2 | (with_reducible refine Kd.C_alloc ?_ _) | (with_reducible refine Kd.C_drewN ?_ _) | (with_reducible refine Kd.C_drew ?_))); (case side4 => exact (Kd.R_reads' HO377.out).2.1); rintro e w22 ⟨v379, rfl, ho0, hb⟩; refine ⟨_, rfl, ?_⟩; have n0_ := Aside0.mk (Kd.R_below (by (with_reducible repeat (first | apply Kd.R_alloc | apply Kd.R_drewN | apply Kd.R_drew)); exact HO375.out) hb); have n1_ := Aside0.mk (Kd.R_below (by (with_reducible repeat (first | apply Kd.R_alloc | apply Kd.R_drewN | apply Kd.R_drew)); exact HO377.out) hb); have n2_ := Aside0.mk (Kd.N_lower (Kd.N_mono (ok' := fun k_ => some k_ ≠ (.slice Ao20 t372.length co20 : Value).ownBlock ∧ some k_ ≠ (.slice Ao21 t373.length co21 : Value).ownBlock) ho0 (fun k_ hk_ => ⟨(Kd.fresh' (Kd.R_lt (by (with_reducible repeat (first | apply Kd.R_alloc | apply Kd.R_drewN | apply Kd.R_drew)); exact HO375.out)) k_ hk_), (Kd.fresh' (Kd.R_lt (by (with_reducible repeat (first | apply Kd.R_alloc | apply Kd.R_drewN | apply Kd.R_drew)); exact HO377.out)) k_ hk_)⟩)) (below_size (by repeat (first | (with_reducible first | exact HB.out | apply below_alloc | apply pw_below_drewN | apply below_drew1) | exact HB.out)))); have n3_ := Aside0.mk (below_step (by repeat (first | (with_reducible first | exact HB.out | apply below_alloc | apply pw_below_drewN | apply below_drew1) | exact HB.out)) hb); clear HO375; clear HO377; clear HB; have HO375 := n0_; have HO377 := n1_; have HO380 := n2_; have HB := n3_; clear n0_ n1_ n2_ n3_; (try clear hb); (try clear hb2); (try clear hk); (try clear hi); (try clear ho0); obtain ⟨Ao23, co23, eo23⟩ := Kd.N_slice HO380.out; subst eo23; have p381 : 0 ≤ (0 : Int) := (by omega); have q381 : 0 < (t378.length : Int) := of_decide_eq_true (by first | (with_reducible assumption) | assumption); obtain ⟨ad381, A381_0, c381_0, e381, hx381_0, hl381_0, hi381_0⟩ := at_L1 (Kd.N_reads' HO380.out).2.2 0 p381 q381; cases e381; obtain ⟨ce381, hce381, hMe381, hcc381⟩ := Kd.N_get HO380.out [] 0 p381 (by first | exact q381 | exact of_decide_eq_true (by first | (with_reducible assumption) | assumption) | (have e_ := (Kd.N_reads' HO380.out).1; omega)); obtain ⟨ua381_0, uc381_0, rfl, ul381_0, ge381_0⟩ := Kd.FK_slice_open hMe381; have hv381_0 := hcc381 0 _ rfl; rw [Nat.add_zero, show ((Kd.slice 2 (Kd.int .i64))).sz = 1 from rfl, Nat.mul_one] at hv381_0; replace hv381_0 := Option.some.inj (hv381_0.symm.trans hx381_0); injection hv381_0 with hva_ hvn_ hvc_; rw [hva_] at ge381_0; rw [hvc_] at ul381_0; have HL381_0 := Aside0.mk (show Kd.V (Kd.int .i64) 2 _ w.heap.size _ _ (rd_L1 t378 0) from Kd.V_mk ul381_0 ge381_0); clear hva_ hvn_ hvc_ ge381_0 ul381_0; clear hcc381 hce381; have qi381 : (0 < t378.length) = True := eq_true (by omega); (try rw [show ((0 : Int)).toNat = 0 from rfl] at hx381_0); (try rw [Addr.add_zero'] at hx381_0); have HR381_0 := Aside0.mk hi381_0; have HC381_0 := Aside0.mk hl381_0; clear hi381_0 hl381_0; replace p381 := eq_true p381; replace q381 := eq_true q381; have p382 : 0 ≤ (a1 : Int) := of_decide_eq_true (by first | (with_reducible assumption) | assumption); have q382 : a1 < ((rd_L1 t378 0).length : Int) := of_decide_eq_true (by first | (with_reducible assumption) | assumption); obtain ⟨ad382, e382, hx382_0⟩ := Kd.at_int (by repeat (first | (with_reducible exact HR381_0.out) | (with_reducible refine Kd.C_alloc ?_ _) | (with_reducible refine Kd.C_drewN ?_ _) | (with_reducible refine Kd.C_drew ?_) | exact HR381_0.out)) a1 p382 q382; cases e382; replace p382 := eq_true p382; replace q382 := eq_true q382))
    have n0_ := Aside0.mk (Kd.R_drew HO375.out)
    have n1_ := Aside0.mk (Kd.R_drew HO377.out)
    have n2_ := Aside0.mk (Kd.N_drew HO380.out)
    have n3_ := Aside0.mk (Kd.V_drew HL381_0.out)
    have n4_ := Aside0.mk (Kd.C_drew HR381_0.out)
    have n5_ := Aside0.mk (below_drew1 HB.out)
    clear HO375
    clear HO377
    clear HO380
    clear HL381_0
    clear HR381_0
    clear HB
    have HO375 := n0_
    have HO377 := n1_
    have HO380 := n2_
    have HL381_0 := n3_
    have HR381_0 := n4_
    have HB := n5_
    clear n0_ n1_ n2_ n3_ n4_ n5_
    have p389 : 0 ≤ (0 : Int) := (by omega)
    have q389 : 0 < (t378.length : Int) := of_decide_eq_true (by first | (with_reducible assumption) | assumption)
    obtain ⟨ad389, A389_0, c389_0, e389, hx389_0, hl389_0, hi389_0⟩ := at_L1 (Kd.N_reads' HO380.out).2.2 0 p389 q389
    obtain rfl : ad381 = ad389 := (by injection e389)
    obtain ⟨ce389, hce389, hMe389, hcc389⟩ := Kd.N_get HO380.out [] 0 p389 (by first | exact q389 | exact of_decide_eq_true (by first | (with_reducible assumption) | assumption) | (have e_ := (Kd.N_reads' HO380.out).1; omega))
    obtain ⟨ua389_0, uc389_0, rfl, ul389_0, ge389_0⟩ := Kd.FK_slice_open hMe389
    have hv389_0 := hcc389 0 _ rfl
    rw [Nat.add_zero, show ((Kd.slice 2 (Kd.int .i64))).sz = 1 from rfl, Nat.mul_one] at hv389_0
    replace hv389_0 := Option.some.inj (hv389_0.symm.trans hx389_0)
    injection hv389_0 with hva_ hvn_ hvc_
    rw [hva_] at ge389_0
    rw [hvc_] at ul389_0
    have HL389_0 := Aside0.mk (show Kd.V (Kd.int .i64) 2 _ w.heap.size _ _ (rd_L1 t378 0) from Kd.V_mk ul389_0 ge389_0)
    clear hva_ hvn_ hvc_ ge389_0 ul389_0
    clear hcc389 hce389
    have qi389 : (0 < t378.length) = True := eq_true (by omega)
    (try rw [show ((0 : Int)).toNat = 0 from rfl] at hx389_0)
    (try rw [Addr.add_zero'] at hx389_0)
    have HR389_0 := Aside0.mk hi389_0
    have HC389_0 := Aside0.mk hl389_0
    clear hi389_0 hl389_0
    replace p389 := eq_true p389
    replace q389 := eq_true q389
    have p390 : 0 ≤ (a1 : Int) := of_decide_eq_true (by first | (with_reducible assumption) | assumption)
    have q390 : a1 < ((rd_L1 t378 0).length : Int) := of_decide_eq_true (by first | (with_reducible assumption) | assumption)
    obtain ⟨ad390, e390, hx390_0⟩ := Kd.at_int (by repeat (first | (with_reducible exact HR389_0.out) | (with_reducible refine Kd.C_alloc ?_ _) | (with_reducible refine Kd.C_drewN ?_ _) | (with_reducible refine Kd.C_drew ?_) | exact HR389_0.out)) a1 p390 q390
    cases e390
    replace p390 := eq_true p390
    replace q390 := eq_true q390
    refine start_ (n := 13) (S := fun w' => w'.cell? ad381 = some (.slice (some ad390) (rd_L1 t378 0).length c389_0) ∧ w'.cell? (ad390.add (a1).toNat) = some (.int .i64 (rd (rd_L1 t378 0) a1))) (ds := []) #[false, false, false, false, false, false, false, false, false, false, false, false, false] (by kernel_rfl) rfl rfl ⟨hx389_0, hx390_0⟩ (fun hHeld => ?_); refine with_tabW spec_PayFrom.tab8 spec_PayFrom.bits8 (fun HT_ HW_ => ?_)
    generalize w22.drew = w24 at HO375 HO377 HO380 HL381_0 HR381_0 HB HL389_0 HR389_0 hx389_0 hx390_0 hHeld ⊢
    refine pure_ (i := 0) (N := some 35) (v := ?_) (a' := ?_) #[true, false, false, false, false, false, false, false, false, false, false, false, false] rfl rfl (any_of HT_.out (by kernel_rfl)) (fun _ _ _ h => h) (Or.inl ⟨by rfl, ?_⟩) ?_ ?_
    rotate_left
    · intro w'
      go_simp
      with_reducible rfl
    rotate_left
    · simp only [Act.put, List.setIfInBounds_toArray, List.set_cons_zero, List.set_cons_succ, i64_w, i32_w]
      rfl
    refine pure_ (i := 1) (N := some 36) (v := ?_) (a' := ?_) #[true, true, false, false, false, false, false, false, false, false, false, false, false] rfl rfl (any_of HT_.out (by kernel_rfl)) (fun _ _ _ h => h) (Or.inl ⟨by rfl, ?_⟩) ?_ ?_
    rotate_left
    · intro w'
      go_simp
      with_reducible rfl
    rotate_left
    · simp only [Act.put, List.setIfInBounds_toArray, List.set_cons_zero, List.set_cons_succ, i64_w, i32_w]
      rfl
    refine pure_ (i := 2) (N := some 37) (v := ?_) (a' := ?_) #[true, true, true, false, false, false, false, false, false, false, false, false, false] rfl rfl (any_of HT_.out (by kernel_rfl)) (fun _ _ _ h => h) (Or.inl ⟨by rfl, ?_⟩) ?_ ?_
    rotate_left
    · intro w'
      go_simp
      with_reducible rfl
    rotate_left
    · simp only [Act.put, List.setIfInBounds_toArray, List.set_cons_zero, List.set_cons_succ, i64_w, i32_w]
      rfl
    refine pure_ (i := 4) (N := some 39) (v := ?_) (a' := ?_) #[true, true, true, false, true, false, false, false, false, false, false, false, false] rfl rfl (any_of HT_.out (by kernel_rfl)) (fun _ _ _ h => h) (Or.inl ⟨by rfl, ?_⟩) ?_ ?_
    rotate_left
    · intro w'
      go_simp
      with_reducible rfl
    rotate_left
    · simp only [Act.put, List.setIfInBounds_toArray, List.set_cons_zero, List.set_cons_succ, i64_w, i32_w]
      rfl
    refine pure_ (i := 5) (N := some 40) (v := ?_) (a' := ?_) #[true, true, true, false, true, true, false, false, false, false, false, false, false] rfl rfl (any_of HT_.out (by kernel_rfl)) (fun _ _ _ h => h) (Or.inl ⟨by rfl, ?_⟩) ?_ ?_
    rotate_left
    · intro w'
      go_simp
      with_reducible rfl
    rotate_left
    · simp only [Act.put, List.setIfInBounds_toArray, List.set_cons_zero, List.set_cons_succ, i64_w, i32_w]
      rfl
    refine pure_ (i := 7) (N := some 42) (v := ?_) (a' := ?_) #[true, true, true, false, true, true, false, true, false, false, false, false, false] rfl rfl (any_of HT_.out (by kernel_rfl)) (fun _ _ _ h => h) (Or.inl ⟨by rfl, ?_⟩) ?_ ?_
    rotate_left
    · intro w'
      go_simp
      with_reducible rfl
    rotate_left
    · simp only [Act.put, List.setIfInBounds_toArray, List.set_cons_zero, List.set_cons_succ, i64_w, i32_w]
      rfl
    refine take_ (i := 6) (N := some 41) (v := ?_) (a' := ?_) #[true, true, true, false, true, true, true, true, false, false, false, false, false] rfl rfl (take_ofW HT_.out HW_.out (by kernel_rfl)) (fun _ _ _ h => h) (Or.inl ⟨by rfl, ?_⟩) hHeld ?_ ?_
    rotate_left
    · rintro w' ⟨s0, s1⟩
      go_simp
      with_reducible rfl
    rotate_left
    · simp only [Act.put, List.setIfInBounds_toArray, List.set_cons_zero, List.set_cons_succ, i64_w, i32_w]
      rfl
    refine pure_ (i := 8) (N := some 43) (v := ?_) (a' := ?_) #[true, true, true, false, true, true, true, true, true, false, false, false, false] rfl rfl (any_of HT_.out (by kernel_rfl)) (fun _ _ _ h => h) (Or.inl ⟨by rfl, ?_⟩) ?_ ?_
    rotate_left
    · intro w'
      go_simp
      with_reducible rfl
    rotate_left
    · simp only [Act.put, List.setIfInBounds_toArray, List.set_cons_zero, List.set_cons_succ, i64_w, i32_w]
      rfl
    refine take_ (i := 9) (N := some 44) (v := ?_) (a' := ?_) #[true, true, true, false, true, true, true, true, true, true, false, false, false] rfl rfl (take_ofW HT_.out HW_.out (by kernel_rfl)) (fun _ _ _ h => h) (Or.inl ⟨by rfl, ?_⟩) hHeld ?_ ?_
    rotate_left
    · rintro w' ⟨s0, s1⟩
      go_simp
      with_reducible rfl
    rotate_left
    · simp only [Act.put, List.setIfInBounds_toArray, List.set_cons_zero, List.set_cons_succ, i64_w, i32_w]
      rfl
    refine one_ (i := 3) (N := some 38) #[true, true, true, true, true, true, true, true, true, true, false, false, false] rfl rfl (one_of HT_.out (by kernel_rfl)) (by decide) (fun K hK => ?_)
    refine goes_ Try.func57 (by kernel_rfl) rfl #[.slice (some ad381) t378.length co23, .slice Ao20 t372.length co20, .int .i64 a1] (by rfl) rfl rfl (by (try simp only [List.map_toArray, List.map_cons, List.map_nil]); first | done | rfl | (simp only [List.length_drop, List.length_take]; rfl)) ?_
    with_reducible refine (spec_l01Counts.calls k _ _ t378 _ _ t372 a1 t386 _ ?side1 ?side2 ?side3 ?side4 A18.out).mono ?_
    (case side1 => repeat (first | exact (Kd.N_reads' HO380.out).2.2 | (with_reducible refine Kd.C_alloc ?_ _) | (with_reducible refine Kd.C_drewN ?_ _) | (with_reducible refine Kd.C_drew ?_)))
    (case side2 => exact (Kd.N_reads' HO380.out).2.1)
    (case side3 => repeat (first | exact (Kd.R_reads' HO375.out).2.2 | (with_reducible refine Kd.C_alloc ?_ _) | (with_reducible refine Kd.C_drewN ?_ _) | (with_reducible refine Kd.C_drew ?_)))
    (case side4 => exact (Kd.R_reads' HO375.out).2.1)
    rintro e w25 ⟨v387, rfl, ho0, hb⟩
    have HS0_ := (hb.cell (World.block_lt_of_cell? _ _ (hHeld.1))).trans (hHeld.1)
    have HS1_ := (hb.cell (World.block_lt_of_cell? _ _ (hHeld.2))).trans (hHeld.2)
    refine ⟨_, rfl, ?_⟩
    have n0_ := Aside0.mk (Kd.R_elder' (by (with_reducible repeat (first | apply Kd.R_alloc | apply Kd.R_drewN | apply Kd.R_drew)); exact HO375.out) (Kd.R_base ho0) hb)
    have n1_ := Aside0.mk (Kd.R_elder' (by (with_reducible repeat (first | apply Kd.R_alloc | apply Kd.R_drewN | apply Kd.R_drew)); exact HO377.out) (Kd.R_base ho0) hb)
    have n2_ := Aside0.mk (Kd.N_elder' (by (with_reducible repeat (first | apply Kd.N_alloc | apply Kd.N_drewN | apply Kd.N_drew)); exact HO380.out) (Kd.R_base ho0) hb)
    have n3_ := Aside0.mk (Kd.V_elder' (by (with_reducible repeat (first | apply Kd.V_alloc | apply Kd.V_drewN | apply Kd.V_drew)); exact HL381_0.out) (Kd.R_base ho0) hb)
    have n4_ := Aside0.mk (Kd.V_elder' (by (with_reducible repeat (first | apply Kd.V_alloc | apply Kd.V_drewN | apply Kd.V_drew)); exact HL389_0.out) (Kd.R_base ho0) hb)
    have n5_ := Aside0.mk (Kd.R_lower (Kd.R_new' (Kd.R_new' ho0 (Kd.R_lt (by (with_reducible repeat (first | apply Kd.R_alloc | apply Kd.R_drewN | apply Kd.R_drew)); exact HO375.out))) (Kd.R_lt (by (with_reducible repeat (first | apply Kd.R_alloc | apply Kd.R_drewN | apply Kd.R_drew)); exact HO377.out))) (below_size (by repeat (first | (with_reducible first | exact HB.out | apply below_alloc | apply pw_below_drewN | apply below_drew1) | exact HB.out))))
    have n6_ := Aside0.mk (Kd.C_below (by repeat (first | (with_reducible exact HR381_0.out) | (with_reducible refine Kd.C_alloc ?_ _) | (with_reducible refine Kd.C_drewN ?_ _) | (with_reducible refine Kd.C_drew ?_) | exact HR381_0.out)) hb)
    have n7_ := Aside0.mk (Kd.C_below (by repeat (first | (with_reducible exact HR389_0.out) | (with_reducible refine Kd.C_alloc ?_ _) | (with_reducible refine Kd.C_drewN ?_ _) | (with_reducible refine Kd.C_drew ?_) | exact HR389_0.out)) hb)
    have n8_ := Aside0.mk (below_step (by repeat (first | (with_reducible first | exact HB.out | apply below_alloc | apply pw_below_drewN | apply below_drew1) | exact HB.out)) hb)
    clear HO375
    clear HO377
    clear HO380
    clear HL381_0
    clear HL389_0
    clear HR381_0
    clear HR389_0
    clear HB
    have HO375 := n0_
    have HO377 := n1_
    have HO380 := n2_
    have HL381_0 := n3_
    have HL389_0 := n4_
    have HO388 := n5_
    have HR381_0 := n6_
    have HR389_0 := n7_
    have HB := n8_
    clear n0_ n1_ n2_ n3_ n4_ n5_ n6_ n7_ n8_
    (try clear hb)
    (try clear hb2)
    (try clear hk)
    (try clear hi)
    (try clear ho0)
    refine hK.out _ _ ⟨HS0_, HS1_⟩ (fun hHeld => ?_)
    clear hK K
    refine norm_ (a' := ?_) ?_ ?_
    rotate_left
    · show Act.put _ (some 38) _ = _
      simp only [Act.put, List.setIfInBounds_toArray, List.set_cons_zero, List.set_cons_succ, i64_w, i32_w]
      rfl
    refine pure_ (i := 10) (N := some 4) (v := ?_) (a' := ?_) #[true, true, true, true, true, true, true, true, true, true, true, false, false] rfl rfl (any_of HT_.out (by kernel_rfl)) (fun _ _ _ h => h) (Or.inl ⟨by rfl, ?_⟩) ?_ ?_
    rotate_left
    · intro w'
      go_simp
      with_reducible rfl
    rotate_left
    · simp only [Act.put, List.setIfInBounds_toArray, List.set_cons_zero, List.set_cons_succ, i64_w, i32_w]
      rfl
    refine pure_ (i := 11) (N := some 5) (v := ?_) (a' := ?_) #[true, true, true, true, true, true, true, true, true, true, true, true, false] rfl rfl (any_of HT_.out (by kernel_rfl)) (fun _ _ _ h => h) (Or.inl ⟨by rfl, ?_⟩) ?_ ?_
    rotate_left
    · intro w'
      go_simp
      with_reducible rfl
    rotate_left
    · simp only [Act.put, List.setIfInBounds_toArray, List.set_cons_zero, List.set_cons_succ, i64_w, i32_w]
      rfl
    refine pure_ (i := 12) (N := some 6) (v := ?_) (a' := ?_) #[true, true, true, true, true, true, true, true, true, true, true, true, true] rfl rfl (any_of HT_.out (by kernel_rfl)) (fun _ _ _ h => h) (Or.inl ⟨by rfl, ?_⟩) ?_ ?_
    rotate_left
    · intro w'
      go_simp
      with_reducible rfl
    rotate_left
    · simp only [Act.put, List.setIfInBounds_toArray, List.set_cons_zero, List.set_cons_succ, i64_w, i32_w]
      rfl
    refine done_ (done_of HT_.out (by kernel_rfl)) ?_
    try go_wp2
    go_ret3
    exact ⟨_, by first | rfl | (simp [errW_none, errW_some] <;> rfl) | (simp [*, errW_none, errW_some] <;> rfl), by (with_reducible repeat (first | apply Kd.R_alloc | apply Kd.R_drewN | apply Kd.R_drew)); exact Kd.R_mono HO388.out (fun _ hk => trivial), by repeat (first | (with_reducible first | exact HB.out | apply below_alloc | apply pw_below_drewN | apply below_drew1) | exact HB.out)⟩
  rw [if_pos c10] at H
  have c10b0 : decide ((rd (rd_L1 t378 0) a1) < 0) = true := decide_eq_true c10
  clear c10
  obtain ⟨y383, hy383⟩ : ∃ y_ : List Int, y_ = (([] : List Int)) := ⟨_, rfl⟩
  replace H : (some (y383, 0, 6)) = some (r1, r2, r3) := by first | (rw [hy383]; with_reducible exact H) | (have H2_ := (Option.bind_some _ _).symm.trans H; rw [hy383]; with_reducible exact H2_) | (have H2_ := (Option.bind_some _ _).symm.trans H; with_reducible exact H2_) | with_reducible exact H | (rw [hy383]; exact H) | exact H
  have Ny383 := Aside0.mk hy383
  clear hy383
  simp only [Option.some.injEq, Prod.mk.injEq] at H
  obtain ⟨rfl, rfl, rfl⟩ := H
  go_enter Try.func25, Try.ntmps25
  go_wp2_with (first | ((with_reducible refine gate_callee (f := 54) rfl ?_); refine goesL_ (some 13) rfl rfl Try.func54 (by kernel_rfl) rfl #[.slice A0 l0.length c0, .int .i64 a1] rfl (by (try simp only [List.map_toArray, List.map_cons, List.map_nil]); first | done | rfl | (simp only [List.length_drop, List.length_take]; rfl)) ?_; (with_reducible refine (spec_l01Stocked.calls k _ _ l0 a1 t368 _ ?side1 ?side2 A3.out).mono ?_); (case side1 => repeat (first | exact HR0.out | (with_reducible refine Kd.C_alloc ?_ _) | (with_reducible refine Kd.C_drewN ?_ _) | (with_reducible refine Kd.C_drew ?_))); (case side2 => exact HC0.out); rintro e w' ⟨rfl, ⟨nd, rfl⟩⟩; refine ⟨_, rfl, ?_⟩) | ((with_reducible refine gate_callee (f := 55) rfl ?_); refine goesL_ (some 20) rfl rfl Try.func55 (by kernel_rfl) rfl #[.slice A0 l0.length c0] rfl (by (try simp only [List.map_toArray, List.map_cons, List.map_nil]); first | done | rfl | (simp only [List.length_drop, List.length_take]; rfl)) ?_; (with_reducible refine (spec_l01Parts.calls k _ _ l0 t372 t373 _ ?side1 ?side2 A5.out).mono ?_); (case side1 => repeat (first | exact HR0.out | (with_reducible refine Kd.C_alloc ?_ _) | (with_reducible refine Kd.C_drewN ?_ _) | (with_reducible refine Kd.C_drew ?_))); (case side2 => exact HC0.out); rintro e w11 ⟨v374, v376, rfl, ho0, ho1, hb⟩; refine ⟨_, rfl, ?_⟩; have n0_ := Aside0.mk (Kd.R_lower ho0 (below_size (by repeat (first | (with_reducible first | exact HB.out | apply below_alloc | apply pw_below_drewN | apply below_drew1) | exact HB.out)))); have n1_ := Aside0.mk (Kd.R_lower ho1 (below_size (by repeat (first | (with_reducible first | exact HB.out | apply below_alloc | apply pw_below_drewN | apply below_drew1) | exact HB.out)))); have n2_ := Aside0.mk (below_step (by repeat (first | (with_reducible first | exact HB.out | apply below_alloc | apply pw_below_drewN | apply below_drew1) | exact HB.out)) hb); clear HB; have HO375 := n0_; have HO377 := n1_; have HB := n2_; clear n0_ n1_ n2_; (try clear hb); (try clear hb2); (try clear hk); (try clear hi); (try clear ho0); (try clear ho1); obtain ⟨Ao12, co12, eo12⟩ := Kd.R_slice HO375.out; subst eo12; obtain ⟨Ao13, co13, eo13⟩ := Kd.R_slice HO377.out; subst eo13) | ((with_reducible refine gate_callee (f := 56) rfl ?_); refine goesL_ (some 26) rfl rfl Try.func56 (by kernel_rfl) rfl #[.slice Ao12 t372.length co12, .slice Ao13 t373.length co13, .int .i64 a1] rfl (by (try simp only [List.map_toArray, List.map_cons, List.map_nil]); first | done | rfl | (simp only [List.length_drop, List.length_take]; rfl)) ?_; (with_reducible refine (spec_l01Table.calls k _ _ t372 _ _ t373 a1 t378 _ ?side1 ?side2 ?side3 ?side4 A6.out).mono ?_); (case side1 => repeat (first | exact (Kd.R_reads' HO375.out).2.2 | (with_reducible refine Kd.C_alloc ?_ _) | (with_reducible refine Kd.C_drewN ?_ _) | (with_reducible refine Kd.C_drew ?_))); (case side2 => exact (Kd.R_reads' HO375.out).2.1); (case side3 => repeat (first | exact (Kd.R_reads' HO377.out).2.2 | (with_reducible refine Kd.C_alloc ?_ _) | (with_reducible refine Kd.C_drewN ?_ _) | (with_reducible refine Kd.C_drew ?_))); (case side4 => exact (Kd.R_reads' HO377.out).2.1); rintro e w14 ⟨v379, rfl, ho0, hb⟩; refine ⟨_, rfl, ?_⟩; have n0_ := Aside0.mk (Kd.R_below (by (with_reducible repeat (first | apply Kd.R_alloc | apply Kd.R_drewN | apply Kd.R_drew)); exact HO375.out) hb); have n1_ := Aside0.mk (Kd.R_below (by (with_reducible repeat (first | apply Kd.R_alloc | apply Kd.R_drewN | apply Kd.R_drew)); exact HO377.out) hb); have n2_ := Aside0.mk (Kd.N_lower (Kd.N_mono (ok' := fun k_ => some k_ ≠ (.slice Ao12 t372.length co12 : Value).ownBlock ∧ some k_ ≠ (.slice Ao13 t373.length co13 : Value).ownBlock) ho0 (fun k_ hk_ => ⟨(Kd.fresh' (Kd.R_lt (by (with_reducible repeat (first | apply Kd.R_alloc | apply Kd.R_drewN | apply Kd.R_drew)); exact HO375.out)) k_ hk_), (Kd.fresh' (Kd.R_lt (by (with_reducible repeat (first | apply Kd.R_alloc | apply Kd.R_drewN | apply Kd.R_drew)); exact HO377.out)) k_ hk_)⟩)) (below_size (by repeat (first | (with_reducible first | exact HB.out | apply below_alloc | apply pw_below_drewN | apply below_drew1) | exact HB.out)))); have n3_ := Aside0.mk (below_step (by repeat (first | (with_reducible first | exact HB.out | apply below_alloc | apply pw_below_drewN | apply below_drew1) | exact HB.out)) hb); clear HO375; clear HO377; clear HB; have HO375 := n0_; have HO377 := n1_; have HO380 := n2_; have HB := n3_; clear n0_ n1_ n2_ n3_; (try clear hb); (try clear hb2); (try clear hk); (try clear hi); (try clear ho0); obtain ⟨Ao15, co15, eo15⟩ := Kd.N_slice HO380.out; subst eo15; have p381 : 0 ≤ (0 : Int) := (by omega); have q381 : 0 < (t378.length : Int) := of_decide_eq_true (by first | (with_reducible assumption) | assumption); obtain ⟨ad381, A381_0, c381_0, e381, hx381_0, hl381_0, hi381_0⟩ := at_L1 (Kd.N_reads' HO380.out).2.2 0 p381 q381; cases e381; obtain ⟨ce381, hce381, hMe381, hcc381⟩ := Kd.N_get HO380.out [] 0 p381 (by first | exact q381 | exact of_decide_eq_true (by first | (with_reducible assumption) | assumption) | (have e_ := (Kd.N_reads' HO380.out).1; omega)); obtain ⟨ua381_0, uc381_0, rfl, ul381_0, ge381_0⟩ := Kd.FK_slice_open hMe381; have hv381_0 := hcc381 0 _ rfl; rw [Nat.add_zero, show ((Kd.slice 2 (Kd.int .i64))).sz = 1 from rfl, Nat.mul_one] at hv381_0; replace hv381_0 := Option.some.inj (hv381_0.symm.trans hx381_0); injection hv381_0 with hva_ hvn_ hvc_; rw [hva_] at ge381_0; rw [hvc_] at ul381_0; have HL381_0 := Aside0.mk (show Kd.V (Kd.int .i64) 2 _ w.heap.size _ _ (rd_L1 t378 0) from Kd.V_mk ul381_0 ge381_0); clear hva_ hvn_ hvc_ ge381_0 ul381_0; clear hcc381 hce381; have qi381 : (0 < t378.length) = True := eq_true (by omega); (try rw [show ((0 : Int)).toNat = 0 from rfl] at hx381_0); (try rw [Addr.add_zero'] at hx381_0); have HR381_0 := Aside0.mk hi381_0; have HC381_0 := Aside0.mk hl381_0; clear hi381_0 hl381_0; replace p381 := eq_true p381; replace q381 := eq_true q381; have p382 : 0 ≤ (a1 : Int) := of_decide_eq_true (by first | (with_reducible assumption) | assumption); have q382 : a1 < ((rd_L1 t378 0).length : Int) := of_decide_eq_true (by first | (with_reducible assumption) | assumption); obtain ⟨ad382, e382, hx382_0⟩ := Kd.at_int (by repeat (first | (with_reducible exact HR381_0.out) | (with_reducible refine Kd.C_alloc ?_ _) | (with_reducible refine Kd.C_drewN ?_ _) | (with_reducible refine Kd.C_drew ?_) | exact HR381_0.out)) a1 p382 q382; cases e382; replace p382 := eq_true p382; replace q382 := eq_true q382) | ((with_reducible refine gate_dst (N := 34) rfl ?_); refine Kd.R_lit (Kd.int .i64) _ 2 ?hg (N := 34) ?hd (xs := ([] : List Int)) (inner := []) (ok := fun _ => True) (okp := fun _ => True) ?hr ?hp (fun _ hk => hk) trivial (Below.refl _ _) (Nat.le_refl _) (by simp) ?_; (case hd => rfl); (case hg => rfl); (case hr => first | (go_simp; done) | (go_simp; rfl)); (case hp => exact (Reps.none _ _)); intro v384 w16 ho17 hb hg_ hnew_; clear hg_ hnew_; (first | rw [← Ny383.out] at ho17 | (simp only [Int.reduceToNat] at ho17; rw [← Ny383.out] at ho17)); have n0_ := Aside0.mk (Kd.R_elder' (by (with_reducible repeat (first | apply Kd.R_alloc | apply Kd.R_drewN | apply Kd.R_drew)); exact HO375.out) (Kd.R_base ho17) hb); have n1_ := Aside0.mk (Kd.R_elder' (by (with_reducible repeat (first | apply Kd.R_alloc | apply Kd.R_drewN | apply Kd.R_drew)); exact HO377.out) (Kd.R_base ho17) hb); have n2_ := Aside0.mk (Kd.N_elder' (by (with_reducible repeat (first | apply Kd.N_alloc | apply Kd.N_drewN | apply Kd.N_drew)); exact HO380.out) (Kd.R_base ho17) hb); have n3_ := Aside0.mk (Kd.V_elder' (by (with_reducible repeat (first | apply Kd.V_alloc | apply Kd.V_drewN | apply Kd.V_drew)); exact HL381_0.out) (Kd.R_base ho17) hb); have n4_ := Aside0.mk (Kd.R_lower (Kd.R_new' (Kd.R_new' ho17 (Kd.R_lt (by (with_reducible repeat (first | apply Kd.R_alloc | apply Kd.R_drewN | apply Kd.R_drew)); exact HO375.out))) (Kd.R_lt (by (with_reducible repeat (first | apply Kd.R_alloc | apply Kd.R_drewN | apply Kd.R_drew)); exact HO377.out))) (below_size (by repeat (first | (with_reducible first | exact HB.out | apply below_alloc | apply pw_below_drewN | apply below_drew1) | exact HB.out)))); have n5_ := Aside0.mk (Kd.C_below (by repeat (first | (with_reducible exact HR381_0.out) | (with_reducible refine Kd.C_alloc ?_ _) | (with_reducible refine Kd.C_drewN ?_ _) | (with_reducible refine Kd.C_drew ?_) | exact HR381_0.out)) hb); have n6_ := Aside0.mk (below_step (by repeat (first | (with_reducible first | exact HB.out | apply below_alloc | apply pw_below_drewN | apply below_drew1) | exact HB.out)) hb); clear HO375; clear HO377; clear HO380; clear HL381_0; clear HR381_0; clear HB; have HO375 := n0_; have HO377 := n1_; have HO380 := n2_; have HL381_0 := n3_; have HO385 := n4_; have HR381_0 := n5_; have HB := n6_; clear n0_ n1_ n2_ n3_ n4_ n5_ n6_; clear hb ho17))
  go_ret3
  exact ⟨_, by first | rfl | (simp [errW_none, errW_some] <;> rfl) | (simp [*, errW_none, errW_some] <;> rfl), by (with_reducible repeat (first | apply Kd.R_alloc | apply Kd.R_drewN | apply Kd.R_drew)); exact Kd.R_mono HO385.out (fun _ hk => trivial), by repeat (first | (with_reducible first | exact HB.out | apply below_alloc | apply pw_below_drewN | apply below_drew1) | exact HB.out)⟩
end Go.Proofs.Ytnhcdfikjfjkoaa.P

namespace Go.Proofs.Ytnhcdfikjfjkoaa.Pure
open Go.RowKit Go.Proofs.Ytnhcdfikjfjkoaa.P Go.Proofs.YtnhcdfikjfjkoaaW.PrintWords Go.Proofs.YtnhcdfikjfjkoaaW.PrintLast
set_option linter.unusedVariables false
set_option linter.unusedSimpArgs false

theorem parts_l0 (l : List S56) (hw : Wf l) (hb : l.length ≤ 4398046511104) : ∀ d i (x y : List Int), l.length - i = d → i ≤ l.length → x = (l.take i).map S56.f0 → y = (l.take i).map S56.f1 →
    Ev (fun k => spec_l01Parts.l0 k l x y (i : Int)) (l.map S56.f0, l.map S56.f1) := by
  intro d
  induction d with
  | zero =>
    intro i x y hd hi hx hy
    obtain rfl : i = l.length := by omega
    rw [List.take_length] at hx hy
    refine Ev.step (f := fun _ => some (x, y)) (fun k => ?_) (by rw [hx, hy]; exact Ev.now _)
    rw [spec_l01Parts.l0, if_neg (by omega)]
  | succ d ih =>
    intro i x y hd hi hx hy
    have hwf := hw.at i (by omega)
    have e : l.take (i + 1) = l.take i ++ [l.getD i z56] := by rw [List.take_add_one, List.getElem?_eq_getElem (by omega), getD_eqG z56 l i (by omega)]; rfl
    refine Ev.step (fun k => ?_) (ih (i + 1) (x ++ [(l.getD i z56).f0]) (y ++ [(l.getD i z56).f1]) (by omega) (by omega) (by rw [hx, e]; simp) (by rw [hy, e]; simp))
    rw [spec_l01Parts.l0, if_pos (by omega), if_pos (by omega), if_pos (by rw [hx]; simp; omega), if_pos (by rw [hy]; simp; omega), rdS, w64 (by omega) (by omega), w64 (by omega) (by omega), wN i (by omega)]
theorem partsF (l : List S56) (hw : Wf l) (hb : l.length ≤ 4398046511104) : Ev (fun k => spec_l01Parts.f k l) (l.map S56.f0, l.map S56.f1) :=
  parts_l0 l hw hb _ 0 [] [] rfl (Nat.zero_le _) (by simp) (by simp)
theorem pow51 (k : Nat) (h : k ≤ 8) : 51 ^ k ≤ 4000000000000000000 := Nat.le_trans (Nat.pow_le_pow_right (by omega) h) (by decide)
theorem kindsOf {l : List S56} (h : SV l) (m : Nat) : Kinds (l.map S56.f0) (l.map S56.f1) m (fun k => 51 ^ k) := by
  refine ⟨by simp, fun i hi => ?_, fun i hi => ?_, rfl, fun k hk a ha => ?_, fun k hk => pow51 k (by rw [List.length_map] at hk; have := h.1; omega)⟩
  · rw [List.length_map] at hi; rw [map_getD l S56.f0 i hi]; exact (h.2.1 i hi).1
  · rw [List.length_map] at hi; rw [map_getD l S56.f1 i hi]; have := (h.2.1 i hi).2; omega
  · rw [List.length_map] at hk ⊢
    have h1 := (h.2.1 (l.length - 1 - k) (by omega)).2
    have hh : ((l.map S56.f1).getD (l.length - 1 - k) 0).toNat ≤ 50 := by rw [map_getD l S56.f1 _ (by omega)]; omega
    have : nk ((l.map S56.f0).getD (l.length - 1 - k) 0).toNat ((l.map S56.f1).getD (l.length - 1 - k) 0).toNat a ≤ 51 := by unfold nk; omega
    rw [Nat.pow_succ, Nat.mul_comm (51 ^ k) 51]
    exact Nat.mul_le_mul_right _ this
/-- Whether stock and postage are asked rightly. -/
theorem bothStocked (l : List S56) (hw : Wf l) (hb : l.length ≤ 4398046511104) (a : Int) : ∃ c, Ev (fun k => spec_l01Stocked.f k l a) c ∧ Ev (fun k => impl_stockCode.f k l [a]) c ∧ (c = 0 ↔ SV l ∧ 0 ≤ a ∧ a ≤ 1000) := by
  obtain ⟨b, h1, h2, h3⟩ := bothStock l hw hb
  obtain ⟨K1, h1⟩ := EvG h1
  obtain ⟨K2, h2⟩ := EvG h2
  have eA : impl_areWithin.f [a] 0 1000 = some (decide (0 ≤ a) && decide (a ≤ 1000)) := by rw [impl_areWithin.f]; simp
  cases b with
  | false =>
    refine ⟨1, EvI K1 fun k hk => ?_, EvI K2 fun k hk => ?_, ⟨fun h => by omega, fun h => by have := h3.2 h.1; simp at this⟩⟩
    · rw [spec_l01Stocked.f, h1 k hk, Option.bind_some, if_neg (by simp)]
    · rw [impl_stockCode.f, h2 k hk, Option.bind_some, if_neg (by simp)]
  | true =>
    by_cases c : 0 ≤ a ∧ a ≤ 1000
    · have e : (decide (0 ≤ a) && decide (a ≤ 1000)) = true := by simp [c.1, c.2]
      refine ⟨0, EvI K1 fun k hk => ?_, EvI K2 fun k hk => ?_, ⟨fun _ => ⟨h3.1 rfl, c⟩, fun _ => rfl⟩⟩
      · rw [spec_l01Stocked.f, h1 k hk, Option.bind_some, if_pos rfl, postageF, Option.bind_some, e, if_pos rfl]
      · rw [impl_stockCode.f, h2 k hk, Option.bind_some, if_pos rfl, eA, Option.bind_some, e, impl_unless.f, if_pos rfl, Option.bind_some]
    · have e : (decide (0 ≤ a) && decide (a ≤ 1000)) = false := by
        rw [Bool.and_eq_false_iff]
        by_cases c1 : 0 ≤ a
        · right; simp; omega
        · left; simp; omega
      refine ⟨2, EvI K1 fun k hk => ?_, EvI K2 fun k hk => ?_, ⟨fun h => by omega, fun h => absurd h.2 c⟩⟩
      · rw [spec_l01Stocked.f, h1 k hk, Option.bind_some, if_pos rfl, postageF, Option.bind_some, e, if_neg (by simp)]
      · rw [impl_stockCode.f, h2 k hk, Option.bind_some, if_pos rfl, eA, Option.bind_some, e, impl_unless.f, if_neg (by simp), Option.bind_some]
/-- The counts with the fewest stamps. -/
theorem fewestBoth (l : List S56) (hw : Wf l) (hs : SV l) (a : Int) (h0 : 0 ≤ a) (h1 : a ≤ 1000) : ∃ c s b, Ev (fun k => impl_purse_fewest.f k (l.map S56.f0) (l.map S56.f1) a) (c, s, b) ∧ Ev (fun k => spec_PayFrom.f k l a) (if b = true then (c, s, 0) else ([], 0, 6)) ∧
    (b = true → c.length = l.length ∧ ∀ j, j < l.length → 0 ≤ c.getD j 0 ∧ c.getD j 0 ≤ (l.getD j z56).f1) := by
  have hl := hs.1
  obtain ⟨n, rfl⟩ := Int.eq_ofNat_of_zero_le h0
  obtain ⟨cd, p1, _, p3⟩ := bothStocked l hw (by omega) (n : Int)
  obtain rfl : cd = 0 := p3.2 ⟨hs, h0, h1⟩
  obtain ⟨K1, p1⟩ := EvG p1
  obtain ⟨K2, p2⟩ := EvG (partsF l hw (by omega))
  obtain ⟨T, U, t1, u1, t2, u2, t3, u3, H⟩ := tables (kindsOf hs n) (by rw [List.length_map]; omega) (by omega)
  obtain ⟨K3, t1⟩ := EvG t1
  obtain ⟨K4, u1⟩ := EvG u1
  obtain ⟨q1, q2, q3, q4, q5⟩ := H n (Nat.le_refl _)
  by_cases c : rd (rd_L1 T 0) (n : Int) < 0
  · refine ⟨[], 0, false, EvI K4 fun k hk => ?_, EvI (K1 + K2 + K3) fun k hk => ?_, fun h => by simp at h⟩
    · rw [impl_purse_fewest.f, u1 k hk, Option.bind_some, if_pos (by omega), if_pos h0, if_pos (by omega), if_pos (q3.1 c)]
    · rw [spec_PayFrom.f, p1 k (by omega), Option.bind_some, if_pos rfl, p2 k (by omega), Option.bind_some, t1 k (by omega), Option.bind_some, if_pos (by omega), if_pos h0, if_pos (by omega), if_pos c, if_neg (by simp)]
  · obtain ⟨f1, r, ⟨r1, r2⟩, r3, r4⟩ := q5 (by omega)
    obtain ⟨K5, r3⟩ := EvG r3
    obtain ⟨K6, r4⟩ := EvG r4
    rw [List.length_map] at r1 r2
    refine ⟨r, rd (rd_L1 T 0) (n : Int), true, EvI (K4 + K6) fun k hk => ?_, EvI (K1 + K2 + K3 + K5) fun k hk => ?_, fun _ => ⟨r1, fun j hj => by have := r2 j hj; rwa [map_getD l S56.f1 j hj] at this⟩⟩
    · rw [impl_purse_fewest.f, u1 k (by omega), Option.bind_some, if_pos (by omega), if_pos h0, if_pos (by omega), if_neg (fun e => c (q3.2 e)), r4 k (by omega), Option.bind_some, f1]
    · rw [spec_PayFrom.f, p1 k (by omega), Option.bind_some, if_pos rfl, p2 k (by omega), Option.bind_some, t1 k (by omega), Option.bind_some, if_pos (by omega), if_pos h0, if_pos (by omega), if_neg c, r3 k (by omega), Option.bind_some, if_pos rfl]
theorem payBoth (l : List S56) (hw : Wf l) (hb : l.length ≤ 4398046511104) (a : Int) : ∃ r : List Int × Int × Int, r.1.length ≤ l.length ∧ Ev (fun k => spec_PayFrom.f k l a) r ∧ Ev (fun k => impl_PayFrom.f k l a) r := by
  obtain ⟨c, h1, h2, h3⟩ := bothStocked l hw hb a
  obtain ⟨K2, h2⟩ := EvG h2
  by_cases e : c = 0
  · obtain ⟨hs, h0, hm⟩ := h3.1 e
    obtain ⟨q, s, b, f1, f2, f3⟩ := fewestBoth l hw hs a h0 hm
    obtain ⟨K3, f1⟩ := EvG f1
    obtain ⟨K4, p⟩ := EvG (purseF l hw hb)
    cases b with
    | true =>
      refine ⟨(q, s, 0), Nat.le_of_eq (f3 rfl).1, f2, EvI (K2 + K3 + K4) fun k hk => ?_⟩
      rw [impl_PayFrom.f, h2 k (by omega), Option.bind_some, if_pos e, p k (by omega), Option.bind_some, f1 k (by omega), Option.bind_some, if_pos rfl]
    | false =>
      refine ⟨([], 0, 6), Nat.zero_le _, f2, EvI (K2 + K3 + K4) fun k hk => ?_⟩
      rw [impl_PayFrom.f, h2 k (by omega), Option.bind_some, if_pos e, p k (by omega), Option.bind_some, f1 k (by omega), Option.bind_some, if_neg (by simp)]
  · obtain ⟨K1, h1⟩ := EvG h1
    refine ⟨([], 0, c), Nat.zero_le _, EvI K1 fun k hk => ?_, EvI K2 fun k hk => ?_⟩
    · rw [spec_PayFrom.f, h1 k hk, Option.bind_some, if_neg e]
    · rw [impl_PayFrom.f, h2 k hk, Option.bind_some, if_neg e]

end Go.Proofs.Ytnhcdfikjfjkoaa.Pure

namespace Go.Proofs.Ytnhcdfikjfjkoaa.Pure
open Go.RowKit Go.Proofs.Ytnhcdfikjfjkoaa.P Go.Proofs.YtnhcdfikjfjkoaaW.PrintWords Go.Proofs.YtnhcdfikjfjkoaaW.PrintLast
set_option linter.unusedVariables false
set_option linter.unusedSimpArgs false

theorem over_l0 (l : List S56) (hl : l.length ≤ 8) (n : Nat) (hn : n ≤ 1000) (T : List (List Int)) (U : List (List S77)) (t2 : 0 < T.length) (u2 : 0 < U.length) (t3 : (rd_L1 T 0).length = n + 500 + 1) (u3 : (rd_L7 U 0).length = n + 500 + 1)
    (H : ∀ a, a ≤ n + 500 → -1 ≤ rd (rd_L1 T 0) (a : Int) ∧ rd (rd_L1 T 0) (a : Int) ≤ 2000 ∧ (rd (rd_L1 T 0) (a : Int) < 0 ↔ (rd_T77 (rd_L7 U 0) (a : Int)).f0 = 0) ∧ 0 ≤ (rd_T77 (rd_L7 U 0) (a : Int)).f0 ∧ (0 ≤ rd (rd_L1 T 0) (a : Int) → (rd_T77 (rd_L7 U 0) (a : Int)).f1 = rd (rd_L1 T 0) (a : Int) ∧
      ∃ r, (r.length = (l.map S56.f0).length ∧ ∀ j, j < (l.map S56.f0).length → 0 ≤ r.getD j 0 ∧ r.getD j 0 ≤ (l.map S56.f1).getD j 0) ∧ Ev (fun k => spec_l01Counts.f k T (l.map S56.f0) (a : Int)) r ∧ Ev (fun k => impl_purse_counts.f k (l.map S56.f0) (l.map S56.f1) U (a : Int)) r)) :
    ∀ (d a : Nat), n + 501 - a = d → a ≤ n + 501 → ∃ r : List Int × Int × Int, r.1.length ≤ l.length ∧ Ev (fun k => spec_OverFrom.l0 k (n : Int) (l.map S56.f0) T (a : Int)) r ∧ Ev (fun k => impl_OverFrom.l0 k (n : Int) U (a : Int) (l.map S56.f0) (l.map S56.f1)) r := by
  have hw : wrap64 ((n : Int) + 500) = ((n + 500 : Nat) : Int) := by rw [w64 (by omega) (by omega)]; omega
  intro d
  induction d with
  | zero =>
    intro a hd ha
    obtain rfl : a = n + 501 := by omega
    refine ⟨([], 0, 6), Nat.zero_le _, Ev.step (f := fun _ => some ([], 0, 6)) (fun k => ?_) (Ev.now _), Ev.step (f := fun _ => some ([], 0, 6)) (fun k => ?_) (Ev.now _)⟩
    · rw [spec_OverFrom.l0, hw, if_neg (by omega)]
    · rw [impl_OverFrom.l0, hw, if_neg (by omega)]
  | succ d ih =>
    intro a hd ha
    have i1 : n + 501 - (a + 1) = d := by omega
    have i2 : a + 1 ≤ n + 501 := by omega
    have i3 : a ≤ n + 500 := by omega
    obtain ⟨q1, q2, q3, q4, q5⟩ := H a i3
    by_cases c : rd (rd_L1 T 0) (a : Int) < 0
    · clear q5
      obtain ⟨r, r1, r2, r3⟩ := ih (a + 1) i1 i2
      have e0 := q3.1 c
      refine ⟨r, r1, Ev.step (fun k => ?_) r2, Ev.step (fun k => ?_) r3⟩
      · rw [spec_OverFrom.l0, hw, if_pos (by omega), if_pos (by omega), if_pos (by omega), if_pos (by omega), if_neg (by omega), wN a (by omega)]
      · rw [impl_OverFrom.l0, hw, if_pos (by omega), if_pos (by omega), if_pos (by omega), if_pos (by omega), if_neg (by omega), wN a (by omega)]
    · have c0 : 0 ≤ rd (rd_L1 T 0) (a : Int) := Int.not_lt.1 c
      obtain ⟨f1, r, ⟨r1, r2⟩, r3, r4⟩ := q5 c0
      obtain ⟨K5, r3⟩ := EvG r3
      obtain ⟨K6, r4⟩ := EvG r4
      rw [List.length_map] at r1
      have e0 : (rd_T77 (rd_L7 U 0) (a : Int)).f0 > 0 := by
        have : ¬ (rd_T77 (rd_L7 U 0) (a : Int)).f0 = 0 := fun e => c (q3.2 e)
        omega
      refine ⟨(r, (a : Int), 0), Nat.le_of_eq r1, Ev.step (f := fun k => (spec_l01Counts.f k T (l.map S56.f0) (a : Int)).bind fun t => some (t, (a : Int), 0)) (fun k => ?_) (EvI K5 fun k hk => by rw [r3 k hk, Option.bind_some]), Ev.step (f := fun k => (impl_purse_counts.f k (l.map S56.f0) (l.map S56.f1) U (a : Int)).bind fun t => some (t, (a : Int), 0)) (fun k => ?_) (EvI K6 fun k hk => by rw [r4 k hk, Option.bind_some])⟩
      · rw [spec_OverFrom.l0, hw, if_pos (by omega), if_pos (by omega), if_pos (by omega), if_pos (by omega), if_pos (by omega)]
      · rw [impl_OverFrom.l0, hw, if_pos (by omega), if_pos (by omega), if_pos (by omega), if_pos (by omega), if_pos e0]
theorem overBoth (l : List S56) (hw : Wf l) (hb : l.length ≤ 4398046511104) (a : Int) : ∃ r : List Int × Int × Int, r.1.length ≤ l.length ∧ Ev (fun k => spec_OverFrom.f k l a) r ∧ Ev (fun k => impl_OverFrom.f k l a) r := by
  obtain ⟨c, h1, h2, h3⟩ := bothStocked l hw hb a
  obtain ⟨K1, h1⟩ := EvG h1
  obtain ⟨K2, h2⟩ := EvG h2
  by_cases e : c = 0
  · obtain ⟨hs, h0, hm⟩ := h3.1 e
    obtain ⟨n, rfl⟩ := Int.eq_ofNat_of_zero_le h0
    have hl := hs.1
    have hq : wrap64 ((n : Int) + 500) = ((n + 500 : Nat) : Int) := by rw [w64 (by omega) (by omega)]; omega
    obtain ⟨K3, p1⟩ := EvG (partsF l hw hb)
    obtain ⟨K4, p2⟩ := EvG (purseF l hw hb)
    obtain ⟨T, U, t1, u1, t2, u2, t3, u3, H⟩ := tables (kindsOf hs (n + 500)) (by rw [List.length_map]; omega) (by omega)
    obtain ⟨K5, t1⟩ := EvG t1
    obtain ⟨K6, u1⟩ := EvG u1
    obtain ⟨r, r1, r2, r3⟩ := over_l0 l hl n (by omega) T U t2 u2 t3 u3 H _ n rfl (by omega)
    obtain ⟨K7, r2⟩ := EvG r2
    obtain ⟨K8, r3⟩ := EvG r3
    refine ⟨r, r1, EvI (K1 + K3 + K5 + K7) fun k hk => ?_, EvI (K2 + K4 + K6 + K8) fun k hk => ?_⟩
    · rw [spec_OverFrom.f, h1 k (by omega), Option.bind_some, if_pos e, p1 k (by omega), Option.bind_some, hq, t1 k (by omega), Option.bind_some]; exact r2 k (by omega)
    · rw [impl_OverFrom.f, h2 k (by omega), Option.bind_some, if_pos e, p2 k (by omega), Option.bind_some, hq, u1 k (by omega), Option.bind_some]; exact r3 k (by omega)
  · refine ⟨([], 0, c), Nat.zero_le _, EvI K1 fun k hk => ?_, EvI K2 fun k hk => ?_⟩
    · rw [spec_OverFrom.f, h1 k hk, Option.bind_some, if_neg e]
    · rw [impl_OverFrom.f, h2 k hk, Option.bind_some, if_neg e]

theorem FnExactOverFrom : laws_FnExactOverFrom.Pure := by
  intro x a ⟨hx, hw⟩ _
  by_cases h1 : (x.length : Int) ≤ 1048576
  · obtain ⟨K1, e1⟩ := EvG (toS x (by omega))
    obtain ⟨r, hr, h3, h4⟩ := overBoth (x.map cv) (Wf.cv hw) (by rw [List.length_map]; omega) a
    rw [List.length_map] at hr
    obtain ⟨K3, h3⟩ := EvG h3
    obtain ⟨K4, h4⟩ := EvG h4
    obtain ⟨K5, h5⟩ := EvG (eqS (x.map cv) (by rw [List.length_map]; omega))
    obtain ⟨K7, h7⟩ := EvG (eqI r.1 (by omega))
    obtain ⟨K8, h8⟩ := EvG (markS (x.map cv) (by rw [List.length_map]; omega))
    rw [List.length_map] at h8
    obtain ⟨K10, h10⟩ := EvG (markI r.1 1 (by omega) (by omega))
    obtain ⟨K11, h11⟩ := EvG (heldI r.1.length 1 (by omega) (by omega))
    obtain ⟨q, s, c⟩ := r
    simp only at h3 h4 h7 h10 h11 hr
    refine ⟨K1 + K3 + K4 + K5 + K7 + K8 + K10 + K11 + 3, ?_⟩
    rw [laws_FnExactOverFrom.f, szS x _ (by omega) (by omega) hx, Option.bind_some, if_pos h1, if_neg (by omega),
      e1 _ (by omega), Option.bind_some, h3 _ (by omega), Option.bind_some, Option.bind_some, h4 _ (by omega), Option.bind_some, h7 _ (by omega), Option.bind_some, if_pos rfl, if_pos rfl, bne_self_eq_false,
      laws_FnExactOverFrom.j0, if_neg (by simp), e1 _ (by omega), Option.bind_some, h5 _ (by omega), Option.bind_some, if_pos rfl,
      h8 _ (by omega), Option.bind_some, if_neg (by simp only; omega), h7 _ (by omega), Option.bind_some, if_pos rfl, if_pos rfl, bne_self_eq_false,
      laws_FnExactOverFrom.j1, if_neg (by simp), show (1 : Int) = ((1 : Nat) : Int) from rfl, h10 _ (by omega), Option.bind_some, h11 _ (by omega), Option.bind_some, if_neg (by omega), if_pos rfl,
      e1 _ (by omega), Option.bind_some, h4 _ (by omega), Option.bind_some, h7 _ (by omega), Option.bind_some, if_pos rfl, if_pos rfl, bne_self_eq_false,
      laws_FnExactOverFrom.j2, if_neg (by simp), show (1 : Int) = ((1 : Nat) : Int) from rfl, h11 _ (by omega), Option.bind_some, if_neg (by omega), if_pos rfl]
  · exact ⟨0, by rw [laws_FnExactOverFrom.f, szS x _ (by omega) (by omega) hx, Option.bind_some, if_neg h1, if_pos (by omega)]⟩

end Go.Proofs.Ytnhcdfikjfjkoaa.Pure

namespace Go.Proofs.Ytnhcdfikjfjkoaa.X
open Go.ChangeShapes Go.WideShapes Go.ChangeAt Go.RowKit Go.Proofs.YtnhcdfikjfjkoaaW.PrintWords Go.Deep
set_option linter.unusedVariables false

/-- What reads as data of type t is a value of kind d, and meets wf. -/
def Opens {α : Type} (P : Program) (t : TypeId) (d : Kd α) (wf : α → Prop) : Prop :=
  ∀ (H : Type) (enc : TypeId × Value → H) (W : World) (held : Bool) (fuel : Nat) (cs : List Value) (x : DataW H × List MemPlace), DataW.trod enc P W 0 (fun _ => true) held fuel t cs = some x → ∃ a, d.K W a cs ∧ wf a

theorem Opens.int {P : Program} {t : TypeId} {k : IntKind} (ht : P.underlying t = some (.int k)) : Opens P t (Kd.int k) (fun n => (Lit.int k n).wf = true) := by
  intro H enc W held fuel cs x h
  obtain ⟨n, rfl, _, hw⟩ := DataW.trod_int ht h
  exact ⟨n, rfl, hw⟩

theorem Opens.slice {α : Type} [Inhabited α] {P : Program} {t e : TypeId} {d : Kd α} {wf : α → Prop} (ht : P.underlying t = some (.slice e)) (hc : P.cellsOf e = d.sz) (h : Opens P e d wf) :
    Opens P t (Kd.slice e d) (fun l => l.length ≤ 9223372036854775807 ∧ ∀ a ∈ l, wf a) := by
  intro H enc W held fuel cs x hx
  rcases open_slice ht hx with ⟨rfl, _⟩ | ⟨ad, len, cap, m, n, D, Pl, rfl, _, hl, hm, hmm, _, hel⟩
  · exact ⟨[], ⟨none, 0, rfl, Nat.le_refl _, ⟨rfl, by simp, fun h => absurd h (Nat.lt_irrefl 0)⟩⟩, by simp, fun a ha => by cases ha⟩
  · have hmc : m = cap := by simpa using hmm
    have each : ∀ i, i < len → ∃ a : α, wf a ∧ ∃ c, c.length = d.sz ∧ d.K W a c ∧ ∀ j u, c[j]? = some u → W.cell? (ad.add (i * d.sz + j)) = some u := by
      intro i hi
      obtain ⟨cs', h1, h2⟩ := hel i (by omega)
      obtain ⟨_, hlen, hcell⟩ := World.cells?_some h1
      obtain ⟨a, hK, hw⟩ := h H enc W held n cs' _ h2
      refine ⟨a, hw, cs', by rw [hlen, hc], hK, fun j u hu => ?_⟩
      have hj : j < P.cellsOf e := by have := (List.getElem?_eq_some_iff.1 hu).1; omega
      have h3 := hcell j hj
      rw [hu, hc] at h3
      rw [← h3]
      congr 1
      unfold Addr.add
      by_cases h4 : i * d.sz = 0 <;> by_cases h5 : j = 0 <;> simp [h4, h5, Nat.add_assoc]
    obtain ⟨f, hf⟩ := choose_lt each
    have hlen : ((List.range len).map f).length = len := by simp
    refine ⟨(List.range len).map f, ⟨some ad, cap, by rw [hlen], by rw [hlen]; exact hl, ⟨rfl, by rw [hlen]; unfold maxLen at hm; omega, fun _ => ⟨ad, rfl, fun j p hp => ?_⟩⟩⟩, by rw [hlen]; unfold maxLen at hm; omega, fun a ha => ?_⟩
    · have hj : j < len := by have := (List.getElem?_eq_some_iff.1 hp).1; omega
      have hp2 : f j = p := by simpa [hj] using hp
      rw [← hp2]
      exact (hf j hj).2
    · obtain ⟨i, hi, rfl⟩ := List.mem_map.1 ha
      exact (hf i (List.mem_range.1 hi)).1

theorem Opens.pair {α β : Type} {P : Program} {t : TypeId} {a : Kd α} {b : Kd β} {wa : α → Prop} {wb : β → Prop} {f0 f1 : Field} (hs : P.underlying t = some (.struct #[f0, f1])) (o0 : f0.offset = 0) (c0 : P.cellsOf f0.type = a.sz) (o1 : f1.offset = a.sz) (c1 : P.cellsOf f1.type = b.sz) (hc : P.cellsOf t = a.sz + b.sz)
    (ha : Opens P f0.type a wa) (hb : Opens P f1.type b wb) : Opens P t (Kd.pair a b) (fun x => wa x.1 ∧ wb x.2) := by
  intro H enc W held fuel cs x hx
  obtain ⟨xs, n, _, _, hl, hxl, hf⟩ := DataW.trod_struct hs hx
  have hxl : xs.length = 2 := hxl
  have g0 := hf 0 f0 rfl
  have g1 := hf 1 f1 rfl
  rw [List.getElem?_eq_getElem (by omega)] at g0 g1
  obtain ⟨x0, k0, w0⟩ := ha H enc W held n _ _ g0
  obtain ⟨x1, k1, w1⟩ := hb H enc W held n _ _ g1
  refine ⟨(x0, x1), ⟨_, _, ?_, k0, k1⟩, w0, w1⟩
  rw [o0, o1, c0, c1, List.drop_zero]
  rw [List.take_of_length_le (l := cs.drop a.sz) (by rw [List.length_drop]; omega), List.take_append_drop]

theorem Opens.triple {α β γ : Type} {P : Program} {t : TypeId} {a : Kd α} {b : Kd β} {c : Kd γ} {wa : α → Prop} {wb : β → Prop} {wc : γ → Prop} {f0 f1 f2 : Field} (hs : P.underlying t = some (.struct #[f0, f1, f2])) (o0 : f0.offset = 0) (c0 : P.cellsOf f0.type = a.sz) (o1 : f1.offset = a.sz) (c1 : P.cellsOf f1.type = b.sz) (o2 : f2.offset = a.sz + b.sz) (c2 : P.cellsOf f2.type = c.sz) (hc : P.cellsOf t = a.sz + b.sz + c.sz)
    (ha : Opens P f0.type a wa) (hb : Opens P f1.type b wb) (hcc : Opens P f2.type c wc) : Opens P t (Kd.pair a (Kd.pair b c)) (fun x => wa x.1 ∧ wb x.2.1 ∧ wc x.2.2) := by
  intro H enc W held fuel cs x hx
  obtain ⟨xs, n, _, _, hl, hxl, hf⟩ := DataW.trod_struct hs hx
  have hxl : xs.length = 3 := hxl
  have g0 := hf 0 f0 rfl
  have g1 := hf 1 f1 rfl
  have g2 := hf 2 f2 rfl
  rw [List.getElem?_eq_getElem (by omega)] at g0 g1 g2
  obtain ⟨x0, k0, w0⟩ := ha H enc W held n _ _ g0
  obtain ⟨x1, k1, w1⟩ := hb H enc W held n _ _ g1
  obtain ⟨x2, k2, w2⟩ := hcc H enc W held n _ _ g2
  refine ⟨(x0, x1, x2), ⟨_, _, ?_, k0, ⟨_, _, rfl, k1, k2⟩⟩, w0, w1, w2⟩
  rw [o0, o1, o2, c0, c1, c2, List.drop_zero]
  rw [List.take_of_length_le (l := cs.drop (a.sz + b.sz)) (by rw [List.length_drop]; omega), ← List.drop_drop, List.take_append_drop, List.take_append_drop]

theorem Opens.iso {α β : Type} {P : Program} {t : TypeId} {d : Kd α} {wf : α → Prop} (f : β → α) (g : α → β) (hg : ∀ a, f (g a) = a) (h : Opens P t d wf) : Opens P t (Kd.iso d f) (fun b => wf (f b)) := by
  intro H enc W held fuel cs x hx
  obtain ⟨a, hK, hw⟩ := h H enc W held fuel cs x hx
  refine ⟨g a, ?_, by show wf (f (g a)); rw [hg]; exact hw⟩
  show d.K W (f (g a)) cs
  rw [hg]; exact hK

/-- An argument that is a struct. -/
theorem Opens.agg {α : Type} {P : Program} {t : TypeId} {d : Kd α} {wf : α → Prop} {fs : Array Field} (h : Opens P t d wf) (hs : P.underlying t = some (.struct fs)) {H : Type} {enc : TypeId × Value → H} {W : World} {r : Reach} {b0 : Nat} {v : Value} {dd : DataW H} {ps : List MemPlace}
    (hv : Value.okWide P W r b0 t v) (ht : DataW.Trod enc P W 0 (fun _ => true) true t v dd ps) : ∃ (a : α) (cs : List Value), v = .agg cs.toArray ∧ d.K W a cs ∧ wf a := by
  obtain ⟨cs, rfl, _⟩ := okWide_struct hs hv
  obtain ⟨fuel, hf⟩ := ht
  obtain ⟨a, hK, hw⟩ := h H enc W true fuel _ _ hf
  exact ⟨a, _, by simp [Value.cells], hK, hw⟩
/-- An argument that is a slice. -/
theorem Opens.arg {α : Type} {P : Program} {t e : TypeId} {d : Kd α} {wf : List α → Prop} (h : Opens P t (Kd.slice e d) wf) (ht : P.underlying t = some (.slice e)) {H : Type} {enc : TypeId × Value → H} {W : World} {r : Reach} {b0 : Nat} {v : Value} {dd : DataW H} {ps : List MemPlace}
    (hv : Value.okWide P W r b0 t v) (hT : DataW.Trod enc P W 0 (fun _ => true) true t v dd ps) : ∃ (l : List α) (A : Option Addr) (c : Nat), v = .slice A l.length c ∧ l.length ≤ c ∧ d.C W A l.length l ∧ wf l := by
  obtain ⟨a, len, cap, rfl⟩ := okWide_slice ht hv
  obtain ⟨fuel, hf⟩ := hT
  obtain ⟨l, ⟨A, c, he, hl, hC⟩, hw⟩ := h H enc W true fuel _ _ hf
  have he2 : [Value.slice a len cap] = [Value.slice A l.length c] := by simpa [Value.cells] using he
  injection he2 with he2 _
  exact ⟨l, A, c, he2, hl, hC, hw⟩

end Go.Proofs.Ytnhcdfikjfjkoaa.X
