/- FnExactFewestRolls returns true at all cuts, every length and every budget; no condition. -/
import Derived.Test.YtipdmnibjkdpcaaPimplFewestRolls
import Derived.Test.YtipdmnibjkdpcaaPlawsFnExactFewestRolls
import Derived.Test.YtipdmnibjkdpcaaPspecFewestRolls
import Derived.Test.YtipdmnibjkdpcaaXBase
import Derived.Test.YtipdmnibjkdpcaaXRolls
import Derived.Test.YtipdmnibjkdpcaaXRollsT
namespace Go.Proofs.Ytipdmnibjkdpcaa.Pure
open Go.RowKit Go.Proofs.Ytipdmnibjkdpcaa.P Go.Proofs.YtipdmnibjkdpcaaW.PrintWords Go.Proofs.YtipdmnibjkdpcaaW.PrintLast
set_option linter.unusedVariables false
set_option linter.unusedSimpArgs false

/-- The rolls are laid out. -/
theorem fill_l1 (cu : List Int) (bu lo : Int) (ro : List Int) (tr : Int) (n : Nat) (hn : n ≤ 10) (r : List Int × Int × Int) (hr : Ev (fun k => spec_FewestRolls.l1 k cu bu lo ro tr (n : Int) (List.replicate n lo) (n : Int)) r) :
    ∀ d i (le : List Int), n - i = d → i ≤ n → le.length = n → (∀ j, j < i → le.getD j 0 = lo) → Ev (fun k => spec_FewestRolls.l1 k cu bu lo ro tr (n : Int) le (i : Int)) r := by
  intro d
  induction d with
  | zero =>
    intro i le hd hi hl hj
    obtain rfl : i = n := by omega
    have : le = List.replicate i lo := list_ext _ _ (by rw [List.length_replicate, hl]) fun j h => by
      rw [List.length_replicate] at h
      rw [hj j h, getD_rep i j lo h]
    rw [this]; exact hr
  | succ d ih =>
    intro i le hd hi hl hj
    refine Ev.step (fun k => ?_) (ih (i + 1) (le.set i lo) (by omega) (by omega) (by rw [List.length_set, hl]) fun j h => ?_)
    · rw [spec_FewestRolls.l1, if_pos (by omega), if_pos ⟨by omega, by omega⟩, wN i (by omega), Int.toNat_natCast]
    · rw [getD_set le i j lo (by omega)]
      split
      · rfl
      · exact hj j (by omega)
theorem few_l0 (cu : List Int) (lo bu : Int) (hc : cu.length ≤ 10) (hlo : 1 ≤ lo ∧ lo ≤ 400) (hbu : 0 ≤ bu ∧ bu ≤ 20000) (hcu : ∀ j, j < cu.length → 1 ≤ cu.getD j 0 ∧ cu.getD j 0 ≤ lo) :
    ∀ d n (tr : Int), cu.length - n = d → n ≤ cu.length → 0 ≤ tr → tr ≤ bu → ∃ r : List Int × Int × Int, r.1.length ≤ 10 ∧ Ev (fun k => spec_FewestRolls.l0 k cu bu lo [] tr (n : Int)) r ∧ Ev (fun k => impl_FewestRolls.l0 k cu lo bu tr false (n : Int)) r := by
  intro d
  induction d with
  | zero =>
    intro n tr hd hn h0 h1
    obtain rfl : n = cu.length := by omega
    have ok : OkS cu lo cu.length 0 [] (List.replicate cu.length lo) := ⟨List.length_replicate, Nat.zero_le _, Nat.zero_le _, fun j _ h => getD_rep _ j lo h, fun j h => by rw [getD_rep _ j lo h]; omega⟩
    obtain ⟨⟨e, ro1, le1, tr1, s1, t0, t1, hh⟩, hz⟩ := rt_both cu lo bu cu.length hc hc hlo hbu hcu _ 0 [] (List.replicate cu.length lo) tr rfl ok h0 h1
    rw [List.take_zero] at hh
    have eS : ∀ r, Ev (fun k => spec_FewestRolls.l1 k cu bu lo [] tr ((cu.length : Nat) : Int) (List.replicate cu.length lo) ((cu.length : Nat) : Int)) r → Ev (fun k => spec_FewestRolls.l0 k cu bu lo [] tr ((cu.length : Nat) : Int)) r := fun r hr => by
      refine Ev.step (fun k => ?_) (fill_l1 cu bu lo [] tr cu.length hc r hr _ 0 (List.replicate cu.length 0) rfl (Nat.zero_le _) List.length_replicate (fun j h => absurd h (Nat.not_lt_zero _)))
      rw [spec_FewestRolls.l0, if_pos ⟨by omega, by rw [Int.toNat_natCast]; omega⟩, Int.toNat_natCast]; rfl
    obtain ⟨K1, g1⟩ := EvG s1
    have eL : ∀ k, K1 ≤ k → spec_FewestRolls.l1 (k + 1) cu bu lo [] tr ((cu.length : Nat) : Int) (List.replicate cu.length lo) ((cu.length : Nat) : Int) = (if e = 1 then some (ro1, tr1, 0) else (if e = -1 then some (([] : List Int), 0, 7) else spec_FewestRolls.l0 k cu bu lo ro1 tr1 (wrap64 (((cu.length : Nat) : Int) + 1)))) := fun k hk => by
      rw [spec_FewestRolls.l1, if_neg (by omega)]
      have := g1 k hk
      rw [show (0 : Int) = ((0 : Nat) : Int) from rfl, this, Option.bind_some]
    rcases hh with ⟨rfl, b, c⟩ | ⟨rfl, rfl, rfl, c⟩ | ⟨rfl, c⟩
    · obtain ⟨K2, g2⟩ := EvG c
      refine ⟨(ro1, tr1, 0), by simp only; omega, eS _ (EvI (K1 + 1) fun k hk => ?_), EvI (K2 + 1) fun k hk => ?_⟩
      · obtain ⟨m, rfl⟩ : ∃ m, k = m + 1 := ⟨k - 1, by omega⟩
        rw [eL m (by omega), if_pos rfl]
      · obtain ⟨m, rfl⟩ : ∃ m, k = m + 1 := ⟨k - 1, by omega⟩
        rw [impl_FewestRolls.l0, g2 m (by omega), Option.bind_some, if_pos rfl]
    · have := hz ⟨0, _, _, _, s1, rfl⟩
      rw [List.length_nil] at this
      omega
    · obtain ⟨K2, g2⟩ := EvG c
      refine ⟨([], 0, 7), Nat.zero_le _, eS _ (EvI (K1 + 1) fun k hk => ?_), EvI (K2 + 1) fun k hk => ?_⟩
      · obtain ⟨m, rfl⟩ : ∃ m, k = m + 1 := ⟨k - 1, by omega⟩
        rw [eL m (by omega), if_neg (by decide), if_pos rfl]
      · obtain ⟨m, rfl⟩ : ∃ m, k = m + 1 := ⟨k - 1, by omega⟩
        rw [impl_FewestRolls.l0, g2 m (by omega), Option.bind_some, if_neg (by simp), if_pos rfl]
  | succ d ihd =>
    intro n tr hd hn h0 h1
    have ok : OkS cu lo n 0 [] (List.replicate n lo) := ⟨List.length_replicate, Nat.zero_le _, Nat.zero_le _, fun j _ h => getD_rep _ j lo h, fun j h => by rw [getD_rep _ j lo h]; omega⟩
    obtain ⟨⟨e, ro1, le1, tr1, s1, t0, t1, hh⟩, hz⟩ := rt_both cu lo bu n hc (by omega) hlo hbu hcu _ 0 [] (List.replicate n lo) tr rfl ok h0 h1
    rw [List.take_zero] at hh
    have eS : ∀ r, Ev (fun k => spec_FewestRolls.l1 k cu bu lo [] tr (n : Int) (List.replicate n lo) (n : Int)) r → Ev (fun k => spec_FewestRolls.l0 k cu bu lo [] tr (n : Int)) r := fun r hr => by
      refine Ev.step (fun k => ?_) (fill_l1 cu bu lo [] tr n (by omega) r hr _ 0 (List.replicate n 0) rfl (Nat.zero_le _) List.length_replicate (fun j h => absurd h (Nat.not_lt_zero _)))
      rw [spec_FewestRolls.l0, if_pos ⟨by omega, by rw [Int.toNat_natCast]; omega⟩, Int.toNat_natCast]; rfl
    obtain ⟨K1, g1⟩ := EvG s1
    have eL : ∀ k, K1 ≤ k → spec_FewestRolls.l1 (k + 1) cu bu lo [] tr (n : Int) (List.replicate n lo) (n : Int) = (if e = 1 then some (ro1, tr1, 0) else (if e = -1 then some (([] : List Int), 0, 7) else spec_FewestRolls.l0 k cu bu lo ro1 tr1 ((n + 1 : Nat) : Int))) := fun k hk => by
      rw [spec_FewestRolls.l1, if_neg (by omega), wN n (by omega)]
      have := g1 k hk
      rw [show (0 : Int) = ((0 : Nat) : Int) from rfl, this, Option.bind_some]
    rcases hh with ⟨rfl, b, c⟩ | ⟨rfl, rfl, rfl, c⟩ | ⟨rfl, c⟩
    · obtain ⟨K2, g2⟩ := EvG c
      refine ⟨(ro1, tr1, 0), by simp only; omega, eS _ (EvI (K1 + 1) fun k hk => ?_), EvI (K2 + 1) fun k hk => ?_⟩
      · obtain ⟨m, rfl⟩ : ∃ m, k = m + 1 := ⟨k - 1, by omega⟩
        rw [eL m (by omega), if_pos rfl]
      · obtain ⟨m, rfl⟩ : ∃ m, k = m + 1 := ⟨k - 1, by omega⟩
        rw [impl_FewestRolls.l0, g2 m (by omega), Option.bind_some, if_pos rfl]
    · obtain ⟨K2, g2⟩ := EvG c
      obtain ⟨r, r0, r1, r2⟩ := ihd (n + 1) tr1 (by omega) (by omega) t0 t1
      obtain ⟨K3, g3⟩ := EvG r1
      obtain ⟨K4, g4⟩ := EvG r2
      refine ⟨r, r0, eS _ (EvI (K1 + K3 + 1) fun k hk => ?_), EvI (K2 + K4 + 1) fun k hk => ?_⟩
      · obtain ⟨m, rfl⟩ : ∃ m, k = m + 1 := ⟨k - 1, by omega⟩
        rw [eL m (by omega), if_neg (by decide), if_neg (by decide)]; exact g3 m (by omega)
      · obtain ⟨m, rfl⟩ : ∃ m, k = m + 1 := ⟨k - 1, by omega⟩
        rw [impl_FewestRolls.l0, g2 m (by omega), Option.bind_some, if_neg (by simp), if_neg (by simp), wN n (by omega)]; exact g4 m (by omega)
    · obtain ⟨K2, g2⟩ := EvG c
      refine ⟨([], 0, 7), Nat.zero_le _, eS _ (EvI (K1 + 1) fun k hk => ?_), EvI (K2 + 1) fun k hk => ?_⟩
      · obtain ⟨m, rfl⟩ : ∃ m, k = m + 1 := ⟨k - 1, by omega⟩
        rw [eL m (by omega), if_neg (by decide), if_pos rfl]
      · obtain ⟨m, rfl⟩ : ∃ m, k = m + 1 := ⟨k - 1, by omega⟩
        rw [impl_FewestRolls.l0, g2 m (by omega), Option.bind_some, if_neg (by simp), if_pos rfl]
theorem fewestBoth (l : List Int) (a bu : Int) : ∃ r : List Int × Int × Int, r.1.length ≤ 10 ∧ Ev (fun k => spec_FewestRolls.f k l a bu) r ∧ Ev (fun k => impl_FewestRolls.f k l a bu) r := by
  obtain ⟨c, h1, h2, h3⟩ := bothRolls l a bu
  obtain ⟨K1, h1⟩ := EvG h1
  obtain ⟨K2, h2⟩ := EvG h2
  by_cases e : c = 0
  · obtain ⟨b1, b2, b3, b4, b5, b6⟩ := h3 e
    obtain ⟨r, r0, r1, r2⟩ := few_l0 l a bu b1 ⟨b2, b3⟩ ⟨b4, b5⟩ b6 _ 0 0 rfl (Nat.zero_le _) (Int.le_refl _) b4
    obtain ⟨K3, r1⟩ := EvG r1
    obtain ⟨K4, r2⟩ := EvG r2
    refine ⟨r, r0, EvI (K1 + K3) fun k hk => ?_, EvI (K2 + K4) fun k hk => ?_⟩
    · rw [spec_FewestRolls.f, inFR, Option.bind_some, h1 k (by omega), Option.bind_some, if_pos e]; exact r1 k (by omega)
    · rw [impl_FewestRolls.f, h2 k (by omega), Option.bind_some, if_pos e]; exact r2 k (by omega)
  · refine ⟨([], 0, c), Nat.zero_le _, EvI K1 fun k hk => ?_, EvI K2 fun k hk => ?_⟩
    · rw [spec_FewestRolls.f, inFR, Option.bind_some, h1 k hk, Option.bind_some, if_neg e]
    · rw [impl_FewestRolls.f, h2 k hk, Option.bind_some, if_neg e]

theorem FnExactFewestRolls : laws_FnExactFewestRolls.Pure := by
  intro n a bu _ _ _ _ _
  by_cases h0 : (n.length : Int) > 1048576
  · exact ⟨0, by rw [laws_FnExactFewestRolls.f, if_pos h0]⟩
  obtain ⟨K2, e2⟩ := EvG (toI n (by omega))
  obtain ⟨r, hr, h3, h4⟩ := fewestBoth n a bu
  obtain ⟨K3, h3⟩ := EvG h3
  obtain ⟨K4, h4⟩ := EvG h4
  obtain ⟨K6, h6⟩ := EvG (eqI n (by omega))
  obtain ⟨K7, h7⟩ := EvG (eqI r.1 (by omega))
  obtain ⟨K9, h9⟩ := EvG (markI n 1 (by omega) (by omega))
  obtain ⟨K10, h10⟩ := EvG (markI r.1 1 (by omega) (by omega))
  obtain ⟨K11, h11⟩ := EvG (heldI r.1.length 1 (by omega) (by omega))
  obtain ⟨q, s, c⟩ := r
  simp only at h3 h4 h7 h10 h11 hr
  refine ⟨K2 + K3 + K4 + K6 + K7 + K9 + K10 + K11 + 3, ?_⟩
  rw [laws_FnExactFewestRolls.f, if_neg h0,
    e2 _ (by omega), Option.bind_some, h3 _ (by omega), Option.bind_some, Option.bind_some, h4 _ (by omega), Option.bind_some, h7 _ (by omega), Option.bind_some, if_pos rfl, if_pos rfl, bne_self_eq_false,
    laws_FnExactFewestRolls.j0, if_neg (by simp), e2 _ (by omega), Option.bind_some, h6 _ (by omega), Option.bind_some, if_pos rfl, show (1 : Int) = ((1 : Nat) : Int) from rfl,
    h9 _ (by omega), Option.bind_some, if_neg (by simp only; omega), h7 _ (by omega), Option.bind_some, if_pos rfl, if_pos rfl, bne_self_eq_false,
    laws_FnExactFewestRolls.j1, if_neg (by simp), show (1 : Int) = ((1 : Nat) : Int) from rfl, h10 _ (by omega), Option.bind_some, h11 _ (by omega), Option.bind_some, if_neg (by omega), if_pos rfl,
    e2 _ (by omega), Option.bind_some, h4 _ (by omega), Option.bind_some, h7 _ (by omega), Option.bind_some, if_pos rfl, if_pos rfl, bne_self_eq_false,
    laws_FnExactFewestRolls.j2, if_neg (by simp), show (1 : Int) = ((1 : Nat) : Int) from rfl, h11 _ (by omega), Option.bind_some, if_neg (by omega), if_pos rfl]

end Go.Proofs.Ytipdmnibjkdpcaa.Pure
