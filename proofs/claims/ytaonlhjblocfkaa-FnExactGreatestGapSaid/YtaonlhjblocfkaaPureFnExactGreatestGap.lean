/- FnExactGreatestGap returns true at every list of numbers; no condition. -/
import Derived.Test.YtaonlhjblocfkaaPimplGreatestGap
import Derived.Test.YtaonlhjblocfkaaPimpldivisor
import Derived.Test.YtaonlhjblocfkaaPlawsFnExactGreatestGap
import Derived.Test.YtaonlhjblocfkaaPspecGreatestGap
import Derived.Test.YtaonlhjblocfkaaPspecl00Max
import Derived.Test.YtaonlhjblocfkaaPspecl01Common
import Derived.Test.YtaonlhjblocfkaaXBase
import Derived.Test.YtaonlhjblocfkaaXValues
import Derived.Test.YtaonlhjblocfkaaXFewest
import Derived.Test.YtaonlhjblocfkaaXPay
namespace Go.Proofs.Ytaonlhjblocfkaa.Pure
open Go.RowKit Go.Proofs.Ytaonlhjblocfkaa.P Go.Proofs.YtaonlhjblocfkaaW.PrintWords Go.Proofs.YtaonlhjblocfkaaW.PrintLast
set_option linter.unusedVariables false
set_option linter.unusedSimpArgs false

theorem commonF : ∀ (b a : Nat), Ev (fun k => spec_l01Common.l0 k (a : Int) (b : Int)) (Nat.gcd a b : Int) := by
  intro b
  induction b using Nat.strongRecOn with
  | ind b ih =>
    intro a
    rcases Nat.eq_zero_or_pos b with h | h
    · subst h
      refine Ev.step (f := fun _ => some (Nat.gcd a 0 : Int)) (fun k => ?_) (Ev.now _)
      rw [spec_l01Common.l0, if_neg (by omega), Nat.gcd_zero_right]
    · refine Ev.step (fun k => ?_) (Nat.gcd_comm a b ▸ Nat.gcd_rec b a ▸ Nat.gcd_comm b (a % b) ▸ ih (a % b) (Nat.mod_lt _ h) b)
      rw [spec_l01Common.l0, if_pos (by omega), if_neg (by omega)]
      rfl
theorem divisorF : ∀ (b a : Nat), Ev (fun k => impl_divisor.l0 k (a : Int) (b : Int)) (Nat.gcd a b : Int) := by
  intro b
  induction b using Nat.strongRecOn with
  | ind b ih =>
    intro a
    rcases Nat.eq_zero_or_pos b with h | h
    · subst h
      refine Ev.step (f := fun _ => some (Nat.gcd a 0 : Int)) (fun k => ?_) (Ev.now _)
      rw [impl_divisor.l0, if_pos (by omega), Nat.gcd_zero_right]
    · refine Ev.step (fun k => ?_) (Nat.gcd_comm a b ▸ Nat.gcd_rec b a ▸ Nat.gcd_comm b (a % b) ▸ ih (a % b) (Nat.mod_lt _ h) b)
      rw [impl_divisor.l0, if_neg (by omega)]
      rfl

/-- Which remainders can be reached: closed under what is added, so under the greatest common divisor. -/
def Dm (F : Nat) (R : Nat → Prop) (d : Nat) : Prop := ∀ r, R (r % F) → R ((r + d) % F)
theorem Dm.add {F : Nat} {R : Nat → Prop} {a b : Nat} (ha : Dm F R a) (hb : Dm F R b) : Dm F R (a + b) := by
  intro r h
  rw [← Nat.add_assoc]
  exact hb _ (ha r h)
theorem Dm.zero {F : Nat} {R : Nat → Prop} : Dm F R 0 := fun r h => h
theorem Dm.mul {F : Nat} {R : Nat → Prop} {a : Nat} (ha : Dm F R a) : ∀ n, Dm F R (n * a) := by
  intro n
  induction n with
  | zero => rw [Nat.zero_mul]; exact Dm.zero
  | succ n ih => rw [Nat.succ_mul]; exact ih.add ha
theorem Dm.mod {F : Nat} {R : Nat → Prop} {m n : Nat} (hF : 0 < F) (hm : Dm F R m) (hn : Dm F R n) : Dm F R (n % m) := by
  intro r h
  have := hn.add (hm.mul ((F - 1) * (n / m))) r h
  have e : r + (n + (F - 1) * (n / m) * m) = r + n % m + (n / m * m) * F := by
    obtain ⟨g, rfl⟩ : ∃ g, F = g + 1 := ⟨F - 1, by omega⟩
    have h1 := Nat.div_add_mod n m
    rw [Nat.add_sub_cancel, Nat.mul_assoc, Nat.mul_comm (n / m) m]
    generalize m * (n / m) = q at *
    rw [Nat.mul_add, Nat.mul_one, Nat.mul_comm q g]
    omega
  rwa [e, Nat.add_mul_mod_self_right] at this
theorem Dm.gcd {F : Nat} {R : Nat → Prop} (hF : 0 < F) (m n : Nat) : Dm F R m → Dm F R n → Dm F R (Nat.gcd m n) := by
  induction m, n using Nat.gcd.induction with
  | H0 n => intro _ h; rwa [Nat.gcd_zero_left]
  | H1 m n h ih =>
    intro hm hn
    rw [Nat.gcd_rec]
    exact ih (hm.mod hF hn) hm
theorem Dm.one {F : Nat} {R : Nat → Prop} (hF : 0 < F) (h : Dm F R 1) (h0 : R 0) : ∀ n, R (n % F) := by
  intro n
  induction n with
  | zero => rwa [Nat.zero_mod]
  | succ n ih => exact h n ih

/-- How much is left. -/
def mz (x : Int) : Nat := if x < 0 then 250001 else x.toNat
def meas (T : List Int) : Nat := (T.map mz).sum
theorem meas_set (T : List Int) (i : Nat) (v : Int) (h : i < T.length) : meas (T.set i v) + mz (T.getD i 0) = meas T + mz v := by
  induction T generalizing i with
  | nil => simp at h
  | cons x xs ih =>
    cases i with
    | zero => simp [meas]; omega
    | succ i =>
      have := ih i (by simpa using h)
      simp [meas] at this ⊢
      omega

/-- What is known of the least amounts while they are found. -/
structure Inv (vs : List Int) (F : Nat) (T : List Int) : Prop where
  len : T.length = F
  zero : T.getD 0 0 = 0
  ok : ∀ r, r < F → 0 ≤ T.getD r 0 → (T.getD r 0).toNat % F = r ∧ 0 ≤ fw vs (T.getD r 0).toNat
  bd : ∀ r, r < F → T.getD r 0 + 500 ≤ 500 * (T.countP (fun x => decide (0 ≤ x)) : Nat)
def Cl (vs T : List Int) (F r i : Nat) : Prop := 0 ≤ T.getD r 0 → 0 ≤ T.getD ((r + (vs.getD i 0).toNat) % F) 0 ∧ T.getD ((r + (vs.getD i 0).toNat) % F) 0 ≤ T.getD r 0 + vs.getD i 0

theorem Inv.hi {vs : List Int} {F : Nat} {T : List Int} (h : Inv vs F T) (hF : F ≤ 500) : ∀ r, r < F → T.getD r 0 ≤ 249500 := by
  intro r hr
  have h1 := h.bd r hr
  have h2 := List.countP_le_length (p := fun x : Int => decide (0 ≤ x)) (l := T)
  rw [h.len] at h2
  omega

theorem Inv.set {vs : List Int} {F : Nat} {T : List Int} (h : Inv vs F T) (hvs : InR vs) (hF : F ≤ 500) (r i : Nat) (hr : r < F) (hi : i < vs.length) (h0 : 0 ≤ T.getD r 0)
    (hc : T.getD ((r + (vs.getD i 0).toNat) % F) 0 < 0 ∨ T.getD r 0 + vs.getD i 0 < T.getD ((r + (vs.getD i 0).toNat) % F) 0) :
    Inv vs F (T.set ((r + (vs.getD i 0).toNat) % F) (T.getD r 0 + vs.getD i 0)) ∧ meas (T.set ((r + (vs.getD i 0).toNat) % F) (T.getD r 0 + vs.getD i 0)) < meas T := by
  have hv := hvs _ (getD_mem vs i hi)
  have hqF : (r + (vs.getD i 0).toNat) % F < F := Nat.mod_lt _ (by omega)
  have hhi := h.hi hF r hr
  have hok := h.ok r hr h0
  have hbr := h.bd r hr
  generalize hn : (r + (vs.getD i 0).toNat) % F = q at *
  generalize hw : vs.getD i 0 = v at *
  have hne : q ≠ 0 := by
    rintro rfl
    have := h.zero
    omega
  have htl : q < T.length := by rw [h.len]; exact hqF
  have e1 : (T.getD r 0 + v).toNat = (T.getD r 0).toNat + v.toNat := by omega
  refine ⟨⟨by rw [List.length_set]; exact h.len, ?_, ?_, ?_⟩, ?_⟩
  · rw [getD_set T q 0 _ htl, if_neg hne]; exact h.zero
  · intro s hs
    rw [getD_set T q s _ htl]
    by_cases e : q = s
    · rw [if_pos e]
      intro _
      subst e
      rw [e1]
      refine ⟨?_, ?_⟩
      · rw [← hn, Nat.add_mod, hok.1]
        simp
      · obtain ⟨m, hm⟩ : ∃ m, (T.getD r 0).toNat + v.toNat = m + 1 := ⟨(T.getD r 0).toNat + v.toNat - 1, by omega⟩
        rw [hm, fw_pos vs hvs m]
        refine ⟨v, hw ▸ getD_mem vs i hi, by omega, ?_⟩
        rw [← hm, Nat.add_sub_cancel]
        exact hok.2
    · rw [if_neg e]; exact h.ok s hs
  · intro s hs
    rw [getD_set T q s _ htl, List.countP_set htl]
    have hg : T.getD q 0 = T[q] := getD_eq T q htl
    have hif : ((if decide (0 ≤ T[q]) = true then 1 else 0 : Nat) = 1 ∧ 1 ≤ T.countP (fun x => decide (0 ≤ x)) ∧ 0 ≤ T.getD q 0) ∨ ((if decide (0 ≤ T[q]) = true then 1 else 0 : Nat) = 0 ∧ T.getD q 0 < 0) := by
      by_cases hd : 0 ≤ T[q]
      · exact .inl ⟨if_pos (decide_eq_true hd), List.countP_pos_iff.2 ⟨T[q], List.getElem_mem htl, decide_eq_true hd⟩, by omega⟩
      · exact .inr ⟨if_neg (by simpa using hd), by omega⟩
    rw [if_pos (decide_eq_true (by omega : 0 ≤ T.getD r 0 + v))]
    have hbs := h.bd s hs
    have hbt := h.bd q hqF
    rcases hif with ⟨hb1, hb2⟩ | ⟨hb1, hb2⟩
    · rw [hb1]
      split <;> omega
    · rw [hb1]
      split <;> omega
  · have hm := meas_set T q (T.getD r 0 + v) htl
    have hht := h.hi hF q hqF
    unfold mz at hm
    rw [if_neg (by omega : ¬ (T.getD r 0 + v < 0))] at hm
    split at hm <;> omega

set_option linter.unusedVariables false
set_option linter.unusedSimpArgs false

/-- The greatest of the first numbers of a list, at least 0. -/
def top (T : List Int) : Nat → Int
  | 0 => 0
  | n + 1 => if top T n > T.getD n 0 then top T n else T.getD n 0
theorem l5_at (F : Nat) (T : List Int) (hl : T.length = F) (hF : F ≤ 1000000) : ∀ d i, F - i = d → i ≤ F → Ev (fun k => spec_GreatestGap.l5 k (F : Int) T (top T i) (i : Int)) (wrap64 (top T F - F), 0) := by
  intro d
  induction d with
  | zero =>
    intro i hd hi
    obtain rfl : i = F := by omega
    refine Ev.step (f := fun _ => some (wrap64 (top T i - i), 0)) (fun k => ?_) (Ev.now _)
    rw [spec_GreatestGap.l5, if_neg (by omega)]
  | succ d ih =>
    intro i hd hi
    refine Ev.step (fun k => ?_) (ih (i + 1) (by omega) (by omega))
    have e : spec_l00Max.f (top T i) (T.getD i 0) = some (top T (i + 1)) := by
      unfold spec_l00Max.f; rw [top]; split <;> rfl
    rw [spec_GreatestGap.l5, if_pos (by omega), if_pos (by omega), if_pos (by omega), rdN, e, Option.bind_some, wN i (by omega)]
theorem l5_ev (F : Nat) (T : List Int) (hl : T.length = F) (hF : F ≤ 1000000) : ∃ ans, Ev (fun k => spec_GreatestGap.l5 k (F : Int) T 0 0) ans := ⟨_, l5_at F T hl hF _ 0 rfl (Nat.zero_le _)⟩
theorem top_spec (T : List Int) : ∀ n, 0 ≤ top T n ∧ (∀ r, r < n → T.getD r 0 ≤ top T n) ∧ (top T n = 0 ∨ ∃ r, r < n ∧ top T n = T.getD r 0) := by
  intro n
  induction n with
  | zero => exact ⟨Int.le_refl _, fun r h => by omega, .inl rfl⟩
  | succ n ih =>
    obtain ⟨h0, h1, h2⟩ := ih
    rw [top]
    split
    · refine ⟨h0, fun r hr => ?_, ?_⟩
      · rcases Nat.eq_or_lt_of_le (Nat.le_of_lt_succ hr) with e | e
        · subst e; omega
        · exact h1 r e
      · rcases h2 with h2 | ⟨r, hr, h2⟩
        · exact .inl h2
        · exact .inr ⟨r, by omega, h2⟩
    · refine ⟨by omega, fun r hr => ?_, .inr ⟨n, by omega, rfl⟩⟩
      rcases Nat.eq_or_lt_of_le (Nat.le_of_lt_succ hr) with e | e
      · subst e; exact Int.le_refl _
      · have := h1 r e; omega

/-- What the rounds end with. -/
def Fin (vs : List Int) (F : Nat) (ans : Int × Int) : Prop :=
  ∃ T, Inv vs F T ∧ (∀ r, r < F → ∀ i, 1 ≤ i → i < vs.length → Cl vs T F r i) ∧ Ev (fun k => spec_GreatestGap.l5 k (F : Int) T 0 0) ans

theorem gap_round (vs : List Int) (hvs : InR vs) (hn : vs.length ≤ 1000) (F : Nat) (hF0 : 0 < F) (hF : F ≤ 500) (M : Nat)
    (hA : ∀ T, Inv vs F T → meas T < M → ∃ ans, Fin vs F ans ∧ Ev (fun k => spec_GreatestGap.l2 k vs (F : Int) T true) ans) :
    ∀ d T more r i, (F - r) * (vs.length + 1) + (vs.length - i) = d → r < F → 1 ≤ i → i ≤ vs.length → Inv vs F T → (more = true → meas T < M) →
      (more = false → meas T ≤ M ∧ (∀ s, s < r → ∀ j, 1 ≤ j → j < vs.length → Cl vs T F s j) ∧ (∀ j, 1 ≤ j → j < i → Cl vs T F r j)) →
      ∃ ans, Fin vs F ans ∧ Ev (fun k => spec_GreatestGap.l4 k vs (F : Int) T more (r : Int) (i : Int)) ans := by
  intro d
  induction d using Nat.strongRecOn with
  | ind d ih =>
    intro T more r i hd hr h1 hi hT hm1 hm0
    have hlen := hT.len
    -- the end of one remainder
    have hnext : (∀ j, 1 ≤ j → j < vs.length → more = false → Cl vs T F r j) → ∃ ans, Fin vs F ans ∧ Ev (fun k => spec_GreatestGap.l3 k vs (F : Int) T more ((r + 1 : Nat) : Int)) ans := by
      intro hcl
      by_cases hr1 : r + 1 < F
      · obtain ⟨ans, hf, he⟩ := ih ((F - (r + 1)) * (vs.length + 1) + (vs.length - 1)) (by
            have : F - r = F - (r + 1) + 1 := by omega
            rw [← hd, this, Nat.succ_mul]; omega) T more (r + 1) 1 rfl hr1 (Nat.le_refl _) (by omega) hT hm1 (fun hf => by
            obtain ⟨h2, h3, h4⟩ := hm0 hf
            refine ⟨h2, fun s hs j hj1 hj2 => ?_, fun j hj1 hj2 => by omega⟩
            rcases Nat.eq_or_lt_of_le (Nat.le_of_lt_succ hs) with e | e
            · subst e; exact hcl j hj1 hj2 hf
            · exact h3 s e j hj1 hj2)
        refine ⟨ans, hf, Ev.step (fun k => ?_) he⟩
        rw [spec_GreatestGap.l3, if_pos (by omega)]; rfl
      · cases hmm : more with
        | true =>
          obtain ⟨ans, hf, he⟩ := hA T hT (hm1 hmm)
          refine ⟨ans, hf, Ev.step (fun k => ?_) he⟩
          rw [spec_GreatestGap.l3, if_neg (by omega)]
        | false =>
          obtain ⟨h2, h3, h4⟩ := hm0 hmm
          -- the last part sums up
          obtain ⟨ans, he⟩ := l5_ev F T hT.len (by omega)
          refine ⟨ans, ⟨T, hT, fun s hs j hj1 hj2 => ?_, he⟩, Ev.step (fun k => ?_) (Ev.step (g := fun k => spec_GreatestGap.l2 k vs (F : Int) T false) (fun k => ?_) he)⟩
          · rcases Nat.lt_or_ge s r with e | e
            · exact h3 s e j hj1 hj2
            · obtain rfl : s = r := by omega
              exact hcl j hj1 hj2 hmm
          · rw [spec_GreatestGap.l3, if_neg (by omega)]
          · rw [spec_GreatestGap.l2, if_neg (by simp)]
    by_cases hlt : i < vs.length ∧ 0 ≤ T.getD r 0
    · obtain ⟨hil, h0⟩ := hlt
      have hv := hvs _ (getD_mem vs i hil)
      have hhi := hT.hi hF r hr
      have eq1 : Int.tmod (wrap64 ((r : Int) + vs.getD i 0)) (F : Int) = (((r + (vs.getD i 0).toNat) % F : Nat) : Int) := by
        rw [w64 (by omega) (by omega)]
        have : (r : Int) + vs.getD i 0 = ((r + (vs.getD i 0).toNat : Nat) : Int) := by omega
        rw [this]; rfl
      have hqF : (r + (vs.getD i 0).toNat) % F < F := Nat.mod_lt _ hF0
      have hqhi := hT.hi hF _ hqF
      have e4 : ∀ k, spec_GreatestGap.l4 (k + 1) vs (F : Int) T more (r : Int) (i : Int) = spec_GreatestGap.j5 k vs (F : Int) T more (r : Int) (i : Int) true := fun k => by
        rw [spec_GreatestGap.l4, if_pos (by omega), if_pos (by omega), if_pos (by omega), rdN, decide_eq_true (by omega : T.getD r 0 ≥ 0)]
      have hset : T.getD ((r + (vs.getD i 0).toNat) % F) 0 < 0 ∨ T.getD r 0 + vs.getD i 0 < T.getD ((r + (vs.getD i 0).toNat) % F) 0 →
          ∃ ans, Fin vs F ans ∧ Ev (fun k => spec_GreatestGap.l4 k vs (F : Int) (T.set ((r + (vs.getD i 0).toNat) % F) (T.getD r 0 + vs.getD i 0)) true (r : Int) ((i + 1 : Nat) : Int)) ans := by
        intro hc
        obtain ⟨hI, hM⟩ := hT.set hvs hF r i hr hil h0 hc
        refine ih ((F - r) * (vs.length + 1) + (vs.length - (i + 1))) (by omega) _ true r (i + 1) rfl hr (by omega) (by omega) hI (fun _ => ?_) (fun hf => by cases hf)
        cases hmm : more with
        | true => exact Nat.lt_trans hM (hm1 hmm)
        | false => exact Nat.lt_of_lt_of_le hM (hm0 hmm).1
      have ew : wrap64 (T.getD r 0 + vs.getD i 0) = T.getD r 0 + vs.getD i 0 := w64 (by omega) (by omega)
      by_cases hc1 : T.getD ((r + (vs.getD i 0).toNat) % F) 0 < 0
      · obtain ⟨ans, hf, he⟩ := hset (.inl hc1)
        refine ⟨ans, hf, Ev.step e4 (Ev.step (g := fun k => spec_GreatestGap.j5 k vs (F : Int) T more (r : Int) (i : Int) true) (fun k => ?_) he)⟩
        rw [spec_GreatestGap.j5, if_pos rfl, if_pos (by omega), if_pos (by omega), if_neg (by omega), rdN, eq1, if_pos (by omega), if_pos (by omega), rdN, if_pos hc1, if_pos (by omega), if_pos (by omega), rdN, ew, wN i (by omega), Int.toNat_natCast]
      · by_cases hc2 : T.getD r 0 + vs.getD i 0 < T.getD ((r + (vs.getD i 0).toNat) % F) 0
        · obtain ⟨ans, hf, he⟩ := hset (.inr hc2)
          refine ⟨ans, hf, Ev.step e4 (Ev.step (g := fun k => spec_GreatestGap.j5 k vs (F : Int) T more (r : Int) (i : Int) true) (fun k => ?_) he)⟩
          rw [spec_GreatestGap.j5, if_pos rfl, if_pos (by omega), if_pos (by omega), if_neg (by omega), rdN, eq1, if_pos (by omega), if_pos (by omega), rdN, if_neg hc1, if_pos (by omega), if_pos (by omega), rdN, ew, if_pos hc2, wN i (by omega), Int.toNat_natCast]
        · obtain ⟨ans, hf, he⟩ := ih ((F - r) * (vs.length + 1) + (vs.length - (i + 1))) (by omega) T more r (i + 1) rfl hr (by omega) (by omega) hT hm1 (fun hf => by
            obtain ⟨h2, h3, h4⟩ := hm0 hf
            refine ⟨h2, h3, fun j hj1 hj2 => ?_⟩
            rcases Nat.eq_or_lt_of_le (Nat.le_of_lt_succ hj2) with e | e
            · subst e; exact fun _ => ⟨by omega, by omega⟩
            · exact h4 j hj1 e)
          refine ⟨ans, hf, Ev.step e4 (Ev.step (g := fun k => spec_GreatestGap.j5 k vs (F : Int) T more (r : Int) (i : Int) true) (fun k => ?_) he)⟩
          rw [spec_GreatestGap.j5, if_pos rfl, if_pos (by omega), if_pos (by omega), if_neg (by omega), rdN, eq1, if_pos (by omega), if_pos (by omega), rdN, if_neg hc1, if_pos (by omega), if_pos (by omega), rdN, ew, if_neg hc2, wN i (by omega)]
    · obtain ⟨ans, hf, he⟩ := hnext (fun j hj1 hj2 hf => by
        by_cases h0 : 0 ≤ T.getD r 0
        · exact (hm0 hf).2.2 j hj1 (by omega)
        · exact fun h => absurd h h0)
      refine ⟨ans, hf, Ev.step (g := fun k => spec_GreatestGap.l4 k vs (F : Int) T more (r : Int) (i : Int)) (f := fun k => spec_GreatestGap.j5 k vs (F : Int) T more (r : Int) (i : Int) false) (fun k => ?_) (Ev.step (fun k => ?_) he)⟩
      · rw [spec_GreatestGap.l4]
        by_cases hil : i < vs.length
        · rw [if_pos (by omega), if_pos (by omega), if_pos (by omega), rdN, decide_eq_false (by omega : ¬ T.getD r 0 ≥ 0)]
        · rw [if_neg (by omega)]
      · rw [spec_GreatestGap.j5, if_neg (by simp), wN r (by omega)]

theorem gap_l2 (vs : List Int) (hvs : InR vs) (hn : vs.length ≤ 1000) (h1 : 1 ≤ vs.length) (F : Nat) (hF0 : 0 < F) (hF : F ≤ 500) : ∀ M T, Inv vs F T → meas T < M →
    ∃ ans, Fin vs F ans ∧ Ev (fun k => spec_GreatestGap.l2 k vs (F : Int) T true) ans := by
  intro M
  induction M with
  | zero => intro T _ h; omega
  | succ M ih =>
    intro T hT hM
    obtain ⟨ans, hf, he⟩ := gap_round vs hvs hn F hF0 hF (meas T) (fun T' h1 h2 => ih T' h1 (by omega)) _ T false 0 1 rfl hF0 (Nat.le_refl _) h1 hT (fun h => by cases h)
      (fun _ => ⟨Nat.le_refl _, fun s hs => by omega, fun j h1 h2 => by omega⟩)
    refine ⟨ans, hf, Ev.step (fun k => ?_) (Ev.step (g := fun k => spec_GreatestGap.l3 k vs (F : Int) T false ((0 : Nat) : Int)) (fun k => ?_) he)⟩
    · rw [spec_GreatestGap.l2, if_pos rfl]; rfl
    · rw [spec_GreatestGap.l3, if_pos (by omega)]; rfl

set_option linter.unusedVariables false
set_option linter.unusedSimpArgs false

theorem mem_getD (l : List Int) (v : Int) (h : v ∈ l) : ∃ i, i < l.length ∧ l.getD i 0 = v := by
  obtain ⟨i, hi, e⟩ := List.mem_iff_getElem.1 h
  exact ⟨i, hi, by rw [getD_eq l i hi, e]⟩

section
variable {vs : List Int} {F : Nat} {T : List Int} (hvs : InR vs) (h0 : 0 < vs.length) (hF : vs.getD 0 0 = F) (hF2 : 2 ≤ F) (hI : Inv vs F T)
  (hC : ∀ r, r < F → ∀ i, 1 ≤ i → i < vs.length → Cl vs T F r i)
include hvs h0 hF hF2 hI hC

/-- What can be paid is at least the least amount of its remainder. -/
theorem pay_le : ∀ a : Nat, 0 ≤ fw vs a → 0 ≤ T.getD (a % F) 0 ∧ T.getD (a % F) 0 ≤ a := by
  have _u := h0
  intro a
  induction a using Nat.strongRecOn with
  | ind a ih =>
    intro h
    cases a with
    | zero => rw [Nat.zero_mod, hI.zero]; simp
    | succ n =>
      obtain ⟨v, hv, h1, h2⟩ := (fw_pos vs hvs n).1 h
      obtain ⟨hv1, hv2⟩ := hvs v hv
      obtain ⟨h3, h4⟩ := ih (n + 1 - v.toNat) (by omega) h2
      obtain ⟨i, hi, rfl⟩ := mem_getD vs v hv
      have e : n + 1 = (n + 1 - (vs.getD i 0).toNat) + (vs.getD i 0).toNat := by omega
      rcases Nat.eq_zero_or_pos i with hi0 | hi0
      · subst hi0
        have e2 : (n + 1) % F = (n + 1 - (vs.getD 0 0).toNat) % F := by
          conv => lhs; rw [e]
          rw [hF, Int.toNat_natCast, Nat.add_mod_right]
        rw [e2]
        exact ⟨h3, by omega⟩
      · obtain ⟨h5, h6⟩ := hC _ (Nat.mod_lt (n + 1 - (vs.getD i 0).toNat) (by omega)) i hi0 hi h3
        have e2 : (n + 1) % F = ((n + 1 - (vs.getD i 0).toNat) % F + (vs.getD i 0).toNat) % F := by
          conv => lhs; rw [e]
          rw [Nat.mod_add_mod]
        rw [e2]
        exact ⟨h5, by omega⟩
omit hC in
theorem pay_more (a : Nat) (h : 0 ≤ fw vs a) : ∀ n, 0 ≤ fw vs (a + n * F) := by
  have _u := hI
  intro n
  induction n with
  | zero => rwa [Nat.zero_mul, Nat.add_zero]
  | succ n ih =>
    obtain ⟨m, hm⟩ : ∃ m, a + (n + 1) * F = m + 1 := ⟨a + (n + 1) * F - 1, by rw [Nat.succ_mul]; omega⟩
    rw [hm, fw_pos vs hvs m]
    refine ⟨vs.getD 0 0, getD_mem vs 0 h0, ?_, ?_⟩
    · rw [hF, ← hm, Nat.succ_mul]; omega
    · have : m + 1 - (vs.getD 0 0).toNat = a + n * F := by rw [hF, ← hm, Nat.succ_mul, Int.toNat_natCast]; omega
      rw [this]; exact ih
omit hC in
theorem pay_ge (a : Nat) (h : 0 ≤ T.getD (a % F) 0) (h1 : T.getD (a % F) 0 ≤ a) : 0 ≤ fw vs a := by
  obtain ⟨h2, h3⟩ := hI.ok _ (Nat.mod_lt a (by omega)) h
  have h4 := pay_more hvs h0 hF hF2 hI _ h3 ((a - (T.getD (a % F) 0).toNat) / F)
  have h5 : (a - (T.getD (a % F) 0).toNat) % F = 0 := by
    have : a = (T.getD (a % F) 0).toNat + (a - (T.getD (a % F) 0).toNat) := by omega
    exact (Nat.sub_mod_eq_zero_of_mod_eq h2.symm)
  have h6 := Nat.div_add_mod (a - (T.getD (a % F) 0).toNat) F
  rw [Nat.mul_comm] at h6
  have : (T.getD (a % F) 0).toNat + (a - (T.getD (a % F) 0).toNat) / F * F = a := by omega
  rwa [this] at h4
/-- All remainders are reached where no number above 1 divides all values. -/
theorem all_reached (hd : Dm F (fun r => 0 ≤ T.getD r 0) 1) : ∀ r, r < F → 0 ≤ T.getD r 0 := by
  have _u := And.intro hvs (And.intro h0 (And.intro hF hC))
  intro r hr
  have := hd.one (by omega) (by rw [hI.zero]; omega) r
  rwa [Nat.mod_eq_of_lt hr] at this
theorem val_Dm (i : Nat) (hi : i < vs.length) : Dm F (fun r => 0 ≤ T.getD r 0) (vs.getD i 0).toNat := by
  have _u := And.intro hvs (And.intro h0 hI)
  intro r h
  rcases Nat.eq_zero_or_pos i with e | e
  · subst e; rw [hF, Int.toNat_natCast, Nat.add_mod_right]; exact h
  · have := (hC (r % F) (Nat.mod_lt _ (by omega)) i e hi h).1
    rwa [Nat.mod_add_mod] at this
/-- The greatest gap. -/
theorem top_gap (hr : ∀ r, r < F → 0 ≤ T.getD r 0) (h5 : ∀ i, i < vs.length → (F : Int) ≤ vs.getD i 0) :
    (F : Int) ≤ top T F ∧ fw vs (top T F - F).toNat < 0 ∧ ∀ a : Nat, top T F - F < a → 0 ≤ fw vs a := by
  obtain ⟨t0, t1, t2⟩ := top_spec T F
  have hT1 : (F : Int) ≤ T.getD 1 0 := by
    apply Classical.byContradiction
    intro hn
    obtain ⟨a1, a2⟩ := hI.ok 1 (by omega) (hr 1 (by omega))
    have h0' := hr 1 (by omega)
    rw [Nat.mod_eq_of_lt (by omega)] at a1
    rw [a1] at a2
    obtain ⟨v, hv, b1, b2⟩ := (fw_pos vs hvs 0).1 a2
    obtain ⟨i, hi, rfl⟩ := mem_getD vs v hv
    have := h5 i hi
    omega
  have ht1 := t1 1 (by omega)
  refine ⟨by omega, ?_, ?_⟩
  · rcases t2 with t2 | ⟨r, hrF, t2⟩
    · omega
    · obtain ⟨a1, a2⟩ := hI.ok r hrF (hr r hrF)
      apply Classical.byContradiction
      intro hn
      have e : (top T F - F).toNat % F = r := by
        rw [t2]
        have : (T.getD r 0 - (F : Int)).toNat = (T.getD r 0).toNat - F := by omega
        rw [this, ← Nat.mod_eq_sub_mod (by omega)]
        exact a1
      have := (pay_le hvs h0 hF hF2 hI hC _ (by omega : 0 ≤ fw vs (top T F - F).toNat)).2
      rw [e] at this
      omega
  · intro a ha
    refine pay_ge hvs h0 hF hF2 hI a (hr _ (Nat.mod_lt _ (by omega))) ?_
    have hm := Nat.mod_lt a (by omega : 0 < F)
    obtain ⟨a1, a2⟩ := hI.ok (a % F) hm (hr _ hm)
    have := t1 (a % F) hm
    have h0' := hr (a % F) hm
    generalize hx : (T.getD (a % F) 0).toNat = x at *
    have hxe : T.getD (a % F) 0 = x := by omega
    rw [hxe] at this ⊢
    apply Classical.byContradiction
    intro hn
    -- a < x < a + F, and both leave the same remainder
    have h7 : (x - a) % F = 0 := Nat.sub_mod_eq_zero_of_mod_eq a1
    rw [Nat.mod_eq_of_lt (by omega)] at h7
    omega
end

set_option linter.unusedVariables false
set_option linter.unusedSimpArgs false

/-- The greatest common divisor of the first values. -/
def gc (l : List Int) : Nat → Nat
  | 0 => 0
  | i + 1 => Nat.gcd (gc l i) (l.getD i 0).toNat

theorem sgap_l0 (l : List Int) (hvs : InR l) (hb : l.length ≤ 1000) (r : Int × Int) (he : Ev (fun k => spec_GreatestGap.l0 k l (gc l l.length : Int) (l.length : Int)) r) : ∀ d i, l.length - i = d → i ≤ l.length →
    Ev (fun k => spec_GreatestGap.l0 k l (gc l i : Int) (i : Int)) r := by
  intro d
  induction d with
  | zero =>
    intro i hd hi
    obtain rfl : i = l.length := by omega
    exact he
  | succ d ih =>
    intro i hd hi
    have hlt : i < l.length := by omega
    obtain ⟨hv1, hv2⟩ := hvs _ (getD_mem l i hlt)
    obtain ⟨K1, h1⟩ := EvG (commonF (l.getD i 0).toNat (gc l i))
    obtain ⟨K2, h2⟩ := EvG (ih (i + 1) (by omega) (by omega))
    refine EvI (K1 + K2 + 1) fun k hk => ?_
    obtain ⟨k, rfl⟩ : ∃ m, k = m + 1 := ⟨k - 1, by omega⟩
    have e : rd l (i : Int) = ((l.getD i 0).toNat : Int) := by rw [rdN]; omega
    rw [spec_GreatestGap.l0, if_pos (by omega), if_pos (by omega), e, spec_l01Common.f, h1 k (by omega), Option.bind_some, wN i (by omega)]
    exact h2 k (by omega)
theorem igap_l0 (l : List Int) (hvs : InR l) (hb : l.length ≤ 1000) (r : Int × Int) (he : Ev (fun k => impl_GreatestGap.l0 k l (gc l l.length : Int) l (l.length : Int) (l.length : Int)) r) : ∀ d i, l.length - i = d → i ≤ l.length →
    Ev (fun k => impl_GreatestGap.l0 k l (gc l i : Int) l (l.length : Int) (i : Int)) r := by
  intro d
  induction d with
  | zero =>
    intro i hd hi
    obtain rfl : i = l.length := by omega
    exact he
  | succ d ih =>
    intro i hd hi
    have hlt : i < l.length := by omega
    obtain ⟨hv1, hv2⟩ := hvs _ (getD_mem l i hlt)
    obtain ⟨K1, h1⟩ := EvG (divisorF (gc l i) (l.getD i 0).toNat)
    obtain ⟨K2, h2⟩ := EvG (ih (i + 1) (by omega) (by omega))
    refine EvI (K1 + K2 + 1) fun k hk => ?_
    obtain ⟨k, rfl⟩ : ∃ m, k = m + 1 := ⟨k - 1, by omega⟩
    have e : rd l (i : Int) = ((l.getD i 0).toNat : Int) := by rw [rdN]; omega
    rw [impl_GreatestGap.l0, if_pos (by omega), if_pos (by omega), if_pos (by omega), e, impl_divisor.f, h1 k (by omega), Option.bind_some, wN i (by omega), Nat.gcd_comm]
    exact h2 k (by omega)

theorem sgap_l1 (l : List Int) (F : Nat) (hF : F ≤ 500) (hF1 : 1 ≤ F) (r : Int × Int)
    (he : ∀ T : List Int, T.length = F → T.getD 0 0 = 0 → (∀ j, 1 ≤ j → j < F → T.getD j 0 = -1) → Ev (fun k => spec_GreatestGap.l2 k l (F : Int) T true) r) :
    ∀ d i (x : List Int), F - i = d → 1 ≤ i → i ≤ F → x.length = F → x.getD 0 0 = 0 → (∀ j, 1 ≤ j → j < i → x.getD j 0 = -1) → Ev (fun k => spec_GreatestGap.l1 k l (F : Int) x (i : Int)) r := by
  intro d
  induction d with
  | zero =>
    intro i x hd h1 hi hx h0 hj
    obtain rfl : i = F := by omega
    refine Ev.step (fun k => ?_) (he x hx h0 hj)
    rw [spec_GreatestGap.l1, if_neg (by omega)]
  | succ d ih =>
    intro i x hd h1 hi hx h0 hj
    refine Ev.step (fun k => ?_) (ih (i + 1) (x.set i (-1)) (by omega) (by omega) (by omega) (by rw [List.length_set, hx]) (by rw [getD_set x i 0 _ (by omega), if_neg (by omega)]; exact h0) (fun j hj1 hj2 => by
      rw [getD_set x i j _ (by omega)]
      by_cases e : i = j
      · rw [if_pos e]
      · rw [if_neg e]; exact hj j hj1 (by omega)))
    rw [spec_GreatestGap.l1, if_pos (by omega), if_pos (by omega), if_pos (by omega), wN i (by omega), Int.toNat_natCast]

theorem igap_l1 (vs : List Int) (hvs : InR vs) (g : Nat) (hg : fw vs g < 0) : ∀ d, (∀ a, g < a → a ≤ g + d → 0 ≤ fw vs a) → g + d < 250001 →
    Ev (fun k => impl_GreatestGap.l1 k (impl_payable.row vs 250001) ((g + d : Nat) : Int)) ((g : Int), 0) := by
  intro d
  induction d with
  | zero =>
    intro ha hd
    refine Ev.step (f := fun _ => some ((g : Int), 0)) (fun k => ?_) (Ev.now _)
    rw [Nat.add_zero, impl_GreatestGap.l1, if_pos (by omega), if_pos (by rw [impl_payable.row_len]; omega), rdRow vs hvs _ _ (by omega), if_neg (by simp; omega)]
    rfl
  | succ d ih =>
    intro ha hd
    refine Ev.step (fun k => ?_) (ih (fun a h1 h2 => ha a h1 (by omega)) (by omega))
    have := ha (g + (d + 1)) (by omega) (by omega)
    rw [impl_GreatestGap.l1, if_pos (by omega), if_pos (by rw [impl_payable.row_len]; omega), rdRow vs hvs _ _ (by omega), if_pos (decide_eq_true this), w64 (by omega) (by omega)]
    congr 1; omega

theorem gc_Dm (l : List Int) (F : Nat) (R : Nat → Prop) (hF : 0 < F) (h : ∀ i, i < l.length → Dm F R (l.getD i 0).toNat) : ∀ n, n ≤ l.length → Dm F R (gc l n) := by
  intro n
  induction n with
  | zero => intro _; exact Dm.zero
  | succ n ih => intro hn; exact Dm.gcd hF _ _ (ih (by omega)) (h n (by omega))

theorem VV.mono {l : List Int} (h : VV l) : ∀ i, i < l.length → l.getD 0 0 ≤ l.getD i 0 := by
  intro i
  induction i with
  | zero => intro _; exact Int.le_refl _
  | succ i ih =>
    intro hi
    have h1 := ih (by omega)
    have h2 := h.2.2.2 (i + 1) (by omega) hi
    rw [Nat.add_sub_cancel] at h2
    omega

theorem both_gap (l : List Int) (hb : l.length ≤ 17592186044415) : ∃ r, Ev (fun k => spec_GreatestGap.f k l) r ∧ Ev (fun k => impl_GreatestGap.f k l) r := by
  obtain ⟨c, h1, h2, h3⟩ := bothVV l hb
  obtain ⟨K1, h1⟩ := EvG h1
  obtain ⟨K2, h2⟩ := EvG h2
  cases hc : c with
  | false =>
    subst hc
    refine ⟨(0, 1), EvI K1 fun k hk => ?_, EvI K2 fun k hk => ?_⟩
    · rw [spec_GreatestGap.f, h1 k hk, Option.bind_some, if_neg (by simp)]
    · rw [impl_GreatestGap.f, h2 k hk, Option.bind_some, if_neg (by simp)]
  | true =>
    subst hc
    have hv := h3.1 rfl
    have hvs := hv.inR
    have hlen := hv.2.1
    have hl1 := hv.1
    -- the two ends of the first loops
    suffices hs : ∃ r, Ev (fun k => spec_GreatestGap.l0 k l (gc l l.length : Int) (l.length : Int)) r ∧ Ev (fun k => impl_GreatestGap.l0 k l (gc l l.length : Int) l (l.length : Int) (l.length : Int)) r by
      obtain ⟨r, h4, h5⟩ := hs
      obtain ⟨K3, h4⟩ := EvG (sgap_l0 l hvs (by omega) r h4 _ 0 rfl (Nat.zero_le _))
      obtain ⟨K4, h5⟩ := EvG (igap_l0 l hvs (by omega) r h5 _ 0 rfl (Nat.zero_le _))
      refine ⟨r, EvI (K1 + K3) fun k hk => ?_, EvI (K2 + K4) fun k hk => ?_⟩
      · rw [spec_GreatestGap.f, h1 k (by omega), Option.bind_some, if_pos rfl]; exact h4 k (by omega)
      · rw [impl_GreatestGap.f, h2 k (by omega), Option.bind_some, if_pos rfl]; exact h5 k (by omega)
    have hg1 : 1 ≤ gc l l.length := by
      obtain ⟨n, hn⟩ : ∃ n, l.length = n + 1 := ⟨l.length - 1, by omega⟩
      rw [hn, gc]
      have := (hvs _ (getD_mem l n (by omega))).1
      exact Nat.gcd_pos_of_pos_right _ (by omega)
    by_cases hg : 1 < gc l l.length
    · refine ⟨(0, 4), Ev.step (f := fun _ => some (0, 4)) (fun k => ?_) (Ev.now _), Ev.step (f := fun _ => some (0, 4)) (fun k => ?_) (Ev.now _)⟩
      · rw [spec_GreatestGap.l0, if_neg (by omega), if_pos (by omega)]
      · rw [impl_GreatestGap.l0, if_neg (by omega), if_pos (by omega)]
    · have hg : gc l l.length = 1 := by omega
      rw [hg]
      have hr0 : rd l 0 = l.getD 0 0 := rfl
      by_cases hone : l.getD 0 0 = 1
      · refine ⟨(0, 6), Ev.step (f := fun _ => some (0, 6)) (fun k => ?_) (Ev.now _), Ev.step (f := fun _ => some (0, 6)) (fun k => ?_) (Ev.now _)⟩
        · rw [spec_GreatestGap.l0, if_neg (by omega), if_neg (by omega), if_pos (by omega), hr0, if_pos hone]
        · rw [impl_GreatestGap.l0, if_neg (by omega), if_neg (by omega), if_pos (by omega), hr0, if_pos hone]
      · have hv0 := hvs _ (getD_mem l 0 (by omega))
        obtain ⟨F, hF⟩ := Int.eq_ofNat_of_zero_le (by omega : 0 ≤ l.getD 0 0)
        have hF2 : 2 ≤ F := by omega
        -- the first list of least amounts
        let T0 : List Int := 0 :: List.replicate (F - 1) (-1)
        have hT0 : T0.length = F := by simp [T0]; omega
        have hT0z : T0.getD 0 0 = 0 := rfl
        have hT0m : ∀ j, 1 ≤ j → j < F → T0.getD j 0 = -1 := by
          intro j hj1 hj2
          obtain ⟨j, rfl⟩ : ∃ m, j = m + 1 := ⟨j - 1, by omega⟩
          simp only [T0, List.getD_cons_succ]
          exact getD_rep _ _ _ (by omega)
        have hI0 : Inv l F T0 := by
          refine ⟨hT0, hT0z, fun r hr h0 => ?_, fun r hr => ?_⟩
          · rcases Nat.eq_zero_or_pos r with e | e
            · subst e; rw [hT0z]; exact ⟨by simp, by rw [show (0 : Int).toNat = 0 from rfl, fw_zero]; omega⟩
            · rw [hT0m r e hr] at h0; omega
          · have hcp : 1 ≤ T0.countP (fun x => decide (0 ≤ x)) := by
              simp [T0]
            rcases Nat.eq_zero_or_pos r with e | e
            · subst e; rw [hT0z]; omega
            · rw [hT0m r e hr]; omega
        obtain ⟨ans, ⟨T, hI, hC, hA⟩, hE⟩ := gap_l2 l hvs (by omega) hl1 F (by omega) (by omega) _ T0 hI0 (Nat.lt_succ_self _)
        have hall := all_reached hvs hl1 hF hF2 hI hC (hg ▸ gc_Dm l F _ (by omega) (fun i hi => val_Dm hvs hl1 hF hF2 hI hC i hi) l.length (Nat.le_refl _))
        obtain ⟨t1, t2, t3⟩ := top_gap hvs hl1 hF hF2 hI hC hall (fun i hi => by rw [← hF]; exact hv.mono i hi)
        have htop : top T F ≤ 249500 := by
          obtain ⟨q0, q1, q2⟩ := top_spec T F
          rcases q2 with q2 | ⟨r, hr, q2⟩
          · omega
          · have := hI.hi (by omega) r hr; omega
        obtain ⟨g, hgg⟩ := Int.eq_ofNat_of_zero_le (by omega : 0 ≤ top T F - (F : Int))
        have hans : ans = ((g : Int), 0) := by
          obtain ⟨Ka, ha⟩ := EvG hA
          obtain ⟨Kb, hb'⟩ := EvG (l5_at F T hI.len (by omega) _ 0 rfl (Nat.zero_le _))
          have a1 := ha (Ka + Kb) (by omega)
          have a2 := hb' (Ka + Kb) (by omega)
          have : some ans = some (wrap64 (top T F - F), (0 : Int)) := a1.symm.trans a2
          rw [Option.some.inj this, hgg, w64 (by omega) (by omega)]
        refine ⟨ans, ?_, ?_⟩
        · refine Ev.step (fun k => ?_) (sgap_l1 l F (by omega) (by omega) ans (fun T' q1 q2 q3 => ?_) _ 1 (List.replicate F 0) rfl (Nat.le_refl _) (by omega) (by simp) (by rw [getD_rep _ _ _ (by omega)]) (fun j hj1 hj2 => by omega))
          · rw [spec_GreatestGap.l0, if_neg (by omega), if_neg (by omega), if_pos (by omega), hr0, if_neg hone, hF, if_pos (by omega), if_pos (by omega)]; rfl
          · have : T' = T0 := list_ext T' T0 (by omega) (fun j hj => by
              rcases Nat.eq_zero_or_pos j with e | e
              · subst e; rw [q2, hT0z]
              · rw [q3 j e (by omega), hT0m j e (by omega)])
            rw [this]; exact hE
        · rw [hans]
          have hd := igap_l1 l hvs g (by rw [hgg] at t2; exact t2) (250000 - g) (fun a q1 q2 => t3 a (by omega)) (by omega)
          have e0 : g + (250000 - g) = 250000 := by omega
          rw [e0] at hd
          refine Ev.step (fun k => ?_) hd
          have ep := payF l hvs 250000 (by omega)
          rw [impl_GreatestGap.l0, if_neg (by omega), if_neg (by omega), if_pos (by omega), hr0, if_neg hone]
          rw [show (250000 : Int) = ((250000 : Nat) : Int) from rfl, ep, Option.bind_some, impl_payable.row_len, w64 (by omega) (by omega)]
          rfl

theorem FnExactGreatestGap : laws_FnExactGreatestGap.Pure := by
  intro l _ _ _
  by_cases hl : (l.length : Int) > 1048576
  · exact ⟨0, by rw [laws_FnExactGreatestGap.f, if_pos hl]⟩
  · obtain ⟨r, h1, h2⟩ := both_gap l (by omega)
    obtain ⟨K1, h1⟩ := EvG h1
    obtain ⟨K2, h2⟩ := EvG h2
    obtain ⟨K3, h3⟩ := EvG (toI l (by omega))
    obtain ⟨K4, h4⟩ := EvG (eqI l (by omega))
    refine ⟨K1 + K2 + K3 + K4 + 1, ?_⟩
    rw [laws_FnExactGreatestGap.f, if_neg hl, h3 _ (by omega), Option.bind_some, h1 _ (by omega), Option.bind_some, Option.bind_some, h2 _ (by omega), Option.bind_some, if_pos rfl, laws_FnExactGreatestGap.j0, if_neg (by simp), h3 _ (by omega), Option.bind_some, h4 _ (by omega)]
    rfl

end Go.Proofs.Ytaonlhjblocfkaa.Pure
