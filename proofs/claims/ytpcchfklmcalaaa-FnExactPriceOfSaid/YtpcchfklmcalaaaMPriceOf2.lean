/- The Go functions that the law FnExactPriceOf comes to, as plain Lean functions, the proofs that calls of them return what those tell, and the plain lemmas on them; no condition but those that each theorem states. -/
import Derived.Test.YtpcchfklmcalaaaMPriceOf1
import Derived.OpenShut
import Derived.Test.YtpcchfklmcalaaaRows
import Derived.Test.YtpcchfklmcalaaaWMore
import Derived.Deep.Slices
import Derived.WalkKit
import Derived.ProofKit
import Derived.ShutString
import Derived.ChangeOld
import Derived.Below
import Derived.SizedLaws
import Derived.ChangeArms
import Derived.Carry
namespace Go.Proofs.Ytpcchfklmcalaaa.P
open Go.RowKit Go.Proofs.YtpcchfklmcalaaaW.PrintWords Go.Proofs.YtpcchfklmcalaaaW.PrintLast Go.Proofs.YtpcchfklmcalaaaW.PrintMore
attribute [local go_sem] max2_int min2_int max_two min_two max_three min_three max_four min_four   -- for this text's walks alone
set_option linter.unusedVariables false
set_option linter.unusedSimpArgs false

/-! ### impl_ValidTable: function 15, by hand -/
theorem impl_ValidTable.win (a lo hi : Int) (b : Bool) (hb : b = (decide (lo ≤ a) && decide (a ≤ hi))) (w : World) : Calls Try.prog 43 #[.int .i64 a, .int .i64 lo, .int .i64 hi] w fun e w' => e = .returned (.bool b) ∧ Drawn0 w w' :=
  impl_within.calls a lo hi b w (by unfold impl_within.f; subst hb; by_cases h : lo ≤ a <;> simp [h])
theorem impl_ValidTable.wN (i : Nat) (h : i < 4611686018427387904) : wrap64 ((i : Int) + 1) = ((i + 1 : Nat) : Int) := by
  unfold wrap64; omega
theorem impl_ValidTable.wide_l0 (l : List Int) (hn : l.length ≤ 2000000) (hv : ∀ x ∈ l, -32768 ≤ x ∧ x ≤ 32767) : ∀ d i, l.length - i = d → i ≤ l.length → Ev (fun k => impl_wide_int16.l0 k (l.take i) l (l.length : Int) (i : Int)) l := by
  intro d
  induction d with
  | zero =>
    intro i hd hi
    refine Ev.step (f := fun _ => some (l.take i)) (fun k => ?_) ?_
    · rw [impl_wide_int16.l0, if_neg (by omega)]
    · rw [List.take_of_length_le (by omega)]; exact Ev.now _
  | succ d ih =>
    intro i hd hi
    refine Ev.step (fun k => ?_) (ih (i + 1) (by omega) (by omega))
    have hm : l.getD i 0 ∈ l := by rw [List.getD_eq_getElem?_getD, List.getElem?_eq_getElem (by omega)]; exact List.getElem_mem _
    have e : wrap64 (rd l (i : Int)) = l.getD i 0 := by
      show wrap64 (l.getD (i : Int).toNat 0) = _
      rw [Int.toNat_natCast]
      have := hv _ hm
      unfold wrap64; omega
    rw [impl_wide_int16.l0, if_pos (by omega), if_pos (by omega), if_pos (by omega), if_pos (by rw [List.length_take]; omega), e, impl_ValidTable.wN i (by omega), List.take_add_one, List.getD_eq_getElem?_getD, List.getElem?_eq_getElem (by omega)]
    rfl
/-- Numbers that are made wide stay as they are. -/
theorem impl_ValidTable.wideF (l : List Int) (hn : l.length ≤ 2000000) (hv : ∀ x ∈ l, -32768 ≤ x ∧ x ≤ 32767) : ∃ k, impl_wide_int16.f k l = some l :=
  Ev.rounds (g := fun k => impl_wide_int16.f k l) (impl_ValidTable.wide_l0 l hn hv _ 0 rfl (Nat.zero_le _))
def impl_ValidTable.ris (l : List Int) : Bool := decide (∀ i, i < l.length → 0 < i → l.getD (i - 1) 0 < l.getD i 0)
theorem impl_ValidTable.ris_l0 (l : List Int) (hn : l.length ≤ 2000000) : ∀ d i, l.length + 1 - i = d → 1 ≤ i → (∀ j, j < l.length → j < i → 0 < j → l.getD (j - 1) 0 < l.getD j 0) → Ev (fun k => impl_isRising.l0 k l (i : Int)) (impl_ValidTable.ris l) := by
  intro d
  induction d with
  | zero =>
    intro i hd hi hj
    refine Ev.step (f := fun _ => some (impl_ValidTable.ris l)) (fun k => ?_) (Ev.now _)
    rw [impl_isRising.l0, if_neg (by omega), impl_ValidTable.ris, decide_eq_true (fun j h1 h2 => hj j h1 (by omega) h2)]
  | succ d ih =>
    intro i hd hi hj
    by_cases hlt : i < l.length
    · have e1 : wrap64 ((i : Int) - 1) = ((i - 1 : Nat) : Int) := by unfold wrap64; omega
      have r0 : rd l (i : Int) = l.getD i 0 := rfl
      have r1 : rd l ((i - 1 : Nat) : Int) = l.getD (i - 1) 0 := rfl
      by_cases c : l.getD i 0 ≤ l.getD (i - 1) 0
      · refine Ev.step (f := fun _ => some (impl_ValidTable.ris l)) (fun k => ?_) (Ev.now _)
        rw [impl_isRising.l0, if_pos (by omega), if_pos (by omega), e1, if_pos (by omega), if_pos (by omega), r0, r1, if_pos c, impl_ValidTable.ris, decide_eq_false (fun h => by have := h i hlt (by omega); omega)]
      · refine Ev.step (fun k => ?_) (ih (i + 1) (by omega) (by omega) (fun j h1 h2 h3 => by
          by_cases e : j = i
          · subst e; omega
          · exact hj j h1 (by omega) h3))
        rw [impl_isRising.l0, if_pos (by omega), if_pos (by omega), e1, if_pos (by omega), if_pos (by omega), r0, r1, if_neg c, impl_ValidTable.wN i (by omega)]
    · refine Ev.step (f := fun _ => some (impl_ValidTable.ris l)) (fun k => ?_) (Ev.now _)
      rw [impl_isRising.l0, if_neg (by omega), impl_ValidTable.ris, decide_eq_true (fun j h1 h2 => hj j h1 (by omega) h2)]
theorem impl_ValidTable.risF (l : List Int) (hn : l.length ≤ 2000000) : ∃ k, impl_isRising.f k l = some (impl_ValidTable.ris l) :=
  Ev.rounds (g := fun k => impl_isRising.f k l) (impl_ValidTable.ris_l0 l hn _ 1 rfl (Nat.le_refl _) (fun j _ h1 h2 => by omega))
/-- A row of prices that does not fit. -/
def impl_ValidTable.bad (n : Nat) (x : List Int) : Bool := decide (x.length ≠ n) || !(x.all fun v => decide (0 ≤ v) && decide (v ≤ 10000))
theorem impl_ValidTable.okB (s : List Int) (p : List (List Int)) : decide (spec_l03Ok.okP s p) = ((decide ((1 : Int) ≤ (s.length : Int)) && decide ((s.length : Int) ≤ 10)) && ((s.all fun x => decide (1 ≤ x) && decide (x ≤ 2000)) && (impl_ValidTable.ris s && ((decide ((1 : Int) ≤ (p.length : Int)) && decide ((p.length : Int) ≤ 6)) && !(p.any (impl_ValidTable.bad s.length)))))) := by
  have gm : ∀ (z : List (List Int)) (i : Nat), i < z.length → z.getD i [] ∈ z := fun z i h => by rw [List.getD_eq_getElem?_getD, List.getElem?_eq_getElem h]; exact List.getElem_mem h
  have gi : ∀ (z : List Int) (i : Nat), i < z.length → z.getD i 0 ∈ z := fun z i h => by rw [List.getD_eq_getElem?_getD, List.getElem?_eq_getElem h]; exact List.getElem_mem h
  have ig : ∀ (z : List Int) (x : Int), x ∈ z → ∃ i, i < z.length ∧ z.getD i 0 = x := fun z x h => by
    obtain ⟨i, h1, h2⟩ := List.mem_iff_getElem.1 h
    exact ⟨i, h1, by rw [List.getD_eq_getElem?_getD, List.getElem?_eq_getElem h1, ← h2]; rfl⟩
  have mg : ∀ (z : List (List Int)) (x : List Int), x ∈ z → ∃ i, i < z.length ∧ z.getD i [] = x := fun z x h => by
    obtain ⟨i, h1, h2⟩ := List.mem_iff_getElem.1 h
    exact ⟨i, h1, by rw [List.getD_eq_getElem?_getD, List.getElem?_eq_getElem h1, ← h2]; rfl⟩
  rw [Bool.eq_iff_iff]
  simp only [decide_eq_true_eq, Bool.and_eq_true, Bool.not_eq_true', List.any_eq_false, List.all_eq_true, impl_ValidTable.ris, impl_ValidTable.bad]
  constructor
  · rintro ⟨h1, h2, h3, h4⟩
    refine ⟨by omega, fun x hx => ?_, fun i hi h0 => (h1 i hi).2 h0, by omega, fun x hx => ?_⟩
    · obtain ⟨i, hi, rfl⟩ := ig s x hx
      exact (h1 i hi).1
    · obtain ⟨i, hi, rfl⟩ := mg p x hx
      obtain ⟨g1, g2⟩ := h2 i hi
      simp only [g1, ne_eq, not_true, decide_false, Bool.false_or, Bool.not_eq_true', Bool.not_eq_false, List.all_eq_true, Bool.and_eq_true, decide_eq_true_eq]
      intro v hv
      obtain ⟨j, hj, rfl⟩ := ig _ v hv
      exact g2 j hj
  · rintro ⟨h1, h2, h3, h4, h5⟩
    refine ⟨fun i hi => ⟨h2 _ (gi s i hi), fun h0 => h3 i hi h0⟩, fun z hz => ?_, by omega, by omega⟩
    have := h5 _ (gm p z hz)
    simp only [Bool.or_eq_true, not_or, decide_eq_true_eq, ne_eq, Decidable.not_not, Bool.not_eq_true', Bool.not_eq_false, List.all_eq_true, Bool.and_eq_true] at this
    exact ⟨this.1, fun j hj => this.2 _ (gi _ j hj)⟩
def impl_ValidTable.f (s : List Int) (p : List (List Int)) : Option Bool := if spec_l03Ok.preT s p then some (decide (spec_l03Ok.okP s p)) else none
set_option maxHeartbeats 8000000 in
set_option maxRecDepth 100000 in
theorem impl_ValidTable.closure (B : Nat) (A2 : Option Addr) (n c2 : Nat) (x : List Int) (A1 : Option Addr) (c1 : Nat) (W : World) (hx : x.length ≤ 2000000) (hv : ∀ v ∈ x, -32768 ≤ v ∧ v ≤ 32767) (hc1 : x.length ≤ c1) (hC1 : Kd.C (Kd.int .i16) W A1 x.length x) (hB : W.cell? ⟨B, 0, none⟩ = some (.slice A2 n c2)) :
    Calls Try.prog 49 #[.slice A1 x.length c1, .pointer (some ⟨B, 0, none⟩)] W fun e w' => e = .returned (.bool (impl_ValidTable.bad n x)) ∧ Below W.heap.size W w' := by
  obtain ⟨k, hk⟩ := impl_ValidTable.wideF x hx hv
  have CW := impl_wide_int16.calls k A1 c1 x x W hC1 hc1 hk
  have HX := Aside0.mk hx
  clear hC1 hc1 hv hk hx
  by_cases hn : x.length = n
  · have hn1 : (x.length == n) = true := by simpa using hn
    have hn2 : (x.length != n) = false := by simpa using hn
    have hn3 : ((x.length : Int) != (n : Int)) = false := by simp; omega
    have HN : Aside0 (impl_ValidTable.bad n x = !(x.all fun v => decide (0 ≤ v) && decide (v ≤ 10000))) := ⟨by unfold impl_ValidTable.bad; rw [decide_eq_false (fun h => h hn), Bool.false_or]⟩
    have HQ : Aside0 (impl_areWithin.f x 0 10000 = some (x.all fun v => decide (0 ≤ v) && decide (v ≤ 10000))) := ⟨rfl⟩
    clear hn
    generalize (x.all fun v => decide (0 ≤ v) && decide (v ≤ 10000)) = b at HN HQ
    rw [HN.out]
    go_enter Try.func49, Try.ntmps49
    go_wp2_with (first | (go_at_call 42; refine CW.mono ?_; rintro e w2 ⟨v0, rfl, hR, hb⟩; obtain ⟨A3, c3, rfl, hl3, hC3⟩ := Kd.R_reads hR; have HB2 := Aside0.mk hb; have HC3 := Aside0.mk hC3; have HL3 := Aside0.mk hl3; clear hR hC3 hb hl3) | (go_at_call 45; refine (impl_areWithin.calls A3 c3 x 0 10000 b _ (by repeat (first | exact HC3.out | apply Kd.C_drewN | apply Kd.C_alloc)) HL3.out HQ.out).mono ?_; rintro e w4 ⟨rfl, hb4⟩; have HB4 := Aside0.mk hb4; clear hb4))
    go_ret
    exact ⟨rfl, below_then HB2.out HB2.out.size HB4.out⟩
  · have hn1 : (x.length == n) = false := by simpa using hn
    have hn2 : (x.length != n) = true := by simpa using hn
    have hn3 : ((x.length : Int) != (n : Int)) = true := by simp; omega
    have HN : Aside0 (impl_ValidTable.bad n x = true) := ⟨by unfold impl_ValidTable.bad; rw [decide_eq_true hn, Bool.true_or]⟩
    clear hn CW
    rw [HN.out]
    go_enter Try.func49, Try.ntmps49
    go_wp2
    go_ret
    exact ⟨rfl, by repeat (first | exact Below.refl _ _ | apply pw_below_drewN)⟩
set_option maxHeartbeats 8000000 in
set_option maxRecDepth 100000 in
theorem impl_ValidTable.calls (A0_0 : Option Addr) (c0_0 : Nat) (l0_0 : List Int) (A0_1 : Option Addr) (c0_1 : Nat) (l0_1 : List (List Int)) (r : Bool) (w : World) (hr0_0 : Kd.C (Kd.int .i16) w A0_0 l0_0.length l0_0) (hc0_0 : l0_0.length ≤ c0_0) (hr0_1 : Kd.C (Kd.slice 57 (Kd.int .i16)) w A0_1 l0_1.length l0_1) (hc0_1 : l0_1.length ≤ c0_1) (h : impl_ValidTable.f l0_0 l0_1 = some r) :
    Calls Try.prog 15 #[.agg #[.slice A0_0 l0_0.length c0_0, .slice A0_1 l0_1.length c0_1]] w fun e w' => e = .returned (.bool r) ∧ Below w.heap.size w w' := by
  unfold impl_ValidTable.f at h
  split at h
  case isFalse => cases h
  case isTrue hpre =>
  obtain rfl := Option.some.inj h
  clear h
  obtain ⟨q1, q2, q3, q4⟩ := hpre
  rw [impl_ValidTable.okB]
  obtain ⟨k, hk⟩ := impl_ValidTable.wideF l0_0 q1 q3
  obtain ⟨k2, hk2⟩ := impl_ValidTable.risF l0_0 q1
  have HQ2 : Aside0 (impl_areWithin.f l0_0 1 2000 = some (l0_0.all fun v => decide (1 ≤ v) && decide (v ≤ 2000))) := ⟨rfl⟩
  have HQ3 := Aside0.mk hk2
  have CW := impl_wide_int16.calls k A0_0 c0_0 l0_0 l0_0 (w.alloc (.cells #[.slice A0_0 l0_0.length c0_0, .slice A0_1 l0_1.length c0_1] 28)) (Kd.C_alloc hr0_0 _) hc0_0 hk
  have HR1 := Aside0.mk hr0_1
  have HC1 := Aside0.mk hc0_1
  have HP4 := Aside0.mk q4
  obtain ⟨b1, hb1⟩ : ∃ b1, b1 = (decide ((1 : Int) ≤ (l0_0.length : Int)) && decide ((l0_0.length : Int) ≤ 10)) := ⟨_, rfl⟩
  obtain ⟨b4, hb4⟩ : ∃ b4, b4 = (decide ((1 : Int) ≤ (l0_1.length : Int)) && decide ((l0_1.length : Int) ≤ 6)) := ⟨_, rfl⟩
  have HQ1 := Aside0.mk hb1
  have HQ4 := Aside0.mk hb4
  rw [← hb1, ← hb4]
  clear hb1 hb4 hk hk2 hr0_0 hr0_1 hc0_0 hc0_1 q3 q4
  generalize (l0_0.all fun v => decide (1 ≤ v) && decide (v ≤ 2000)) = b2 at HQ2 ⊢
  generalize impl_ValidTable.ris l0_0 = b3 at HQ3 ⊢
  have HBX : ∀ (w2 w4 : World) {n1 : Nat} {o : Obj}, Below (w.alloc (.cells #[.slice A0_0 l0_0.length c0_0, .slice A0_1 l0_1.length c0_1] 28)).heap.size (w.alloc (.cells #[.slice A0_0 l0_0.length c0_0, .slice A0_1 l0_1.length c0_1] 28)) w2 → Below ((w2.alloc o).drewN n1).heap.size ((w2.alloc o).drewN n1) w4 → Below (w.alloc (.cells #[.slice A0_0 l0_0.length c0_0, .slice A0_1 l0_1.length c0_1] 28)).heap.size (w.alloc (.cells #[.slice A0_0 l0_0.length c0_0, .slice A0_1 l0_1.length c0_1] 28)) w4 := fun w2 w4 n1 o h2 h4 =>
    below_then (pw_below_drewN (below_alloc h2 _) _) (pw_below_drewN (below_alloc h2 _) _).size h4
  cases b1 with
  | false =>
    go_enter Try.func15, Try.ntmps15
    go_wp2_with (first | (go_at_call 42; refine CW.mono ?_; rintro e w2 ⟨v0, rfl, hR, hb⟩; obtain ⟨A2, c2, rfl, hl2, hC2⟩ := Kd.R_reads hR; have hk1 : w2.cell? ⟨w.heap.size, 1, none⟩ = some (.slice A0_1 l0_1.length c0_1) := (hb.cell (p := ⟨w.heap.size, 1, none⟩) (by simp)).trans (by simp); have hs2 : w.heap.size + 1 ≤ w2.heap.size := (by have := hb.size; simpa using this); have HB2 := Aside0.mk hb; have HC2 := Aside0.mk hC2; have HL2 := Aside0.mk hl2; clear hR hC2 hb hl2) | (go_at_call 44; refine (impl_size_int64.calls A2 c2 l0_0 _ _ (by repeat (first | exact HC2.out | apply Kd.C_drewN | apply Kd.C_alloc)) HL2.out rfl).mono ?_; rintro e w' ⟨rfl, ⟨nd, rfl⟩⟩) | (go_at_call 43; (with_reducible refine (impl_ValidTable.win (l0_0.length : Int) 1 10 _ HQ1.out _).mono ?_); rintro e w' ⟨rfl, ⟨nd2, rfl⟩⟩))
    go_ret
    exact ⟨rfl, by repeat (first | exact below_then (below_alloc (Below.refl _ _) _) (by simp) HB2.out | apply pw_below_drewN | apply below_alloc)⟩
  | true =>
    cases b2 with
    | false =>
      go_enter Try.func15, Try.ntmps15
      go_wp2_with (first | (go_at_call 42; refine CW.mono ?_; rintro e w2 ⟨v0, rfl, hR, hb⟩; obtain ⟨A2, c2, rfl, hl2, hC2⟩ := Kd.R_reads hR; have hk1 : w2.cell? ⟨w.heap.size, 1, none⟩ = some (.slice A0_1 l0_1.length c0_1) := (hb.cell (p := ⟨w.heap.size, 1, none⟩) (by simp)).trans (by simp); have hs2 : w.heap.size + 1 ≤ w2.heap.size := (by have := hb.size; simpa using this); have HB2 := Aside0.mk hb; have HC2 := Aside0.mk hC2; have HL2 := Aside0.mk hl2; clear hR hC2 hb hl2) | (go_at_call 44; refine (impl_size_int64.calls A2 c2 l0_0 _ _ (by repeat (first | exact HC2.out | apply Kd.C_drewN | apply Kd.C_alloc)) HL2.out rfl).mono ?_; rintro e w' ⟨rfl, ⟨nd, rfl⟩⟩) | (go_at_call 43; (with_reducible refine (impl_ValidTable.win (l0_0.length : Int) 1 10 _ HQ1.out _).mono ?_); rintro e w' ⟨rfl, ⟨nd2, rfl⟩⟩) | (go_at_call 45; refine (impl_areWithin.calls A2 c2 l0_0 1 2000 _ _ (by repeat (first | exact HC2.out | apply Kd.C_drewN | apply Kd.C_alloc)) HL2.out HQ2.out).mono ?_; rintro e w4 ⟨rfl, hb4⟩; have hk4 : w4.cell? ⟨w2.heap.size, 0, none⟩ = some (.slice A2 l0_0.length c2) := (hb4.cell (p := ⟨w2.heap.size, 0, none⟩) (by simp)).trans (by simp); have hk5 : w4.cell? ⟨w.heap.size, 1, none⟩ = some (.slice A0_1 l0_1.length c0_1) := (hb4.cell (p := ⟨w.heap.size, 1, none⟩) (by simp; omega)).trans (by rw [World.cell?_drewN, World.cell?_alloc_lt _ _ _ (by simp; omega)]; exact hk1); have HC4 := Aside0.mk (Kd.C_below (by repeat (first | exact HC2.out | apply Kd.C_drewN | apply Kd.C_alloc)) hb4); have HB4 := Aside0.mk hb4; clear hb4))
      go_ret
      exact ⟨rfl, by repeat (first | exact below_then (below_alloc (Below.refl _ _) _) (by simp) (HBX _ _ HB2.out HB4.out) | apply pw_below_drewN | apply below_alloc)⟩
    | true =>
      cases b3 with
      | false =>
        go_enter Try.func15, Try.ntmps15
        go_wp2_with (first | (go_at_call 42; refine CW.mono ?_; rintro e w2 ⟨v0, rfl, hR, hb⟩; obtain ⟨A2, c2, rfl, hl2, hC2⟩ := Kd.R_reads hR; have hk1 : w2.cell? ⟨w.heap.size, 1, none⟩ = some (.slice A0_1 l0_1.length c0_1) := (hb.cell (p := ⟨w.heap.size, 1, none⟩) (by simp)).trans (by simp); have hs2 : w.heap.size + 1 ≤ w2.heap.size := (by have := hb.size; simpa using this); have HB2 := Aside0.mk hb; have HC2 := Aside0.mk hC2; have HL2 := Aside0.mk hl2; clear hR hC2 hb hl2) | (go_at_call 44; refine (impl_size_int64.calls A2 c2 l0_0 _ _ (by repeat (first | exact HC2.out | apply Kd.C_drewN | apply Kd.C_alloc)) HL2.out rfl).mono ?_; rintro e w' ⟨rfl, ⟨nd, rfl⟩⟩) | (go_at_call 43; (with_reducible refine (impl_ValidTable.win (l0_0.length : Int) 1 10 _ HQ1.out _).mono ?_); rintro e w' ⟨rfl, ⟨nd2, rfl⟩⟩) | (go_at_call 45; refine (impl_areWithin.calls A2 c2 l0_0 1 2000 _ _ (by repeat (first | exact HC2.out | apply Kd.C_drewN | apply Kd.C_alloc)) HL2.out HQ2.out).mono ?_; rintro e w4 ⟨rfl, hb4⟩; have hk4 : w4.cell? ⟨w2.heap.size, 0, none⟩ = some (.slice A2 l0_0.length c2) := (hb4.cell (p := ⟨w2.heap.size, 0, none⟩) (by simp)).trans (by simp); have hk5 : w4.cell? ⟨w.heap.size, 1, none⟩ = some (.slice A0_1 l0_1.length c0_1) := (hb4.cell (p := ⟨w.heap.size, 1, none⟩) (by simp; omega)).trans (by rw [World.cell?_drewN, World.cell?_alloc_lt _ _ _ (by simp; omega)]; exact hk1); have HC4 := Aside0.mk (Kd.C_below (by repeat (first | exact HC2.out | apply Kd.C_drewN | apply Kd.C_alloc)) hb4); have HB4 := Aside0.mk hb4; clear hb4) | (go_at_call 46; refine (impl_isRising.calls k2 A2 c2 l0_0 _ _ (by repeat (first | exact HC4.out | apply Kd.C_drewN | apply Kd.C_alloc)) HL2.out HQ3.out).mono ?_; rintro e w' ⟨rfl, ⟨nd3, rfl⟩⟩))
        go_ret
        exact ⟨rfl, by repeat (first | exact below_then (below_alloc (Below.refl _ _) _) (by simp) (HBX _ _ HB2.out HB4.out) | apply pw_below_drewN | apply below_alloc)⟩
      | true =>
        cases b4 with
        | false =>
          go_enter Try.func15, Try.ntmps15
          go_wp2_with (first | (go_at_call 42; refine CW.mono ?_; rintro e w2 ⟨v0, rfl, hR, hb⟩; obtain ⟨A2, c2, rfl, hl2, hC2⟩ := Kd.R_reads hR; have hk1 : w2.cell? ⟨w.heap.size, 1, none⟩ = some (.slice A0_1 l0_1.length c0_1) := (hb.cell (p := ⟨w.heap.size, 1, none⟩) (by simp)).trans (by simp); have hs2 : w.heap.size + 1 ≤ w2.heap.size := (by have := hb.size; simpa using this); have HB2 := Aside0.mk hb; have HC2 := Aside0.mk hC2; have HL2 := Aside0.mk hl2; clear hR hC2 hb hl2) | (go_at_call 44; refine (impl_size_int64.calls A2 c2 l0_0 _ _ (by repeat (first | exact HC2.out | apply Kd.C_drewN | apply Kd.C_alloc)) HL2.out rfl).mono ?_; rintro e w' ⟨rfl, ⟨nd, rfl⟩⟩) | (go_at_call 43; (with_reducible refine (impl_ValidTable.win (l0_0.length : Int) 1 10 _ HQ1.out _).mono ?_); rintro e w' ⟨rfl, ⟨nd2, rfl⟩⟩) | (go_at_call 45; refine (impl_areWithin.calls A2 c2 l0_0 1 2000 _ _ (by repeat (first | exact HC2.out | apply Kd.C_drewN | apply Kd.C_alloc)) HL2.out HQ2.out).mono ?_; rintro e w4 ⟨rfl, hb4⟩; have hk4 : w4.cell? ⟨w2.heap.size, 0, none⟩ = some (.slice A2 l0_0.length c2) := (hb4.cell (p := ⟨w2.heap.size, 0, none⟩) (by simp)).trans (by simp); have hk5 : w4.cell? ⟨w.heap.size, 1, none⟩ = some (.slice A0_1 l0_1.length c0_1) := (hb4.cell (p := ⟨w.heap.size, 1, none⟩) (by simp; omega)).trans (by rw [World.cell?_drewN, World.cell?_alloc_lt _ _ _ (by simp; omega)]; exact hk1); have HC4 := Aside0.mk (Kd.C_below (by repeat (first | exact HC2.out | apply Kd.C_drewN | apply Kd.C_alloc)) hb4); have HB4 := Aside0.mk hb4; clear hb4) | (go_at_call 46; refine (impl_isRising.calls k2 A2 c2 l0_0 _ _ (by repeat (first | exact HC4.out | apply Kd.C_drewN | apply Kd.C_alloc)) HL2.out HQ3.out).mono ?_; rintro e w' ⟨rfl, ⟨nd3, rfl⟩⟩) | (go_at_call 47; refine (impl_size_int16.calls A0_1 c0_1 l0_1 _ _ (by repeat (first | exact (Kd.C_below (Kd.C_below HR1.out (below_alloc (Below.refl _ _) _)) (HBX _ _ HB2.out HB4.out)) | apply Kd.C_drewN | apply Kd.C_alloc)) HC1.out rfl).mono ?_; rintro e w' ⟨rfl, ⟨nd4, rfl⟩⟩) | (go_at_call 43; (with_reducible refine (impl_ValidTable.win (l0_1.length : Int) 1 6 _ HQ4.out _).mono ?_); rintro e w' ⟨rfl, ⟨nd5, rfl⟩⟩))
          go_ret
          exact ⟨rfl, by repeat (first | exact below_then (below_alloc (Below.refl _ _) _) (by simp) (HBX _ _ HB2.out HB4.out) | apply pw_below_drewN | apply below_alloc)⟩
        | true =>
          go_enter Try.func15, Try.ntmps15
          go_wp2_with (first | (go_at_call 42; refine CW.mono ?_; rintro e w2 ⟨v0, rfl, hR, hb⟩; obtain ⟨A2, c2, rfl, hl2, hC2⟩ := Kd.R_reads hR; have hk1 : w2.cell? ⟨w.heap.size, 1, none⟩ = some (.slice A0_1 l0_1.length c0_1) := (hb.cell (p := ⟨w.heap.size, 1, none⟩) (by simp)).trans (by simp); have hs2 : w.heap.size + 1 ≤ w2.heap.size := (by have := hb.size; simpa using this); have HB2 := Aside0.mk hb; have HC2 := Aside0.mk hC2; have HL2 := Aside0.mk hl2; clear hR hC2 hb hl2) | (go_at_call 44; refine (impl_size_int64.calls A2 c2 l0_0 _ _ (by repeat (first | exact HC2.out | apply Kd.C_drewN | apply Kd.C_alloc)) HL2.out rfl).mono ?_; rintro e w' ⟨rfl, ⟨nd, rfl⟩⟩) | (go_at_call 43; (with_reducible refine (impl_ValidTable.win (l0_0.length : Int) 1 10 _ HQ1.out _).mono ?_); rintro e w' ⟨rfl, ⟨nd2, rfl⟩⟩) | (go_at_call 45; refine (impl_areWithin.calls A2 c2 l0_0 1 2000 _ _ (by repeat (first | exact HC2.out | apply Kd.C_drewN | apply Kd.C_alloc)) HL2.out HQ2.out).mono ?_; rintro e w4 ⟨rfl, hb4⟩; have hk4 : w4.cell? ⟨w2.heap.size, 0, none⟩ = some (.slice A2 l0_0.length c2) := (hb4.cell (p := ⟨w2.heap.size, 0, none⟩) (by simp)).trans (by simp); have hk5 : w4.cell? ⟨w.heap.size, 1, none⟩ = some (.slice A0_1 l0_1.length c0_1) := (hb4.cell (p := ⟨w.heap.size, 1, none⟩) (by simp; omega)).trans (by rw [World.cell?_drewN, World.cell?_alloc_lt _ _ _ (by simp; omega)]; exact hk1); have HC4 := Aside0.mk (Kd.C_below (by repeat (first | exact HC2.out | apply Kd.C_drewN | apply Kd.C_alloc)) hb4); have HB4 := Aside0.mk hb4; clear hb4) | (go_at_call 46; refine (impl_isRising.calls k2 A2 c2 l0_0 _ _ (by repeat (first | exact HC4.out | apply Kd.C_drewN | apply Kd.C_alloc)) HL2.out HQ3.out).mono ?_; rintro e w' ⟨rfl, ⟨nd3, rfl⟩⟩) | (go_at_call 47; refine (impl_size_int16.calls A0_1 c0_1 l0_1 _ _ (by repeat (first | exact (Kd.C_below (Kd.C_below HR1.out (below_alloc (Below.refl _ _) _)) (HBX _ _ HB2.out HB4.out)) | apply Kd.C_drewN | apply Kd.C_alloc)) HC1.out rfl).mono ?_; rintro e w' ⟨rfl, ⟨nd4, rfl⟩⟩) | (go_at_call 43; (with_reducible refine (impl_ValidTable.win (l0_1.length : Int) 1 6 _ HQ4.out _).mono ?_); rintro e w' ⟨rfl, ⟨nd5, rfl⟩⟩) | (go_at_call 48; refine (slices_ContainsFunc_LLint16_Lint16.calls (fun a b => Below a.heap.size a b) (fun w => Below.refl _ w) (fun a b c h k => below_then h h.size k) (fun a b h => h) 49 #[.pointer (some ⟨w2.heap.size, 0, none⟩)] (impl_ValidTable.bad l0_0.length) A0_1 c0_1 l0_1 _ (by repeat (first | exact Kd.C_below (Kd.C_below HR1.out (below_alloc (Below.refl _ _) _)) (HBX _ _ HB2.out HB4.out) | apply Kd.C_drewN)) (enters_of Try.func49 (by kernel_rfl) rfl) (fun W x A1 c1 hx hc1 hC1 hb => impl_ValidTable.closure _ A2 l0_0.length c2 x A1 c1 W (HP4.out x hx).1 (HP4.out x hx).2 hc1 hC1 ((hb.cell (p := ⟨w2.heap.size, 0, none⟩) (by have h_ := World.block_lt_of_cell? _ _ hk4; simpa using h_)).trans (by simp only [World.cell?_drewN]; exact hk4)))).mono ?_; rintro e w6 ⟨rfl, hb6⟩; have HB6 := Aside0.mk hb6; clear hb6))
          go_ret
          have HF := fun (W : World) (h1 : Below w.heap.size w W) (h2 : Below W.heap.size W w6) => below_then h1 h1.size h2
          exact ⟨rfl, HF _ (by repeat (first | exact below_then (below_alloc (Below.refl _ _) _) (by simp) (HBX _ _ HB2.out HB4.out) | apply pw_below_drewN)) HB6.out⟩

end Go.Proofs.Ytpcchfklmcalaaa.P

namespace Go.Proofs.Ytpcchfklmcalaaa.P
open Go.RowKit Go.Proofs.YtpcchfklmcalaaaW.PrintWords Go.Proofs.YtpcchfklmcalaaaW.PrintLast Go.Proofs.YtpcchfklmcalaaaW.PrintMore
attribute [local go_sem] max2_int min2_int max_two min_two max_three min_three max_four min_four   -- for this text's walks alone
set_option linter.unusedVariables false
set_option linter.unusedSimpArgs false

/-! ### impl_tableCode: function 58 -/
def impl_tableCode.f (l0_0 : List Int) (l0_1 : List (List Int)) (a1 : Int) (l2 : List Int) : Option (Int) := (impl_ValidTable.f l0_0 l0_1).bind fun t241 => (if t241 = true then ((impl_size_int16.f l0_1).bind fun t242 => ((impl_within.f a1 0 (wrap64 (t242 - 1))).bind fun t243 => (if t243 = true then ((impl_areWithin.f l2 1 2000).bind fun t244 => ((impl_unless.f t244 2).bind fun t245 => (some t245))) else ((impl_unless.f false 2).bind fun t246 => (some t246))))) else (some 1))
set_option maxHeartbeats 8000000 in
set_option maxRecDepth 100000 in
theorem impl_tableCode.calls (A0_0 : Option Addr) (c0_0 : Nat) (l0_0 : List Int) (A0_1 : Option Addr) (c0_1 : Nat) (l0_1 : List (List Int)) (a1 : Int) (A2 : Option Addr) (c2 : Nat) (l2 : List Int) (r : Int) (w : World) (hr0_0 : Kd.C (Kd.int .i16) w A0_0 l0_0.length l0_0) (hc0_0 : l0_0.length ≤ c0_0) (hr0_1 : Kd.C (Kd.slice 57 (Kd.int .i16)) w A0_1 l0_1.length l0_1) (hc0_1 : l0_1.length ≤ c0_1) (hr2 : Kd.C (Kd.int .i64) w A2 l2.length l2) (hc2 : l2.length ≤ c2) (h : impl_tableCode.f l0_0 l0_1 a1 l2 = some r) :
    Calls Try.prog 58 #[.agg #[.slice A0_0 l0_0.length c0_0, .slice A0_1 l0_1.length c0_1], .int .i64 a1, .slice A2 l2.length c2] w fun e w' => e = .returned (.int .i64 r) ∧ Below w.heap.size w w' := by
  have hu28 := Try.underlying28
  have HR0_0 := Aside0.mk hr0_0
  have HC0_0 := Aside0.mk hc0_0
  clear hr0_0 hc0_0
  have HR0_1 := Aside0.mk hr0_1
  have HC0_1 := Aside0.mk hc0_1
  clear hr0_1 hc0_1
  have HR2 := Aside0.mk hr2
  have HC2 := Aside0.mk hc2
  clear hr2 hc2
  have HB := Aside0.mk (Below.refl w.heap.size w)
  have H : ((impl_ValidTable.f l0_0 l0_1).bind fun t241 => (if t241 = true then ((impl_size_int16.f l0_1).bind fun t242 => ((impl_within.f a1 0 (wrap64 (t242 - 1))).bind fun t243 => (if t243 = true then ((impl_areWithin.f l2 1 2000).bind fun t244 => ((impl_unless.f t244 2).bind fun t245 => (some t245))) else ((impl_unless.f false 2).bind fun t246 => (some t246))))) else (some 1))) = some r := h
  clear h
  replace H := Option.bind_eq_some_iff.mp H
  obtain ⟨t241, A40, H⟩ := H
  replace H : (if t241 = true then ((impl_size_int16.f l0_1).bind fun t242 => ((impl_within.f a1 0 (wrap64 (t242 - 1))).bind fun t243 => (if t243 = true then ((impl_areWithin.f l2 1 2000).bind fun t244 => ((impl_unless.f t244 2).bind fun t245 => (some t245))) else ((impl_unless.f false 2).bind fun t246 => (some t246))))) else (some 1)) = some r := H
  have A4 := Aside0.mk A40
  clear A40
  by_cases c5 : t241 = true
  · subst c5
    have H1 : ((impl_size_int16.f l0_1).bind fun t242 => ((impl_within.f a1 0 (wrap64 (t242 - 1))).bind fun t243 => (if t243 = true then ((impl_areWithin.f l2 1 2000).bind fun t244 => ((impl_unless.f t244 2).bind fun t245 => (some t245))) else ((impl_unless.f false 2).bind fun t246 => (some t246))))) = some r := by rw [if_pos rfl] at H; exact H
    clear H
    have H := H1
    clear H1
    replace H := Option.bind_eq_some_iff.mp H
    obtain ⟨t242, A60, H⟩ := H
    replace H : ((impl_within.f a1 0 (wrap64 (t242 - 1))).bind fun t243 => (if t243 = true then ((impl_areWithin.f l2 1 2000).bind fun t244 => ((impl_unless.f t244 2).bind fun t245 => (some t245))) else ((impl_unless.f false 2).bind fun t246 => (some t246)))) = some r := H
    have A6 := Aside0.mk A60
    clear A60
    replace H := Option.bind_eq_some_iff.mp H
    obtain ⟨t243, A70, H⟩ := H
    replace H : (if t243 = true then ((impl_areWithin.f l2 1 2000).bind fun t244 => ((impl_unless.f t244 2).bind fun t245 => (some t245))) else ((impl_unless.f false 2).bind fun t246 => (some t246))) = some r := H
    have A7 := Aside0.mk A70
    clear A70
    by_cases c8 : t243 = true
    · subst c8
      have H1 : ((impl_areWithin.f l2 1 2000).bind fun t244 => ((impl_unless.f t244 2).bind fun t245 => (some t245))) = some r := by rw [if_pos rfl] at H; exact H
      clear H
      have H := H1
      clear H1
      replace H := Option.bind_eq_some_iff.mp H
      obtain ⟨t244, A90, H⟩ := H
      replace H : ((impl_unless.f t244 2).bind fun t245 => (some t245)) = some r := H
      have A9 := Aside0.mk A90
      clear A90
      replace H := Option.bind_eq_some_iff.mp H
      obtain ⟨t245, A100, H⟩ := H
      replace H : (some t245) = some r := H
      have A10 := Aside0.mk A100
      clear A100
      obtain rfl := Option.some.inj H
      go_enter Try.func58, Try.ntmps58
      go_wp2_with (first | ((with_reducible refine gate_dst (N := 3) rfl ?_); refine box_event ?hg (N := 3) ?hd (cs := #[.slice A0_0 l0_0.length c0_0, .slice A0_1 l0_1.length c0_1]) (t := 28) ?hr ?_; (case hd => rfl); (case hg => rfl); (case hr => first | (go_simp; done) | (go_simp; rfl)); intro gb240 hg w11 hbox hb; have n0_ := Aside0.mk (below_step (by repeat (first | (with_reducible first | exact HB.out | apply below_alloc | apply pw_below_drewN | apply below_drew1) | exact HB.out)) hb); have n1_ := Aside0.mk (hbox); have n2_ := Aside0.mk ((by rw [hg]; exact (below_size (by repeat (first | (with_reducible first | exact HB.out | apply below_alloc | apply pw_below_drewN | apply below_drew1) | exact HB.out))) : w.heap.size ≤ gb240)); have n3_ := Aside0.mk ((by rw [hg]; exact (below_size (by repeat (first | (with_reducible first | exact HB.out | apply below_alloc | apply pw_below_drewN | apply below_drew1) | exact HB.out))) : w.heap.size ≤ gb240)); clear HB; have HB := n0_; have BK240 := n1_; have GW240 := n2_; have GE240 := n3_; clear n0_ n1_ n2_ n3_; clear hb hbox hg; have hcz12_0 : w11.cell? ⟨gb240, 0, none⟩ = some (.slice A0_0 l0_0.length c0_0) := (blk_cell BK240.out 0).trans rfl; have hcz12_1 : w11.cell? ⟨gb240, 1, none⟩ = some (.slice A0_1 l0_1.length c0_1) := (blk_cell BK240.out 1).trans rfl; have hfz12_0 := blk_frozen BK240.out 0; have hfz12_1 := blk_frozen BK240.out 1) | ((with_reducible refine gate_callee (f := 15) rfl ?_); refine goesL_ (some 8) rfl rfl Try.func15 (by kernel_rfl) rfl #[.agg #[.slice A0_0 l0_0.length c0_0, .slice A0_1 l0_1.length c0_1]] rfl (by (try simp only [List.map_toArray, List.map_cons, List.map_nil]); first | done | rfl | (simp only [List.length_drop, List.length_take]; rfl)) ?_; (with_reducible refine (impl_ValidTable.calls _ _ l0_0 _ _ l0_1 true _ ?side1 ?side2 ?side3 ?side4 A4.out).mono ?_); (case side1 => repeat (first | exact (Kd.C_below HR0_0.out HB.out) | (with_reducible refine Kd.C_alloc ?_ _) | (with_reducible refine Kd.C_drewN ?_ _) | (with_reducible refine Kd.C_drew ?_))); (case side2 => exact HC0_0.out); (case side3 => repeat (first | exact (Kd.C_below HR0_1.out HB.out) | (with_reducible refine Kd.C_alloc ?_ _) | (with_reducible refine Kd.C_drewN ?_ _) | (with_reducible refine Kd.C_drew ?_))); (case side4 => exact HC0_1.out); rintro e w13 ⟨rfl, hb⟩; refine ⟨_, rfl, ?_⟩; have n0_ := Aside0.mk (blk_below (g := gb240) (o := .cells #[.slice A0_0 l0_0.length c0_0, .slice A0_1 l0_1.length c0_1] 28 (0, 0)) (by (with_reducible repeat (first | refine blk_drewN ?_ _ | refine blk_drew ?_ | refine blk_alloc ?_ _)); exact BK240.out) hb); have n1_ := Aside0.mk (below_step (by repeat (first | (with_reducible first | exact HB.out | apply below_alloc | apply pw_below_drewN | apply below_drew1 | refine below_set ?_ GE240.out) | exact HB.out)) hb); clear BK240; clear HB; have BK240 := n0_; have HB := n1_; clear n0_ n1_; (try clear hb); (try clear hb2); (try clear hk); (try clear hi); have hcz14_0 : w13.cell? ⟨gb240, 0, none⟩ = some (.slice A0_0 l0_0.length c0_0) := (blk_cell BK240.out 0).trans rfl; have hcz14_1 : w13.cell? ⟨gb240, 1, none⟩ = some (.slice A0_1 l0_1.length c0_1) := (blk_cell BK240.out 1).trans rfl; have hfz14_0 := blk_frozen BK240.out 0; have hfz14_1 := blk_frozen BK240.out 1) | ((with_reducible refine gate_callee (f := 47) rfl ?_); refine goesL_ (some 13) rfl rfl Try.func47 (by kernel_rfl) rfl #[.slice A0_1 l0_1.length c0_1] rfl (by (try simp only [List.map_toArray, List.map_cons, List.map_nil]); first | done | rfl | (simp only [List.length_drop, List.length_take]; rfl)) ?_; (with_reducible refine (impl_size_int16.calls _ _ l0_1 t242 _ ?side1 ?side2 A6.out).mono ?_); (case side1 => repeat (first | exact (Kd.C_below HR0_1.out HB.out) | (with_reducible refine Kd.C_alloc ?_ _) | (with_reducible refine Kd.C_drewN ?_ _) | (with_reducible refine Kd.C_drew ?_))); (case side2 => exact HC0_1.out); rintro e w' ⟨rfl, ⟨nd, rfl⟩⟩; refine ⟨_, rfl, ?_⟩) | ((with_reducible refine gate_callee (f := 43) rfl ?_); refine goesL_ (some 15) rfl rfl Try.func43 (by kernel_rfl) rfl #[.int .i64 a1, .int .i64 0, .int .i64 (wrap64 (t242 - 1))] rfl (by (try simp only [List.map_toArray, List.map_cons, List.map_nil]); first | done | rfl | (simp only [List.length_drop, List.length_take]; rfl)) ?_; (with_reducible refine (impl_within.calls a1 0 (wrap64 (t242 - 1)) true _ A7.out).mono ?_); rintro e w' ⟨rfl, ⟨nd, rfl⟩⟩; refine ⟨_, rfl, ?_⟩) | (go_at_call 45; (with_reducible refine (impl_areWithin.calls _ _ l2 1 2000 t244 _ ?side1 ?side2 A9.out).mono ?_); (case side1 => repeat (first | exact (Kd.C_below HR2.out (by repeat (first | (with_reducible first | exact HB.out | apply below_alloc | apply pw_below_drewN | apply below_drew1 | refine below_set ?_ GE240.out) | exact HB.out))) | (with_reducible refine Kd.C_alloc ?_ _) | (with_reducible refine Kd.C_drewN ?_ _) | (with_reducible refine Kd.C_drew ?_))); (case side2 => exact HC2.out); rintro e w15 ⟨rfl, hb⟩; have n0_ := Aside0.mk (blk_below (g := gb240) (o := .cells #[.slice A0_0 l0_0.length c0_0, .slice A0_1 l0_1.length c0_1] 28 (0, 0)) (by (with_reducible repeat (first | refine blk_drewN ?_ _ | refine blk_drew ?_ | refine blk_alloc ?_ _)); exact BK240.out) hb); have n1_ := Aside0.mk (below_step (by repeat (first | (with_reducible first | exact HB.out | apply below_alloc | apply pw_below_drewN | apply below_drew1 | refine below_set ?_ GE240.out) | exact HB.out)) hb); clear BK240; clear HB; have BK240 := n0_; have HB := n1_; clear n0_ n1_; (try clear hb); (try clear hb2); (try clear hk); (try clear hi)) | ((with_reducible refine gate_callee (f := 79) rfl ?_); refine goesL_ (some 20) rfl rfl Try.func79 (by kernel_rfl) rfl #[.bool t244, .int .i64 2] rfl (by (try simp only [List.map_toArray, List.map_cons, List.map_nil]); first | done | rfl | (simp only [List.length_drop, List.length_take]; rfl)) ?_; (with_reducible refine (impl_unless.calls t244 2 t245 _ A10.out).mono ?_); rintro e w' ⟨rfl, ⟨nd, rfl⟩⟩; refine ⟨_, rfl, ?_⟩))
      go_ret
      exact ⟨by first | rfl | (simp [errW_none, errW_some] <;> rfl) | (simp [*, errW_none, errW_some] <;> rfl), by repeat (first | (with_reducible first | exact HB.out | apply below_alloc | apply pw_below_drewN | apply below_drew1 | refine below_set ?_ GE240.out) | exact HB.out)⟩
    · replace c8 := Bool.eq_false_iff.mpr c8
      subst c8
      have H1 : ((impl_unless.f false 2).bind fun t246 => (some t246)) = some r := by rw [if_neg (show ¬ (false = true) by decide)] at H; exact H
      clear H
      have H := H1
      clear H1
      replace H := Option.bind_eq_some_iff.mp H
      obtain ⟨t246, A160, H⟩ := H
      replace H : (some t246) = some r := H
      have A16 := Aside0.mk A160
      clear A160
      obtain rfl := Option.some.inj H
      go_enter Try.func58, Try.ntmps58
      go_wp2_with (first | ((with_reducible refine gate_dst (N := 3) rfl ?_); refine box_event ?hg (N := 3) ?hd (cs := #[.slice A0_0 l0_0.length c0_0, .slice A0_1 l0_1.length c0_1]) (t := 28) ?hr ?_; (case hd => rfl); (case hg => rfl); (case hr => first | (go_simp; done) | (go_simp; rfl)); intro gb240 hg w17 hbox hb; have n0_ := Aside0.mk (below_step (by repeat (first | (with_reducible first | exact HB.out | apply below_alloc | apply pw_below_drewN | apply below_drew1) | exact HB.out)) hb); have n1_ := Aside0.mk (hbox); have n2_ := Aside0.mk ((by rw [hg]; exact (below_size (by repeat (first | (with_reducible first | exact HB.out | apply below_alloc | apply pw_below_drewN | apply below_drew1) | exact HB.out))) : w.heap.size ≤ gb240)); have n3_ := Aside0.mk ((by rw [hg]; exact (below_size (by repeat (first | (with_reducible first | exact HB.out | apply below_alloc | apply pw_below_drewN | apply below_drew1) | exact HB.out))) : w.heap.size ≤ gb240)); clear HB; have HB := n0_; have BK240 := n1_; have GW240 := n2_; have GE240 := n3_; clear n0_ n1_ n2_ n3_; clear hb hbox hg; have hcz18_0 : w17.cell? ⟨gb240, 0, none⟩ = some (.slice A0_0 l0_0.length c0_0) := (blk_cell BK240.out 0).trans rfl; have hcz18_1 : w17.cell? ⟨gb240, 1, none⟩ = some (.slice A0_1 l0_1.length c0_1) := (blk_cell BK240.out 1).trans rfl; have hfz18_0 := blk_frozen BK240.out 0; have hfz18_1 := blk_frozen BK240.out 1) | ((with_reducible refine gate_callee (f := 15) rfl ?_); refine goesL_ (some 8) rfl rfl Try.func15 (by kernel_rfl) rfl #[.agg #[.slice A0_0 l0_0.length c0_0, .slice A0_1 l0_1.length c0_1]] rfl (by (try simp only [List.map_toArray, List.map_cons, List.map_nil]); first | done | rfl | (simp only [List.length_drop, List.length_take]; rfl)) ?_; (with_reducible refine (impl_ValidTable.calls _ _ l0_0 _ _ l0_1 true _ ?side1 ?side2 ?side3 ?side4 A4.out).mono ?_); (case side1 => repeat (first | exact (Kd.C_below HR0_0.out HB.out) | (with_reducible refine Kd.C_alloc ?_ _) | (with_reducible refine Kd.C_drewN ?_ _) | (with_reducible refine Kd.C_drew ?_))); (case side2 => exact HC0_0.out); (case side3 => repeat (first | exact (Kd.C_below HR0_1.out HB.out) | (with_reducible refine Kd.C_alloc ?_ _) | (with_reducible refine Kd.C_drewN ?_ _) | (with_reducible refine Kd.C_drew ?_))); (case side4 => exact HC0_1.out); rintro e w19 ⟨rfl, hb⟩; refine ⟨_, rfl, ?_⟩; have n0_ := Aside0.mk (blk_below (g := gb240) (o := .cells #[.slice A0_0 l0_0.length c0_0, .slice A0_1 l0_1.length c0_1] 28 (0, 0)) (by (with_reducible repeat (first | refine blk_drewN ?_ _ | refine blk_drew ?_ | refine blk_alloc ?_ _)); exact BK240.out) hb); have n1_ := Aside0.mk (below_step (by repeat (first | (with_reducible first | exact HB.out | apply below_alloc | apply pw_below_drewN | apply below_drew1 | refine below_set ?_ GE240.out) | exact HB.out)) hb); clear BK240; clear HB; have BK240 := n0_; have HB := n1_; clear n0_ n1_; (try clear hb); (try clear hb2); (try clear hk); (try clear hi); have hcz20_0 : w19.cell? ⟨gb240, 0, none⟩ = some (.slice A0_0 l0_0.length c0_0) := (blk_cell BK240.out 0).trans rfl; have hcz20_1 : w19.cell? ⟨gb240, 1, none⟩ = some (.slice A0_1 l0_1.length c0_1) := (blk_cell BK240.out 1).trans rfl; have hfz20_0 := blk_frozen BK240.out 0; have hfz20_1 := blk_frozen BK240.out 1) | ((with_reducible refine gate_callee (f := 47) rfl ?_); refine goesL_ (some 13) rfl rfl Try.func47 (by kernel_rfl) rfl #[.slice A0_1 l0_1.length c0_1] rfl (by (try simp only [List.map_toArray, List.map_cons, List.map_nil]); first | done | rfl | (simp only [List.length_drop, List.length_take]; rfl)) ?_; (with_reducible refine (impl_size_int16.calls _ _ l0_1 t242 _ ?side1 ?side2 A6.out).mono ?_); (case side1 => repeat (first | exact (Kd.C_below HR0_1.out HB.out) | (with_reducible refine Kd.C_alloc ?_ _) | (with_reducible refine Kd.C_drewN ?_ _) | (with_reducible refine Kd.C_drew ?_))); (case side2 => exact HC0_1.out); rintro e w' ⟨rfl, ⟨nd, rfl⟩⟩; refine ⟨_, rfl, ?_⟩) | ((with_reducible refine gate_callee (f := 43) rfl ?_); refine goesL_ (some 15) rfl rfl Try.func43 (by kernel_rfl) rfl #[.int .i64 a1, .int .i64 0, .int .i64 (wrap64 (t242 - 1))] rfl (by (try simp only [List.map_toArray, List.map_cons, List.map_nil]); first | done | rfl | (simp only [List.length_drop, List.length_take]; rfl)) ?_; (with_reducible refine (impl_within.calls a1 0 (wrap64 (t242 - 1)) false _ A7.out).mono ?_); rintro e w' ⟨rfl, ⟨nd, rfl⟩⟩; refine ⟨_, rfl, ?_⟩) | ((with_reducible refine gate_callee (f := 79) rfl ?_); refine goesL_ (some 20) rfl rfl Try.func79 (by kernel_rfl) rfl #[.bool false, .int .i64 2] rfl (by (try simp only [List.map_toArray, List.map_cons, List.map_nil]); first | done | rfl | (simp only [List.length_drop, List.length_take]; rfl)) ?_; (with_reducible refine (impl_unless.calls false 2 t246 _ A16.out).mono ?_); rintro e w' ⟨rfl, ⟨nd, rfl⟩⟩; refine ⟨_, rfl, ?_⟩))
      go_ret
      exact ⟨by first | rfl | (simp [errW_none, errW_some] <;> rfl) | (simp [*, errW_none, errW_some] <;> rfl), by repeat (first | (with_reducible first | exact HB.out | apply below_alloc | apply pw_below_drewN | apply below_drew1 | refine below_set ?_ GE240.out) | exact HB.out)⟩
  · replace c5 := Bool.eq_false_iff.mpr c5
    subst c5
    have H1 : (some 1) = some r := by rw [if_neg (show ¬ (false = true) by decide)] at H; exact H
    clear H
    have H := H1
    clear H1
    obtain rfl := Option.some.inj H
    go_enter Try.func58, Try.ntmps58
    go_wp2_with (first | ((with_reducible refine gate_dst (N := 3) rfl ?_); refine box_event ?hg (N := 3) ?hd (cs := #[.slice A0_0 l0_0.length c0_0, .slice A0_1 l0_1.length c0_1]) (t := 28) ?hr ?_; (case hd => rfl); (case hg => rfl); (case hr => first | (go_simp; done) | (go_simp; rfl)); intro gb240 hg w21 hbox hb; have n0_ := Aside0.mk (below_step (by repeat (first | (with_reducible first | exact HB.out | apply below_alloc | apply pw_below_drewN | apply below_drew1) | exact HB.out)) hb); have n1_ := Aside0.mk (hbox); have n2_ := Aside0.mk ((by rw [hg]; exact (below_size (by repeat (first | (with_reducible first | exact HB.out | apply below_alloc | apply pw_below_drewN | apply below_drew1) | exact HB.out))) : w.heap.size ≤ gb240)); have n3_ := Aside0.mk ((by rw [hg]; exact (below_size (by repeat (first | (with_reducible first | exact HB.out | apply below_alloc | apply pw_below_drewN | apply below_drew1) | exact HB.out))) : w.heap.size ≤ gb240)); clear HB; have HB := n0_; have BK240 := n1_; have GW240 := n2_; have GE240 := n3_; clear n0_ n1_ n2_ n3_; clear hb hbox hg; have hcz22_0 : w21.cell? ⟨gb240, 0, none⟩ = some (.slice A0_0 l0_0.length c0_0) := (blk_cell BK240.out 0).trans rfl; have hcz22_1 : w21.cell? ⟨gb240, 1, none⟩ = some (.slice A0_1 l0_1.length c0_1) := (blk_cell BK240.out 1).trans rfl; have hfz22_0 := blk_frozen BK240.out 0; have hfz22_1 := blk_frozen BK240.out 1) | ((with_reducible refine gate_callee (f := 15) rfl ?_); refine goesL_ (some 8) rfl rfl Try.func15 (by kernel_rfl) rfl #[.agg #[.slice A0_0 l0_0.length c0_0, .slice A0_1 l0_1.length c0_1]] rfl (by (try simp only [List.map_toArray, List.map_cons, List.map_nil]); first | done | rfl | (simp only [List.length_drop, List.length_take]; rfl)) ?_; (with_reducible refine (impl_ValidTable.calls _ _ l0_0 _ _ l0_1 false _ ?side1 ?side2 ?side3 ?side4 A4.out).mono ?_); (case side1 => repeat (first | exact (Kd.C_below HR0_0.out HB.out) | (with_reducible refine Kd.C_alloc ?_ _) | (with_reducible refine Kd.C_drewN ?_ _) | (with_reducible refine Kd.C_drew ?_))); (case side2 => exact HC0_0.out); (case side3 => repeat (first | exact (Kd.C_below HR0_1.out HB.out) | (with_reducible refine Kd.C_alloc ?_ _) | (with_reducible refine Kd.C_drewN ?_ _) | (with_reducible refine Kd.C_drew ?_))); (case side4 => exact HC0_1.out); rintro e w23 ⟨rfl, hb⟩; refine ⟨_, rfl, ?_⟩; have n0_ := Aside0.mk (blk_below (g := gb240) (o := .cells #[.slice A0_0 l0_0.length c0_0, .slice A0_1 l0_1.length c0_1] 28 (0, 0)) (by (with_reducible repeat (first | refine blk_drewN ?_ _ | refine blk_drew ?_ | refine blk_alloc ?_ _)); exact BK240.out) hb); have n1_ := Aside0.mk (below_step (by repeat (first | (with_reducible first | exact HB.out | apply below_alloc | apply pw_below_drewN | apply below_drew1 | refine below_set ?_ GE240.out) | exact HB.out)) hb); clear BK240; clear HB; have BK240 := n0_; have HB := n1_; clear n0_ n1_; (try clear hb); (try clear hb2); (try clear hk); (try clear hi)))
    go_ret
    exact ⟨by first | rfl | (simp [errW_none, errW_some] <;> rfl) | (simp [*, errW_none, errW_some] <;> rfl), by repeat (first | (with_reducible first | exact HB.out | apply below_alloc | apply pw_below_drewN | apply below_drew1 | refine below_set ?_ GE240.out) | exact HB.out)⟩

end Go.Proofs.Ytpcchfklmcalaaa.P

namespace Go.Proofs.Ytpcchfklmcalaaa.P
open Go.RowKit Go.Proofs.YtpcchfklmcalaaaW.PrintWords Go.Proofs.YtpcchfklmcalaaaW.PrintLast Go.Proofs.YtpcchfklmcalaaaW.PrintMore
attribute [local go_sem] max2_int min2_int max_two min_two max_three min_three max_four min_four   -- for this text's walks alone
set_option linter.unusedVariables false
set_option linter.unusedSimpArgs false

/-! ### impl_itemCode: function 82 -/
def impl_itemCode.f (l0_0 : List Int) (l0_1 : List (List Int)) (a1 : Int) (l2 : List Int) : Option (Int) := (impl_tableCode.f l0_0 l0_1 a1 l2).bind fun t288 => (if t288 = 0 then ((impl_unless.f (decide ((l2.length : Int) ≤ 8)) 3).bind fun t289 => (some t289)) else (some t288))
set_option maxHeartbeats 8000000 in
set_option maxRecDepth 100000 in
theorem impl_itemCode.calls (A0_0 : Option Addr) (c0_0 : Nat) (l0_0 : List Int) (A0_1 : Option Addr) (c0_1 : Nat) (l0_1 : List (List Int)) (a1 : Int) (A2 : Option Addr) (c2 : Nat) (l2 : List Int) (r : Int) (w : World) (hr0_0 : Kd.C (Kd.int .i16) w A0_0 l0_0.length l0_0) (hc0_0 : l0_0.length ≤ c0_0) (hr0_1 : Kd.C (Kd.slice 57 (Kd.int .i16)) w A0_1 l0_1.length l0_1) (hc0_1 : l0_1.length ≤ c0_1) (hr2 : Kd.C (Kd.int .i64) w A2 l2.length l2) (hc2 : l2.length ≤ c2) (h : impl_itemCode.f l0_0 l0_1 a1 l2 = some r) :
    Calls Try.prog 82 #[.agg #[.slice A0_0 l0_0.length c0_0, .slice A0_1 l0_1.length c0_1], .int .i64 a1, .slice A2 l2.length c2] w fun e w' => e = .returned (.int .i64 r) ∧ Below w.heap.size w w' := by
  have hu28 := Try.underlying28
  have HR0_0 := Aside0.mk hr0_0
  have HC0_0 := Aside0.mk hc0_0
  clear hr0_0 hc0_0
  have HR0_1 := Aside0.mk hr0_1
  have HC0_1 := Aside0.mk hc0_1
  clear hr0_1 hc0_1
  have HR2 := Aside0.mk hr2
  have HC2 := Aside0.mk hc2
  clear hr2 hc2
  have HB := Aside0.mk (Below.refl w.heap.size w)
  have H : ((impl_tableCode.f l0_0 l0_1 a1 l2).bind fun t288 => (if t288 = 0 then ((impl_unless.f (decide ((l2.length : Int) ≤ 8)) 3).bind fun t289 => (some t289)) else (some t288))) = some r := h
  clear h
  replace H := Option.bind_eq_some_iff.mp H
  obtain ⟨t288, A40, H⟩ := H
  replace H : (if t288 = 0 then ((impl_unless.f (decide ((l2.length : Int) ≤ 8)) 3).bind fun t289 => (some t289)) else (some t288)) = some r := H
  have A4 := Aside0.mk A40
  clear A40
  by_cases c5 : t288 = 0
  · rw [if_pos c5] at H
    have c5b0 : (t288 == 0) = true := beq_iff_eq.mpr c5
    have c5b1 : (t288 != 0) = false := bne_eq_false_iff_eq.mpr c5
    clear c5
    replace H := Option.bind_eq_some_iff.mp H
    obtain ⟨t289, A60, H⟩ := H
    replace H : (some t289) = some r := H
    have A6 := Aside0.mk A60
    clear A60
    obtain rfl := Option.some.inj H
    go_enter Try.func82, Try.ntmps82
    go_wp2_with (first | ((with_reducible refine gate_dst (N := 3) rfl ?_); refine box_event ?hg (N := 3) ?hd (cs := #[.slice A0_0 l0_0.length c0_0, .slice A0_1 l0_1.length c0_1]) (t := 28) ?hr ?_; (case hd => rfl); (case hg => rfl); (case hr => first | (go_simp; done) | (go_simp; rfl)); intro gb287 hg w7 hbox hb; have n0_ := Aside0.mk (below_step (by repeat (first | (with_reducible first | exact HB.out | apply below_alloc | apply pw_below_drewN | apply below_drew1) | exact HB.out)) hb); have n1_ := Aside0.mk (hbox); have n2_ := Aside0.mk ((by rw [hg]; exact (below_size (by repeat (first | (with_reducible first | exact HB.out | apply below_alloc | apply pw_below_drewN | apply below_drew1) | exact HB.out))) : w.heap.size ≤ gb287)); have n3_ := Aside0.mk ((by rw [hg]; exact (below_size (by repeat (first | (with_reducible first | exact HB.out | apply below_alloc | apply pw_below_drewN | apply below_drew1) | exact HB.out))) : w.heap.size ≤ gb287)); clear HB; have HB := n0_; have BK287 := n1_; have GW287 := n2_; have GE287 := n3_; clear n0_ n1_ n2_ n3_; clear hb hbox hg; have hcz8_0 : w7.cell? ⟨gb287, 0, none⟩ = some (.slice A0_0 l0_0.length c0_0) := (blk_cell BK287.out 0).trans rfl; have hcz8_1 : w7.cell? ⟨gb287, 1, none⟩ = some (.slice A0_1 l0_1.length c0_1) := (blk_cell BK287.out 1).trans rfl; have hfz8_0 := blk_frozen BK287.out 0; have hfz8_1 := blk_frozen BK287.out 1) | ((with_reducible refine gate_callee (f := 58) rfl ?_); refine goesL_ (some 11) rfl rfl Try.func58 (by kernel_rfl) rfl #[.agg #[.slice A0_0 l0_0.length c0_0, .slice A0_1 l0_1.length c0_1], .int .i64 a1, .slice A2 l2.length c2] rfl (by (try simp only [List.map_toArray, List.map_cons, List.map_nil]); first | done | rfl | (simp only [List.length_drop, List.length_take]; rfl)) ?_; (with_reducible refine (impl_tableCode.calls _ _ l0_0 _ _ l0_1 a1 _ _ l2 t288 _ ?side1 ?side2 ?side3 ?side4 ?side5 ?side6 A4.out).mono ?_); (case side1 => repeat (first | exact (Kd.C_below HR0_0.out HB.out) | (with_reducible refine Kd.C_alloc ?_ _) | (with_reducible refine Kd.C_drewN ?_ _) | (with_reducible refine Kd.C_drew ?_))); (case side2 => exact HC0_0.out); (case side3 => repeat (first | exact (Kd.C_below HR0_1.out HB.out) | (with_reducible refine Kd.C_alloc ?_ _) | (with_reducible refine Kd.C_drewN ?_ _) | (with_reducible refine Kd.C_drew ?_))); (case side4 => exact HC0_1.out); (case side5 => repeat (first | exact (Kd.C_below HR2.out HB.out) | (with_reducible refine Kd.C_alloc ?_ _) | (with_reducible refine Kd.C_drewN ?_ _) | (with_reducible refine Kd.C_drew ?_))); (case side6 => exact HC2.out); rintro e w9 ⟨rfl, hb⟩; refine ⟨_, rfl, ?_⟩; have n0_ := Aside0.mk (blk_below (g := gb287) (o := .cells #[.slice A0_0 l0_0.length c0_0, .slice A0_1 l0_1.length c0_1] 28 (0, 0)) (by (with_reducible repeat (first | refine blk_drewN ?_ _ | refine blk_drew ?_ | refine blk_alloc ?_ _)); exact BK287.out) hb); have n1_ := Aside0.mk (below_step (by repeat (first | (with_reducible first | exact HB.out | apply below_alloc | apply pw_below_drewN | apply below_drew1 | refine below_set ?_ GE287.out) | exact HB.out)) hb); clear BK287; clear HB; have BK287 := n0_; have HB := n1_; clear n0_ n1_; (try clear hb); (try clear hb2); (try clear hk); (try clear hi)) | ((with_reducible refine gate_callee (f := 79) rfl ?_); refine goesL_ (some 18) rfl rfl Try.func79 (by kernel_rfl) rfl #[.bool (decide ((l2.length : Int) ≤ 8)), .int .i64 3] rfl (by (try simp only [List.map_toArray, List.map_cons, List.map_nil]); first | done | rfl | (simp only [List.length_drop, List.length_take]; rfl)) ?_; (with_reducible refine (impl_unless.calls (decide ((l2.length : Int) ≤ 8)) 3 t289 _ A6.out).mono ?_); rintro e w' ⟨rfl, ⟨nd, rfl⟩⟩; refine ⟨_, rfl, ?_⟩))
    go_ret
    exact ⟨by first | rfl | (simp [errW_none, errW_some] <;> rfl) | (simp [*, errW_none, errW_some] <;> rfl), by repeat (first | (with_reducible first | exact HB.out | apply below_alloc | apply pw_below_drewN | apply below_drew1 | refine below_set ?_ GE287.out) | exact HB.out)⟩
  · rw [if_neg c5] at H
    have c5b0 : (t288 == 0) = false := beq_eq_false_iff_ne.mpr c5
    have c5b1 : (t288 != 0) = true := bne_iff_ne.mpr c5
    obtain rfl := Option.some.inj H
    go_enter Try.func82, Try.ntmps82
    go_wp2_with (first | ((with_reducible refine gate_dst (N := 3) rfl ?_); refine box_event ?hg (N := 3) ?hd (cs := #[.slice A0_0 l0_0.length c0_0, .slice A0_1 l0_1.length c0_1]) (t := 28) ?hr ?_; (case hd => rfl); (case hg => rfl); (case hr => first | (go_simp; done) | (go_simp; rfl)); intro gb287 hg w10 hbox hb; have n0_ := Aside0.mk (below_step (by repeat (first | (with_reducible first | exact HB.out | apply below_alloc | apply pw_below_drewN | apply below_drew1) | exact HB.out)) hb); have n1_ := Aside0.mk (hbox); have n2_ := Aside0.mk ((by rw [hg]; exact (below_size (by repeat (first | (with_reducible first | exact HB.out | apply below_alloc | apply pw_below_drewN | apply below_drew1) | exact HB.out))) : w.heap.size ≤ gb287)); have n3_ := Aside0.mk ((by rw [hg]; exact (below_size (by repeat (first | (with_reducible first | exact HB.out | apply below_alloc | apply pw_below_drewN | apply below_drew1) | exact HB.out))) : w.heap.size ≤ gb287)); clear HB; have HB := n0_; have BK287 := n1_; have GW287 := n2_; have GE287 := n3_; clear n0_ n1_ n2_ n3_; clear hb hbox hg; have hcz11_0 : w10.cell? ⟨gb287, 0, none⟩ = some (.slice A0_0 l0_0.length c0_0) := (blk_cell BK287.out 0).trans rfl; have hcz11_1 : w10.cell? ⟨gb287, 1, none⟩ = some (.slice A0_1 l0_1.length c0_1) := (blk_cell BK287.out 1).trans rfl; have hfz11_0 := blk_frozen BK287.out 0; have hfz11_1 := blk_frozen BK287.out 1) | ((with_reducible refine gate_callee (f := 58) rfl ?_); refine goesL_ (some 11) rfl rfl Try.func58 (by kernel_rfl) rfl #[.agg #[.slice A0_0 l0_0.length c0_0, .slice A0_1 l0_1.length c0_1], .int .i64 a1, .slice A2 l2.length c2] rfl (by (try simp only [List.map_toArray, List.map_cons, List.map_nil]); first | done | rfl | (simp only [List.length_drop, List.length_take]; rfl)) ?_; (with_reducible refine (impl_tableCode.calls _ _ l0_0 _ _ l0_1 a1 _ _ l2 t288 _ ?side1 ?side2 ?side3 ?side4 ?side5 ?side6 A4.out).mono ?_); (case side1 => repeat (first | exact (Kd.C_below HR0_0.out HB.out) | (with_reducible refine Kd.C_alloc ?_ _) | (with_reducible refine Kd.C_drewN ?_ _) | (with_reducible refine Kd.C_drew ?_))); (case side2 => exact HC0_0.out); (case side3 => repeat (first | exact (Kd.C_below HR0_1.out HB.out) | (with_reducible refine Kd.C_alloc ?_ _) | (with_reducible refine Kd.C_drewN ?_ _) | (with_reducible refine Kd.C_drew ?_))); (case side4 => exact HC0_1.out); (case side5 => repeat (first | exact (Kd.C_below HR2.out HB.out) | (with_reducible refine Kd.C_alloc ?_ _) | (with_reducible refine Kd.C_drewN ?_ _) | (with_reducible refine Kd.C_drew ?_))); (case side6 => exact HC2.out); rintro e w12 ⟨rfl, hb⟩; refine ⟨_, rfl, ?_⟩; have n0_ := Aside0.mk (blk_below (g := gb287) (o := .cells #[.slice A0_0 l0_0.length c0_0, .slice A0_1 l0_1.length c0_1] 28 (0, 0)) (by (with_reducible repeat (first | refine blk_drewN ?_ _ | refine blk_drew ?_ | refine blk_alloc ?_ _)); exact BK287.out) hb); have n1_ := Aside0.mk (below_step (by repeat (first | (with_reducible first | exact HB.out | apply below_alloc | apply pw_below_drewN | apply below_drew1 | refine below_set ?_ GE287.out) | exact HB.out)) hb); clear BK287; clear HB; have BK287 := n0_; have HB := n1_; clear n0_ n1_; (try clear hb); (try clear hb2); (try clear hk); (try clear hi)))
    go_ret
    exact ⟨by first | rfl | (simp [errW_none, errW_some] <;> rfl) | (simp [*, errW_none, errW_some] <;> rfl), by repeat (first | (with_reducible first | exact HB.out | apply below_alloc | apply pw_below_drewN | apply below_drew1 | refine below_set ?_ GE287.out) | exact HB.out)⟩

end Go.Proofs.Ytpcchfklmcalaaa.P

namespace Go.Proofs.Ytpcchfklmcalaaa.P
open Go.RowKit Go.Proofs.YtpcchfklmcalaaaW.PrintWords Go.Proofs.YtpcchfklmcalaaaW.PrintLast Go.Proofs.YtpcchfklmcalaaaW.PrintMore
attribute [local go_sem] max2_int min2_int max_two min_two max_three min_three max_four min_four   -- for this text's walks alone
set_option linter.unusedVariables false
set_option linter.unusedSimpArgs false

/-! ### impl_PricesOf: function 61 -/
def impl_PricesOf.l0 : Nat → Int → Int → List Int → Int → Int → List Int → List (List Int) → Option (Int × Int)
  | 0, _, _, _, _, _, _, _ => none
  | k + 1, x1, x9, x21, x22, x23, x291000, x291001 => if x23 < x22 then (if 0 ≤ x23 then (if x23 < (x21.length : Int) then ((impl_Table_price.f x291000 x291001 x1 (rd x21 x23)).bind fun bt293 => (if bt293.2 = true then (impl_PricesOf.l0 k x1 (wrap64 (x9 + bt293.1)) x21 x22 (wrap64 (x23 + 1)) x291000 x291001) else (some (0, 6)))) else (none)) else (none)) else (some (x9, 0))
def impl_PricesOf.f (k : Nat) (l0_0 : List Int) (l0_1 : List (List Int)) (a1 : Int) (l2 : List Int) : Option (Int × Int) := (impl_itemCode.f l0_0 l0_1 a1 l2).bind fun t291 => (if t291 = 0 then (impl_PricesOf.l0 k a1 0 l2 (l2.length : Int) 0 l0_0 l0_1) else (some (0, t291)))
theorem impl_PricesOf.mono_l : ∀ k, (∀ y0 y1 y2 y3 y4 y5 y6, LeO (impl_PricesOf.l0 k y0 y1 y2 y3 y4 y5 y6) (impl_PricesOf.l0 (k + 1) y0 y1 y2 y3 y4 y5 y6))
  | 0 => fun _ _ _ _ _ _ _ r h => by simp [impl_PricesOf.l0] at h
  | k + 1 => by
    have ih0 := impl_PricesOf.mono_l k
    · intro y0 y1 y2 y3 y4 y5 y6
      unfold impl_PricesOf.l0
      repeat' first
      | (with_reducible exact ih0 _ _ _ _ _ _ _)
      | (with_reducible exact LeO.refl _)
      | (with_reducible exact LeO.none _)
      | (with_reducible refine LeO.ite ?_ ?_)
      | (with_reducible refine LeO.bind ?_ (fun _ => ?_))
      | exact ih0 _ _ _ _ _ _ _
      | exact LeO.none _
      | refine LeO.ite ?_ ?_
      | refine LeO.bind ?_ (fun _ => ?_)
theorem impl_PricesOf.mono : ∀ a0 a1 a2 a3 k, LeO (impl_PricesOf.f k a0 a1 a2 a3) (impl_PricesOf.f (k + 1) a0 a1 a2 a3) := by
  intro a0 a1 a2 a3 k
  have ih0 := impl_PricesOf.mono_l k
  unfold impl_PricesOf.f
  repeat' first
      | (with_reducible exact ih0 _ _ _ _ _ _ _)
      | (with_reducible exact LeO.refl _)
      | (with_reducible exact LeO.none _)
      | (with_reducible refine LeO.ite ?_ ?_)
      | (with_reducible refine LeO.bind ?_ (fun _ => ?_))
      | exact ih0 _ _ _ _ _ _ _
      | exact LeO.none _
      | refine LeO.ite ?_ ?_
      | refine LeO.bind ?_ (fun _ => ?_)
set_option maxHeartbeats 8000000 in
set_option maxRecDepth 100000 in
theorem impl_PricesOf.calls (k : Nat) (A0_0 : Option Addr) (c0_0 : Nat) (l0_0 : List Int) (A0_1 : Option Addr) (c0_1 : Nat) (l0_1 : List (List Int)) (a1 : Int) (A2 : Option Addr) (c2 : Nat) (l2 : List Int) (r1 : Int) (r2 : Int) (w : World) (hr0_0 : Kd.C (Kd.int .i16) w A0_0 l0_0.length l0_0) (hc0_0 : l0_0.length ≤ c0_0) (hr0_1 : Kd.C (Kd.slice 57 (Kd.int .i16)) w A0_1 l0_1.length l0_1) (hc0_1 : l0_1.length ≤ c0_1) (hr2 : Kd.C (Kd.int .i64) w A2 l2.length l2) (hc2 : l2.length ≤ c2) (h : impl_PricesOf.f k l0_0 l0_1 a1 l2 = some (r1, r2)) :
    Calls Try.prog 61 #[.agg #[.slice A0_0 l0_0.length c0_0, .slice A0_1 l0_1.length c0_1], .int .i64 a1, .slice A2 l2.length c2] w fun e w' => e = .returned (.tuple #[.int .i64 r1, .int .i64 r2]) ∧ Below w.heap.size w w' := by
  have hu28 := Try.underlying28
  have HR0_0 := Aside0.mk hr0_0
  have HC0_0 := Aside0.mk hc0_0
  clear hr0_0 hc0_0
  have HR0_1 := Aside0.mk hr0_1
  have HC0_1 := Aside0.mk hc0_1
  clear hr0_1 hc0_1
  have HR2 := Aside0.mk hr2
  have HC2 := Aside0.mk hc2
  clear hr2 hc2
  have HB := Aside0.mk (Below.refl w.heap.size w)
  have H : ((impl_itemCode.f l0_0 l0_1 a1 l2).bind fun t291 => (if t291 = 0 then (impl_PricesOf.l0 k a1 0 l2 (l2.length : Int) 0 l0_0 l0_1) else (some (0, t291)))) = some (r1, r2) := h
  clear h
  replace H := Option.bind_eq_some_iff.mp H
  obtain ⟨t291, A40, H⟩ := H
  replace H : (if t291 = 0 then (impl_PricesOf.l0 k a1 0 l2 (l2.length : Int) 0 l0_0 l0_1) else (some (0, t291))) = some (r1, r2) := H
  have A4 := Aside0.mk A40
  clear A40
  by_cases c5 : t291 = 0
  · rw [if_pos c5] at H
    have c5b0 : (t291 == 0) = true := beq_iff_eq.mpr c5
    have c5b1 : (t291 != 0) = false := bne_eq_false_iff_eq.mpr c5
    clear c5
    have H' := Aside0.mk H
    clear H
    go_enter Try.func61, Try.ntmps61
    go_wp2_with (first | ((with_reducible refine gate_dst (N := 3) rfl ?_); refine box_event ?hg (N := 3) ?hd (cs := #[.slice A0_0 l0_0.length c0_0, .slice A0_1 l0_1.length c0_1]) (t := 28) ?hr ?_; (case hd => rfl); (case hg => rfl); (case hr => first | (go_simp; done) | (go_simp; rfl)); intro gb290 hg w6 hbox hb; have n0_ := Aside0.mk (below_step (by repeat (first | (with_reducible first | exact HB.out | apply below_alloc | apply pw_below_drewN | apply below_drew1) | exact HB.out)) hb); have n1_ := Aside0.mk (hbox); have n2_ := Aside0.mk ((by rw [hg]; exact (below_size (by repeat (first | (with_reducible first | exact HB.out | apply below_alloc | apply pw_below_drewN | apply below_drew1) | exact HB.out))) : w.heap.size ≤ gb290)); have n3_ := Aside0.mk ((by rw [hg]; exact (below_size (by repeat (first | (with_reducible first | exact HB.out | apply below_alloc | apply pw_below_drewN | apply below_drew1) | exact HB.out))) : w.heap.size ≤ gb290)); clear HB; have HB := n0_; have BK290 := n1_; have GW290 := n2_; have GE290 := n3_; clear n0_ n1_ n2_ n3_; clear hb hbox hg; have hcz7_0 : w6.cell? ⟨gb290, 0, none⟩ = some (.slice A0_0 l0_0.length c0_0) := (blk_cell BK290.out 0).trans rfl; have hcz7_1 : w6.cell? ⟨gb290, 1, none⟩ = some (.slice A0_1 l0_1.length c0_1) := (blk_cell BK290.out 1).trans rfl; have hfz7_0 := blk_frozen BK290.out 0; have hfz7_1 := blk_frozen BK290.out 1) | ((with_reducible refine gate_callee (f := 82) rfl ?_); refine goesL_ (some 17) rfl rfl Try.func82 (by kernel_rfl) rfl #[.agg #[.slice A0_0 l0_0.length c0_0, .slice A0_1 l0_1.length c0_1], .int .i64 a1, .slice A2 l2.length c2] rfl (by (try simp only [List.map_toArray, List.map_cons, List.map_nil]); first | done | rfl | (simp only [List.length_drop, List.length_take]; rfl)) ?_; (with_reducible refine (impl_itemCode.calls _ _ l0_0 _ _ l0_1 a1 _ _ l2 t291 _ ?side1 ?side2 ?side3 ?side4 ?side5 ?side6 A4.out).mono ?_); (case side1 => repeat (first | exact (Kd.C_below HR0_0.out HB.out) | (with_reducible refine Kd.C_alloc ?_ _) | (with_reducible refine Kd.C_drewN ?_ _) | (with_reducible refine Kd.C_drew ?_))); (case side2 => exact HC0_0.out); (case side3 => repeat (first | exact (Kd.C_below HR0_1.out HB.out) | (with_reducible refine Kd.C_alloc ?_ _) | (with_reducible refine Kd.C_drewN ?_ _) | (with_reducible refine Kd.C_drew ?_))); (case side4 => exact HC0_1.out); (case side5 => repeat (first | exact (Kd.C_below HR2.out HB.out) | (with_reducible refine Kd.C_alloc ?_ _) | (with_reducible refine Kd.C_drewN ?_ _) | (with_reducible refine Kd.C_drew ?_))); (case side6 => exact HC2.out); rintro e w8 ⟨rfl, hb⟩; refine ⟨_, rfl, ?_⟩; have n0_ := Aside0.mk (blk_below (g := gb290) (o := .cells #[.slice A0_0 l0_0.length c0_0, .slice A0_1 l0_1.length c0_1] 28 (0, 0)) (by (with_reducible repeat (first | refine blk_drewN ?_ _ | refine blk_drew ?_ | refine blk_alloc ?_ _)); exact BK290.out) hb); have n1_ := Aside0.mk (below_step (by repeat (first | (with_reducible first | exact HB.out | apply below_alloc | apply pw_below_drewN | apply below_drew1 | refine below_set ?_ GE290.out) | exact HB.out)) hb); clear BK290; clear HB; have BK290 := n0_; have HB := n1_; clear n0_ n1_; (try clear hb); (try clear hb2); (try clear hk); (try clear hi)))
    go_loopg [9, 23] k (fun kq v9 v23 w' => ∃ (x9_1 : Int) (x23_1 : Int), v9 = .int .i64 x9_1 ∧ v23 = .int .i64 x23_1 ∧ Aside0 (impl_PricesOf.l0 kq a1 x9_1 l2 (l2.length : Int) x23_1 l0_0 l0_1 = some (r1, r2)) ∧ Aside0 (kq ≤ k) ∧ Aside0 (w'.heap[gb290]? = some (.cells #[(.slice A0_0 l0_0.length c0_0), (.slice A0_1 l0_1.length c0_1)] 28 (0, 0))) ∧ Aside0 (Below w.heap.size w w'))
    case atStart => exact ⟨(0), (0), (by first | rfl | (simp; done) | (simp [*]; done)), (by first | rfl | (simp; done) | (simp [*]; done)), H', ⟨Nat.le_refl _⟩, ⟨by (with_reducible repeat (first | refine blk_drewN ?_ _ | refine blk_drew ?_ | refine blk_alloc ?_ _)); exact BK290.out⟩, ⟨by repeat (first | (with_reducible first | exact HB.out | apply below_alloc | apply pw_below_drewN | apply below_drew1 | refine below_set ?_ GE290.out) | exact HB.out)⟩⟩
    case round =>
      clear H'
      try clear c2
      try clear p2
      try clear c5
      try clear c5b0
      try clear c5b1
      try clear c6
      try clear c8
      try clear hcz7_0
      try clear hcz7_1
      try clear hfz7_0
      try clear hfz7_1
      obtain ⟨x9_1, x23_1, rfl, rfl, HA, HK1, BK290, HB⟩ := hrel
      cases gk with
      | zero => exact absurd HA.out (by simp [impl_PricesOf.l0])
      | succ k1 =>
        have H := HA.out
        clear HA
        simp only [impl_PricesOf.l0] at H
        by_cases c9 : x23_1 < (l2.length : Int)
        · rw [if_pos c9] at H
          have c9b0 : decide (x23_1 < (l2.length : Int)) = true := decide_eq_true c9
          clear c9
          by_cases c10 : 0 ≤ x23_1
          · rw [if_pos c10] at H
            have c10b0 : decide (0 ≤ x23_1) = true := decide_eq_true c10
            clear c10
            by_cases c11 : x23_1 < (l2.length : Int)
            · rw [if_pos c11] at H
              have c11b0 : decide (x23_1 < (l2.length : Int)) = true := decide_eq_true c11
              clear c11
              replace H := Option.bind_eq_some_iff.mp H
              obtain ⟨⟨t293, t294⟩, A120, H⟩ := H
              replace H : (if t294 = true then (impl_PricesOf.l0 k1 a1 (wrap64 (x9_1 + t293)) l2 (l2.length : Int) (wrap64 (x23_1 + 1)) l0_0 l0_1) else (some (0, 6))) = some (r1, r2) := H
              have A12 := Aside0.mk A120
              clear A120
              by_cases c13 : t294 = true
              · subst c13
                have H1 : (impl_PricesOf.l0 k1 a1 (wrap64 (x9_1 + t293)) l2 (l2.length : Int) (wrap64 (x23_1 + 1)) l0_0 l0_1) = some (r1, r2) := by rw [if_pos rfl] at H; exact H
                clear H
                have H := H1
                clear H1
                have H' := Aside0.mk H
                clear H
                have p292 : 0 ≤ (x23_1 : Int) := of_decide_eq_true (by first | (with_reducible assumption) | assumption)
                have q292 : x23_1 < (l2.length : Int) := of_decide_eq_true (by first | (with_reducible assumption) | assumption)
                obtain ⟨ad292, e292, hx292_0⟩ := Kd.at_int HR2.out x23_1 p292 q292
                cases e292
                replace hx292_0 := (HB.out.cell (World.block_lt_of_cell? w _ hx292_0)).trans hx292_0
                replace p292 := eq_true p292
                replace q292 := eq_true q292
                have hcz14_0 : wr.cell? ⟨gb290, 0, none⟩ = some (.slice A0_0 l0_0.length c0_0) := (blk_cell BK290.out 0).trans rfl
                have hcz14_1 : wr.cell? ⟨gb290, 1, none⟩ = some (.slice A0_1 l0_1.length c0_1) := (blk_cell BK290.out 1).trans rfl
                have hfz14_0 := blk_frozen BK290.out 0
                have hfz14_1 := blk_frozen BK290.out 1
                go_wp2_with (first | ((with_reducible refine gate_callee (f := 65) rfl ?_); refine goesL_ (some 31) rfl rfl Try.func65 (by kernel_rfl) rfl #[.agg #[.slice A0_0 l0_0.length c0_0, .slice A0_1 l0_1.length c0_1], .int .i64 a1, .int .i64 (rd l2 x23_1)] rfl (by (try simp only [List.map_toArray, List.map_cons, List.map_nil]); first | done | rfl | (simp only [List.length_drop, List.length_take]; rfl)) ?_; (with_reducible refine (impl_Table_price.calls _ _ l0_0 _ _ l0_1 a1 (rd l2 x23_1) t293 true _ ?side1 ?side2 ?side3 ?side4 A12.out).mono ?_); (case side1 => repeat (first | exact (Kd.C_below HR0_0.out HB.out) | (with_reducible refine Kd.C_alloc ?_ _) | (with_reducible refine Kd.C_drewN ?_ _) | (with_reducible refine Kd.C_drew ?_))); (case side2 => exact HC0_0.out); (case side3 => repeat (first | exact (Kd.C_below HR0_1.out HB.out) | (with_reducible refine Kd.C_alloc ?_ _) | (with_reducible refine Kd.C_drewN ?_ _) | (with_reducible refine Kd.C_drew ?_))); (case side4 => exact HC0_1.out); rintro e w15 ⟨rfl, hb⟩; refine ⟨_, rfl, ?_⟩; have n0_ := Aside0.mk (blk_below (g := gb290) (o := .cells #[.slice A0_0 l0_0.length c0_0, .slice A0_1 l0_1.length c0_1] 28 (0, 0)) (by (with_reducible repeat (first | refine blk_drewN ?_ _ | refine blk_drew ?_ | refine blk_alloc ?_ _)); exact BK290.out) hb); have n1_ := Aside0.mk (below_step (by repeat (first | (with_reducible first | exact HB.out | apply below_alloc | apply pw_below_drewN | apply below_drew1 | refine below_set ?_ GE290.out) | exact HB.out)) hb); clear BK290; clear HB; have BK290 := n0_; have HB := n1_; clear n0_ n1_; (try clear hb); (try clear hb2); (try clear hk); (try clear hi)))
                go_roundg k1
                case measure => have := HK1.out; omega
                case rel => exact ⟨(wrap64 (x9_1 + t293)), (wrap64 (x23_1 + 1)), (by first | rfl | (simp; done) | (simp [*]; done)), (by first | rfl | (simp; done) | (simp [*]; done)), H', ⟨by have := HK1.out; omega⟩, ⟨by (with_reducible repeat (first | refine blk_drewN ?_ _ | refine blk_drew ?_ | refine blk_alloc ?_ _)); exact BK290.out⟩, ⟨by repeat (first | (with_reducible first | exact HB.out | apply below_alloc | apply pw_below_drewN | apply below_drew1 | refine below_set ?_ GE290.out) | exact HB.out)⟩⟩
              · replace c13 := Bool.eq_false_iff.mpr c13
                subst c13
                have H1 : (some (0, 6)) = some (r1, r2) := by rw [if_neg (show ¬ (false = true) by decide)] at H; exact H
                clear H
                have H := H1
                clear H1
                simp only [Option.some.injEq, Prod.mk.injEq] at H
                obtain ⟨rfl, rfl⟩ := H
                have p292 : 0 ≤ (x23_1 : Int) := of_decide_eq_true (by first | (with_reducible assumption) | assumption)
                have q292 : x23_1 < (l2.length : Int) := of_decide_eq_true (by first | (with_reducible assumption) | assumption)
                obtain ⟨ad292, e292, hx292_0⟩ := Kd.at_int HR2.out x23_1 p292 q292
                cases e292
                replace hx292_0 := (HB.out.cell (World.block_lt_of_cell? w _ hx292_0)).trans hx292_0
                replace p292 := eq_true p292
                replace q292 := eq_true q292
                have hcz16_0 : wr.cell? ⟨gb290, 0, none⟩ = some (.slice A0_0 l0_0.length c0_0) := (blk_cell BK290.out 0).trans rfl
                have hcz16_1 : wr.cell? ⟨gb290, 1, none⟩ = some (.slice A0_1 l0_1.length c0_1) := (blk_cell BK290.out 1).trans rfl
                have hfz16_0 := blk_frozen BK290.out 0
                have hfz16_1 := blk_frozen BK290.out 1
                go_wp2_with (first | ((with_reducible refine gate_callee (f := 65) rfl ?_); refine goesL_ (some 31) rfl rfl Try.func65 (by kernel_rfl) rfl #[.agg #[.slice A0_0 l0_0.length c0_0, .slice A0_1 l0_1.length c0_1], .int .i64 a1, .int .i64 (rd l2 x23_1)] rfl (by (try simp only [List.map_toArray, List.map_cons, List.map_nil]); first | done | rfl | (simp only [List.length_drop, List.length_take]; rfl)) ?_; (with_reducible refine (impl_Table_price.calls _ _ l0_0 _ _ l0_1 a1 (rd l2 x23_1) t293 false _ ?side1 ?side2 ?side3 ?side4 A12.out).mono ?_); (case side1 => repeat (first | exact (Kd.C_below HR0_0.out HB.out) | (with_reducible refine Kd.C_alloc ?_ _) | (with_reducible refine Kd.C_drewN ?_ _) | (with_reducible refine Kd.C_drew ?_))); (case side2 => exact HC0_0.out); (case side3 => repeat (first | exact (Kd.C_below HR0_1.out HB.out) | (with_reducible refine Kd.C_alloc ?_ _) | (with_reducible refine Kd.C_drewN ?_ _) | (with_reducible refine Kd.C_drew ?_))); (case side4 => exact HC0_1.out); rintro e w17 ⟨rfl, hb⟩; refine ⟨_, rfl, ?_⟩; have n0_ := Aside0.mk (blk_below (g := gb290) (o := .cells #[.slice A0_0 l0_0.length c0_0, .slice A0_1 l0_1.length c0_1] 28 (0, 0)) (by (with_reducible repeat (first | refine blk_drewN ?_ _ | refine blk_drew ?_ | refine blk_alloc ?_ _)); exact BK290.out) hb); have n1_ := Aside0.mk (below_step (by repeat (first | (with_reducible first | exact HB.out | apply below_alloc | apply pw_below_drewN | apply below_drew1 | refine below_set ?_ GE290.out) | exact HB.out)) hb); clear BK290; clear HB; have BK290 := n0_; have HB := n1_; clear n0_ n1_; (try clear hb); (try clear hb2); (try clear hk); (try clear hi)))
                go_ret2
                exact ⟨by first | rfl | (simp [errW_none, errW_some] <;> rfl) | (simp [*, errW_none, errW_some] <;> rfl), by repeat (first | (with_reducible first | exact HB.out | apply below_alloc | apply pw_below_drewN | apply below_drew1 | refine below_set ?_ GE290.out) | exact HB.out)⟩
            · rw [if_neg c11] at H
              exact absurd H (by simp)
          · rw [if_neg c10] at H
            exact absurd H (by simp)
        · rw [if_neg c9] at H
          have c9b0 : decide (x23_1 < (l2.length : Int)) = false := decide_eq_false c9
          clear c9
          simp only [Option.some.injEq, Prod.mk.injEq] at H
          obtain ⟨rfl, rfl⟩ := H
          go_wp2
          go_ret2
          exact ⟨by first | rfl | (simp [errW_none, errW_some] <;> rfl) | (simp [*, errW_none, errW_some] <;> rfl), by repeat (first | (with_reducible first | exact HB.out | apply below_alloc | apply pw_below_drewN | apply below_drew1 | refine below_set ?_ GE290.out) | exact HB.out)⟩
  · rw [if_neg c5] at H
    have c5b0 : (t291 == 0) = false := beq_eq_false_iff_ne.mpr c5
    have c5b1 : (t291 != 0) = true := bne_iff_ne.mpr c5
    simp only [Option.some.injEq, Prod.mk.injEq] at H
    obtain ⟨rfl, rfl⟩ := H
    go_enter Try.func61, Try.ntmps61
    go_wp2_with (first | ((with_reducible refine gate_dst (N := 3) rfl ?_); refine box_event ?hg (N := 3) ?hd (cs := #[.slice A0_0 l0_0.length c0_0, .slice A0_1 l0_1.length c0_1]) (t := 28) ?hr ?_; (case hd => rfl); (case hg => rfl); (case hr => first | (go_simp; done) | (go_simp; rfl)); intro gb290 hg w18 hbox hb; have n0_ := Aside0.mk (below_step (by repeat (first | (with_reducible first | exact HB.out | apply below_alloc | apply pw_below_drewN | apply below_drew1) | exact HB.out)) hb); have n1_ := Aside0.mk (hbox); have n2_ := Aside0.mk ((by rw [hg]; exact (below_size (by repeat (first | (with_reducible first | exact HB.out | apply below_alloc | apply pw_below_drewN | apply below_drew1) | exact HB.out))) : w.heap.size ≤ gb290)); have n3_ := Aside0.mk ((by rw [hg]; exact (below_size (by repeat (first | (with_reducible first | exact HB.out | apply below_alloc | apply pw_below_drewN | apply below_drew1) | exact HB.out))) : w.heap.size ≤ gb290)); clear HB; have HB := n0_; have BK290 := n1_; have GW290 := n2_; have GE290 := n3_; clear n0_ n1_ n2_ n3_; clear hb hbox hg; have hcz19_0 : w18.cell? ⟨gb290, 0, none⟩ = some (.slice A0_0 l0_0.length c0_0) := (blk_cell BK290.out 0).trans rfl; have hcz19_1 : w18.cell? ⟨gb290, 1, none⟩ = some (.slice A0_1 l0_1.length c0_1) := (blk_cell BK290.out 1).trans rfl; have hfz19_0 := blk_frozen BK290.out 0; have hfz19_1 := blk_frozen BK290.out 1) | ((with_reducible refine gate_callee (f := 82) rfl ?_); refine goesL_ (some 17) rfl rfl Try.func82 (by kernel_rfl) rfl #[.agg #[.slice A0_0 l0_0.length c0_0, .slice A0_1 l0_1.length c0_1], .int .i64 a1, .slice A2 l2.length c2] rfl (by (try simp only [List.map_toArray, List.map_cons, List.map_nil]); first | done | rfl | (simp only [List.length_drop, List.length_take]; rfl)) ?_; (with_reducible refine (impl_itemCode.calls _ _ l0_0 _ _ l0_1 a1 _ _ l2 t291 _ ?side1 ?side2 ?side3 ?side4 ?side5 ?side6 A4.out).mono ?_); (case side1 => repeat (first | exact (Kd.C_below HR0_0.out HB.out) | (with_reducible refine Kd.C_alloc ?_ _) | (with_reducible refine Kd.C_drewN ?_ _) | (with_reducible refine Kd.C_drew ?_))); (case side2 => exact HC0_0.out); (case side3 => repeat (first | exact (Kd.C_below HR0_1.out HB.out) | (with_reducible refine Kd.C_alloc ?_ _) | (with_reducible refine Kd.C_drewN ?_ _) | (with_reducible refine Kd.C_drew ?_))); (case side4 => exact HC0_1.out); (case side5 => repeat (first | exact (Kd.C_below HR2.out HB.out) | (with_reducible refine Kd.C_alloc ?_ _) | (with_reducible refine Kd.C_drewN ?_ _) | (with_reducible refine Kd.C_drew ?_))); (case side6 => exact HC2.out); rintro e w20 ⟨rfl, hb⟩; refine ⟨_, rfl, ?_⟩; have n0_ := Aside0.mk (blk_below (g := gb290) (o := .cells #[.slice A0_0 l0_0.length c0_0, .slice A0_1 l0_1.length c0_1] 28 (0, 0)) (by (with_reducible repeat (first | refine blk_drewN ?_ _ | refine blk_drew ?_ | refine blk_alloc ?_ _)); exact BK290.out) hb); have n1_ := Aside0.mk (below_step (by repeat (first | (with_reducible first | exact HB.out | apply below_alloc | apply pw_below_drewN | apply below_drew1 | refine below_set ?_ GE290.out) | exact HB.out)) hb); clear BK290; clear HB; have BK290 := n0_; have HB := n1_; clear n0_ n1_; (try clear hb); (try clear hb2); (try clear hk); (try clear hi)))
    go_ret2
    exact ⟨by first | rfl | (simp [errW_none, errW_some] <;> rfl) | (simp [*, errW_none, errW_some] <;> rfl), by repeat (first | (with_reducible first | exact HB.out | apply below_alloc | apply pw_below_drewN | apply below_drew1 | refine below_set ?_ GE290.out) | exact HB.out)⟩

end Go.Proofs.Ytpcchfklmcalaaa.P

namespace Go.Proofs.Ytpcchfklmcalaaa.P
open Go.RowKit Go.Proofs.YtpcchfklmcalaaaW.PrintWords Go.Proofs.YtpcchfklmcalaaaW.PrintLast Go.Proofs.YtpcchfklmcalaaaW.PrintMore
attribute [local go_sem] max2_int min2_int max_two min_two max_three min_three max_four min_four   -- for this text's walks alone
set_option linter.unusedVariables false
set_option linter.unusedSimpArgs false

/-! ### impl_PriceOf: function 22 -/
def impl_PriceOf.f (k : Nat) (l0_0 : List Int) (l0_1 : List (List Int)) (a1 : Int) (a2 : Int) : Option (Int × Int) := (impl_PricesOf.f k l0_0 l0_1 a1 (([a2] : List Int))).bind fun bt299 => (some (bt299.1, bt299.2))
theorem impl_PriceOf.mono : ∀ a0 a1 a2 a3 k, LeO (impl_PriceOf.f k a0 a1 a2 a3) (impl_PriceOf.f (k + 1) a0 a1 a2 a3) := by
  intro a0 a1 a2 a3 k
  unfold impl_PriceOf.f
  repeat' first
      | (with_reducible exact impl_PricesOf.mono _ _ _ _ _)
      | (with_reducible exact LeO.refl _)
      | (with_reducible exact LeO.none _)
      | (with_reducible refine LeO.ite ?_ ?_)
      | (with_reducible refine LeO.bind ?_ (fun _ => ?_))
      | exact impl_PricesOf.mono _ _ _ _ _
      | exact LeO.none _
      | refine LeO.ite ?_ ?_
      | refine LeO.bind ?_ (fun _ => ?_)
set_option maxHeartbeats 8000000 in
set_option maxRecDepth 100000 in
theorem impl_PriceOf.calls (k : Nat) (A0_0 : Option Addr) (c0_0 : Nat) (l0_0 : List Int) (A0_1 : Option Addr) (c0_1 : Nat) (l0_1 : List (List Int)) (a1 : Int) (a2 : Int) (r1 : Int) (r2 : Int) (w : World) (hr0_0 : Kd.C (Kd.int .i16) w A0_0 l0_0.length l0_0) (hc0_0 : l0_0.length ≤ c0_0) (hr0_1 : Kd.C (Kd.slice 57 (Kd.int .i16)) w A0_1 l0_1.length l0_1) (hc0_1 : l0_1.length ≤ c0_1) (h : impl_PriceOf.f k l0_0 l0_1 a1 a2 = some (r1, r2)) :
    Calls Try.prog 22 #[.agg #[.slice A0_0 l0_0.length c0_0, .slice A0_1 l0_1.length c0_1], .int .i64 a1, .int .i64 a2] w fun e w' => e = .returned (.tuple #[.int .i64 r1, .int .i64 r2]) ∧ Below w.heap.size w w' := by
  have hu28 := Try.underlying28
  have HR0_0 := Aside0.mk hr0_0
  have HC0_0 := Aside0.mk hc0_0
  clear hr0_0 hc0_0
  have HR0_1 := Aside0.mk hr0_1
  have HC0_1 := Aside0.mk hc0_1
  clear hr0_1 hc0_1
  have HB := Aside0.mk (Below.refl w.heap.size w)
  have H : ((impl_PricesOf.f k l0_0 l0_1 a1 (([a2] : List Int))).bind fun bt299 => (some (bt299.1, bt299.2))) = some (r1, r2) := h
  clear h
  obtain ⟨y296, hy296⟩ : ∃ y_ : List Int, y_ = (([a2] : List Int)) := ⟨_, rfl⟩
  replace H : ((impl_PricesOf.f k l0_0 l0_1 a1 y296).bind fun bt299 => (some (bt299.1, bt299.2))) = some (r1, r2) := by first | (rw [hy296]; with_reducible exact H) | (have H2_ := (Option.bind_some _ _).symm.trans H; rw [hy296]; with_reducible exact H2_) | (have H2_ := (Option.bind_some _ _).symm.trans H; with_reducible exact H2_) | with_reducible exact H | (rw [hy296]; exact H) | exact H
  have Ny296 := Aside0.mk hy296
  clear hy296
  replace H := Option.bind_eq_some_iff.mp H
  obtain ⟨⟨t299, t300⟩, A40, H⟩ := H
  replace H : (some (t299, t300)) = some (r1, r2) := H
  have A4 := Aside0.mk A40
  clear A40
  simp only [Option.some.injEq, Prod.mk.injEq] at H
  obtain ⟨rfl, rfl⟩ := H
  go_enter Try.func22, Try.ntmps22
  go_wp2_with (first | ((with_reducible refine gate_dst (N := 3) rfl ?_); refine box_event ?hg (N := 3) ?hd (cs := #[.slice A0_0 l0_0.length c0_0, .slice A0_1 l0_1.length c0_1]) (t := 28) ?hr ?_; (case hd => rfl); (case hg => rfl); (case hr => first | (go_simp; done) | (go_simp; rfl)); intro gb295 hg w5 hbox hb; have n0_ := Aside0.mk (below_step (by repeat (first | (with_reducible first | exact HB.out | apply below_alloc | apply pw_below_drewN | apply below_drew1) | exact HB.out)) hb); have n1_ := Aside0.mk (hbox); have n2_ := Aside0.mk ((by rw [hg]; exact (below_size (by repeat (first | (with_reducible first | exact HB.out | apply below_alloc | apply pw_below_drewN | apply below_drew1) | exact HB.out))) : w.heap.size ≤ gb295)); have n3_ := Aside0.mk ((by rw [hg]; exact (below_size (by repeat (first | (with_reducible first | exact HB.out | apply below_alloc | apply pw_below_drewN | apply below_drew1) | exact HB.out))) : w.heap.size ≤ gb295)); clear HB; have HB := n0_; have BK295 := n1_; have GW295 := n2_; have GE295 := n3_; clear n0_ n1_ n2_ n3_; clear hb hbox hg; have hcz6_0 : w5.cell? ⟨gb295, 0, none⟩ = some (.slice A0_0 l0_0.length c0_0) := (blk_cell BK295.out 0).trans rfl; have hcz6_1 : w5.cell? ⟨gb295, 1, none⟩ = some (.slice A0_1 l0_1.length c0_1) := (blk_cell BK295.out 1).trans rfl; have hfz6_0 := blk_frozen BK295.out 0; have hfz6_1 := blk_frozen BK295.out 1) | ((with_reducible refine gate_dst (N := 11) rfl ?_); refine Kd.R_lit (Kd.int .i64) _ 2 ?hg (N := 11) ?hd (xs := ([a2] : List Int)) (inner := [.int .i64 a2]) (ok := fun _ => True) (okp := fun _ => True) ?hr ?hp (fun _ hk => hk) trivial (Below.refl _ _) (Nat.le_refl _) (by simp) ?_; (case hd => rfl); (case hg => rfl); (case hr => first | (go_simp; done) | (go_simp; rfl)); (case hp => exact (Reps.one (show Kd.M (Kd.int .i64) _ _ _ a2 [.int .i64 a2] from rfl) (Reps.none _ _))); intro v297 w7 ho8 hb hg_ hnew_; clear hg_ hnew_; (first | rw [← Ny296.out] at ho8 | (simp only [Int.reduceToNat] at ho8; rw [← Ny296.out] at ho8)); have n0_ := Aside0.mk (Kd.R_lower ho8 (below_size (by repeat (first | (with_reducible first | exact HB.out | apply below_alloc | apply pw_below_drewN | apply below_drew1 | refine below_set ?_ GE295.out) | exact HB.out)))); have n1_ := Aside0.mk (blk_below (g := gb295) (o := .cells #[.slice A0_0 l0_0.length c0_0, .slice A0_1 l0_1.length c0_1] 28 (0, 0)) (by (with_reducible repeat (first | refine blk_drewN ?_ _ | refine blk_drew ?_ | refine blk_alloc ?_ _)); exact BK295.out) hb); have n2_ := Aside0.mk (below_step (by repeat (first | (with_reducible first | exact HB.out | apply below_alloc | apply pw_below_drewN | apply below_drew1 | refine below_set ?_ GE295.out) | exact HB.out)) hb); clear BK295; clear HB; have HO298 := n0_; have BK295 := n1_; have HB := n2_; clear n0_ n1_ n2_; clear hb ho8; obtain ⟨Ao9, co9, eo9⟩ := Kd.R_slice HO298.out; subst eo9) | ((with_reducible refine gate_callee (f := 61) rfl ?_); refine goesL_ (some 12) rfl rfl Try.func61 (by kernel_rfl) rfl #[.agg #[.slice A0_0 l0_0.length c0_0, .slice A0_1 l0_1.length c0_1], .int .i64 a1, .slice Ao9 y296.length co9] rfl (by (try simp only [List.map_toArray, List.map_cons, List.map_nil]); first | done | rfl | (simp only [List.length_drop, List.length_take]; rfl)) ?_; (with_reducible refine (impl_PricesOf.calls k _ _ l0_0 _ _ l0_1 a1 _ _ y296 t299 t300 _ ?side1 ?side2 ?side3 ?side4 ?side5 ?side6 A4.out).mono ?_); (case side1 => repeat (first | exact (Kd.C_below HR0_0.out HB.out) | (with_reducible refine Kd.C_alloc ?_ _) | (with_reducible refine Kd.C_drewN ?_ _) | (with_reducible refine Kd.C_drew ?_))); (case side2 => exact HC0_0.out); (case side3 => repeat (first | exact (Kd.C_below HR0_1.out HB.out) | (with_reducible refine Kd.C_alloc ?_ _) | (with_reducible refine Kd.C_drewN ?_ _) | (with_reducible refine Kd.C_drew ?_))); (case side4 => exact HC0_1.out); (case side5 => repeat (first | exact (Kd.R_reads' HO298.out).2.2 | (with_reducible refine Kd.C_alloc ?_ _) | (with_reducible refine Kd.C_drewN ?_ _) | (with_reducible refine Kd.C_drew ?_))); (case side6 => exact (Kd.R_reads' HO298.out).2.1); rintro e w10 ⟨rfl, hb⟩; refine ⟨_, rfl, ?_⟩; have n0_ := Aside0.mk (Kd.R_below (by (with_reducible repeat (first | apply Kd.R_alloc | apply Kd.R_drewN | apply Kd.R_drew)); exact HO298.out) hb); have n1_ := Aside0.mk (blk_below (g := gb295) (o := .cells #[.slice A0_0 l0_0.length c0_0, .slice A0_1 l0_1.length c0_1] 28 (0, 0)) (by (with_reducible repeat (first | refine blk_drewN ?_ _ | refine blk_drew ?_ | refine blk_alloc ?_ _)); exact BK295.out) hb); have n2_ := Aside0.mk (below_step (by repeat (first | (with_reducible first | exact HB.out | apply below_alloc | apply pw_below_drewN | apply below_drew1 | refine below_set ?_ GE295.out) | exact HB.out)) hb); clear HO298; clear BK295; clear HB; have HO298 := n0_; have BK295 := n1_; have HB := n2_; clear n0_ n1_ n2_; (try clear hb); (try clear hb2); (try clear hk); (try clear hi)))
  go_ret2
  exact ⟨by first | rfl | (simp [errW_none, errW_some] <;> rfl) | (simp [*, errW_none, errW_some] <;> rfl), by repeat (first | (with_reducible first | exact HB.out | apply below_alloc | apply pw_below_drewN | apply below_drew1 | refine below_set ?_ GE295.out) | exact HB.out)⟩

end Go.Proofs.Ytpcchfklmcalaaa.P

namespace Go.Proofs.Ytpcchfklmcalaaa.P
open Go.RowKit Go.Proofs.YtpcchfklmcalaaaW.PrintWords Go.Proofs.YtpcchfklmcalaaaW.PrintLast Go.Proofs.YtpcchfklmcalaaaW.PrintMore
attribute [local go_sem] max2_int min2_int max_two min_two max_three min_three max_four min_four   -- for this text's walks alone
set_option linter.unusedVariables false
set_option linter.unusedSimpArgs false

/-! ### laws_FnExactPriceOf: function 6 -/
def laws_FnExactPriceOf.j0 : Nat → Bool → List Int → List (List Int) → List Int → List (List Int) → Option (Bool)
  | 0, _, _, _, _, _ => none
  | k + 1, x42, x302000, x302001, x318000, x318001 => if x42 = true then (some false) else ((laws_toTable.f k x302000 x302001).bind fun bt320 => ((laws_eqTable.f k x318000 x318001 bt320.1 bt320.2).bind fun t326 => (if t326 = true then (some true) else (some false))))
def laws_FnExactPriceOf.f (k : Nat) (l0_0 : List Int) (l0_1 : List (List Int)) (a1 : Int) (a2 : Int) : Option (Bool) := (laws_szTable.f k l0_0 l0_1 1048576).bind fun t302 => (if t302 < 0 then (some true) else ((laws_toTable.f k l0_0 l0_1).bind fun bt303 => ((spec_PriceOf.f bt303.1 bt303.2 a1 a2).bind fun bt309 => ((laws_toTable.f k l0_0 l0_1).bind fun bt311 => ((impl_PriceOf.f k bt311.1 bt311.2 a1 a2).bind fun bt318 => (if bt318.1 = bt309.1 then (laws_FnExactPriceOf.j0 k (bt318.2 != bt309.2) l0_0 l0_1 bt311.1 bt311.2) else (laws_FnExactPriceOf.j0 k true l0_0 l0_1 bt311.1 bt311.2)))))))
theorem laws_FnExactPriceOf.mono_l : ∀ k, (∀ y0 y1 y2 y3 y4, LeO (laws_FnExactPriceOf.j0 k y0 y1 y2 y3 y4) (laws_FnExactPriceOf.j0 (k + 1) y0 y1 y2 y3 y4))
  | 0 => fun _ _ _ _ _ r h => by simp [laws_FnExactPriceOf.j0] at h
  | k + 1 => by
    have ih0 := laws_FnExactPriceOf.mono_l k
    · intro y0 y1 y2 y3 y4
      unfold laws_FnExactPriceOf.j0
      repeat' first
      | (with_reducible exact ih0 _ _ _ _ _)
      | (with_reducible exact impl_PriceOf.mono _ _ _ _ _)
      | (with_reducible exact laws_eqTable.mono _ _ _ _ _)
      | (with_reducible exact laws_szTable.mono _ _ _ _)
      | (with_reducible exact laws_toTable.mono _ _ _)
      | (with_reducible exact LeO.refl _)
      | (with_reducible exact LeO.none _)
      | (with_reducible refine LeO.ite ?_ ?_)
      | (with_reducible refine LeO.bind ?_ (fun _ => ?_))
      | exact ih0 _ _ _ _ _
      | exact impl_PriceOf.mono _ _ _ _ _
      | exact laws_eqTable.mono _ _ _ _ _
      | exact laws_szTable.mono _ _ _ _
      | exact laws_toTable.mono _ _ _
      | exact LeO.none _
      | refine LeO.ite ?_ ?_
      | refine LeO.bind ?_ (fun _ => ?_)
theorem laws_FnExactPriceOf.mono : ∀ a0 a1 a2 a3 k, LeO (laws_FnExactPriceOf.f k a0 a1 a2 a3) (laws_FnExactPriceOf.f (k + 1) a0 a1 a2 a3) := by
  intro a0 a1 a2 a3 k
  have ih0 := laws_FnExactPriceOf.mono_l k
  unfold laws_FnExactPriceOf.f
  repeat' first
      | (with_reducible exact ih0 _ _ _ _ _)
      | (with_reducible exact impl_PriceOf.mono _ _ _ _ _)
      | (with_reducible exact laws_eqTable.mono _ _ _ _ _)
      | (with_reducible exact laws_szTable.mono _ _ _ _)
      | (with_reducible exact laws_toTable.mono _ _ _)
      | (with_reducible exact LeO.refl _)
      | (with_reducible exact LeO.none _)
      | (with_reducible refine LeO.ite ?_ ?_)
      | (with_reducible refine LeO.bind ?_ (fun _ => ?_))
      | exact ih0 _ _ _ _ _
      | exact impl_PriceOf.mono _ _ _ _ _
      | exact laws_eqTable.mono _ _ _ _ _
      | exact laws_szTable.mono _ _ _ _
      | exact laws_toTable.mono _ _ _
      | exact LeO.none _
      | refine LeO.ite ?_ ?_
      | refine LeO.bind ?_ (fun _ => ?_)
set_option maxHeartbeats 8000000 in
set_option maxRecDepth 100000 in
theorem laws_FnExactPriceOf.calls (k : Nat) (A0_0 : Option Addr) (c0_0 : Nat) (l0_0 : List Int) (A0_1 : Option Addr) (c0_1 : Nat) (l0_1 : List (List Int)) (a1 : Int) (a2 : Int) (r : Bool) (w : World) (hr0_0 : Kd.C (Kd.int .i16) w A0_0 l0_0.length l0_0) (hc0_0 : l0_0.length ≤ c0_0) (hr0_1 : Kd.C (Kd.slice 57 (Kd.int .i16)) w A0_1 l0_1.length l0_1) (hc0_1 : l0_1.length ≤ c0_1) (h : laws_FnExactPriceOf.f k l0_0 l0_1 a1 a2 = some r) :
    Calls Try.prog 6 #[.agg #[.slice A0_0 l0_0.length c0_0, .slice A0_1 l0_1.length c0_1], .int .i64 a1, .int .i64 a2] w fun e w' => e = .returned (.bool r) ∧ Below w.heap.size w w' := by
  have hu25 := Try.underlying25
  have hu28 := Try.underlying28
  have HR0_0 := Aside0.mk hr0_0
  have HC0_0 := Aside0.mk hc0_0
  clear hr0_0 hc0_0
  have HR0_1 := Aside0.mk hr0_1
  have HC0_1 := Aside0.mk hc0_1
  clear hr0_1 hc0_1
  have HB := Aside0.mk (Below.refl w.heap.size w)
  have H : ((laws_szTable.f k l0_0 l0_1 1048576).bind fun t302 => (if t302 < 0 then (some true) else ((laws_toTable.f k l0_0 l0_1).bind fun bt303 => ((spec_PriceOf.f bt303.1 bt303.2 a1 a2).bind fun bt309 => ((laws_toTable.f k l0_0 l0_1).bind fun bt311 => ((impl_PriceOf.f k bt311.1 bt311.2 a1 a2).bind fun bt318 => (if bt318.1 = bt309.1 then (laws_FnExactPriceOf.j0 k (bt318.2 != bt309.2) l0_0 l0_1 bt311.1 bt311.2) else (laws_FnExactPriceOf.j0 k true l0_0 l0_1 bt311.1 bt311.2)))))))) = some r := h
  clear h
  replace H := Option.bind_eq_some_iff.mp H
  obtain ⟨t302, A40, H⟩ := H
  replace H : (if t302 < 0 then (some true) else ((laws_toTable.f k l0_0 l0_1).bind fun bt303 => ((spec_PriceOf.f bt303.1 bt303.2 a1 a2).bind fun bt309 => ((laws_toTable.f k l0_0 l0_1).bind fun bt311 => ((impl_PriceOf.f k bt311.1 bt311.2 a1 a2).bind fun bt318 => (if bt318.1 = bt309.1 then (laws_FnExactPriceOf.j0 k (bt318.2 != bt309.2) l0_0 l0_1 bt311.1 bt311.2) else (laws_FnExactPriceOf.j0 k true l0_0 l0_1 bt311.1 bt311.2))))))) = some r := H
  have A4 := Aside0.mk A40
  clear A40
  by_cases c5 : t302 < 0
  · rw [if_pos c5] at H
    have c5b0 : decide (t302 < 0) = true := decide_eq_true c5
    clear c5
    obtain rfl := Option.some.inj H
    go_enter Try.func6, Try.ntmps6
    go_wp2_with (first | ((with_reducible refine gate_dst (N := 3) rfl ?_); refine box_event ?hg (N := 3) ?hd (cs := #[.slice A0_0 l0_0.length c0_0, .slice A0_1 l0_1.length c0_1]) (t := 25) ?hr ?_; (case hd => rfl); (case hg => rfl); (case hr => first | (go_simp; done) | (go_simp; rfl)); intro gb301 hg w6 hbox hb; have n0_ := Aside0.mk (below_step (by repeat (first | (with_reducible first | exact HB.out | apply below_alloc | apply pw_below_drewN | apply below_drew1) | exact HB.out)) hb); have n1_ := Aside0.mk (hbox); have n2_ := Aside0.mk ((by rw [hg]; exact (below_size (by repeat (first | (with_reducible first | exact HB.out | apply below_alloc | apply pw_below_drewN | apply below_drew1) | exact HB.out))) : w.heap.size ≤ gb301)); have n3_ := Aside0.mk ((by rw [hg]; exact (below_size (by repeat (first | (with_reducible first | exact HB.out | apply below_alloc | apply pw_below_drewN | apply below_drew1) | exact HB.out))) : w.heap.size ≤ gb301)); clear HB; have HB := n0_; have BK301 := n1_; have GW301 := n2_; have GE301 := n3_; clear n0_ n1_ n2_ n3_; clear hb hbox hg; have hcz7_0 : w6.cell? ⟨gb301, 0, none⟩ = some (.slice A0_0 l0_0.length c0_0) := (blk_cell BK301.out 0).trans rfl; have hcz7_1 : w6.cell? ⟨gb301, 1, none⟩ = some (.slice A0_1 l0_1.length c0_1) := (blk_cell BK301.out 1).trans rfl; have hfz7_0 := blk_frozen BK301.out 0; have hfz7_1 := blk_frozen BK301.out 1) | ((with_reducible refine gate_callee (f := 12) rfl ?_); refine goesL_ (some 15) rfl rfl Try.func12 (by kernel_rfl) rfl #[.agg #[.slice A0_0 l0_0.length c0_0, .slice A0_1 l0_1.length c0_1], .int .i64 1048576] rfl (by (try simp only [List.map_toArray, List.map_cons, List.map_nil]); first | done | rfl | (simp only [List.length_drop, List.length_take]; rfl)) ?_; (with_reducible refine (laws_szTable.calls k _ _ l0_0 _ _ l0_1 1048576 t302 _ ?side1 ?side2 ?side3 ?side4 A4.out).mono ?_); (case side1 => repeat (first | exact (Kd.C_below HR0_0.out HB.out) | (with_reducible refine Kd.C_alloc ?_ _) | (with_reducible refine Kd.C_drewN ?_ _) | (with_reducible refine Kd.C_drew ?_))); (case side2 => exact HC0_0.out); (case side3 => repeat (first | exact (Kd.C_below HR0_1.out HB.out) | (with_reducible refine Kd.C_alloc ?_ _) | (with_reducible refine Kd.C_drewN ?_ _) | (with_reducible refine Kd.C_drew ?_))); (case side4 => exact HC0_1.out); rintro e w8 ⟨rfl, hb⟩; refine ⟨_, rfl, ?_⟩; have n0_ := Aside0.mk (blk_below (g := gb301) (o := .cells #[.slice A0_0 l0_0.length c0_0, .slice A0_1 l0_1.length c0_1] 25 (0, 0)) (by (with_reducible repeat (first | refine blk_drewN ?_ _ | refine blk_drew ?_ | refine blk_alloc ?_ _)); exact BK301.out) hb); have n1_ := Aside0.mk (below_step (by repeat (first | (with_reducible first | exact HB.out | apply below_alloc | apply pw_below_drewN | apply below_drew1 | refine below_set ?_ GE301.out) | exact HB.out)) hb); clear BK301; clear HB; have BK301 := n0_; have HB := n1_; clear n0_ n1_; (try clear hb); (try clear hb2); (try clear hk); (try clear hi)))
    go_ret
    exact ⟨by first | rfl | (simp [errW_none, errW_some] <;> rfl) | (simp [*, errW_none, errW_some] <;> rfl), by repeat (first | (with_reducible first | exact HB.out | apply below_alloc | apply pw_below_drewN | apply below_drew1 | refine below_set ?_ GE301.out) | exact HB.out)⟩
  · rw [if_neg c5] at H
    have c5b0 : decide (t302 < 0) = false := decide_eq_false c5
    clear c5
    replace H := Option.bind_eq_some_iff.mp H
    obtain ⟨⟨t303, t306⟩, A90, H⟩ := H
    replace H : ((spec_PriceOf.f t303 t306 a1 a2).bind fun bt309 => ((laws_toTable.f k l0_0 l0_1).bind fun bt311 => ((impl_PriceOf.f k bt311.1 bt311.2 a1 a2).bind fun bt318 => (if bt318.1 = bt309.1 then (laws_FnExactPriceOf.j0 k (bt318.2 != bt309.2) l0_0 l0_1 bt311.1 bt311.2) else (laws_FnExactPriceOf.j0 k true l0_0 l0_1 bt311.1 bt311.2))))) = some r := H
    have A9 := Aside0.mk A90
    clear A90
    replace H := Option.bind_eq_some_iff.mp H
    obtain ⟨⟨t309, t310⟩, A100, H⟩ := H
    replace H : ((laws_toTable.f k l0_0 l0_1).bind fun bt311 => ((impl_PriceOf.f k bt311.1 bt311.2 a1 a2).bind fun bt318 => (if bt318.1 = t309 then (laws_FnExactPriceOf.j0 k (bt318.2 != t310) l0_0 l0_1 bt311.1 bt311.2) else (laws_FnExactPriceOf.j0 k true l0_0 l0_1 bt311.1 bt311.2)))) = some r := H
    have A10 := Aside0.mk A100
    clear A100
    replace H := Option.bind_eq_some_iff.mp H
    obtain ⟨⟨t311, t314⟩, A110, H⟩ := H
    replace H : ((impl_PriceOf.f k t311 t314 a1 a2).bind fun bt318 => (if bt318.1 = t309 then (laws_FnExactPriceOf.j0 k (bt318.2 != t310) l0_0 l0_1 t311 t314) else (laws_FnExactPriceOf.j0 k true l0_0 l0_1 t311 t314))) = some r := H
    have A11 := Aside0.mk A110
    clear A110
    replace H := Option.bind_eq_some_iff.mp H
    obtain ⟨⟨t318, t319⟩, A120, H⟩ := H
    replace H : (if t318 = t309 then (laws_FnExactPriceOf.j0 k (t319 != t310) l0_0 l0_1 t311 t314) else (laws_FnExactPriceOf.j0 k true l0_0 l0_1 t311 t314)) = some r := H
    have A12 := Aside0.mk A120
    clear A120
    have HC13 := Aside0.mk H
    clear H
    go_enter Try.func6, Try.ntmps6
    go_upto_region 8 with (first | ((with_reducible refine gate_dst (N := 3) rfl ?_); refine box_event ?hg (N := 3) ?hd (cs := #[.slice A0_0 l0_0.length c0_0, .slice A0_1 l0_1.length c0_1]) (t := 25) ?hr ?_; (case hd => rfl); (case hg => rfl); (case hr => first | (go_simp; done) | (go_simp; rfl)); intro gb301 hg w14 hbox hb; have n0_ := Aside0.mk (below_step (by repeat (first | (with_reducible first | exact HB.out | apply below_alloc | apply pw_below_drewN | apply below_drew1) | exact HB.out)) hb); have n1_ := Aside0.mk (hbox); have n2_ := Aside0.mk ((by rw [hg]; exact (below_size (by repeat (first | (with_reducible first | exact HB.out | apply below_alloc | apply pw_below_drewN | apply below_drew1) | exact HB.out))) : w.heap.size ≤ gb301)); have n3_ := Aside0.mk ((by rw [hg]; exact (below_size (by repeat (first | (with_reducible first | exact HB.out | apply below_alloc | apply pw_below_drewN | apply below_drew1) | exact HB.out))) : w.heap.size ≤ gb301)); clear HB; have HB := n0_; have BK301 := n1_; have GW301 := n2_; have GE301 := n3_; clear n0_ n1_ n2_ n3_; clear hb hbox hg; have hcz15_0 : w14.cell? ⟨gb301, 0, none⟩ = some (.slice A0_0 l0_0.length c0_0) := (blk_cell BK301.out 0).trans rfl; have hcz15_1 : w14.cell? ⟨gb301, 1, none⟩ = some (.slice A0_1 l0_1.length c0_1) := (blk_cell BK301.out 1).trans rfl; have hfz15_0 := blk_frozen BK301.out 0; have hfz15_1 := blk_frozen BK301.out 1) | ((with_reducible refine gate_callee (f := 12) rfl ?_); refine goesL_ (some 15) rfl rfl Try.func12 (by kernel_rfl) rfl #[.agg #[.slice A0_0 l0_0.length c0_0, .slice A0_1 l0_1.length c0_1], .int .i64 1048576] rfl (by (try simp only [List.map_toArray, List.map_cons, List.map_nil]); first | done | rfl | (simp only [List.length_drop, List.length_take]; rfl)) ?_; (with_reducible refine (laws_szTable.calls k _ _ l0_0 _ _ l0_1 1048576 t302 _ ?side1 ?side2 ?side3 ?side4 A4.out).mono ?_); (case side1 => repeat (first | exact (Kd.C_below HR0_0.out HB.out) | (with_reducible refine Kd.C_alloc ?_ _) | (with_reducible refine Kd.C_drewN ?_ _) | (with_reducible refine Kd.C_drew ?_))); (case side2 => exact HC0_0.out); (case side3 => repeat (first | exact (Kd.C_below HR0_1.out HB.out) | (with_reducible refine Kd.C_alloc ?_ _) | (with_reducible refine Kd.C_drewN ?_ _) | (with_reducible refine Kd.C_drew ?_))); (case side4 => exact HC0_1.out); rintro e w16 ⟨rfl, hb⟩; refine ⟨_, rfl, ?_⟩; have n0_ := Aside0.mk (blk_below (g := gb301) (o := .cells #[.slice A0_0 l0_0.length c0_0, .slice A0_1 l0_1.length c0_1] 25 (0, 0)) (by (with_reducible repeat (first | refine blk_drewN ?_ _ | refine blk_drew ?_ | refine blk_alloc ?_ _)); exact BK301.out) hb); have n1_ := Aside0.mk (below_step (by repeat (first | (with_reducible first | exact HB.out | apply below_alloc | apply pw_below_drewN | apply below_drew1 | refine below_set ?_ GE301.out) | exact HB.out)) hb); clear BK301; clear HB; have BK301 := n0_; have HB := n1_; clear n0_ n1_; (try clear hb); (try clear hb2); (try clear hk); (try clear hi); have hcz17_0 : w16.cell? ⟨gb301, 0, none⟩ = some (.slice A0_0 l0_0.length c0_0) := (blk_cell BK301.out 0).trans rfl; have hcz17_1 : w16.cell? ⟨gb301, 1, none⟩ = some (.slice A0_1 l0_1.length c0_1) := (blk_cell BK301.out 1).trans rfl; have hfz17_0 := blk_frozen BK301.out 0; have hfz17_1 := blk_frozen BK301.out 1) | ((with_reducible refine gate_callee (f := 14) rfl ?_); refine goesL_ (some 20) rfl rfl Try.func14 (by kernel_rfl) rfl #[.agg #[.slice A0_0 l0_0.length c0_0, .slice A0_1 l0_1.length c0_1]] rfl (by (try simp only [List.map_toArray, List.map_cons, List.map_nil]); first | done | rfl | (simp only [List.length_drop, List.length_take]; rfl)) ?_; (with_reducible refine (laws_toTable.calls k _ _ l0_0 _ _ l0_1 t303 t306 _ ?side1 ?side2 ?side3 ?side4 A9.out).mono ?_); (case side1 => repeat (first | exact (Kd.C_below HR0_0.out HB.out) | (with_reducible refine Kd.C_alloc ?_ _) | (with_reducible refine Kd.C_drewN ?_ _) | (with_reducible refine Kd.C_drew ?_))); (case side2 => exact HC0_0.out); (case side3 => repeat (first | exact (Kd.C_below HR0_1.out HB.out) | (with_reducible refine Kd.C_alloc ?_ _) | (with_reducible refine Kd.C_drewN ?_ _) | (with_reducible refine Kd.C_drew ?_))); (case side4 => exact HC0_1.out); rintro e w18 ⟨v304, v307, rfl, ho0, ho1, hb⟩; refine ⟨_, rfl, ?_⟩; have n0_ := Aside0.mk (Kd.R_lower ho0 (below_size (by repeat (first | (with_reducible first | exact HB.out | apply below_alloc | apply pw_below_drewN | apply below_drew1 | refine below_set ?_ GE301.out) | exact HB.out)))); have n1_ := Aside0.mk (Kd.S_lower ho1 (below_size (by repeat (first | (with_reducible first | exact HB.out | apply below_alloc | apply pw_below_drewN | apply below_drew1 | refine below_set ?_ GE301.out) | exact HB.out)))); have n2_ := Aside0.mk (blk_below (g := gb301) (o := .cells #[.slice A0_0 l0_0.length c0_0, .slice A0_1 l0_1.length c0_1] 25 (0, 0)) (by (with_reducible repeat (first | refine blk_drewN ?_ _ | refine blk_drew ?_ | refine blk_alloc ?_ _)); exact BK301.out) hb); have n3_ := Aside0.mk (below_step (by repeat (first | (with_reducible first | exact HB.out | apply below_alloc | apply pw_below_drewN | apply below_drew1 | refine below_set ?_ GE301.out) | exact HB.out)) hb); clear BK301; clear HB; have HO305 := n0_; have HO308 := n1_; have BK301 := n2_; have HB := n3_; clear n0_ n1_ n2_ n3_; (try clear hb); (try clear hb2); (try clear hk); (try clear hi); (try clear ho0); (try clear ho1); obtain ⟨Ao19, co19, eo19⟩ := Kd.R_slice HO305.out; subst eo19; obtain ⟨Ao20, co20, eo20⟩ := Kd.S_slice HO308.out; subst eo20) | ((with_reducible refine gate_callee (f := 21) rfl ?_); refine goesL_ (some 23) rfl rfl Try.func21 (by kernel_rfl) rfl #[.agg #[.slice Ao19 t303.length co19, .slice Ao20 t306.length co20], .int .i64 a1, .int .i64 a2] rfl (by (try simp only [List.map_toArray, List.map_cons, List.map_nil]); first | done | rfl | (simp only [List.length_drop, List.length_take]; rfl)) ?_; (with_reducible refine (spec_PriceOf.calls _ _ t303 _ _ t306 a1 a2 t309 t310 _ ?side1 ?side2 ?side3 ?side4 A10.out).mono ?_); (case side1 => repeat (first | exact (Kd.R_reads' HO305.out).2.2 | (with_reducible refine Kd.C_alloc ?_ _) | (with_reducible refine Kd.C_drewN ?_ _) | (with_reducible refine Kd.C_drew ?_))); (case side2 => exact (Kd.R_reads' HO305.out).2.1); (case side3 => repeat (first | exact (Kd.S_reads' HO308.out).2.2 | (with_reducible refine Kd.C_alloc ?_ _) | (with_reducible refine Kd.C_drewN ?_ _) | (with_reducible refine Kd.C_drew ?_))); (case side4 => exact (Kd.S_reads' HO308.out).2.1); rintro e w21 ⟨rfl, hb⟩; refine ⟨_, rfl, ?_⟩; have n0_ := Aside0.mk (Kd.R_below (by (with_reducible repeat (first | apply Kd.R_alloc | apply Kd.R_drewN | apply Kd.R_drew)); exact HO305.out) hb); have n1_ := Aside0.mk (Kd.S_below (by (with_reducible repeat (first | apply Kd.S_alloc | apply Kd.S_drewN | apply Kd.S_drew)); exact HO308.out) hb); have n2_ := Aside0.mk (blk_below (g := gb301) (o := .cells #[.slice A0_0 l0_0.length c0_0, .slice A0_1 l0_1.length c0_1] 25 (0, 0)) (by (with_reducible repeat (first | refine blk_drewN ?_ _ | refine blk_drew ?_ | refine blk_alloc ?_ _)); exact BK301.out) hb); have n3_ := Aside0.mk (below_step (by repeat (first | (with_reducible first | exact HB.out | apply below_alloc | apply pw_below_drewN | apply below_drew1 | refine below_set ?_ GE301.out) | exact HB.out)) hb); clear HO305; clear HO308; clear BK301; clear HB; have HO305 := n0_; have HO308 := n1_; have BK301 := n2_; have HB := n3_; clear n0_ n1_ n2_ n3_; (try clear hb); (try clear hb2); (try clear hk); (try clear hi); have hcz22_0 : w21.cell? ⟨gb301, 0, none⟩ = some (.slice A0_0 l0_0.length c0_0) := (blk_cell BK301.out 0).trans rfl; have hcz22_1 : w21.cell? ⟨gb301, 1, none⟩ = some (.slice A0_1 l0_1.length c0_1) := (blk_cell BK301.out 1).trans rfl; have hfz22_0 := blk_frozen BK301.out 0; have hfz22_1 := blk_frozen BK301.out 1) | ((with_reducible refine gate_callee (f := 14) rfl ?_); refine goesL_ (some 27) rfl rfl Try.func14 (by kernel_rfl) rfl #[.agg #[.slice A0_0 l0_0.length c0_0, .slice A0_1 l0_1.length c0_1]] rfl (by (try simp only [List.map_toArray, List.map_cons, List.map_nil]); first | done | rfl | (simp only [List.length_drop, List.length_take]; rfl)) ?_; (with_reducible refine (laws_toTable.calls k _ _ l0_0 _ _ l0_1 t311 t314 _ ?side1 ?side2 ?side3 ?side4 A11.out).mono ?_); (case side1 => repeat (first | exact (Kd.C_below HR0_0.out HB.out) | (with_reducible refine Kd.C_alloc ?_ _) | (with_reducible refine Kd.C_drewN ?_ _) | (with_reducible refine Kd.C_drew ?_))); (case side2 => exact HC0_0.out); (case side3 => repeat (first | exact (Kd.C_below HR0_1.out HB.out) | (with_reducible refine Kd.C_alloc ?_ _) | (with_reducible refine Kd.C_drewN ?_ _) | (with_reducible refine Kd.C_drew ?_))); (case side4 => exact HC0_1.out); rintro e w23 ⟨v312, v315, rfl, ho0, ho1, hb⟩; refine ⟨_, rfl, ?_⟩; have n0_ := Aside0.mk (Kd.R_elder' (by (with_reducible repeat (first | apply Kd.R_alloc | apply Kd.R_drewN | apply Kd.R_drew)); exact HO305.out) (Kd.R_base ho0) hb); have n1_ := Aside0.mk (Kd.S_mono (Kd.S_told (Kd.S_told (Kd.S_old (by (with_reducible repeat (first | apply Kd.S_alloc | apply Kd.S_drewN | apply Kd.S_drew)); exact HO308.out) hb) (Kd.R_base ho0)) (Kd.S_base ho1)) (fun _ h_ => h_.1)); have n2_ := Aside0.mk (Kd.R_lower (Kd.R_new' ho0 (Kd.R_lt (by (with_reducible repeat (first | apply Kd.R_alloc | apply Kd.R_drewN | apply Kd.R_drew)); exact HO305.out))) (below_size (by repeat (first | (with_reducible first | exact HB.out | apply below_alloc | apply pw_below_drewN | apply below_drew1 | refine below_set ?_ GE301.out) | exact HB.out)))); have n3_ := Aside0.mk (Kd.S_lower (Kd.S_new' (Kd.S_new' ho1 (Kd.R_lt (by (with_reducible repeat (first | apply Kd.R_alloc | apply Kd.R_drewN | apply Kd.R_drew)); exact HO305.out))) (Kd.S_lt (by (with_reducible repeat (first | apply Kd.S_alloc | apply Kd.S_drewN | apply Kd.S_drew)); exact HO308.out))) (below_size (by repeat (first | (with_reducible first | exact HB.out | apply below_alloc | apply pw_below_drewN | apply below_drew1 | refine below_set ?_ GE301.out) | exact HB.out)))); have n4_ := Aside0.mk (blk_below (g := gb301) (o := .cells #[.slice A0_0 l0_0.length c0_0, .slice A0_1 l0_1.length c0_1] 25 (0, 0)) (by (with_reducible repeat (first | refine blk_drewN ?_ _ | refine blk_drew ?_ | refine blk_alloc ?_ _)); exact BK301.out) hb); have n5_ := Aside0.mk (below_step (by repeat (first | (with_reducible first | exact HB.out | apply below_alloc | apply pw_below_drewN | apply below_drew1 | refine below_set ?_ GE301.out) | exact HB.out)) hb); clear HO305; clear HO308; clear BK301; clear HB; have HO305 := n0_; have HO308 := n1_; have HO313 := n2_; have HO316 := n3_; have BK301 := n4_; have HB := n5_; clear n0_ n1_ n2_ n3_ n4_ n5_; (try clear hb); (try clear hb2); (try clear hk); (try clear hi); (try clear ho0); (try clear ho1)) | ((with_reducible refine gate_dst (N := 10) rfl ?_); refine box_event ?hg (N := 10) ?hd (cs := #[.slice none 0 0, .slice none 0 0]) (t := 28) ?hr ?_; (case hd => rfl); (case hg => rfl); (case hr => first | (go_simp; done) | (go_simp; rfl)); intro gb317 hg w24 hbox hb; have n0_ := Aside0.mk (Kd.R_below (by (with_reducible repeat (first | apply Kd.R_alloc | apply Kd.R_drewN | apply Kd.R_drew)); exact HO305.out) hb); have n1_ := Aside0.mk (Kd.S_below (by (with_reducible repeat (first | apply Kd.S_alloc | apply Kd.S_drewN | apply Kd.S_drew)); exact HO308.out) hb); have n2_ := Aside0.mk (Kd.R_below (by (with_reducible repeat (first | apply Kd.R_alloc | apply Kd.R_drewN | apply Kd.R_drew)); exact HO313.out) hb); have n3_ := Aside0.mk (Kd.S_below (by (with_reducible repeat (first | apply Kd.S_alloc | apply Kd.S_drewN | apply Kd.S_drew)); exact HO316.out) hb); have n4_ := Aside0.mk (blk_below (g := gb301) (o := .cells #[.slice A0_0 l0_0.length c0_0, .slice A0_1 l0_1.length c0_1] 25 (0, 0)) (by (with_reducible repeat (first | refine blk_drewN ?_ _ | refine blk_drew ?_ | refine blk_alloc ?_ _)); exact BK301.out) hb); have n5_ := Aside0.mk (below_step (by repeat (first | (with_reducible first | exact HB.out | apply below_alloc | apply pw_below_drewN | apply below_drew1 | refine below_set ?_ GE301.out) | exact HB.out)) hb); have n6_ := Aside0.mk (hbox); have n7_ := Aside0.mk ((by rw [hg]; exact (below_size (by repeat (first | (with_reducible first | exact HB.out | apply below_alloc | apply pw_below_drewN | apply below_drew1 | refine below_set ?_ GE301.out) | exact HB.out))) : w.heap.size ≤ gb317)); have n8_ := Aside0.mk ((by rw [hg]; exact (below_size (by repeat (first | (with_reducible first | exact HB.out | apply below_alloc | apply pw_below_drewN | apply below_drew1 | refine below_set ?_ GE301.out) | exact HB.out))) : w.heap.size ≤ gb317)); have n9_ := Aside0.mk ((by rw [hg]; exact Nat.ne_of_lt (blk_lt (g := gb301) (o := .cells #[.slice A0_0 l0_0.length c0_0, .slice A0_1 l0_1.length c0_1] 25 (0, 0)) (by (with_reducible repeat (first | refine blk_drewN ?_ _ | refine blk_drew ?_ | refine blk_alloc ?_ _)); exact BK301.out)) : gb301 ≠ gb317)); have n10_ := Aside0.mk ((by rw [hg]; exact Nat.ne_of_gt (blk_lt (g := gb301) (o := .cells #[.slice A0_0 l0_0.length c0_0, .slice A0_1 l0_1.length c0_1] 25 (0, 0)) (by (with_reducible repeat (first | refine blk_drewN ?_ _ | refine blk_drew ?_ | refine blk_alloc ?_ _)); exact BK301.out)) : gb317 ≠ gb301)); clear HO305; clear HO308; clear HO313; clear HO316; clear BK301; clear HB; have HO305 := n0_; have HO308 := n1_; have HO313 := n2_; have HO316 := n3_; have BK301 := n4_; have HB := n5_; have BK317 := n6_; have GW317 := n7_; have GE317 := n8_; have NB301_317 := n9_; have NB317_301 := n10_; clear n0_ n1_ n2_ n3_ n4_ n5_ n6_ n7_ n8_ n9_ n10_; clear hb hbox hg; obtain ⟨Ao25, co25, eo25⟩ := Kd.R_slice HO313.out; subst eo25; have hnb26 := NB317_301.out; have hnc26 := NB301_317.out; have hcz27_0 : w24.cell? ⟨gb317, 0, none⟩ = some (.slice none 0 0) := (blk_cell BK317.out 0).trans rfl; have hcz27_1 : w24.cell? ⟨gb317, 1, none⟩ = some (.slice none 0 0) := (blk_cell BK317.out 1).trans rfl; have hfz27_0 := blk_frozen BK317.out 0; have hfz27_1 := blk_frozen BK317.out 1; obtain ⟨Ao28, co28, eo28⟩ := Kd.S_slice HO316.out; subst eo28) | ((with_reducible refine gate_callee (f := 22) rfl ?_); refine goesL_ (some 32) rfl rfl Try.func22 (by kernel_rfl) rfl #[.agg #[.slice Ao25 t311.length co25, .slice Ao28 t314.length co28], .int .i64 a1, .int .i64 a2] rfl (by (try simp only [List.map_toArray, List.map_cons, List.map_nil]); first | done | rfl | (simp only [List.length_drop, List.length_take]; rfl)) ?_; (with_reducible refine (impl_PriceOf.calls k _ _ t311 _ _ t314 a1 a2 t318 t319 _ ?side1 ?side2 ?side3 ?side4 A12.out).mono ?_); (case side1 => refine (Kd.R_reads' (e := 57) (base := w.heap.size) (ok := fun k_ => (True ∧ some k_ ≠ (.slice Ao19 t303.length co19 : Value).ownBlock)) (n := t311.length) (c := co25) ?_).2.2; exact (by (with_reducible repeat (first | apply Kd.R_alloc | apply Kd.R_drewN | apply Kd.R_drew)); exact (Kd.R_mono (Kd.R_far (p := ⟨gb317, 1, none⟩) (Kd.R_far (p := ⟨gb317, 0, none⟩) (Kd.R_types HO313.out BK317.out (by decide)) (fun _ hk => hk.2) (.slice Ao25 t311.length co25)) (fun _ hk => hk.2) (.slice Ao28 t314.length co28)) (fun _ h_ => h_.1)))); (case side2 => exact (Kd.R_reads' HO313.out).2.1); (case side3 => refine (Kd.S_reads' (e := 22) (base := w.heap.size) (ok := fun k_ => ((some k_ ≠ (.slice Ao25 t311.length co25 : Value).ownBlock ∧ some k_ ≠ (.slice Ao19 t303.length co19 : Value).ownBlock) ∧ some k_ ≠ (.slice Ao20 t306.length co20 : Value).ownBlock)) (n := t314.length) (c := co28) ?_).2.2; exact (by (with_reducible repeat (first | apply Kd.S_alloc | apply Kd.S_drewN | apply Kd.S_drew)); exact (Kd.S_mono (Kd.S_far (p := ⟨gb317, 1, none⟩) (Kd.S_far (p := ⟨gb317, 0, none⟩) (Kd.S_types HO316.out BK317.out (by decide)) (fun _ hk => hk.2) (.slice Ao25 t311.length co25)) (fun _ hk => hk.2) (.slice Ao28 t314.length co28)) (fun _ h_ => h_.1)))); (case side4 => exact (Kd.S_reads' HO316.out).2.1); rintro e w29 ⟨rfl, hb⟩; refine ⟨_, rfl, ?_⟩; have n0_ := Aside0.mk (Kd.R_below (by (with_reducible repeat (first | apply Kd.R_alloc | apply Kd.R_drewN | apply Kd.R_drew)); exact (Kd.R_mono (Kd.R_far (p := ⟨gb317, 1, none⟩) (Kd.R_far (p := ⟨gb317, 0, none⟩) (Kd.R_types HO305.out BK317.out (by decide)) (fun _ hk => hk.2) (.slice Ao25 t311.length co25)) (fun _ hk => hk.2) (.slice Ao28 t314.length co28)) (fun _ h_ => h_.1))) hb); have n1_ := Aside0.mk (Kd.S_below (by (with_reducible repeat (first | apply Kd.S_alloc | apply Kd.S_drewN | apply Kd.S_drew)); exact (Kd.S_mono (Kd.S_far (p := ⟨gb317, 1, none⟩) (Kd.S_far (p := ⟨gb317, 0, none⟩) (Kd.S_types HO308.out BK317.out (by decide)) (fun _ hk => hk.2) (.slice Ao25 t311.length co25)) (fun _ hk => hk.2) (.slice Ao28 t314.length co28)) (fun _ h_ => h_.1))) hb); have n2_ := Aside0.mk (Kd.R_below (by (with_reducible repeat (first | apply Kd.R_alloc | apply Kd.R_drewN | apply Kd.R_drew)); exact (Kd.R_mono (Kd.R_far (p := ⟨gb317, 1, none⟩) (Kd.R_far (p := ⟨gb317, 0, none⟩) (Kd.R_types HO313.out BK317.out (by decide)) (fun _ hk => hk.2) (.slice Ao25 t311.length co25)) (fun _ hk => hk.2) (.slice Ao28 t314.length co28)) (fun _ h_ => h_.1))) hb); have n3_ := Aside0.mk (Kd.S_below (by (with_reducible repeat (first | apply Kd.S_alloc | apply Kd.S_drewN | apply Kd.S_drew)); exact (Kd.S_mono (Kd.S_far (p := ⟨gb317, 1, none⟩) (Kd.S_far (p := ⟨gb317, 0, none⟩) (Kd.S_types HO316.out BK317.out (by decide)) (fun _ hk => hk.2) (.slice Ao25 t311.length co25)) (fun _ hk => hk.2) (.slice Ao28 t314.length co28)) (fun _ h_ => h_.1))) hb); have n4_ := Aside0.mk (blk_below (g := gb301) (o := .cells #[.slice A0_0 l0_0.length c0_0, .slice A0_1 l0_1.length c0_1] 25 (0, 0)) (by (with_reducible repeat (first | refine blk_drewN ?_ _ | refine blk_drew ?_ | refine blk_alloc ?_ _)); refine blk_far ?_ NB301_317.out _; (with_reducible repeat (first | refine blk_drewN ?_ _ | refine blk_drew ?_ | refine blk_alloc ?_ _)); refine blk_far ?_ NB301_317.out _; (with_reducible repeat (first | refine blk_drewN ?_ _ | refine blk_drew ?_ | refine blk_alloc ?_ _)); exact BK301.out) hb); have n5_ := Aside0.mk (blk_below (g := gb317) (o := .cells #[.slice Ao25 t311.length co25, .slice Ao28 t314.length co28] 28 (0, 0)) (by (with_reducible repeat (first | refine blk_drewN ?_ _ | refine blk_drew ?_ | refine blk_alloc ?_ _)); refine blk_put (cs := #[.slice Ao25 t311.length co25, .slice none 0 0]) ?_ 1 _ rfl; (with_reducible repeat (first | refine blk_drewN ?_ _ | refine blk_drew ?_ | refine blk_alloc ?_ _)); refine blk_put (cs := #[.slice none 0 0, .slice none 0 0]) ?_ 0 _ rfl; (with_reducible repeat (first | refine blk_drewN ?_ _ | refine blk_drew ?_ | refine blk_alloc ?_ _)); exact BK317.out) hb); have n6_ := Aside0.mk (below_step (by repeat (first | (with_reducible first | exact HB.out | apply below_alloc | apply pw_below_drewN | apply below_drew1 | refine below_set ?_ GE301.out | refine below_set ?_ GE317.out) | exact HB.out)) hb); clear HO305; clear HO308; clear HO313; clear HO316; clear BK301; clear BK317; clear HB; have HO305 := n0_; have HO308 := n1_; have HO313 := n2_; have HO316 := n3_; have BK301 := n4_; have BK317 := n5_; have HB := n6_; clear n0_ n1_ n2_ n3_ n4_ n5_ n6_; (try clear hb); (try clear hb2); (try clear hk); (try clear hi)))
    (try simp only [Act.put, List.setIfInBounds_toArray, List.set_cons_zero, List.set_cons_succ])
    go_cut [42] (fun v42 wc => ∃ (kq : Nat) (x42_12 : Bool), v42 = .bool x42_12 ∧ Aside0 (laws_FnExactPriceOf.j0 kq x42_12 l0_0 l0_1 t311 t314 = some r) ∧ Aside0 (kq ≤ k) ∧ Aside0 (Kd.R (Kd.int .i16) 57 wc w.heap.size (fun _ => True) (.slice Ao25 t311.length co25) t311) ∧ Aside0 (Kd.S (Kd.slice 57 (Kd.int .i16)) 22 wc w.heap.size (fun k_ => some k_ ≠ ((.slice Ao25 t311.length co25) : Value).ownBlock) (.slice Ao28 t314.length co28) t314) ∧ Aside0 (wc.heap[gb301]? = some (.cells #[(.slice A0_0 l0_0.length c0_0), (.slice A0_1 l0_1.length c0_1)] 25 (0, 0))) ∧ Aside0 (wc.heap[gb317]? = some (.cells #[(.slice Ao25 t311.length co25), (.slice Ao28 t314.length co28)] 28 (0, 0))) ∧ Aside0 (Below w.heap.size w wc))
    case first =>
      have H := HC13.out
      clear HC13
      by_cases c30 : t318 = t309
      · rw [if_pos c30] at H
        have c30b0 : (t318 == t309) = true := beq_iff_eq.mpr c30
        have c30b1 : (t318 != t309) = false := bne_eq_false_iff_eq.mpr c30
        clear c30
        (first | rw [c30b0] | (simp only [i64_w, i32_w]; rw [c30b0]) | skip)
        have H' := Aside0.mk H
        clear H
        go_wp2
        go_meet
        case rel => exact ⟨_, ((t319 != t310)), (by first | rfl | (simp; done) | (simp [*]; done)), H', ⟨by first | omega | exact Nat.le_refl _⟩, ⟨by (with_reducible repeat (first | apply Kd.R_alloc | apply Kd.R_drewN | apply Kd.R_drew)); exact Kd.R_mono HO313.out (fun _ hk => trivial)⟩, ⟨by (with_reducible repeat (first | apply Kd.S_alloc | apply Kd.S_drewN | apply Kd.S_drew)); exact Kd.S_mono HO316.out (fun _ hk => hk.1.1)⟩, ⟨by (with_reducible repeat (first | refine blk_drewN ?_ _ | refine blk_drew ?_ | refine blk_alloc ?_ _)); exact BK301.out⟩, ⟨by (with_reducible repeat (first | refine blk_drewN ?_ _ | refine blk_drew ?_ | refine blk_alloc ?_ _)); exact BK317.out⟩, ⟨by repeat (first | (with_reducible first | exact HB.out | apply below_alloc | apply pw_below_drewN | apply below_drew1 | refine below_set ?_ GE301.out | refine below_set ?_ GE317.out) | exact HB.out)⟩⟩
      · rw [if_neg c30] at H
        have c30b0 : (t318 == t309) = false := beq_eq_false_iff_ne.mpr c30
        have c30b1 : (t318 != t309) = true := bne_iff_ne.mpr c30
        (first | rw [c30b0] | (simp only [i64_w, i32_w]; rw [c30b0]) | skip)
        have H' := Aside0.mk H
        clear H
        go_wp2
        go_meet
        case rel => exact ⟨_, (true), (by first | rfl | (simp; done) | (simp [*]; done)), H', ⟨by first | omega | exact Nat.le_refl _⟩, ⟨by (with_reducible repeat (first | apply Kd.R_alloc | apply Kd.R_drewN | apply Kd.R_drew)); exact Kd.R_mono HO313.out (fun _ hk => trivial)⟩, ⟨by (with_reducible repeat (first | apply Kd.S_alloc | apply Kd.S_drewN | apply Kd.S_drew)); exact Kd.S_mono HO316.out (fun _ hk => hk.1.1)⟩, ⟨by (with_reducible repeat (first | refine blk_drewN ?_ _ | refine blk_drew ?_ | refine blk_alloc ?_ _)); exact BK301.out⟩, ⟨by (with_reducible repeat (first | refine blk_drewN ?_ _ | refine blk_drew ?_ | refine blk_alloc ?_ _)); exact BK317.out⟩, ⟨by repeat (first | (with_reducible first | exact HB.out | apply below_alloc | apply pw_below_drewN | apply below_drew1 | refine below_set ?_ GE301.out | refine below_set ?_ GE317.out) | exact HB.out)⟩⟩
    case rest =>
      clear HC13
      try clear c1
      try clear c2
      try clear p2
      try clear c3
      try clear c5
      try clear c5b0
      try clear c6
      try clear c12
      try clear c14
      try clear c21
      try clear c22
      try clear c26
      try clear c30
      try clear c30b0
      try clear c30b1
      try clear hcz15_0
      try clear hcz15_1
      try clear hcz17_0
      try clear hcz17_1
      try clear hcz22_0
      try clear hcz22_1
      try clear hcz27_0
      try clear hcz27_1
      try clear hcz7_0
      try clear hcz7_1
      try clear hfz15_0
      try clear hfz15_1
      try clear hfz17_0
      try clear hfz17_1
      try clear hfz22_0
      try clear hfz22_1
      try clear hfz27_0
      try clear hfz27_1
      try clear hfz7_0
      try clear hfz7_1
      obtain ⟨kq, x42_12, rfl, HA, HJ12, HO_318000, HO_318001, BK301, BK317, HB⟩ := hcut
      cases kq with
      | zero => exact absurd HA.out (by simp [laws_FnExactPriceOf.j0])
      | succ kj12 =>
        have H := HA.out
        clear HA
        simp only [laws_FnExactPriceOf.j0] at H
        by_cases c31 : x42_12 = true
        · subst c31
          have H1 : (some false) = some r := by rw [if_pos rfl] at H; exact H
          clear H
          have H := H1
          clear H1
          obtain rfl := Option.some.inj H
          go_wp2
          go_ret
          exact ⟨by first | rfl | (simp [errW_none, errW_some] <;> rfl) | (simp [*, errW_none, errW_some] <;> rfl), by repeat (first | (with_reducible first | exact HB.out | apply below_alloc | apply pw_below_drewN | apply below_drew1 | refine below_set ?_ GE301.out | refine below_set ?_ GE317.out) | exact HB.out)⟩
        · replace c31 := Bool.eq_false_iff.mpr c31
          subst c31
          have H1 : ((laws_toTable.f kj12 l0_0 l0_1).bind fun bt320 => ((laws_eqTable.f kj12 t311 t314 bt320.1 bt320.2).bind fun t326 => (if t326 = true then (some true) else (some false)))) = some r := by rw [if_neg (show ¬ (false = true) by decide)] at H; exact H
          clear H
          have H := H1
          clear H1
          replace H := Option.bind_eq_some_iff.mp H
          obtain ⟨⟨t320, t323⟩, A320, H⟩ := H
          replace H : ((laws_eqTable.f kj12 t311 t314 t320 t323).bind fun t326 => (if t326 = true then (some true) else (some false))) = some r := H
          have A32 := Aside0.mk A320
          clear A320
          replace H := Option.bind_eq_some_iff.mp H
          obtain ⟨t326, A330, H⟩ := H
          replace H : (if t326 = true then (some true) else (some false)) = some r := H
          have A33 := Aside0.mk A330
          clear A330
          by_cases c34 : t326 = true
          · subst c34
            have H1 : (some true) = some r := by rw [if_pos rfl] at H; exact H
            clear H
            have H := H1
            clear H1
            obtain rfl := Option.some.inj H
            try go_wp2
            have n0_ := Aside0.mk (Kd.R_drew HO_318000.out)
            have n1_ := Aside0.mk (Kd.S_drew HO_318001.out)
            have n2_ := Aside0.mk (blk_drew BK301.out)
            have n3_ := Aside0.mk (blk_drew BK317.out)
            have n4_ := Aside0.mk (below_drew1 HB.out)
            clear HO_318000
            clear HO_318001
            clear BK301
            clear BK317
            clear HB
            have HO_318000 := n0_
            have HO_318001 := n1_
            have BK301 := n2_
            have BK317 := n3_
            have HB := n4_
            clear n0_ n1_ n2_ n3_ n4_
            refine start_ (n := 5) (S := fun w' => w'.cell? ⟨gb317, 0, none⟩ = some (.slice Ao25 t311.length co25) ∧ w'.cell? ⟨gb317, 1, none⟩ = some (.slice Ao28 t314.length co28) ∧ w'.cell? ⟨gb301, 0, none⟩ = some (.slice A0_0 l0_0.length c0_0) ∧ w'.cell? ⟨gb301, 1, none⟩ = some (.slice A0_1 l0_1.length c0_1)) (ds := []) #[false, false, false, false, false] (by kernel_rfl) rfl rfl ⟨(blk_cell BK317.out 0).trans rfl, (blk_cell BK317.out 1).trans rfl, (blk_cell BK301.out 0).trans rfl, (blk_cell BK301.out 1).trans rfl⟩ (fun hHeld => ?_)
            generalize wc.drew = w35 at HO_318000 HO_318001 BK301 BK317 HB hHeld ⊢
            refine take_ (i := 0) (N := some 43) (v := ?_) (a' := ?_) #[true, false, false, false, false] rfl rfl (by kernel_rfl) (fun _ _ _ h => h) (Or.inl ⟨by rfl, ?_⟩) hHeld ?_ ?_
            rotate_left
            · rintro w' ⟨s0, s1, s2, s3⟩
              go_simp
              with_reducible rfl
            rotate_left
            · simp only [Act.put, List.setIfInBounds_toArray, List.set_cons_zero, List.set_cons_succ, i64_w, i32_w]
              rfl
            refine take_ (i := 1) (N := some 44) (v := ?_) (a' := ?_) #[true, true, false, false, false] rfl rfl (by kernel_rfl) (fun _ _ _ h => h) (Or.inl ⟨by rfl, ?_⟩) hHeld ?_ ?_
            rotate_left
            · rintro w' ⟨s0, s1, s2, s3⟩
              go_simp
              with_reducible rfl
            rotate_left
            · simp only [Act.put, List.setIfInBounds_toArray, List.set_cons_zero, List.set_cons_succ, i64_w, i32_w]
              rfl
            refine one_ (i := 2) (N := some 45) #[true, true, true, false, false] rfl rfl (by kernel_rfl) (by decide) (fun K hK => ?_)
            refine goes_ Try.func14 (by kernel_rfl) rfl #[.agg #[.slice A0_0 l0_0.length c0_0, .slice A0_1 l0_1.length c0_1]] (by rfl) rfl rfl (by (try simp only [List.map_toArray, List.map_cons, List.map_nil]); first | done | rfl | (simp only [List.length_drop, List.length_take]; rfl)) ?_
            with_reducible refine (laws_toTable.calls kj12 _ _ l0_0 _ _ l0_1 t320 t323 _ ?side1 ?side2 ?side3 ?side4 A32.out).mono ?_
            (case side1 => repeat (first | exact (Kd.C_below HR0_0.out HB.out) | (with_reducible refine Kd.C_alloc ?_ _) | (with_reducible refine Kd.C_drewN ?_ _) | (with_reducible refine Kd.C_drew ?_)))
            (case side2 => exact HC0_0.out)
            (case side3 => repeat (first | exact (Kd.C_below HR0_1.out HB.out) | (with_reducible refine Kd.C_alloc ?_ _) | (with_reducible refine Kd.C_drewN ?_ _) | (with_reducible refine Kd.C_drew ?_)))
            (case side4 => exact HC0_1.out)
            rintro e w36 ⟨v321, v324, rfl, ho0, ho1, hb⟩
            refine ⟨_, rfl, ?_⟩
            have n0_ := Aside0.mk (Kd.R_elder' (by (with_reducible repeat (first | apply Kd.R_alloc | apply Kd.R_drewN | apply Kd.R_drew)); exact HO_318000.out) (Kd.R_base ho0) hb)
            have n1_ := Aside0.mk (Kd.S_mono (Kd.S_told (Kd.S_told (Kd.S_old (by (with_reducible repeat (first | apply Kd.S_alloc | apply Kd.S_drewN | apply Kd.S_drew)); exact HO_318001.out) hb) (Kd.R_base ho0)) (Kd.S_base ho1)) (fun _ h_ => h_.1))
            have n2_ := Aside0.mk (Kd.R_lower (Kd.R_new' ho0 (Kd.R_lt (by (with_reducible repeat (first | apply Kd.R_alloc | apply Kd.R_drewN | apply Kd.R_drew)); exact HO_318000.out))) (below_size (by repeat (first | (with_reducible first | exact HB.out | apply below_alloc | apply pw_below_drewN | apply below_drew1 | refine below_set ?_ GE301.out | refine below_set ?_ GE317.out) | exact HB.out))))
            have n3_ := Aside0.mk (Kd.S_lower (Kd.S_new' (Kd.S_new' ho1 (Kd.R_lt (by (with_reducible repeat (first | apply Kd.R_alloc | apply Kd.R_drewN | apply Kd.R_drew)); exact HO_318000.out))) (Kd.S_lt (by (with_reducible repeat (first | apply Kd.S_alloc | apply Kd.S_drewN | apply Kd.S_drew)); exact HO_318001.out))) (below_size (by repeat (first | (with_reducible first | exact HB.out | apply below_alloc | apply pw_below_drewN | apply below_drew1 | refine below_set ?_ GE301.out | refine below_set ?_ GE317.out) | exact HB.out))))
            have n4_ := Aside0.mk (blk_below (g := gb301) (o := .cells #[.slice A0_0 l0_0.length c0_0, .slice A0_1 l0_1.length c0_1] 25 (0, 0)) (by (with_reducible repeat (first | refine blk_drewN ?_ _ | refine blk_drew ?_ | refine blk_alloc ?_ _)); exact BK301.out) hb)
            have n5_ := Aside0.mk (blk_below (g := gb317) (o := .cells #[.slice Ao25 t311.length co25, .slice Ao28 t314.length co28] 28 (0, 0)) (by (with_reducible repeat (first | refine blk_drewN ?_ _ | refine blk_drew ?_ | refine blk_alloc ?_ _)); exact BK317.out) hb)
            have n6_ := Aside0.mk (below_step (by repeat (first | (with_reducible first | exact HB.out | apply below_alloc | apply pw_below_drewN | apply below_drew1 | refine below_set ?_ GE301.out | refine below_set ?_ GE317.out) | exact HB.out)) hb)
            clear HO_318000
            clear HO_318001
            clear BK301
            clear BK317
            clear HB
            have HO_318000 := n0_
            have HO_318001 := n1_
            have HO322 := n2_
            have HO325 := n3_
            have BK301 := n4_
            have BK317 := n5_
            have HB := n6_
            clear n0_ n1_ n2_ n3_ n4_ n5_ n6_
            (try clear hb)
            (try clear hb2)
            (try clear hk)
            (try clear hi)
            (try clear ho0)
            (try clear ho1)
            obtain ⟨Ao37, co37, eo37⟩ := Kd.R_slice HO322.out
            (first | subst eo37 | (injection eo37 with f1_ f2_ f3_; have f4_ := f1_.symm; have f5_ := f3_.symm; clear f1_ f2_ f3_; subst f4_; subst f5_))
            obtain ⟨Ao38, co38, eo38⟩ := Kd.S_slice HO325.out
            (first | subst eo38 | (injection eo38 with f1_ f2_ f3_; have f4_ := f1_.symm; have f5_ := f3_.symm; clear f1_ f2_ f3_; subst f4_; subst f5_))
            refine hK.out _ _ ⟨(blk_cell BK317.out 0).trans rfl, (blk_cell BK317.out 1).trans rfl, (blk_cell BK301.out 0).trans rfl, (blk_cell BK301.out 1).trans rfl⟩ (fun hHeld => ?_)
            clear hK K
            refine norm_ (a' := ?_) ?_ ?_
            rotate_left
            · show Act.put _ (some 45) _ = _
              simp only [Act.put, List.setIfInBounds_toArray, List.set_cons_zero, List.set_cons_succ, i64_w, i32_w]
              rfl
            refine one_ (i := 3) (N := some 46) #[true, true, true, true, false] rfl rfl (by kernel_rfl) (by decide) (fun K hK => ?_)
            refine goes_ Try.func16 (by kernel_rfl) rfl #[.agg #[.slice Ao25 t311.length co25, .slice Ao28 t314.length co28], .agg #[.slice Ao37 t320.length co37, .slice Ao38 t323.length co38]] (by rfl) rfl rfl (by (try simp only [List.map_toArray, List.map_cons, List.map_nil]); first | done | rfl | (simp only [List.length_drop, List.length_take]; rfl)) ?_
            with_reducible refine (laws_eqTable.calls kj12 _ _ t311 _ _ t314 _ _ t320 _ _ t323 true _ ?side1 ?side2 ?side3 ?side4 ?side5 ?side6 ?side7 ?side8 A33.out).mono ?_
            (case side1 => repeat (first | exact (Kd.R_reads' HO_318000.out).2.2 | (with_reducible refine Kd.C_alloc ?_ _) | (with_reducible refine Kd.C_drewN ?_ _) | (with_reducible refine Kd.C_drew ?_)))
            (case side2 => exact (Kd.R_reads' HO_318000.out).2.1)
            (case side3 => repeat (first | exact (Kd.S_reads' HO_318001.out).2.2 | (with_reducible refine Kd.C_alloc ?_ _) | (with_reducible refine Kd.C_drewN ?_ _) | (with_reducible refine Kd.C_drew ?_)))
            (case side4 => exact (Kd.S_reads' HO_318001.out).2.1)
            (case side5 => repeat (first | exact (Kd.R_reads' HO322.out).2.2 | (with_reducible refine Kd.C_alloc ?_ _) | (with_reducible refine Kd.C_drewN ?_ _) | (with_reducible refine Kd.C_drew ?_)))
            (case side6 => exact (Kd.R_reads' HO322.out).2.1)
            (case side7 => repeat (first | exact (Kd.S_reads' HO325.out).2.2 | (with_reducible refine Kd.C_alloc ?_ _) | (with_reducible refine Kd.C_drewN ?_ _) | (with_reducible refine Kd.C_drew ?_)))
            (case side8 => exact (Kd.S_reads' HO325.out).2.1)
            rintro e w39 ⟨rfl, hb⟩
            refine ⟨_, rfl, ?_⟩
            have n0_ := Aside0.mk (Kd.R_below (by (with_reducible repeat (first | apply Kd.R_alloc | apply Kd.R_drewN | apply Kd.R_drew)); exact HO_318000.out) hb)
            have n1_ := Aside0.mk (Kd.S_below (by (with_reducible repeat (first | apply Kd.S_alloc | apply Kd.S_drewN | apply Kd.S_drew)); exact HO_318001.out) hb)
            have n2_ := Aside0.mk (Kd.R_below (by (with_reducible repeat (first | apply Kd.R_alloc | apply Kd.R_drewN | apply Kd.R_drew)); exact HO322.out) hb)
            have n3_ := Aside0.mk (Kd.S_below (by (with_reducible repeat (first | apply Kd.S_alloc | apply Kd.S_drewN | apply Kd.S_drew)); exact HO325.out) hb)
            have n4_ := Aside0.mk (blk_below (g := gb301) (o := .cells #[.slice A0_0 l0_0.length c0_0, .slice A0_1 l0_1.length c0_1] 25 (0, 0)) (by (with_reducible repeat (first | refine blk_drewN ?_ _ | refine blk_drew ?_ | refine blk_alloc ?_ _)); exact BK301.out) hb)
            have n5_ := Aside0.mk (blk_below (g := gb317) (o := .cells #[.slice Ao25 t311.length co25, .slice Ao28 t314.length co28] 28 (0, 0)) (by (with_reducible repeat (first | refine blk_drewN ?_ _ | refine blk_drew ?_ | refine blk_alloc ?_ _)); exact BK317.out) hb)
            have n6_ := Aside0.mk (below_step (by repeat (first | (with_reducible first | exact HB.out | apply below_alloc | apply pw_below_drewN | apply below_drew1 | refine below_set ?_ GE301.out | refine below_set ?_ GE317.out) | exact HB.out)) hb)
            clear HO_318000
            clear HO_318001
            clear HO322
            clear HO325
            clear BK301
            clear BK317
            clear HB
            have HO_318000 := n0_
            have HO_318001 := n1_
            have HO322 := n2_
            have HO325 := n3_
            have BK301 := n4_
            have BK317 := n5_
            have HB := n6_
            clear n0_ n1_ n2_ n3_ n4_ n5_ n6_
            (try clear hb)
            (try clear hb2)
            (try clear hk)
            (try clear hi)
            refine hK.out _ _ ⟨(blk_cell BK317.out 0).trans rfl, (blk_cell BK317.out 1).trans rfl, (blk_cell BK301.out 0).trans rfl, (blk_cell BK301.out 1).trans rfl⟩ (fun hHeld => ?_)
            clear hK K
            refine norm_ (a' := ?_) ?_ ?_
            rotate_left
            · show Act.put _ (some 46) _ = _
              simp only [Act.put, List.setIfInBounds_toArray, List.set_cons_zero, List.set_cons_succ, i64_w, i32_w]
              rfl
            refine pure_ (i := 4) (N := some 47) (v := ?_) (a' := ?_) #[true, true, true, true, true] rfl rfl (by kernel_rfl) (fun _ _ _ h => h) (Or.inl ⟨by rfl, ?_⟩) ?_ ?_
            rotate_left
            · intro w'
              go_simp
              with_reducible rfl
            rotate_left
            · simp only [Act.put, List.setIfInBounds_toArray, List.set_cons_zero, List.set_cons_succ, i64_w, i32_w]
              rfl
            refine done_ (by kernel_rfl) ?_
            try go_wp2
            go_ret
            exact ⟨by first | rfl | (simp [errW_none, errW_some] <;> rfl) | (simp [*, errW_none, errW_some] <;> rfl), by repeat (first | (with_reducible first | exact HB.out | apply below_alloc | apply pw_below_drewN | apply below_drew1 | refine below_set ?_ GE301.out | refine below_set ?_ GE317.out) | exact HB.out)⟩
          · replace c34 := Bool.eq_false_iff.mpr c34
            subst c34
            have H1 : (some false) = some r := by rw [if_neg (show ¬ (false = true) by decide)] at H; exact H
            clear H
            have H := H1
            clear H1
            obtain rfl := Option.some.inj H
            try go_wp2
            have n0_ := Aside0.mk (Kd.R_drew HO_318000.out)
            have n1_ := Aside0.mk (Kd.S_drew HO_318001.out)
            have n2_ := Aside0.mk (blk_drew BK301.out)
            have n3_ := Aside0.mk (blk_drew BK317.out)
            have n4_ := Aside0.mk (below_drew1 HB.out)
            clear HO_318000
            clear HO_318001
            clear BK301
            clear BK317
            clear HB
            have HO_318000 := n0_
            have HO_318001 := n1_
            have BK301 := n2_
            have BK317 := n3_
            have HB := n4_
            clear n0_ n1_ n2_ n3_ n4_
            refine start_ (n := 5) (S := fun w' => w'.cell? ⟨gb317, 0, none⟩ = some (.slice Ao25 t311.length co25) ∧ w'.cell? ⟨gb317, 1, none⟩ = some (.slice Ao28 t314.length co28) ∧ w'.cell? ⟨gb301, 0, none⟩ = some (.slice A0_0 l0_0.length c0_0) ∧ w'.cell? ⟨gb301, 1, none⟩ = some (.slice A0_1 l0_1.length c0_1)) (ds := []) #[false, false, false, false, false] (by kernel_rfl) rfl rfl ⟨(blk_cell BK317.out 0).trans rfl, (blk_cell BK317.out 1).trans rfl, (blk_cell BK301.out 0).trans rfl, (blk_cell BK301.out 1).trans rfl⟩ (fun hHeld => ?_)
            generalize wc.drew = w40 at HO_318000 HO_318001 BK301 BK317 HB hHeld ⊢
            refine take_ (i := 0) (N := some 43) (v := ?_) (a' := ?_) #[true, false, false, false, false] rfl rfl (by kernel_rfl) (fun _ _ _ h => h) (Or.inl ⟨by rfl, ?_⟩) hHeld ?_ ?_
            rotate_left
            · rintro w' ⟨s0, s1, s2, s3⟩
              go_simp
              with_reducible rfl
            rotate_left
            · simp only [Act.put, List.setIfInBounds_toArray, List.set_cons_zero, List.set_cons_succ, i64_w, i32_w]
              rfl
            refine take_ (i := 1) (N := some 44) (v := ?_) (a' := ?_) #[true, true, false, false, false] rfl rfl (by kernel_rfl) (fun _ _ _ h => h) (Or.inl ⟨by rfl, ?_⟩) hHeld ?_ ?_
            rotate_left
            · rintro w' ⟨s0, s1, s2, s3⟩
              go_simp
              with_reducible rfl
            rotate_left
            · simp only [Act.put, List.setIfInBounds_toArray, List.set_cons_zero, List.set_cons_succ, i64_w, i32_w]
              rfl
            refine one_ (i := 2) (N := some 45) #[true, true, true, false, false] rfl rfl (by kernel_rfl) (by decide) (fun K hK => ?_)
            refine goes_ Try.func14 (by kernel_rfl) rfl #[.agg #[.slice A0_0 l0_0.length c0_0, .slice A0_1 l0_1.length c0_1]] (by rfl) rfl rfl (by (try simp only [List.map_toArray, List.map_cons, List.map_nil]); first | done | rfl | (simp only [List.length_drop, List.length_take]; rfl)) ?_
            with_reducible refine (laws_toTable.calls kj12 _ _ l0_0 _ _ l0_1 t320 t323 _ ?side1 ?side2 ?side3 ?side4 A32.out).mono ?_
            (case side1 => repeat (first | exact (Kd.C_below HR0_0.out HB.out) | (with_reducible refine Kd.C_alloc ?_ _) | (with_reducible refine Kd.C_drewN ?_ _) | (with_reducible refine Kd.C_drew ?_)))
            (case side2 => exact HC0_0.out)
            (case side3 => repeat (first | exact (Kd.C_below HR0_1.out HB.out) | (with_reducible refine Kd.C_alloc ?_ _) | (with_reducible refine Kd.C_drewN ?_ _) | (with_reducible refine Kd.C_drew ?_)))
            (case side4 => exact HC0_1.out)
            rintro e w41 ⟨v321, v324, rfl, ho0, ho1, hb⟩
            refine ⟨_, rfl, ?_⟩
            have n0_ := Aside0.mk (Kd.R_elder' (by (with_reducible repeat (first | apply Kd.R_alloc | apply Kd.R_drewN | apply Kd.R_drew)); exact HO_318000.out) (Kd.R_base ho0) hb)
            have n1_ := Aside0.mk (Kd.S_mono (Kd.S_told (Kd.S_told (Kd.S_old (by (with_reducible repeat (first | apply Kd.S_alloc | apply Kd.S_drewN | apply Kd.S_drew)); exact HO_318001.out) hb) (Kd.R_base ho0)) (Kd.S_base ho1)) (fun _ h_ => h_.1))
            have n2_ := Aside0.mk (Kd.R_lower (Kd.R_new' ho0 (Kd.R_lt (by (with_reducible repeat (first | apply Kd.R_alloc | apply Kd.R_drewN | apply Kd.R_drew)); exact HO_318000.out))) (below_size (by repeat (first | (with_reducible first | exact HB.out | apply below_alloc | apply pw_below_drewN | apply below_drew1 | refine below_set ?_ GE301.out | refine below_set ?_ GE317.out) | exact HB.out))))
            have n3_ := Aside0.mk (Kd.S_lower (Kd.S_new' (Kd.S_new' ho1 (Kd.R_lt (by (with_reducible repeat (first | apply Kd.R_alloc | apply Kd.R_drewN | apply Kd.R_drew)); exact HO_318000.out))) (Kd.S_lt (by (with_reducible repeat (first | apply Kd.S_alloc | apply Kd.S_drewN | apply Kd.S_drew)); exact HO_318001.out))) (below_size (by repeat (first | (with_reducible first | exact HB.out | apply below_alloc | apply pw_below_drewN | apply below_drew1 | refine below_set ?_ GE301.out | refine below_set ?_ GE317.out) | exact HB.out))))
            have n4_ := Aside0.mk (blk_below (g := gb301) (o := .cells #[.slice A0_0 l0_0.length c0_0, .slice A0_1 l0_1.length c0_1] 25 (0, 0)) (by (with_reducible repeat (first | refine blk_drewN ?_ _ | refine blk_drew ?_ | refine blk_alloc ?_ _)); exact BK301.out) hb)
            have n5_ := Aside0.mk (blk_below (g := gb317) (o := .cells #[.slice Ao25 t311.length co25, .slice Ao28 t314.length co28] 28 (0, 0)) (by (with_reducible repeat (first | refine blk_drewN ?_ _ | refine blk_drew ?_ | refine blk_alloc ?_ _)); exact BK317.out) hb)
            have n6_ := Aside0.mk (below_step (by repeat (first | (with_reducible first | exact HB.out | apply below_alloc | apply pw_below_drewN | apply below_drew1 | refine below_set ?_ GE301.out | refine below_set ?_ GE317.out) | exact HB.out)) hb)
            clear HO_318000
            clear HO_318001
            clear BK301
            clear BK317
            clear HB
            have HO_318000 := n0_
            have HO_318001 := n1_
            have HO322 := n2_
            have HO325 := n3_
            have BK301 := n4_
            have BK317 := n5_
            have HB := n6_
            clear n0_ n1_ n2_ n3_ n4_ n5_ n6_
            (try clear hb)
            (try clear hb2)
            (try clear hk)
            (try clear hi)
            (try clear ho0)
            (try clear ho1)
            obtain ⟨Ao42, co42, eo42⟩ := Kd.R_slice HO322.out
            (first | subst eo42 | (injection eo42 with f1_ f2_ f3_; have f4_ := f1_.symm; have f5_ := f3_.symm; clear f1_ f2_ f3_; subst f4_; subst f5_))
            obtain ⟨Ao43, co43, eo43⟩ := Kd.S_slice HO325.out
            (first | subst eo43 | (injection eo43 with f1_ f2_ f3_; have f4_ := f1_.symm; have f5_ := f3_.symm; clear f1_ f2_ f3_; subst f4_; subst f5_))
            refine hK.out _ _ ⟨(blk_cell BK317.out 0).trans rfl, (blk_cell BK317.out 1).trans rfl, (blk_cell BK301.out 0).trans rfl, (blk_cell BK301.out 1).trans rfl⟩ (fun hHeld => ?_)
            clear hK K
            refine norm_ (a' := ?_) ?_ ?_
            rotate_left
            · show Act.put _ (some 45) _ = _
              simp only [Act.put, List.setIfInBounds_toArray, List.set_cons_zero, List.set_cons_succ, i64_w, i32_w]
              rfl
            refine one_ (i := 3) (N := some 46) #[true, true, true, true, false] rfl rfl (by kernel_rfl) (by decide) (fun K hK => ?_)
            refine goes_ Try.func16 (by kernel_rfl) rfl #[.agg #[.slice Ao25 t311.length co25, .slice Ao28 t314.length co28], .agg #[.slice Ao42 t320.length co42, .slice Ao43 t323.length co43]] (by rfl) rfl rfl (by (try simp only [List.map_toArray, List.map_cons, List.map_nil]); first | done | rfl | (simp only [List.length_drop, List.length_take]; rfl)) ?_
            with_reducible refine (laws_eqTable.calls kj12 _ _ t311 _ _ t314 _ _ t320 _ _ t323 false _ ?side1 ?side2 ?side3 ?side4 ?side5 ?side6 ?side7 ?side8 A33.out).mono ?_
            (case side1 => repeat (first | exact (Kd.R_reads' HO_318000.out).2.2 | (with_reducible refine Kd.C_alloc ?_ _) | (with_reducible refine Kd.C_drewN ?_ _) | (with_reducible refine Kd.C_drew ?_)))
            (case side2 => exact (Kd.R_reads' HO_318000.out).2.1)
            (case side3 => repeat (first | exact (Kd.S_reads' HO_318001.out).2.2 | (with_reducible refine Kd.C_alloc ?_ _) | (with_reducible refine Kd.C_drewN ?_ _) | (with_reducible refine Kd.C_drew ?_)))
            (case side4 => exact (Kd.S_reads' HO_318001.out).2.1)
            (case side5 => repeat (first | exact (Kd.R_reads' HO322.out).2.2 | (with_reducible refine Kd.C_alloc ?_ _) | (with_reducible refine Kd.C_drewN ?_ _) | (with_reducible refine Kd.C_drew ?_)))
            (case side6 => exact (Kd.R_reads' HO322.out).2.1)
            (case side7 => repeat (first | exact (Kd.S_reads' HO325.out).2.2 | (with_reducible refine Kd.C_alloc ?_ _) | (with_reducible refine Kd.C_drewN ?_ _) | (with_reducible refine Kd.C_drew ?_)))
            (case side8 => exact (Kd.S_reads' HO325.out).2.1)
            rintro e w44 ⟨rfl, hb⟩
            refine ⟨_, rfl, ?_⟩
            have n0_ := Aside0.mk (Kd.R_below (by (with_reducible repeat (first | apply Kd.R_alloc | apply Kd.R_drewN | apply Kd.R_drew)); exact HO_318000.out) hb)
            have n1_ := Aside0.mk (Kd.S_below (by (with_reducible repeat (first | apply Kd.S_alloc | apply Kd.S_drewN | apply Kd.S_drew)); exact HO_318001.out) hb)
            have n2_ := Aside0.mk (Kd.R_below (by (with_reducible repeat (first | apply Kd.R_alloc | apply Kd.R_drewN | apply Kd.R_drew)); exact HO322.out) hb)
            have n3_ := Aside0.mk (Kd.S_below (by (with_reducible repeat (first | apply Kd.S_alloc | apply Kd.S_drewN | apply Kd.S_drew)); exact HO325.out) hb)
            have n4_ := Aside0.mk (blk_below (g := gb301) (o := .cells #[.slice A0_0 l0_0.length c0_0, .slice A0_1 l0_1.length c0_1] 25 (0, 0)) (by (with_reducible repeat (first | refine blk_drewN ?_ _ | refine blk_drew ?_ | refine blk_alloc ?_ _)); exact BK301.out) hb)
            have n5_ := Aside0.mk (blk_below (g := gb317) (o := .cells #[.slice Ao25 t311.length co25, .slice Ao28 t314.length co28] 28 (0, 0)) (by (with_reducible repeat (first | refine blk_drewN ?_ _ | refine blk_drew ?_ | refine blk_alloc ?_ _)); exact BK317.out) hb)
            have n6_ := Aside0.mk (below_step (by repeat (first | (with_reducible first | exact HB.out | apply below_alloc | apply pw_below_drewN | apply below_drew1 | refine below_set ?_ GE301.out | refine below_set ?_ GE317.out) | exact HB.out)) hb)
            clear HO_318000
            clear HO_318001
            clear HO322
            clear HO325
            clear BK301
            clear BK317
            clear HB
            have HO_318000 := n0_
            have HO_318001 := n1_
            have HO322 := n2_
            have HO325 := n3_
            have BK301 := n4_
            have BK317 := n5_
            have HB := n6_
            clear n0_ n1_ n2_ n3_ n4_ n5_ n6_
            (try clear hb)
            (try clear hb2)
            (try clear hk)
            (try clear hi)
            refine hK.out _ _ ⟨(blk_cell BK317.out 0).trans rfl, (blk_cell BK317.out 1).trans rfl, (blk_cell BK301.out 0).trans rfl, (blk_cell BK301.out 1).trans rfl⟩ (fun hHeld => ?_)
            clear hK K
            refine norm_ (a' := ?_) ?_ ?_
            rotate_left
            · show Act.put _ (some 46) _ = _
              simp only [Act.put, List.setIfInBounds_toArray, List.set_cons_zero, List.set_cons_succ, i64_w, i32_w]
              rfl
            refine pure_ (i := 4) (N := some 47) (v := ?_) (a' := ?_) #[true, true, true, true, true] rfl rfl (by kernel_rfl) (fun _ _ _ h => h) (Or.inl ⟨by rfl, ?_⟩) ?_ ?_
            rotate_left
            · intro w'
              go_simp
              with_reducible rfl
            rotate_left
            · simp only [Act.put, List.setIfInBounds_toArray, List.set_cons_zero, List.set_cons_succ, i64_w, i32_w]
              rfl
            refine done_ (by kernel_rfl) ?_
            try go_wp2
            go_ret
            exact ⟨by first | rfl | (simp [errW_none, errW_some] <;> rfl) | (simp [*, errW_none, errW_some] <;> rfl), by repeat (first | (with_reducible first | exact HB.out | apply below_alloc | apply pw_below_drewN | apply below_drew1 | refine below_set ?_ GE301.out | refine below_set ?_ GE317.out) | exact HB.out)⟩

end Go.Proofs.Ytpcchfklmcalaaa.P

namespace Go.Proofs.Ytpcchfklmcalaaa.P
open Go.RowKit Go.Proofs.YtpcchfklmcalaaaW.PrintWords
/-- The pure statement of the law. -/
def laws_FnExactPriceOf.Pure : Prop := ∀ (x0 : S25) (x1 : Int) (x2 : Int), ((x0.f0.length ≤ 9223372036854775807 ∧ ∀ x0_ ∈ x0.f0, (Lit.int .i16 x0_).wf = true) ∧ (x0.f1.length ≤ 9223372036854775807 ∧ ∀ x0_ ∈ x0.f1, (x0_.length ≤ 9223372036854775807 ∧ ∀ x1_ ∈ x0_, (Lit.int .i16 x1_).wf = true))) → (Lit.int .i64 x1).wf = true → (Lit.int .i64 x2).wf = true → ∃ k, laws_FnExactPriceOf.f k x0.f0 x0.f1 x1 x2 = some true
end Go.Proofs.Ytpcchfklmcalaaa.P

namespace Go.Proofs.Ytpcchfklmcalaaa.Pure
open Go.RowKit Go.Proofs.Ytpcchfklmcalaaa.P Go.Proofs.YtpcchfklmcalaaaW.PrintWords Go.Proofs.YtpcchfklmcalaaaW.PrintLast
set_option linter.unusedVariables false
set_option linter.unusedSimpArgs false

theorem EvG {α : Type} {g : Nat → Option α} {r : α} (h : Ev g r) : ∃ K, ∀ k, K ≤ k → g k = some r := h
theorem EvI {α : Type} {g : Nat → Option α} {r : α} (K : Nat) (h : ∀ k, K ≤ k → g k = some r) : Ev g r := ⟨K, h⟩
theorem w64 {x : Int} (h0 : -9223372036854775808 ≤ x) (h1 : x ≤ 9223372036854775807) : wrap64 x = x := by
  unfold wrap64; omega
theorem wN (i : Nat) (h : i < 4611686018427387904) : wrap64 ((i : Int) + 1) = ((i + 1 : Nat) : Int) := by
  unfold wrap64; omega
theorem rdN (l : List Int) (i : Nat) : rd l (i : Int) = l.getD i 0 := rfl
theorem rd_at (l : List Int) (i : Int) (n : Nat) (h : i = n) : rd l i = l.getD n 0 := by subst h; rfl
theorem getD_eq (l : List Int) (i : Nat) (h : i < l.length) : l.getD i 0 = l[i] := by
  rw [List.getD_eq_getElem?_getD, List.getElem?_eq_getElem h]; rfl
theorem getD_mem (l : List Int) (i : Nat) (h : i < l.length) : l.getD i 0 ∈ l := by rw [getD_eq l i h]; exact List.getElem_mem h
theorem list_ext (a b : List Int) (hl : a.length = b.length) (h : ∀ j, j < b.length → a.getD j 0 = b.getD j 0) : a = b := by
  apply List.ext_getElem hl
  intro i h1 h2
  have := h i h2
  rwa [getD_eq a i h1, getD_eq b i h2] at this
theorem getD_set (l : List Int) (i j : Nat) (v : Int) (h : i < l.length) : (l.set i v).getD j 0 = if i = j then v else l.getD j 0 := by
  simp only [List.getD_eq_getElem?_getD, List.getElem?_set]
  by_cases e : i = j
  · subst e; simp [h]
  · simp [e]
theorem getD_rep (n j : Nat) (v : Int) (h : j < n) : (List.replicate n v).getD j 0 = v := by
  simp [List.getD_eq_getElem?_getD, List.getElem?_replicate, h]

end Go.Proofs.Ytpcchfklmcalaaa.Pure

namespace Go.Proofs.Ytpcchfklmcalaaa.Pure
open Go.RowKit Go.Proofs.Ytpcchfklmcalaaa.P Go.Proofs.YtpcchfklmcalaaaW.PrintWords Go.Proofs.YtpcchfklmcalaaaW.PrintLast
set_option linter.unusedVariables false
set_option linter.unusedSimpArgs false

theorem getD_eqG {α : Type} (z : α) (l : List α) (i : Nat) (h : i < l.length) : l.getD i z = l[i] := by
  rw [List.getD_eq_getElem?_getD, List.getElem?_eq_getElem h]; rfl
theorem getD_memG {α : Type} (z : α) (l : List α) (i : Nat) (h : i < l.length) : l.getD i z ∈ l := by rw [getD_eqG z l i h]; exact List.getElem_mem h
theorem list_extG {α : Type} (z : α) (a b : List α) (hl : a.length = b.length) (h : ∀ j, j < b.length → a.getD j z = b.getD j z) : a = b := by
  apply List.ext_getElem hl
  intro i h1 h2
  have := h i h2
  rwa [getD_eqG z a i h1, getD_eqG z b i h2] at this
theorem getD_setG {α : Type} (z : α) (l : List α) (i j : Nat) (v : α) (h : i < l.length) : (l.set i v).getD j z = if i = j then v else l.getD j z := by
  simp only [List.getD_eq_getElem?_getD, List.getElem?_set]
  by_cases e : i = j
  · subst e; simp [h]
  · simp [e]
theorem mem_getDG {α : Type} (z : α) (l : List α) (s : α) (h : s ∈ l) : ∃ i, i < l.length ∧ l.getD i z = s := by
  obtain ⟨i, hi, e⟩ := List.mem_iff_getElem.1 h
  exact ⟨i, hi, by rw [getD_eqG z l i hi, e]⟩
theorem rdL (l : List (List Int)) (i : Nat) : rd_L1 l (i : Int) = l.getD i [] := rfl

theorem szI16 (l : List Int) (a : Int) (h0 : 0 ≤ a) (h1 : a ≤ 1048576) (hl : l.length ≤ 9223372036854775807) : laws_szInt16S.f l a = some (if (l.length : Int) ≤ a then a - l.length else -1) := by
  unfold laws_szInt16S.f
  rw [w64 (by omega) (by omega)]
  split <;> split <;> first | rfl | omega
theorem szI16SS_l0 (l : List (List Int)) (hn : l.length ≤ 1048576) (hm : ∀ x ∈ l, x.length ≤ 9223372036854775807) : ∀ d i (a : Int), l.length - i = d → i ≤ l.length → 0 ≤ a → a ≤ 1048576 → (∀ j, j < i → (l.getD j []).length ≤ 1048576) →
    ∃ t, Ev (fun k => laws_szInt16SS.l0 k l a (i : Int)) t ∧ (t < 0 ∨ ∀ j, j < l.length → (l.getD j []).length ≤ 1048576) := by
  intro d
  induction d with
  | zero =>
    intro i a hd hi h0 h1 hj
    exact ⟨a, Ev.step (f := fun _ => some a) (fun k => by rw [laws_szInt16SS.l0, if_neg (by omega)]) (Ev.now _), .inr (fun j h => hj j (by omega))⟩
  | succ d ih =>
    intro i a hd hi h0 h1 hj
    have hb := hm _ (getD_memG [] l i (by omega))
    have e : ∀ k, laws_szInt16SS.l0 (k + 1) l a (i : Int) = (if (if ((l.getD i []).length : Int) ≤ a then a - (l.getD i []).length else -1) < 0 then some (-1) else laws_szInt16SS.l0 k l (if ((l.getD i []).length : Int) ≤ a then a - (l.getD i []).length else -1) ((i + 1 : Nat) : Int)) := fun k => by
      rw [laws_szInt16SS.l0, if_pos (by omega), if_pos (by omega), rdL, szI16 _ a h0 h1 hb, Option.bind_some, wN i (by omega)]
    by_cases c : ((l.getD i []).length : Int) ≤ a
    · obtain ⟨t, t1, t2⟩ := ih (i + 1) (a - (l.getD i []).length) (by omega) (by omega) (by omega) (by omega) (fun j h => by
        by_cases e : j = i
        · subst e; omega
        · exact hj j (by omega))
      exact ⟨t, Ev.step (fun k => by rw [e, if_pos c, if_neg (by omega)]) t1, t2⟩
    · exact ⟨-1, Ev.step (f := fun _ => some (-1)) (fun k => by rw [e, if_neg c, if_pos (by omega)]) (Ev.now _), .inl (by omega)⟩
/-- What a table counts: less than 0 where it is too great. -/
theorem szT (s : List Int) (p : List (List Int)) (hs : s.length ≤ 9223372036854775807) (hp : p.length ≤ 9223372036854775807) (hm : ∀ x ∈ p, x.length ≤ 9223372036854775807) :
    ∃ t, Ev (fun k => laws_szTable.f k s p 1048576) t ∧ (t < 0 ∨ (s.length ≤ 1048576 ∧ p.length ≤ 1048576 ∧ ∀ x ∈ p, x.length ≤ 1048576)) := by
  have e : ∀ k, laws_szTable.f k s p 1048576 = (if (if (s.length : Int) ≤ 1048576 then 1048576 - (s.length : Int) else -1) < 0 then some (-1) else (laws_szInt16SS.f k p (if (s.length : Int) ≤ 1048576 then 1048576 - (s.length : Int) else -1)).bind fun t105 => if t105 < 0 then some (-1) else some t105) := fun k => by
    rw [laws_szTable.f, szI16 s 1048576 (by omega) (by omega) hs, Option.bind_some]
  by_cases c : (s.length : Int) ≤ 1048576
  · by_cases c2 : 1048576 - (s.length : Int) - (p.length : Int) < 0
    · refine ⟨-1, EvI 0 fun k _ => ?_, .inl (by omega)⟩
      rw [e, if_pos c, if_neg (by omega), laws_szInt16SS.f, w64 (by omega) (by omega), if_pos c2, Option.bind_some, if_pos (by omega)]
    · obtain ⟨t, t1, t2⟩ := szI16SS_l0 p (by omega) hm _ 0 (1048576 - (s.length : Int) - (p.length : Int)) rfl (Nat.zero_le _) (by omega) (by omega) (fun j h => absurd h (Nat.not_lt_zero _))
      obtain ⟨K, t1⟩ := EvG t1
      refine ⟨if t < 0 then -1 else t, EvI K fun k hk => ?_, ?_⟩
      · rw [e, if_pos c, if_neg (by omega), laws_szInt16SS.f, w64 (by omega) (by omega), if_neg c2, show (0 : Int) = ((0 : Nat) : Int) from rfl, t1 k hk, Option.bind_some]
        split <;> rfl
      · by_cases ht : t < 0
        · rw [if_pos ht]; exact .inl (by omega)
        · rw [if_neg ht]
          refine .inr ⟨by omega, by omega, fun x hx => ?_⟩
          obtain ⟨i, hi, rfl⟩ := mem_getDG [] p x hx
          rcases t2 with t2 | t2
          · omega
          · exact t2 i hi
  · refine ⟨-1, EvI 0 fun k _ => ?_, .inl (by omega)⟩
    rw [e, if_neg c, if_pos (by omega)]

theorem toI16_l0 (l : List Int) (hb : l.length ≤ 1048576) : ∀ d i x, l.length - i = d → i ≤ l.length → x.length = l.length → (∀ j, j < i → x.getD j 0 = l.getD j 0) → Ev (fun k => laws_toInt16S.l0 k l x (i : Int)) l := by
  intro d
  induction d with
  | zero =>
    intro i x hd hi hx hj
    refine Ev.step (f := fun _ => some x) (fun k => ?_) ?_
    · rw [laws_toInt16S.l0, if_neg (by omega)]
    · have : x = l := list_extG 0 x l hx (fun j h => hj j (by omega))
      rw [this]; exact Ev.now l
  | succ d ih =>
    intro i x hd hi hx hj
    refine Ev.step (fun k => ?_) (ih (i + 1) (x.set i (l.getD i 0)) (by omega) (by omega) (by simpa using hx) ?_)
    · rw [laws_toInt16S.l0, if_pos (by omega), if_pos (by omega), if_pos (by omega), wN i (by omega), rdN, Int.toNat_natCast]
    · intro j h
      rw [getD_setG 0 x i j _ (by omega)]
      by_cases e : i = j
      · rw [if_pos e, e]
      · rw [if_neg e]; exact hj j (by omega)
theorem toI16 (l : List Int) (hb : l.length ≤ 1048576) : Ev (fun k => laws_toInt16S.f k l) l := by
  refine Ev.congr (f := fun k => laws_toInt16S.l0 k l (List.replicate l.length 0) ((0 : Nat) : Int)) (fun k => ?_) (toI16_l0 l hb _ 0 _ rfl (Nat.zero_le _) (by simp) (fun j h => absurd h (Nat.not_lt_zero _)))
  simp only [laws_toInt16S.f, Int.toNat_natCast]
  rw [if_pos (by omega), if_pos (by omega)]; rfl
theorem toI16SS_l0 (l : List (List Int)) (hb : l.length ≤ 1048576) (hm : ∀ x ∈ l, x.length ≤ 1048576) : ∀ d i x, l.length - i = d → i ≤ l.length → x.length = l.length → (∀ j, j < i → x.getD j [] = l.getD j []) → Ev (fun k => laws_toInt16SS.l0 k l x (i : Int)) l := by
  intro d
  induction d with
  | zero =>
    intro i x hd hi hx hj
    refine Ev.step (f := fun _ => some x) (fun k => ?_) ?_
    · rw [laws_toInt16SS.l0, if_neg (by omega)]
    · have : x = l := list_extG [] x l hx (fun j h => hj j (by omega))
      rw [this]; exact Ev.now l
  | succ d ih =>
    intro i x hd hi hx hj
    obtain ⟨K1, h1⟩ := EvG (toI16 (l.getD i []) (hm _ (getD_memG [] l i (by omega))))
    obtain ⟨K2, h2⟩ := EvG (ih (i + 1) (x.set i (l.getD i [])) (by omega) (by omega) (by simpa using hx) (fun j h => by
      rw [getD_setG [] x i j _ (by omega)]
      by_cases e : i = j
      · rw [if_pos e, e]
      · rw [if_neg e]; exact hj j (by omega)))
    refine EvI (K1 + K2 + 1) fun k hk => ?_
    obtain ⟨m, rfl⟩ : ∃ m, k = m + 1 := ⟨k - 1, by omega⟩
    rw [laws_toInt16SS.l0, if_pos (by omega), if_pos (by omega), rdL, h1 m (by omega), Option.bind_some, if_pos (by omega), wN i (by omega), Int.toNat_natCast, h2 m (by omega)]
theorem toI16SS (l : List (List Int)) (hb : l.length ≤ 1048576) (hm : ∀ x ∈ l, x.length ≤ 1048576) : Ev (fun k => laws_toInt16SS.f k l) l := by
  refine Ev.congr (f := fun k => laws_toInt16SS.l0 k l (List.replicate l.length []) ((0 : Nat) : Int)) (fun k => ?_) (toI16SS_l0 l hb hm _ 0 _ rfl (Nat.zero_le _) (by simp) (fun j h => absurd h (Nat.not_lt_zero _)))
  simp only [laws_toInt16SS.f, Int.toNat_natCast]
  rw [if_pos (by omega), if_pos (by omega)]; rfl
/-- A table is copied. -/
theorem toT (s : List Int) (p : List (List Int)) (hs : s.length ≤ 1048576) (hp : p.length ≤ 1048576) (hm : ∀ x ∈ p, x.length ≤ 1048576) : Ev (fun k => laws_toTable.f k s p) (s, p) := by
  obtain ⟨K1, h1⟩ := EvG (toI16 s hs)
  obtain ⟨K2, h2⟩ := EvG (toI16SS p hp hm)
  refine EvI (K1 + K2) fun k hk => ?_
  rw [laws_toTable.f, h1 k (by omega), Option.bind_some, h2 k (by omega), Option.bind_some]
theorem eqI16_l0 (l : List Int) (hb : l.length ≤ 1048576) : ∀ d i, l.length - i = d → i ≤ l.length → Ev (fun k => laws_eqInt16S.l0 k l l (i : Int)) true := by
  intro d
  induction d with
  | zero =>
    intro i hd hi
    refine Ev.step (f := fun _ => some true) (fun k => ?_) (Ev.now _)
    rw [laws_eqInt16S.l0, if_neg (by omega)]
  | succ d ih =>
    intro i hd hi
    refine Ev.step (fun k => ?_) (ih (i + 1) (by omega) (by omega))
    rw [laws_eqInt16S.l0, if_pos (by omega), if_pos (by omega), if_pos (by omega), if_pos rfl, wN i (by omega)]
theorem eqI16 (l : List Int) (hb : l.length ≤ 1048576) : Ev (fun k => laws_eqInt16S.f k l l) true := by
  refine Ev.congr (f := fun k => laws_eqInt16S.l0 k l l ((0 : Nat) : Int)) (fun k => ?_) (eqI16_l0 l hb _ 0 rfl (Nat.zero_le _))
  rw [laws_eqInt16S.f, if_pos rfl]; rfl
theorem eqI16SS_l0 (l : List (List Int)) (hb : l.length ≤ 1048576) (hm : ∀ x ∈ l, x.length ≤ 1048576) : ∀ d i, l.length - i = d → i ≤ l.length → Ev (fun k => laws_eqInt16SS.l0 k l l (i : Int)) true := by
  intro d
  induction d with
  | zero =>
    intro i hd hi
    refine Ev.step (f := fun _ => some true) (fun k => ?_) (Ev.now _)
    rw [laws_eqInt16SS.l0, if_neg (by omega)]
  | succ d ih =>
    intro i hd hi
    obtain ⟨K1, h1⟩ := EvG (eqI16 (l.getD i []) (hm _ (getD_memG [] l i (by omega))))
    obtain ⟨K2, h2⟩ := EvG (ih (i + 1) (by omega) (by omega))
    refine EvI (K1 + K2 + 1) fun k hk => ?_
    obtain ⟨m, rfl⟩ : ∃ m, k = m + 1 := ⟨k - 1, by omega⟩
    rw [laws_eqInt16SS.l0, if_pos (by omega), if_pos (by omega), if_pos (by omega), rdL, h1 m (by omega), Option.bind_some, if_pos rfl, wN i (by omega), h2 m (by omega)]
theorem eqI16SS (l : List (List Int)) (hb : l.length ≤ 1048576) (hm : ∀ x ∈ l, x.length ≤ 1048576) : Ev (fun k => laws_eqInt16SS.f k l l) true := by
  refine Ev.congr (f := fun k => laws_eqInt16SS.l0 k l l ((0 : Nat) : Int)) (fun k => ?_) (eqI16SS_l0 l hb hm _ 0 rfl (Nat.zero_le _))
  rw [laws_eqInt16SS.f, if_pos rfl]; rfl
/-- A table is equal to itself. -/
theorem eqT (s : List Int) (p : List (List Int)) (hs : s.length ≤ 1048576) (hp : p.length ≤ 1048576) (hm : ∀ x ∈ p, x.length ≤ 1048576) : Ev (fun k => laws_eqTable.f k s p s p) true := by
  obtain ⟨K1, h1⟩ := EvG (eqI16 s hs)
  obtain ⟨K2, h2⟩ := EvG (eqI16SS p hp hm)
  refine EvI (K1 + K2) fun k hk => ?_
  rw [laws_eqTable.f, h1 k (by omega), Option.bind_some, if_pos rfl, h2 k (by omega), Option.bind_some, if_pos rfl]
/-- What came in, not too much of it. -/
theorem preOf (s : List Int) (p : List (List Int)) (hs : s.length ≤ 1048576) (hp : p.length ≤ 1048576) (hm : ∀ x ∈ p, x.length ≤ 1048576) (ws : ∀ x ∈ s, (Lit.int .i16 x).wf = true) (wp : ∀ x ∈ p, ∀ y ∈ x, (Lit.int .i16 y).wf = true) : spec_l03Ok.preT s p :=
  ⟨by omega, by omega, fun x hx => bounds_i16 (ws x hx), fun l hl => ⟨by have := hm l hl; omega, fun x hx => bounds_i16 (wp l hl x hx)⟩⟩
theorem idxF_lt {α : Type} (p : α → Bool) (l : List α) : idxF p l < (l.length : Int) := by
  induction l with
  | nil => simp [idxF]
  | cons x l ih =>
    rw [idxF, List.length_cons]
    split
    · omega
    · split <;> omega

end Go.Proofs.Ytpcchfklmcalaaa.Pure

namespace Go.Proofs.Ytpcchfklmcalaaa.Pure
open Go.RowKit Go.Proofs.Ytpcchfklmcalaaa.P Go.Proofs.YtpcchfklmcalaaaW.PrintWords Go.Proofs.YtpcchfklmcalaaaW.PrintLast
set_option linter.unusedVariables false
set_option linter.unusedSimpArgs false

theorem inF (a lo hi : Int) : spec_l00In.f a lo hi = some (decide (lo ≤ a) && decide (a ≤ hi)) := by
  unfold spec_l00In.f; by_cases h : lo ≤ a <;> simp [h]
theorem withinF (a lo hi : Int) : impl_within.f a lo hi = some (decide (lo ≤ a) && decide (a ≤ hi)) := by
  unfold impl_within.f; by_cases h : lo ≤ a <;> simp [h]
theorem weightF (a : Int) : spec_l03Weight.f a = some (decide (1 ≤ a) && decide (a ≤ 2000)) := by
  rw [spec_l03Weight.f, inF, Option.bind_some]
/-- The code. -/
def codeT (s : List Int) (p : List (List Int)) (z : Int) (fine : Bool) : Int := if spec_l03Ok.okP s p then (if (0 ≤ z ∧ z < (p.length : Int)) ∧ fine = true then 0 else 2) else 1
theorem codeT_0 {s : List Int} {p : List (List Int)} {z : Int} {fine : Bool} (h : codeT s p z fine = 0) : spec_l03Ok.okP s p ∧ (0 ≤ z ∧ z < (p.length : Int)) ∧ fine = true := by
  unfold codeT at h
  by_cases c : spec_l03Ok.okP s p
  · rw [if_pos c] at h
    by_cases c2 : (0 ≤ z ∧ z < (p.length : Int)) ∧ fine = true
    · exact ⟨c, c2.1, c2.2⟩
    · rw [if_neg c2] at h; omega
  · rw [if_neg c] at h; omega
theorem askedF (s : List Int) (p : List (List Int)) (z : Int) (fine : Bool) (h : spec_l03Ok.preT s p) : spec_l03Asked.f s p z fine = some (codeT s p z fine) := by
  have hp := h.2.1
  unfold spec_l03Asked.f spec_l03Ok.f spec_l03Zone.f codeT
  rw [if_pos h, Option.bind_some, w64 (by omega) (by omega)]
  by_cases c : spec_l03Ok.okP s p
  · simp only [decide_eq_true c, if_true, Option.bind_some, c]
    by_cases c2 : 0 ≤ z ∧ z < (p.length : Int)
    · have e : (decide (0 ≤ z) && decide (z ≤ (p.length : Int) - 1)) = true := by simp; omega
      rw [e]
      cases fine <;> simp [c2]
    · have e : (decide (0 ≤ z) && decide (z ≤ (p.length : Int) - 1)) = false := by
        by_cases e : 0 ≤ z <;> simp [e]; omega
      rw [e]
      simp [c2]
  · simp [c]
theorem tableCodeF (s : List Int) (p : List (List Int)) (z : Int) (ws : List Int) (h : spec_l03Ok.preT s p) : impl_tableCode.f s p z ws = some (codeT s p z (ws.all fun x => decide (1 ≤ x) && decide (x ≤ 2000))) := by
  have hp := h.2.1
  unfold impl_tableCode.f impl_ValidTable.f impl_size_int16.f impl_areWithin.f impl_unless.f codeT
  rw [if_pos h, Option.bind_some]
  by_cases c : spec_l03Ok.okP s p
  · simp only [decide_eq_true c, if_true, Option.bind_some, c, withinF]
    rw [w64 (by omega) (by omega)]
    by_cases c2 : 0 ≤ z ∧ z < (p.length : Int)
    · have e : (decide (0 ≤ z) && decide (z ≤ (p.length : Int) - 1)) = true := by simp; omega
      rw [e]
      cases (ws.all fun x => decide (1 ≤ x) && decide (x ≤ 2000)) <;> simp [c2]
    · have e : (decide (0 ≤ z) && decide (z ≤ (p.length : Int) - 1)) = false := by
        by_cases e : 0 ≤ z <;> simp [e]; omega
      rw [e]
      simp [c2]
  · simp [c]

end Go.Proofs.Ytpcchfklmcalaaa.Pure

namespace Go.Proofs.Ytpcchfklmcalaaa.Pure
open Go.RowKit Go.Proofs.Ytpcchfklmcalaaa.P Go.Proofs.YtpcchfklmcalaaaW.PrintWords Go.Proofs.YtpcchfklmcalaaaW.PrintLast
set_option linter.unusedVariables false
set_option linter.unusedSimpArgs false

/-- The place of the step for a weight. -/
def stepI (s : List Int) (w : Int) : Int := idxF (fun x => decide (w ≤ wrap64 x)) s
/-- The price, where there is a step. -/
def priceI (s : List Int) (p : List (List Int)) (z : Nat) (w : Int) : Int := (p.getD z []).getD (stepI s w).toNat 0
theorem stepI_lt (s : List Int) (w : Int) : stepI s w < (s.length : Int) := idxF_lt _ s
theorem price_ok {s : List Int} {p : List (List Int)} (h : spec_l03Ok.okP s p) (z : Nat) (w : Int) (hz : z < p.length) (hw : 0 ≤ stepI s w) : 0 ≤ priceI s p z w ∧ priceI s p z w ≤ 10000 := by
  obtain ⟨r1, r2⟩ := h.2.1 z hz
  have := stepI_lt s w
  exact r2 _ (by omega)
theorem priceS {s : List Int} {p : List (List Int)} (h : spec_l03Ok.okP s p) (hs : s.length ≤ 2000000) (z : Nat) (w : Int) (hz : z < p.length) : spec_l03Price.f s p (z : Int) w = some (if stepI s w < 0 then -1 else priceI s p z w) := by
  obtain ⟨r1, r2⟩ := h.2.1 z hz
  have hlt := stepI_lt s w
  rw [spec_l03Price.f, spec_l03Step.f, if_pos hs, Option.bind_some]
  show (if stepI s w < 0 then some (-1) else _) = _
  by_cases c : stepI s w < 0
  · rw [if_pos c, if_pos c]
  · have hp := price_ok h z w hz (by omega)
    rw [if_neg c, if_neg c, if_pos ⟨by omega, by omega, by rw [Int.toNat_natCast, r1]; exact hlt⟩, Int.toNat_natCast]
    show some (wrap64 (priceI s p z w)) = _
    rw [w64 (by omega) (by omega)]
theorem priceM {s : List Int} {p : List (List Int)} (h : spec_l03Ok.okP s p) (z : Nat) (w : Int) (hz : z < p.length) : impl_Table_price.f s p (z : Int) w = some (if stepI s w < 0 then (0, false) else (priceI s p z w, true)) := by
  obtain ⟨r1, r2⟩ := h.2.1 z hz
  have hlt := stepI_lt s w
  rw [impl_Table_price.f, impl_Table_step.f, Option.bind_some]
  show (if stepI s w < 0 then some (0, false) else (if 0 ≤ (z : Int) then (if (z : Int) < (p.length : Int) then (if 0 ≤ stepI s w then (if stepI s w < ((rd_L1 p (z : Int)).length : Int) then some (wrap64 (rd (rd_L1 p (z : Int)) (stepI s w)), true) else none) else none) else none) else none)) = _
  by_cases c : stepI s w < 0
  · rw [if_pos c, if_pos c]
  · have hp := price_ok h z w hz (by omega)
    rw [if_neg c, if_neg c, if_pos (by omega), if_pos (by omega), if_pos (show 0 ≤ stepI s w by omega), rdL, r1, if_pos hlt]
    show some (wrap64 (priceI s p z w), true) = _
    rw [w64 (by omega) (by omega)]

end Go.Proofs.Ytpcchfklmcalaaa.Pure

namespace Go.Proofs.Ytpcchfklmcalaaa.Pure
open Go.RowKit Go.Proofs.Ytpcchfklmcalaaa.P Go.Proofs.YtpcchfklmcalaaaW.PrintWords Go.Proofs.YtpcchfklmcalaaaW.PrintLast
set_option linter.unusedVariables false

theorem priceBoth (s : List Int) (p : List (List Int)) (z w : Int) (h : spec_l03Ok.preT s p) : ∃ r, spec_PriceOf.f s p z w = some r ∧ ∀ k, impl_PriceOf.f (k + 2) s p z w = some r := by
  have e0 : rd [w] 0 = w := rfl
  have ec : (([w] : List Int).all fun x => decide (1 ≤ x) && decide (x ≤ 2000)) = (decide (1 ≤ w) && decide (w ≤ 2000)) := by simp
  rw [spec_PriceOf.f, weightF, Option.bind_some, askedF s p z _ h, Option.bind_some]
  have eI : ∀ k, impl_PriceOf.f (k + 2) s p z w = (if codeT s p z (decide (1 ≤ w) && decide (w ≤ 2000)) = 0 then impl_PricesOf.l0 (k + 2) z 0 [w] 1 0 s p else some (0, codeT s p z (decide (1 ≤ w) && decide (w ≤ 2000)))) := fun k => by
    rw [impl_PriceOf.f, impl_PricesOf.f, impl_itemCode.f, tableCodeF s p z [w] h, ec, Option.bind_some, impl_unless.f]
    by_cases c : codeT s p z (decide (1 ≤ w) && decide (w ≤ 2000)) = 0
    · rw [if_pos c, if_pos c, if_pos (by simp), Option.bind_some, Option.bind_some, if_pos rfl]
      cases impl_PricesOf.l0 (k + 2) z 0 [w] 1 0 s p <;> rfl
    · rw [if_neg c, if_neg c, Option.bind_some, if_neg c]
      rfl
  by_cases c : codeT s p z (decide (1 ≤ w) && decide (w ≤ 2000)) = 0
  · obtain ⟨ok, ⟨z0, z1⟩, _⟩ := codeT_0 c
    obtain ⟨n, rfl⟩ := Int.eq_ofNat_of_zero_le z0
    rw [if_pos c, priceS ok h.1 n w (by omega), Option.bind_some]
    have eM : ∀ k, impl_PricesOf.l0 (k + 2) (n : Int) 0 [w] 1 0 s p = if stepI s w < 0 then some (0, 6) else some (priceI s p n w, 0) := fun k => by
      rw [impl_PricesOf.l0, if_pos (by omega), if_pos (by omega), if_pos (by simp), e0, priceM ok n w (by omega), Option.bind_some]
      by_cases c2 : stepI s w < 0
      · rw [if_pos c2, if_pos c2]
        rfl
      · have hp := price_ok ok n w (by omega) (by omega)
        rw [if_neg c2, if_neg c2, if_pos rfl, impl_PricesOf.l0, w64 (x := 0 + 1) (by omega) (by omega), if_neg (by omega)]
        show some (wrap64 (0 + priceI s p n w), 0) = _
        rw [w64 (by omega) (by omega), Int.zero_add]
    by_cases c2 : stepI s w < 0
    · refine ⟨(0, 6), ?_, fun k => by rw [eI, if_pos c, eM, if_pos c2]⟩
      rw [if_pos c2, if_pos (by omega)]
    · have hp := price_ok ok n w (by omega) (by omega)
      refine ⟨(priceI s p n w, 0), ?_, fun k => by rw [eI, if_pos c, eM, if_neg c2]⟩
      rw [if_neg c2, if_neg (by omega)]
  · exact ⟨_, by rw [if_neg c], fun k => by rw [eI, if_neg c]⟩
theorem FnExactPriceOf : laws_FnExactPriceOf.Pure := by
  rintro ⟨s, p⟩ z w ⟨⟨hs, ws⟩, ⟨hp, wp⟩⟩ wz ww
  obtain ⟨t, t1, t2⟩ := szT s p hs hp (fun x hx => (wp x hx).1)
  obtain ⟨K1, t1⟩ := EvG t1
  by_cases ht : t < 0
  · refine ⟨K1, ?_⟩
    rw [laws_FnExactPriceOf.f, t1 _ (Nat.le_refl _), Option.bind_some, if_pos ht]
  · obtain ⟨b1, b2, b3⟩ := t2.resolve_left ht
    obtain ⟨K2, hT⟩ := EvG (toT s p b1 b2 b3)
    obtain ⟨K3, hE⟩ := EvG (eqT s p b1 b2 b3)
    obtain ⟨r, r1, r2⟩ := priceBoth s p z w (preOf s p b1 b2 b3 ws (fun x hx => (wp x hx).2))
    refine ⟨K1 + K2 + K3 + 2, ?_⟩
    rw [laws_FnExactPriceOf.f, t1 _ (by omega), Option.bind_some, if_neg ht, hT _ (by omega), Option.bind_some, r1, Option.bind_some, Option.bind_some, r2, Option.bind_some, if_pos rfl, bne_self_eq_false,
      laws_FnExactPriceOf.j0, if_neg (by decide), hT _ (by omega), Option.bind_some, hE _ (by omega), Option.bind_some, if_pos rfl]

end Go.Proofs.Ytpcchfklmcalaaa.Pure

namespace Go.Proofs.Ytpcchfklmcalaaa.X
open Go.ChangeShapes Go.WideShapes Go.ChangeAt Go.RowKit Go.Proofs.YtpcchfklmcalaaaW.PrintWords Go.Deep
set_option linter.unusedVariables false

/-- What reads as data of type t is a value of kind d, and meets wf. -/
def Opens {α : Type} (P : Program) (t : TypeId) (d : Kd α) (wf : α → Prop) : Prop :=
  ∀ (H : Type) (enc : TypeId × Value → H) (W : World) (held : Bool) (fuel : Nat) (cs : List Value) (x : DataW H × List MemPlace), DataW.trod enc P W 0 (fun _ => true) held fuel t cs = some x → ∃ a, d.K W a cs ∧ wf a

theorem Opens.int {P : Program} {t : TypeId} {k : IntKind} (ht : P.underlying t = some (.int k)) : Opens P t (Kd.int k) (fun n => (Lit.int k n).wf = true) := by
  intro H enc W held fuel cs x h
  obtain ⟨n, rfl, _, hw⟩ := DataW.trod_int ht h
  exact ⟨n, rfl, hw⟩

theorem Opens.slice {α : Type} [Inhabited α] {P : Program} {t e : TypeId} {d : Kd α} {wf : α → Prop} (ht : P.underlying t = some (.slice e)) (hc : P.cellsOf e = d.sz) (h : Opens P e d wf) :
    Opens P t (Kd.slice e d) (fun l => l.length ≤ 9223372036854775807 ∧ ∀ a ∈ l, wf a) := by
  intro H enc W held fuel cs x hx
  rcases open_slice ht hx with ⟨rfl, _⟩ | ⟨ad, len, cap, m, n, D, Pl, rfl, _, hl, hm, hmm, _, hel⟩
  · exact ⟨[], ⟨none, 0, rfl, Nat.le_refl _, ⟨rfl, by simp, fun h => absurd h (Nat.lt_irrefl 0)⟩⟩, by simp, fun a ha => by cases ha⟩
  · have hmc : m = cap := by simpa using hmm
    have each : ∀ i, i < len → ∃ a : α, wf a ∧ ∃ c, c.length = d.sz ∧ d.K W a c ∧ ∀ j u, c[j]? = some u → W.cell? (ad.add (i * d.sz + j)) = some u := by
      intro i hi
      obtain ⟨cs', h1, h2⟩ := hel i (by omega)
      obtain ⟨_, hlen, hcell⟩ := World.cells?_some h1
      obtain ⟨a, hK, hw⟩ := h H enc W held n cs' _ h2
      refine ⟨a, hw, cs', by rw [hlen, hc], hK, fun j u hu => ?_⟩
      have hj : j < P.cellsOf e := by have := (List.getElem?_eq_some_iff.1 hu).1; omega
      have h3 := hcell j hj
      rw [hu, hc] at h3
      rw [← h3]
      congr 1
      unfold Addr.add
      by_cases h4 : i * d.sz = 0 <;> by_cases h5 : j = 0 <;> simp [h4, h5, Nat.add_assoc]
    obtain ⟨f, hf⟩ := choose_lt each
    have hlen : ((List.range len).map f).length = len := by simp
    refine ⟨(List.range len).map f, ⟨some ad, cap, by rw [hlen], by rw [hlen]; exact hl, ⟨rfl, by rw [hlen]; unfold maxLen at hm; omega, fun _ => ⟨ad, rfl, fun j p hp => ?_⟩⟩⟩, by rw [hlen]; unfold maxLen at hm; omega, fun a ha => ?_⟩
    · have hj : j < len := by have := (List.getElem?_eq_some_iff.1 hp).1; omega
      have hp2 : f j = p := by simpa [hj] using hp
      rw [← hp2]
      exact (hf j hj).2
    · obtain ⟨i, hi, rfl⟩ := List.mem_map.1 ha
      exact (hf i (List.mem_range.1 hi)).1

theorem Opens.pair {α β : Type} {P : Program} {t : TypeId} {a : Kd α} {b : Kd β} {wa : α → Prop} {wb : β → Prop} {f0 f1 : Field} (hs : P.underlying t = some (.struct #[f0, f1])) (o0 : f0.offset = 0) (c0 : P.cellsOf f0.type = a.sz) (o1 : f1.offset = a.sz) (c1 : P.cellsOf f1.type = b.sz) (hc : P.cellsOf t = a.sz + b.sz)
    (ha : Opens P f0.type a wa) (hb : Opens P f1.type b wb) : Opens P t (Kd.pair a b) (fun x => wa x.1 ∧ wb x.2) := by
  intro H enc W held fuel cs x hx
  obtain ⟨xs, n, _, _, hl, hxl, hf⟩ := DataW.trod_struct hs hx
  have hxl : xs.length = 2 := hxl
  have g0 := hf 0 f0 rfl
  have g1 := hf 1 f1 rfl
  rw [List.getElem?_eq_getElem (by omega)] at g0 g1
  obtain ⟨x0, k0, w0⟩ := ha H enc W held n _ _ g0
  obtain ⟨x1, k1, w1⟩ := hb H enc W held n _ _ g1
  refine ⟨(x0, x1), ⟨_, _, ?_, k0, k1⟩, w0, w1⟩
  rw [o0, o1, c0, c1, List.drop_zero]
  rw [List.take_of_length_le (l := cs.drop a.sz) (by rw [List.length_drop]; omega), List.take_append_drop]

theorem Opens.triple {α β γ : Type} {P : Program} {t : TypeId} {a : Kd α} {b : Kd β} {c : Kd γ} {wa : α → Prop} {wb : β → Prop} {wc : γ → Prop} {f0 f1 f2 : Field} (hs : P.underlying t = some (.struct #[f0, f1, f2])) (o0 : f0.offset = 0) (c0 : P.cellsOf f0.type = a.sz) (o1 : f1.offset = a.sz) (c1 : P.cellsOf f1.type = b.sz) (o2 : f2.offset = a.sz + b.sz) (c2 : P.cellsOf f2.type = c.sz) (hc : P.cellsOf t = a.sz + b.sz + c.sz)
    (ha : Opens P f0.type a wa) (hb : Opens P f1.type b wb) (hcc : Opens P f2.type c wc) : Opens P t (Kd.pair a (Kd.pair b c)) (fun x => wa x.1 ∧ wb x.2.1 ∧ wc x.2.2) := by
  intro H enc W held fuel cs x hx
  obtain ⟨xs, n, _, _, hl, hxl, hf⟩ := DataW.trod_struct hs hx
  have hxl : xs.length = 3 := hxl
  have g0 := hf 0 f0 rfl
  have g1 := hf 1 f1 rfl
  have g2 := hf 2 f2 rfl
  rw [List.getElem?_eq_getElem (by omega)] at g0 g1 g2
  obtain ⟨x0, k0, w0⟩ := ha H enc W held n _ _ g0
  obtain ⟨x1, k1, w1⟩ := hb H enc W held n _ _ g1
  obtain ⟨x2, k2, w2⟩ := hcc H enc W held n _ _ g2
  refine ⟨(x0, x1, x2), ⟨_, _, ?_, k0, ⟨_, _, rfl, k1, k2⟩⟩, w0, w1, w2⟩
  rw [o0, o1, o2, c0, c1, c2, List.drop_zero]
  rw [List.take_of_length_le (l := cs.drop (a.sz + b.sz)) (by rw [List.length_drop]; omega), ← List.drop_drop, List.take_append_drop, List.take_append_drop]

theorem Opens.iso {α β : Type} {P : Program} {t : TypeId} {d : Kd α} {wf : α → Prop} (f : β → α) (g : α → β) (hg : ∀ a, f (g a) = a) (h : Opens P t d wf) : Opens P t (Kd.iso d f) (fun b => wf (f b)) := by
  intro H enc W held fuel cs x hx
  obtain ⟨a, hK, hw⟩ := h H enc W held fuel cs x hx
  refine ⟨g a, ?_, by show wf (f (g a)); rw [hg]; exact hw⟩
  show d.K W (f (g a)) cs
  rw [hg]; exact hK

/-- An argument that is a struct. -/
theorem Opens.agg {α : Type} {P : Program} {t : TypeId} {d : Kd α} {wf : α → Prop} {fs : Array Field} (h : Opens P t d wf) (hs : P.underlying t = some (.struct fs)) {H : Type} {enc : TypeId × Value → H} {W : World} {r : Reach} {b0 : Nat} {v : Value} {dd : DataW H} {ps : List MemPlace}
    (hv : Value.okWide P W r b0 t v) (ht : DataW.Trod enc P W 0 (fun _ => true) true t v dd ps) : ∃ (a : α) (cs : List Value), v = .agg cs.toArray ∧ d.K W a cs ∧ wf a := by
  obtain ⟨cs, rfl, _⟩ := okWide_struct hs hv
  obtain ⟨fuel, hf⟩ := ht
  obtain ⟨a, hK, hw⟩ := h H enc W true fuel _ _ hf
  exact ⟨a, _, by simp [Value.cells], hK, hw⟩
/-- An argument that is a slice. -/
theorem Opens.arg {α : Type} {P : Program} {t e : TypeId} {d : Kd α} {wf : List α → Prop} (h : Opens P t (Kd.slice e d) wf) (ht : P.underlying t = some (.slice e)) {H : Type} {enc : TypeId × Value → H} {W : World} {r : Reach} {b0 : Nat} {v : Value} {dd : DataW H} {ps : List MemPlace}
    (hv : Value.okWide P W r b0 t v) (hT : DataW.Trod enc P W 0 (fun _ => true) true t v dd ps) : ∃ (l : List α) (A : Option Addr) (c : Nat), v = .slice A l.length c ∧ l.length ≤ c ∧ d.C W A l.length l ∧ wf l := by
  obtain ⟨a, len, cap, rfl⟩ := okWide_slice ht hv
  obtain ⟨fuel, hf⟩ := hT
  obtain ⟨l, ⟨A, c, he, hl, hC⟩, hw⟩ := h H enc W true fuel _ _ hf
  have he2 : [Value.slice a len cap] = [Value.slice A l.length c] := by simpa [Value.cells] using he
  injection he2 with he2 _
  exact ⟨l, A, c, he2, hl, hC, hw⟩

end Go.Proofs.Ytpcchfklmcalaaa.X
