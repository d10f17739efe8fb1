/- The search for the fewest rolls: the program and the reference take the same steps; no condition but those that each theorem states. -/
import Derived.Test.YtipdmnibjkdpcaaPimplrollerput
import Derived.Test.YtipdmnibjkdpcaaPslicesCloneint64int64
import Derived.Test.YtipdmnibjkdpcaaPspecl00Max
import Derived.Test.YtipdmnibjkdpcaaPspecl02Try
import Derived.Test.YtipdmnibjkdpcaaXNum
namespace Go.Proofs.Ytipdmnibjkdpcaa.Pure
open Go.RowKit Go.Proofs.Ytipdmnibjkdpcaa.P Go.Proofs.YtipdmnibjkdpcaaW.PrintWords Go.Proofs.YtipdmnibjkdpcaaW.PrintLast Go.Proofs.YtipdmnibjkdpcaaW.PrintMore
set_option linter.unusedVariables false
set_option linter.unusedSimpArgs false

theorem cloneF (l : List Int) (h : l.length < 1000000) : slices_Clone_int64_int64.f l = some l := by
  rw [slices_Clone_int64_int64.f, Option.bind_some, if_pos (by simp; omega), List.nil_append]
/-- What is told of both searches from a state on: what the reference answers, and what the program. -/
structure SR (cu : List Int) (lo bu : Int) (n us : Nat) (ro le : List Int) (S : Nat → Option (Int × List Int × List Int × Int)) (I : Nat → Option (List Int × Bool × Int × Int × Int × Bool)) : Prop where
  out : ∃ (e : Int) (ro1 le1 : List Int) (tr1 : Int), Ev S (e, ro1, le1, tr1) ∧ 0 ≤ tr1 ∧ tr1 ≤ bu ∧
    ((e = 1 ∧ ro1.length = cu.length ∧ Ev I (ro1, true, lo, bu, tr1, false)) ∨ (e = 0 ∧ ro1 = ro ∧ le1 = le ∧ Ev I ([], false, lo, bu, tr1, false)) ∨ (e = -1 ∧ Ev I ([], false, lo, bu, tr1, true)))
/-- The numbers of a state lie where they should. -/
structure OkS (cu : List Int) (lo : Int) (n us : Nat) (ro le : List Int) : Prop where
  ln : le.length = n
  un : us ≤ n
  rc : ro.length ≤ cu.length
  free : ∀ j, us ≤ j → j < n → le.getD j 0 = lo
  rng : ∀ j, j < n → 0 ≤ le.getD j 0 ∧ le.getD j 0 ≤ 400
theorem take_last (l : List Int) (i : Nat) (h : i < l.length) : l.take (i + 1) = l.take i ++ [l.getD i 0] := by
  rw [List.take_add_one, List.getElem?_eq_getElem h, getD_eq l i h]; rfl
theorem getD_take (l : List Int) (m j : Nat) (h : j < m) : (l.take m).getD j 0 = l.getD j 0 := by
  rw [List.getD_eq_getElem?_getD, List.getElem?_take, if_pos h, ← List.getD_eq_getElem?_getD]
theorem OkS.next {cu : List Int} {lo : Int} {n us : Nat} {ro le : List Int} (h : OkS cu lo n us ro le) (x : Nat) (hx : x ≤ us) (hxn : x < n) (v : Int) (hv : 0 ≤ v ∧ v ≤ 400) (hr : ro.length < cu.length) (y : Int) : OkS cu lo n (max us (x + 1)) (ro ++ [y]) (le.set x v) := by
  refine ⟨by rw [List.length_set]; exact h.ln, ?_, by rw [List.length_append, List.length_singleton]; omega, fun j h1 h2 => ?_, fun j hj => ?_⟩
  · have := h.un; omega
  · rw [getD_set le x j v (by rw [h.ln]; exact hxn), if_neg (by omega)]
    exact h.free j (by omega) h2
  · rw [getD_set le x j v (by rw [h.ln]; exact hxn)]
    split
    · exact hv
    · exact h.rng j hj
/-- The rolls that the program hands on. -/
theorem next_left {cu : List Int} {lo : Int} {n us : Nat} {ro le : List Int} (h : OkS cu lo n us ro le) (x : Nat) (hx : x ≤ us) (hxn : x < n) : (if (x : Int) = ((le.take us).length : Int) then le.take us ++ [lo] else le.take us) = le.take (max us (x + 1)) := by
  have hl : (le.take us).length = us := by rw [List.length_take, h.ln]; have := h.un; omega
  rw [hl]
  by_cases c : x = us
  · rw [if_pos (by omega), show max us (x + 1) = us + 1 by omega, take_last le us (by rw [h.ln]; omega), h.free us (Nat.le_refl _) (by omega)]
  · rw [if_neg (by omega), show max us (x + 1) = us by omega]
section
variable (cu : List Int) (lo bu : Int) (n : Nat) (hc : cu.length ≤ 10) (hn : n ≤ 10) (hlo : 1 ≤ lo ∧ lo ≤ 400) (hbu : 0 ≤ bu ∧ bu ≤ 20000) (hcu : ∀ j, j < cu.length → 1 ≤ cu.getD j 0 ∧ cu.getD j 0 ≤ lo)
include hc hn hlo hbu hcu
/-- The rounds: behind what is known of the deeper searches. -/
theorem rt_loop (us : Nat) (ro le : List Int) (ok : OkS cu lo n us ro le) (hr : ro.length < cu.length)
    (ih : ∀ (us' : Nat) (ro' le' : List Int) (tr' : Int), OkS cu lo n us' ro' le' → ro'.length = ro.length + 1 → 0 ≤ tr' → tr' ≤ bu →
      SR cu lo bu n us' ro' le' (fun k => spec_l02Try.f k cu bu (us' : Int) ro' le' tr') (fun k => impl_roller_put.f k cu lo bu tr' false (n : Int) ro' (le'.take us')) ∧
        ((∃ e ro1 le1 tr1, Ev (fun k => spec_l02Try.f k cu bu (us' : Int) ro' le' tr') (e, ro1, le1, tr1) ∧ e = (0 : Int)) → n < us' + (cu.length - ro'.length))) :
    ∀ d x (tr : Int), min (us + 1) n - x = d → 0 ≤ tr → tr ≤ bu →
      SR cu lo bu n us ro le (fun k => spec_l02Try.l0 k cu bu (us : Int) (ro.length : Int) ro le tr (x : Int)) (fun k => impl_roller_put.l0 k (n : Int) ro (le.take us) (rd cu (ro.length : Int)) ((min (us + 1) n : Nat) : Int) (x : Int) cu lo bu tr false) ∧
        ((∃ e ro1 le1 tr1, Ev (fun k => spec_l02Try.l0 k cu bu (us : Int) (ro.length : Int) ro le tr (x : Int)) (e, ro1, le1, tr1) ∧ e = (0 : Int)) → x ≤ us → n < us + (cu.length - ro.length)) := by
  intro d
  induction d with
  | zero =>
    intro x tr hd h0 h1
    have e1 : ∀ k, spec_l02Try.l0 (k + 1) cu bu (us : Int) (ro.length : Int) ro le tr (x : Int) = some (0, ro, le, tr) := fun k => by
      rw [spec_l02Try.l0]
      by_cases c : (x : Int) ≤ (us : Int)
      · rw [if_pos c, if_neg (by rw [ok.ln]; omega)]
      · rw [if_neg c]
    have e2 : ∀ k, impl_roller_put.l0 (k + 1) (n : Int) ro (le.take us) (rd cu (ro.length : Int)) ((min (us + 1) n : Nat) : Int) (x : Int) cu lo bu tr false = some ([], false, lo, bu, tr, false) := fun k => by
      rw [impl_roller_put.l0, if_neg (by omega)]
    exact ⟨⟨0, ro, le, tr, Ev.step (f := fun _ => some (0, ro, le, tr)) e1 (Ev.now _), h0, h1, Or.inr (Or.inl ⟨rfl, rfl, rfl, Ev.step (f := fun _ => some (([] : List Int), false, lo, bu, tr, false)) e2 (Ev.now _)⟩)⟩, fun _ hx => by have := ok.un; omega⟩
  | succ d ihd =>
    intro x tr hd h0 h1
    have hxu : x ≤ us := by omega
    have hxn : x < n := by omega
    obtain ⟨c0, c1⟩ := hcu ro.length hr
    obtain ⟨l0, l1⟩ := ok.rng x hxn
    have hlen : (le.take us).length = us := by rw [List.length_take, ok.ln]; have := ok.un; omega
    have hnl := next_left ok x hxu hxn
    have hmx : max us (x + 1) ≤ n := by have := ok.un; omega
    have hml : (le.take (max us (x + 1))).length = max us (x + 1) := by rw [List.length_take, ok.ln]; omega
    have hgx : rd (le.take (max us (x + 1))) (x : Int) = le.getD x 0 := by rw [rdN, getD_take le _ x (by omega)]
    -- the program's round
    have eI : ∀ k, impl_roller_put.l0 (k + 2) (n : Int) ro (le.take us) (rd cu (ro.length : Int)) ((min (us + 1) n : Nat) : Int) (x : Int) cu lo bu tr false =
        (if le.getD x 0 < cu.getD ro.length 0 then impl_roller_put.l0 k (n : Int) ro (le.take us) (rd cu (ro.length : Int)) ((min (us + 1) n : Nat) : Int) ((x + 1 : Nat) : Int) cu lo bu tr false else (if tr = bu then some ([], false, lo, bu, tr, true) else
          (impl_roller_put.f k cu lo bu (wrap64 (tr + 1)) false (n : Int) (ro ++ [(x : Int)]) ((le.set x (wrap64 (le.getD x 0 - cu.getD ro.length 0))).take (max us (x + 1)))).bind fun bt231 => (if bt231.2.1 = true then (some (bt231.1, bt231.2.1, bt231.2.2.1, bt231.2.2.2.1, bt231.2.2.2.2.1, bt231.2.2.2.2.2)) else (if bt231.2.2.2.2.2 = true then (some (bt231.1, bt231.2.1, bt231.2.2.1, bt231.2.2.2.1, bt231.2.2.2.2.1, bt231.2.2.2.2.2)) else (impl_roller_put.l0 k (n : Int) ro (le.take us) (rd cu (ro.length : Int)) ((min (us + 1) n : Nat) : Int) ((x + 1 : Nat) : Int) cu bt231.2.2.1 bt231.2.2.2.1 bt231.2.2.2.2.1 bt231.2.2.2.2.2))))) := fun k => by
      have ej : ∀ nx, nx = le.take (max us (x + 1)) → impl_roller_put.j1 (k + 1) (n : Int) ro (le.take us) (rd cu (ro.length : Int)) (x : Int) nx ((min (us + 1) n : Nat) : Int) (x : Int) cu lo bu tr false =
        (if le.getD x 0 < cu.getD ro.length 0 then impl_roller_put.l0 k (n : Int) ro (le.take us) (rd cu (ro.length : Int)) ((min (us + 1) n : Nat) : Int) ((x + 1 : Nat) : Int) cu lo bu tr false else (if tr = bu then some ([], false, lo, bu, tr, true) else
          (impl_roller_put.f k cu lo bu (wrap64 (tr + 1)) false (n : Int) (ro ++ [(x : Int)]) ((le.set x (wrap64 (le.getD x 0 - cu.getD ro.length 0))).take (max us (x + 1)))).bind fun bt231 => (if bt231.2.1 = true then (some (bt231.1, bt231.2.1, bt231.2.2.1, bt231.2.2.2.1, bt231.2.2.2.2.1, bt231.2.2.2.2.2)) else (if bt231.2.2.2.2.2 = true then (some (bt231.1, bt231.2.1, bt231.2.2.1, bt231.2.2.2.1, bt231.2.2.2.2.1, bt231.2.2.2.2.2)) else (impl_roller_put.l0 k (n : Int) ro (le.take us) (rd cu (ro.length : Int)) ((min (us + 1) n : Nat) : Int) ((x + 1 : Nat) : Int) cu bt231.2.2.1 bt231.2.2.2.1 bt231.2.2.2.2.1 bt231.2.2.2.2.2))))) := fun nx hnx => by
        subst hnx
        rw [impl_roller_put.j1, if_pos (by omega), if_pos (by rw [hml]; omega), hgx, rdN cu ro.length, wN x (by omega), cloneF ro (by omega), Option.bind_some, if_pos (show ro.length < 17592186044416 by omega), List.take_set, Int.toNat_natCast]
      rw [impl_roller_put.l0, if_pos (by omega), cloneF _ (by omega), Option.bind_some]
      by_cases c : (x : Int) = ((le.take us).length : Int)
      · rw [if_pos c, if_pos (by omega)]
        exact ej _ (by rw [← hnl, if_pos c])
      · rw [if_neg c]
        exact ej _ (by rw [← hnl, if_neg c])
    -- the reference's round
    have eS : ∀ k, spec_l02Try.l0 (k + 1) cu bu (us : Int) (ro.length : Int) ro le tr (x : Int) =
        (if le.getD x 0 < cu.getD ro.length 0 then spec_l02Try.l0 k cu bu (us : Int) (ro.length : Int) ro le tr ((x + 1 : Nat) : Int) else (if tr = bu then some (-1, ro, le, tr) else
          (spec_l02Try.f k cu bu ((max us (x + 1) : Nat) : Int) (ro ++ [(x : Int)]) (le.set x (wrap64 (le.getD x 0 - cu.getD ro.length 0))) (wrap64 (tr + 1))).bind fun t =>
            (if t.1 = 0 then (if (ro.length : Int) ≤ (t.2.1.length : Int) ∧ (x : Int) < (t.2.2.1.length : Int) then spec_l02Try.l0 k cu bu (us : Int) (ro.length : Int) (t.2.1.take ro.length) (t.2.2.1.set x (wrap64 (rd t.2.2.1 (x : Int) + rd cu (ro.length : Int)))) t.2.2.2 ((x + 1 : Nat) : Int) else none) else some (t.1, t.2.1, t.2.2.1, t.2.2.2)))) := fun k => by
      rw [spec_l02Try.l0, if_pos (by omega), if_pos (by rw [ok.ln]; omega), if_pos ⟨by omega, by omega, by omega⟩, rdN le x, rdN cu ro.length, wN x (by omega), if_pos (show ro.length < 17592186044416 by omega)]
      have em : spec_l00Max.f (us : Int) ((x + 1 : Nat) : Int) = some ((max us (x + 1) : Nat) : Int) := by
        rw [spec_l00Max.f]
        by_cases c : (us : Int) > ((x + 1 : Nat) : Int)
        · rw [if_pos c]; congr 1; omega
        · rw [if_neg c]; congr 1; omega
      rw [em, Option.bind_some]
      rfl
    by_cases d5 : le.getD x 0 < cu.getD ro.length 0
    · obtain ⟨⟨e, ro1, le1, tr1, s1, t0, t1, hh⟩, hz⟩ := ihd (x + 1) tr (by omega) h0 h1
      have s2 : ∀ r, Ev (fun k => spec_l02Try.l0 k cu bu (us : Int) (ro.length : Int) ro le tr ((x + 1 : Nat) : Int)) r → Ev (fun k => spec_l02Try.l0 k cu bu (us : Int) (ro.length : Int) ro le tr (x : Int)) r := fun r hr' => Ev.step (fun k => by rw [eS k, if_pos d5]) hr'
      have i2 : ∀ r, Ev (fun k => impl_roller_put.l0 k (n : Int) ro (le.take us) (rd cu (ro.length : Int)) ((min (us + 1) n : Nat) : Int) ((x + 1 : Nat) : Int) cu lo bu tr false) r → Ev (fun k => impl_roller_put.l0 k (n : Int) ro (le.take us) (rd cu (ro.length : Int)) ((min (us + 1) n : Nat) : Int) (x : Int) cu lo bu tr false) r := fun r hr' => by
        obtain ⟨K, hK⟩ := EvG hr'
        refine EvI (K + 2) fun k hk => ?_
        obtain ⟨m, rfl⟩ : ∃ m, k = m + 2 := ⟨k - 2, by omega⟩
        rw [eI m, if_pos d5]; exact hK m (by omega)
      refine ⟨⟨e, ro1, le1, tr1, s2 _ s1, t0, t1, ?_⟩, fun ⟨e', ro', le', tr', hs', he'⟩ _ => ?_⟩
      · rcases hh with ⟨a, b, c⟩ | ⟨a, b, b2, c⟩ | ⟨a, c⟩
        · exact Or.inl ⟨a, b, i2 _ c⟩
        · exact Or.inr (Or.inl ⟨a, b, b2, i2 _ c⟩)
        · exact Or.inr (Or.inr ⟨a, i2 _ c⟩)
      · have hxne : x ≠ us := fun e' => by subst e'; have := ok.free x (Nat.le_refl _) hxn; omega
        obtain ⟨K1, g1⟩ := EvG hs'
        obtain ⟨K2, g2⟩ := EvG (s2 _ s1)
        have q := (g1 (K1 + K2) (by omega)).symm.trans (g2 (K1 + K2) (by omega))
        simp only [Option.some.injEq, Prod.mk.injEq] at q
        exact hz ⟨e, ro1, le1, tr1, s1, by rw [← q.1]; exact he'⟩ (by omega)
    · by_cases d6 : tr = bu
      · refine ⟨⟨-1, ro, le, tr, Ev.step (f := fun _ => some (-1, ro, le, tr)) (fun k => by rw [eS k, if_neg d5, if_pos d6]) (Ev.now _), h0, h1, Or.inr (Or.inr ⟨rfl, EvI 2 fun k hk => ?_⟩)⟩, fun ⟨e', ro', le', tr', hs', he'⟩ _ => ?_⟩
        · obtain ⟨m, rfl⟩ : ∃ m, k = m + 2 := ⟨k - 2, by omega⟩
          rw [eI m, if_neg d5, if_pos d6]
        · obtain ⟨K1, g1⟩ := EvG hs'
          have g := g1 (K1 + 1) (by omega)
          rw [eS K1, if_neg d5, if_pos d6] at g
          simp only [Option.some.injEq, Prod.mk.injEq] at g
          rw [he'] at g
          exact absurd g.1 (by decide)
      · have hv : wrap64 (le.getD x 0 - cu.getD ro.length 0) = le.getD x 0 - cu.getD ro.length 0 := w64 (by omega) (by omega)
        have ht : wrap64 (tr + 1) = tr + 1 := w64 (by omega) (by omega)
        have okn := ok.next x hxu hxn (le.getD x 0 - cu.getD ro.length 0) ⟨by omega, by omega⟩ hr (x : Int)
        obtain ⟨⟨e, ro1, le1, tr1, s1, t0, t1, hh⟩, hz⟩ := ih (max us (x + 1)) (ro ++ [(x : Int)]) (le.set x (le.getD x 0 - cu.getD ro.length 0)) (tr + 1) okn (by rw [List.length_append, List.length_singleton]) (by omega) (by omega)
        obtain ⟨K1, g1⟩ := EvG s1
        have eS2 : ∀ k, K1 ≤ k → spec_l02Try.l0 (k + 1) cu bu (us : Int) (ro.length : Int) ro le tr (x : Int) = (if e = 0 then (if (ro.length : Int) ≤ (ro1.length : Int) ∧ (x : Int) < (le1.length : Int) then spec_l02Try.l0 k cu bu (us : Int) (ro.length : Int) (ro1.take ro.length) (le1.set x (wrap64 (rd le1 (x : Int) + rd cu (ro.length : Int)))) tr1 ((x + 1 : Nat) : Int) else none) else some (e, ro1, le1, tr1)) := fun k hk => by
          rw [eS k, if_neg d5, if_neg d6, hv, ht, g1 k hk, Option.bind_some]
        rcases hh with ⟨rfl, b, c⟩ | ⟨rfl, rfl, rfl, c⟩ | ⟨rfl, c⟩
        · obtain ⟨K2, g2⟩ := EvG c
          refine ⟨⟨1, ro1, le1, tr1, EvI (K1 + 1) fun k hk => ?_, t0, t1, Or.inl ⟨rfl, b, EvI (K2 + 2) fun k hk => ?_⟩⟩, fun ⟨e', ro', le', tr', hs', he'⟩ _ => ?_⟩
          · obtain ⟨m, rfl⟩ : ∃ m, k = m + 1 := ⟨k - 1, by omega⟩
            rw [eS2 m (by omega), if_neg (by decide)]
          · obtain ⟨m, rfl⟩ : ∃ m, k = m + 2 := ⟨k - 2, by omega⟩
            rw [eI m, if_neg d5, if_neg d6, hv, ht, g2 m (by omega), Option.bind_some, if_pos rfl]
          · obtain ⟨K3, g3⟩ := EvG hs'
            have g := g3 (K1 + K3 + 1) (by omega)
            rw [eS2 (K1 + K3) (by omega), if_neg (by decide)] at g
            simp only [Option.some.injEq, Prod.mk.injEq] at g
            rw [he'] at g
            exact absurd g.1 (by decide)
        · obtain ⟨K2, g2⟩ := EvG c
          have hb1 : (ro ++ [(x : Int)]).take ro.length = ro := by simp
          have hb2 : rd (le.set x (le.getD x 0 - cu.getD ro.length 0)) (x : Int) = le.getD x 0 - cu.getD ro.length 0 := by
            rw [rdN, getD_set le x x _ (by rw [ok.ln]; exact hxn), if_pos rfl]
          have hb3 : (le.set x (le.getD x 0 - cu.getD ro.length 0)).set x (wrap64 (le.getD x 0 - cu.getD ro.length 0 + cu.getD ro.length 0)) = le := by
            rw [List.set_set, w64 (by omega) (by omega)]
            refine list_ext _ _ (by rw [List.length_set]) fun j hj => ?_
            rw [getD_set le x j _ (by rw [ok.ln]; exact hxn)]
            split
            · rename_i q; subst q; omega
            · rfl
          have eS3 : ∀ k, K1 ≤ k → spec_l02Try.l0 (k + 1) cu bu (us : Int) (ro.length : Int) ro le tr (x : Int) = spec_l02Try.l0 k cu bu (us : Int) (ro.length : Int) ro le tr1 ((x + 1 : Nat) : Int) := fun k hk => by
            rw [eS2 k hk, if_pos rfl, if_pos ⟨by rw [List.length_append]; omega, by rw [List.length_set, ok.ln]; omega⟩, hb1, hb2, rdN cu ro.length, hb3]
          have eI3 : ∀ k, K2 ≤ k → impl_roller_put.l0 (k + 2) (n : Int) ro (le.take us) (rd cu (ro.length : Int)) ((min (us + 1) n : Nat) : Int) (x : Int) cu lo bu tr false = impl_roller_put.l0 k (n : Int) ro (le.take us) (rd cu (ro.length : Int)) ((min (us + 1) n : Nat) : Int) ((x + 1 : Nat) : Int) cu lo bu tr1 false := fun k hk => by
            rw [eI k, if_neg d5, if_neg d6, hv, ht, g2 k hk, Option.bind_some, if_neg (by simp), if_neg (by simp)]
          obtain ⟨⟨e', ro', le', tr', s3, u0, u1, hh'⟩, hz'⟩ := ihd (x + 1) tr1 (by omega) t0 t1
          have s4 : ∀ r, Ev (fun k => spec_l02Try.l0 k cu bu (us : Int) (ro.length : Int) ro le tr1 ((x + 1 : Nat) : Int)) r → Ev (fun k => spec_l02Try.l0 k cu bu (us : Int) (ro.length : Int) ro le tr (x : Int)) r := fun r hr' => by
            obtain ⟨K, hK⟩ := EvG hr'
            refine EvI (K + K1 + 1) fun k hk => ?_
            obtain ⟨m, rfl⟩ : ∃ m, k = m + 1 := ⟨k - 1, by omega⟩
            rw [eS3 m (by omega)]; exact hK m (by omega)
          have i4 : ∀ r, Ev (fun k => impl_roller_put.l0 k (n : Int) ro (le.take us) (rd cu (ro.length : Int)) ((min (us + 1) n : Nat) : Int) ((x + 1 : Nat) : Int) cu lo bu tr1 false) r → Ev (fun k => impl_roller_put.l0 k (n : Int) ro (le.take us) (rd cu (ro.length : Int)) ((min (us + 1) n : Nat) : Int) (x : Int) cu lo bu tr false) r := fun r hr' => by
            obtain ⟨K, hK⟩ := EvG hr'
            refine EvI (K + K2 + 2) fun k hk => ?_
            obtain ⟨m, rfl⟩ : ∃ m, k = m + 2 := ⟨k - 2, by omega⟩
            rw [eI3 m (by omega)]; exact hK m (by omega)
          refine ⟨⟨e', ro', le', tr', s4 _ s3, u0, u1, ?_⟩, fun ⟨e2, ro2, le2, tr2, hs', he'⟩ _ => ?_⟩
          · rcases hh' with ⟨a, b, c⟩ | ⟨a, b, b2, c⟩ | ⟨a, c⟩
            · exact Or.inl ⟨a, b, i4 _ c⟩
            · exact Or.inr (Or.inl ⟨a, b, b2, i4 _ c⟩)
            · exact Or.inr (Or.inr ⟨a, i4 _ c⟩)
          · by_cases hxe : x = us
            · have hq := hz ⟨0, _, _, _, s1, rfl⟩
              rw [List.length_append, List.length_singleton] at hq
              omega
            · obtain ⟨K3, g3⟩ := EvG hs'
              obtain ⟨K4, g4⟩ := EvG (s4 _ s3)
              have q := (g3 (K3 + K4) (by omega)).symm.trans (g4 (K3 + K4) (by omega))
              simp only [Option.some.injEq, Prod.mk.injEq] at q
              exact hz' ⟨e', ro', le', tr', s3, by rw [← q.1]; exact he'⟩ (by omega)
        · obtain ⟨K2, g2⟩ := EvG c
          refine ⟨⟨-1, ro1, le1, tr1, EvI (K1 + 1) fun k hk => ?_, t0, t1, Or.inr (Or.inr ⟨rfl, EvI (K2 + 2) fun k hk => ?_⟩)⟩, fun ⟨e', ro', le', tr', hs', he'⟩ _ => ?_⟩
          · obtain ⟨m, rfl⟩ : ∃ m, k = m + 1 := ⟨k - 1, by omega⟩
            rw [eS2 m (by omega), if_neg (by decide)]
          · obtain ⟨m, rfl⟩ : ∃ m, k = m + 2 := ⟨k - 2, by omega⟩
            rw [eI m, if_neg d5, if_neg d6, hv, ht, g2 m (by omega), Option.bind_some, if_neg (by simp), if_pos rfl]
          · obtain ⟨K3, g3⟩ := EvG hs'
            have g := g3 (K1 + K3 + 1) (by omega)
            rw [eS2 (K1 + K3) (by omega), if_neg (by decide)] at g
            simp only [Option.some.injEq, Prod.mk.injEq] at g
            rw [he'] at g
            exact absurd g.1 (by decide)
/-- Both searches, from a state on. -/
theorem rt_both : ∀ d (us : Nat) (ro le : List Int) (tr : Int), cu.length - ro.length = d → OkS cu lo n us ro le → 0 ≤ tr → tr ≤ bu →
      SR cu lo bu n us ro le (fun k => spec_l02Try.f k cu bu (us : Int) ro le tr) (fun k => impl_roller_put.f k cu lo bu tr false (n : Int) ro (le.take us)) ∧
        ((∃ e ro1 le1 tr1, Ev (fun k => spec_l02Try.f k cu bu (us : Int) ro le tr) (e, ro1, le1, tr1) ∧ e = (0 : Int)) → n < us + (cu.length - ro.length)) := by
  intro d
  induction d with
  | zero =>
    intro us ro le tr hd ok h0 h1
    have hl : (ro.length : Int) = (cu.length : Int) := by have := ok.rc; omega
    refine ⟨⟨1, ro, le, tr, Ev.step (f := fun _ => some (1, ro, le, tr)) (fun k => by rw [spec_l02Try.f, if_pos hl]) (Ev.now _), h0, h1, Or.inl ⟨rfl, by omega, Ev.step (f := fun _ => some (ro, true, lo, bu, tr, false)) (fun k => by rw [impl_roller_put.f, if_pos hl]) (Ev.now _)⟩⟩, fun ⟨e', ro', le', tr', hs', he'⟩ => ?_⟩
    obtain ⟨K, g⟩ := EvG hs'
    have g := g (K + 1) (by omega)
    rw [spec_l02Try.f, if_pos hl] at g
    simp only [Option.some.injEq, Prod.mk.injEq] at g
    rw [he'] at g
    exact absurd g.1 (by decide)
  | succ d ihd =>
    intro us ro le tr hd ok h0 h1
    have hl : ¬ (ro.length : Int) = (cu.length : Int) := by omega
    have hlen : (le.take us).length = us := by rw [List.length_take, ok.ln]; have := ok.un; omega
    obtain ⟨⟨e, ro1, le1, tr1, s1, t0, t1, hh⟩, hz⟩ := rt_loop cu lo bu n hc hn hlo hbu hcu us ro le ok (by omega) (fun us' ro' le' tr' ok' hr' a b => ihd us' ro' le' tr' (by omega) ok' a b) _ 0 tr rfl h0 h1
    have eS : ∀ k, spec_l02Try.f (k + 1) cu bu (us : Int) ro le tr = spec_l02Try.l0 k cu bu (us : Int) (ro.length : Int) ro le tr ((0 : Nat) : Int) := fun k => by rw [spec_l02Try.f, if_neg hl]; rfl
    have em : mn (wrap64 (((le.take us).length : Int) + 1)) (n : Int) = ((min (us + 1) n : Nat) : Int) := by
      have := ok.un
      rw [hlen, wN us (by omega), mn]
      split <;> omega
    have eI : ∀ k, impl_roller_put.f (k + 1) cu lo bu tr false (n : Int) ro (le.take us) = impl_roller_put.l0 k (n : Int) ro (le.take us) (rd cu (ro.length : Int)) ((min (us + 1) n : Nat) : Int) ((0 : Nat) : Int) cu lo bu tr false := fun k => by
      rw [impl_roller_put.f, if_neg hl, if_pos (by omega), if_pos (by omega), em]; rfl
    have sF : Ev (fun k => spec_l02Try.f k cu bu (us : Int) ro le tr) (e, ro1, le1, tr1) := Ev.step eS s1
    refine ⟨⟨e, ro1, le1, tr1, sF, t0, t1, ?_⟩, fun ⟨e', ro', le', tr', hs', he'⟩ => ?_⟩
    · rcases hh with ⟨a, b, c⟩ | ⟨a, b, b2, c⟩ | ⟨a, c⟩
      · exact Or.inl ⟨a, b, Ev.step eI c⟩
      · exact Or.inr (Or.inl ⟨a, b, b2, Ev.step eI c⟩)
      · exact Or.inr (Or.inr ⟨a, Ev.step eI c⟩)
    · obtain ⟨K1, g1⟩ := EvG hs'
      obtain ⟨K2, g2⟩ := EvG sF
      have q := (g1 (K1 + K2) (by omega)).symm.trans (g2 (K1 + K2) (by omega))
      simp only [Option.some.injEq, Prod.mk.injEq] at q
      exact hz ⟨e, ro1, le1, tr1, s1, by rw [← q.1]; exact he'⟩ (Nat.zero_le _)
end

end Go.Proofs.Ytipdmnibjkdpcaa.Pure
