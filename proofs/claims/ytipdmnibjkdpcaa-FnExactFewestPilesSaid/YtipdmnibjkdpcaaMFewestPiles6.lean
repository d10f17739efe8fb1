/- The Go functions that the law FnExactFewestPiles comes to, as plain Lean functions, the proofs that calls of them return what those tell, and the plain lemmas on them; no condition but those that each theorem states. -/
import Derived.Test.YtipdmnibjkdpcaaMFewestPiles2
import Derived.Test.YtipdmnibjkdpcaaMFewestPiles3
import Derived.Test.YtipdmnibjkdpcaaMFewestPiles5
namespace Go.Proofs.Ytipdmnibjkdpcaa.P
open Go.RowKit Go.Proofs.YtipdmnibjkdpcaaW.PrintWords Go.Proofs.YtipdmnibjkdpcaaW.PrintLast Go.Proofs.YtipdmnibjkdpcaaW.PrintMore
attribute [local go_sem] max2_int min2_int max_two min_two max_three min_three max_four min_four
set_option linter.unusedVariables false
set_option linter.unusedSimpArgs false
-- needs 51 66 67
def impl_grouped_1.CX (w : World) (Nb Eb Mb Cb Q Y LB O F : Nat) (n most : Int) (A4 : Option Addr) (c4 : Nat) (l4 : List (S64)) : Prop :=
  w.heap[Nb]? = some (.cells #[.int .i64 n] 3 (0, 0)) ∧ w.heap[Eb]? = some (.cells #[.func (.func 67) #[] #[.pointer (some ⟨O, 0, none⟩), .pointer (some ⟨F, 0, none⟩)]] 28 (0, 0)) ∧ w.heap[Mb]? = some (.cells #[.func (.func 66) #[] #[.pointer (some ⟨Q, 0, none⟩), .pointer (some ⟨Y, 0, none⟩)]] 28 (0, 0)) ∧ w.heap[Cb]? = some (.cells #[.func (.func 76) #[] #[.pointer (some ⟨Nb, 0, none⟩), .pointer (some ⟨Eb, 0, none⟩), .pointer (some ⟨Mb, 0, none⟩), .pointer (some ⟨Cb, 0, none⟩)]] 28 (0, 0)) ∧
  w.heap[Q]? = some (.cells #[.int .i64 most] 2 (0, 0)) ∧ w.heap[Y]? = some (.cells #[.func (.func 68) #[] #[.pointer (some ⟨LB, 0, none⟩)]] 28 (0, 0)) ∧ w.heap[LB]? = some (.cells #[.slice A4 l4.length c4] 35 (0, 0)) ∧ (∃ v, w.heap[O]? = some (.cells #[v] 22 (0, 0))) ∧ (∃ v, w.heap[F]? = some (.cells #[v] 4 (0, 0)))
theorem impl_grouped_1.CX.below {w w' : World} {Nb Eb Mb Cb Q Y LB O F : Nat} {n most : Int} {A4 : Option Addr} {c4 : Nat} {l4 : List (S64)} (h : impl_grouped_1.CX w Nb Eb Mb Cb Q Y LB O F n most A4 c4 l4) (hb : Below w.heap.size w w') : impl_grouped_1.CX w' Nb Eb Mb Cb Q Y LB O F n most A4 c4 l4 := by
  obtain ⟨h1, h2, h3, h4, h5, h6, h7, ⟨v8, h8⟩, ⟨v9, h9⟩⟩ := h
  exact ⟨blk_below h1 hb, blk_below h2 hb, blk_below h3 hb, blk_below h4 hb, blk_below h5 hb, blk_below h6 hb, blk_below h7 hb, ⟨v8, blk_below h8 hb⟩, ⟨v9, blk_below h9 hb⟩⟩
def impl_grouped_1.Fnd (w0 w w' : World) (O F : Nat) (x : List Int) : Prop := Below w0.heap.size w0 w' ∧ KeepBut w w' O (some F) ∧ ∃ vo : Value, w'.heap[O]? = some (.cells #[vo] 22 (0, 0)) ∧ w'.heap[F]? = some (.cells #[.bool true] 4 (0, 0)) ∧ Kd.R (Kd.int .i64) 2 w' w0.heap.size (fun k => k ≠ O) vo x
theorem impl_grouped_1.Fnd.drewN {w0 w w' : World} {O F : Nat} {x : List Int} (h : impl_grouped_1.Fnd w0 w w' O F x) (m : Nat) : impl_grouped_1.Fnd w0 w (w'.drewN m) O F x := ⟨pw_below_drewN h.1 m, h.2⟩
theorem impl_grouped_1.Fnd.drew {w0 w w' : World} {O F : Nat} {x : List Int} (h : impl_grouped_1.Fnd w0 w w' O F x) : impl_grouped_1.Fnd w0 w w'.drew O F x := ⟨below_drew1 h.1, h.2⟩
theorem impl_grouped_1.Fnd.from_ {w0 w w1 w' : World} {O F : Nat} {x : List Int} (h : impl_grouped_1.Fnd w0 w1 w' O F x) (hb : Below w.heap.size w w1) : impl_grouped_1.Fnd w0 w w' O F x := ⟨h.1, (KeepBut.of_below hb O (some F)).trans h.2.1 (.inl rfl), h.2.2⟩
def impl_grouped_1.Post (w0 w w' : World) (O F : Nat) : Option (List Int) → Ending → Prop
  | none, e => e = .returned (.bool true) ∧ Below w.heap.size w w'
  | some x, e => e = .returned (.bool false) ∧ impl_grouped_1.Fnd w0 w w' O F x
def impl_grouped_1.nxt (t : Option (List Int)) (c : Option (Option (List Int))) : Option (Option (List Int)) := match t with
  | none => c
  | some x => some (some x)
mutual
def impl_grouped_1.l0 : Nat → List Int → Int → Int → Int → List (S64) → Int → Int → Option (Option (List Int))
  | 0, _, _, _, _, _, _, _ => none
  | k + 1, x0, x1, x2, x3, x4, x19, x20 => if x20 < x19 then ((impl_fewestGroups_1.f k x0 x20 x3 x4).bind fun t496 => (if t496 = true then ((slices_Clone_int64_int64.f x0).bind fun t497 => ((some (([x20] : List Int) : List Int)).bind fun y500 => (if t497.length + y500.length < 17592186044416 then ((impl_grouped_1.f k (t497 ++ y500) (mx x1 (wrap64 (x20 + 1))) x2 x3 x4).bind fun t506 => (impl_grouped_1.nxt t506 (impl_grouped_1.l0 k x0 x1 x2 x3 x4 x19 (wrap64 (x20 + 1))))) else (none)))) else (impl_grouped_1.l0 k x0 x1 x2 x3 x4 x19 (wrap64 (x20 + 1))))) else (some none)
def impl_grouped_1.f : Nat → List Int → Int → Int → Int → List (S64) → Option (Option (List Int))
  | 0, _, _, _, _, _ => none
  | k + 1, l0, a1, a2, a3, l4 => if (l0.length : Int) = a2 then (some (some l0)) else (impl_grouped_1.l0 k l0 a1 a2 a3 l4 (wrap64 (a1 + 1)) 0)
end
def impl_grouped_1.T6 : Bool × List (List Nat × List Nat) := (true, [([], []), ([], []), ([], []), ([0, 1, 2], [0, 1, 2]), ([3, 3], [3]), ([4], [4]), ([4], [4]), ([6, 4, 4], [4, 6]), ([4], [4]), ([8, 4], [4, 8]), ([7, 9, 7, 4], [4, 7, 9]), ([4], [4]), ([4], [4]), ([12, 4], [4, 12]), ([11, 13, 4], [4, 11, 13]), ([5, 10, 14, 10, 4], [4, 5, 10, 14]), ([15, 4], [4, 15]), ([4, 16], [4, 16])])
def impl_grouped_1.B6 : List Nat := [0, 0, 0, 7, 15, 31, 31, 95, 31, 287, 991, 31, 31, 4127, 14367, 32767, 65535, 131071]
theorem impl_grouped_1.tab6 : rtab .any (opsOf Try.f76 6) = impl_grouped_1.T6 := by kernel_rfl
theorem impl_grouped_1.bits6 : waitsOk impl_grouped_1.T6.2 impl_grouped_1.B6 = true := by kernel_rfl
set_option maxHeartbeats 16000000 in
set_option maxRecDepth 100000 in
theorem impl_grouped_1.calls (Nb Eb Mb Cb Q Y LB O F : Nat) (w0 : World) (k : Nat) : ∀ (A0 : Option Addr) (c0 : Nat) (l0 : List Int) (a1 : Int) (a2 : Int) (a3 : Int) (A4 : Option Addr) (c4 : Nat) (l4 : List (S64)) (r : Option (List Int)) (w : World) (hX : impl_grouped_1.CX w Nb Eb Mb Cb Q Y LB O F a2 a3 A4 c4 l4) (hB0 : Below w0.heap.size w0 w) (hO0 : w0.heap.size ≤ O) (hF0 : w0.heap.size ≤ F) (hn0 : Kd.R (Kd.int .i64) 2 w w0.heap.size (fun k => k ≠ O ∧ k ≠ F) (.slice A0 l0.length c0) l0) (hr4 : Kd.C k64 w A4 l4.length l4) (hc4 : l4.length ≤ c4) (h : impl_grouped_1.f k l0 a1 a2 a3 l4 = some r),
    Calls Try.prog 76 #[.slice A0 l0.length c0, .int .i64 a1, .pointer (some ⟨Nb, 0, none⟩), .pointer (some ⟨Eb, 0, none⟩), .pointer (some ⟨Mb, 0, none⟩), .pointer (some ⟨Cb, 0, none⟩)] w fun e w' => impl_grouped_1.Post w0 w w' O F r e := by
  induction k using Nat.strongRecOn with
  | _ k ih =>
  intro A0 c0 l0 a1 a2 a3 A4 c4 l4 r w hX hB0 hO0 hF0 hn0 hr4 hc4 h
  cases k with
  | zero => exact absurd h (by simp [impl_grouped_1.f])
  | succ k =>
  simp only [impl_grouped_1.f] at h
  have HR0 := Aside0.mk (Kd.R_reads' hn0).2.2
  have HC0 := Aside0.mk (Kd.R_reads' hn0).2.1
  have HN0 := Aside0.mk hn0
  clear hn0
  have HR4 := Aside0.mk hr4
  have HC4 := Aside0.mk hc4
  clear hr4 hc4
  have HB := Aside0.mk (Below.refl w.heap.size w)
  have HB0 := Aside0.mk hB0
  have HX := Aside0.mk hX
  have HO0 := Aside0.mk hO0
  have HF0 := Aside0.mk hF0
  obtain ⟨hn, he, hm, hc, hq, hy, hl, ⟨vo, ho⟩, ⟨vf, hf⟩⟩ := hX
  have HLT := Aside0.mk (And.intro (blk_lt ho) (blk_lt hf))
  have HMC := Aside0.mk (And.intro hm hc)
  have HNE := Aside0.mk (show (Mb ≠ O ∧ Mb ≠ F) ∧ (Cb ≠ O ∧ Cb ≠ F) from ⟨⟨impl_fewestGroups_2.ne_type hm ho (by decide), impl_fewestGroups_2.ne_type hm hf (by decide)⟩, ⟨impl_fewestGroups_2.ne_type hc ho (by decide), impl_fewestGroups_2.ne_type hc hf (by decide)⟩⟩)
  have hcN : w.cell? ⟨Nb, 0, none⟩ = some (.int .i64 a2) := (blk_cell hn 0).trans rfl
  have hcE : w.cell? ⟨Eb, 0, none⟩ = some (.func (.func 67) #[] #[.pointer (some ⟨O, 0, none⟩), .pointer (some ⟨F, 0, none⟩)]) := (blk_cell he 0).trans rfl
  have HOF := Aside0.mk (And.intro ho hf)
  clear hn he hm hc hq hy hl ho hf hB0 hO0 hF0
  have H : (if (l0.length : Int) = a2 then (some (some l0)) else (impl_grouped_1.l0 k l0 a1 a2 a3 l4 (wrap64 (a1 + 1)) 0)) = some r := h
  clear h
  by_cases c6 : (l0.length : Int) = a2
  rotate_left
  · rw [if_neg c6] at H
    have c6b0 : ((l0.length : Int) == a2) = false := beq_eq_false_iff_ne.mpr c6
    have c6b1 : ((l0.length : Int) != a2) = true := bne_iff_ne.mpr c6
    have H' := Aside0.mk H
    clear H
    go_enter Try.func76, Try.ntmps76
    go_wp2
    go_loopg [20] k (fun kq v20 w' => ∃ (x20_1 : Int), v20 = .int .i64 x20_1 ∧ Aside0 (impl_grouped_1.l0 kq l0 a1 a2 a3 l4 (wrap64 (a1 + 1)) x20_1 = some r) ∧ Aside0 (kq ≤ k) ∧ Aside0 (Below w.heap.size w w'))
    case atStart => exact ⟨(0), (by first | rfl | (simp; done) | (simp [*]; done)), H', ⟨Nat.le_refl _⟩, ⟨by repeat (first | (with_reducible first | exact HB.out | apply below_alloc | apply pw_below_drewN | apply below_drew1) | exact HB.out)⟩⟩
    case round =>
      clear H'
      try clear p2
      try clear c4
      try clear c6
      try clear c6b0
      try clear c6b1
      try clear hcN
      try clear hcE
      try clear p6
      obtain ⟨x20_1, rfl, HA, HK1, HB⟩ := hrel
      cases gk with
      | zero => exact absurd HA.out (by simp [impl_grouped_1.l0])
      | succ k1 =>
        have H := HA.out
        clear HA
        simp only [impl_grouped_1.l0] at H
        by_cases c7 : x20_1 < (wrap64 (a1 + 1))
        rotate_left
        · rw [if_neg c7] at H
          have c7b0 : decide (x20_1 < (wrap64 (a1 + 1))) = false := decide_eq_false c7
          clear c7
          obtain rfl := Option.some.inj H
          go_wp2
          go_ret
          exact ⟨by first | rfl | (simp [errW_none, errW_some] <;> rfl) | (simp [*, errW_none, errW_some] <;> rfl), by repeat (first | (with_reducible first | exact HB.out | apply below_alloc | apply pw_below_drewN | apply below_drew1) | exact HB.out)⟩
        rw [if_pos c7] at H
        have c7b0 : decide (x20_1 < (wrap64 (a1 + 1))) = true := decide_eq_true c7
        clear c7
        replace H := Option.bind_eq_some_iff.mp H
        obtain ⟨t496, A80, H⟩ := H
        replace H : (if t496 = true then ((slices_Clone_int64_int64.f l0).bind fun t497 => ((some (([x20_1] : List Int) : List Int)).bind fun y500 => (if t497.length + y500.length < 17592186044416 then ((impl_grouped_1.f k1 (t497 ++ y500) (mx a1 (wrap64 (x20_1 + 1))) a2 a3 l4).bind fun t506 => (impl_grouped_1.nxt t506 (impl_grouped_1.l0 k1 l0 a1 a2 a3 l4 (wrap64 (a1 + 1)) (wrap64 (x20_1 + 1))))) else (none)))) else (impl_grouped_1.l0 k1 l0 a1 a2 a3 l4 (wrap64 (a1 + 1)) (wrap64 (x20_1 + 1)))) = some r := H
        have A8 := Aside0.mk A80
        clear A80
        by_cases c9 : t496 = true
        rotate_left
        · replace c9 := Bool.eq_false_iff.mpr c9
          subst c9
          have H1 : (impl_grouped_1.l0 k1 l0 a1 a2 a3 l4 (wrap64 (a1 + 1)) (wrap64 (x20_1 + 1))) = some r := by rw [if_neg (show ¬ (false = true) by decide)] at H; exact H
          clear H
          have H := H1
          clear H1
          have H' := Aside0.mk H
          clear H
          try go_wp2
          have n0_ := Aside0.mk (below_drew1 HB.out)
          clear HB
          have HB := n0_
          clear n0_
          refine start_ (n := 18) (S := fun w' => w'.cell? ⟨Mb, 0, none⟩ = some (.func (.func 66) #[] #[.pointer (some ⟨Q, 0, none⟩), .pointer (some ⟨Y, 0, none⟩)]) ∧ w'.cell? ⟨Cb, 0, none⟩ = some (.func (.func 76) #[] #[.pointer (some ⟨Nb, 0, none⟩), .pointer (some ⟨Eb, 0, none⟩), .pointer (some ⟨Mb, 0, none⟩), .pointer (some ⟨Cb, 0, none⟩)])) (ds := []) #[false, false, false, false, false, false, false, false, false, false, false, false, false, false, false, false, false, false] (by kernel_rfl) rfl rfl ⟨(blk_cell (blk_below HMC.out.1 HB.out) 0).trans rfl, (blk_cell (blk_below HMC.out.2 HB.out) 0).trans rfl⟩ (fun hHeld => ?_); refine with_tabW impl_grouped_1.tab6 impl_grouped_1.bits6 (fun HT_ HW_ => ?_)
          generalize wr.drew = w35 at HB hHeld ⊢
          refine take_ (i := 0) (N := some 23) (v := ?_) (a' := ?_) #[true, false, false, false, false, false, false, false, false, false, false, false, false, false, false, false, false, false] rfl rfl (take_ofW HT_.out HW_.out (by kernel_rfl)) (fun _ _ _ h => h) (Or.inl ⟨by rfl, ?_⟩) hHeld ?_ ?_
          rotate_left
          · rintro w' ⟨sM, sC⟩
            go_simp
            with_reducible rfl
          rotate_left
          · simp only [Act.put, List.setIfInBounds_toArray, List.set_cons_zero, List.set_cons_succ, i64_w, i32_w]
            rfl
          refine pure_ (i := 1) (N := some 24) (v := ?_) (a' := ?_) #[true, true, false, false, false, false, false, false, false, false, false, false, false, false, false, false, false, false] rfl rfl (any_of HT_.out (by kernel_rfl)) (fun _ _ _ h => h) (Or.inl ⟨by rfl, ?_⟩) ?_ ?_
          rotate_left
          · intro w'
            go_simp
            with_reducible rfl
          rotate_left
          · simp only [Act.put, List.setIfInBounds_toArray, List.set_cons_zero, List.set_cons_succ, i64_w, i32_w]
            rfl
          refine pure_ (i := 2) (N := some 25) (v := ?_) (a' := ?_) #[true, true, true, false, false, false, false, false, false, false, false, false, false, false, false, false, false, false] rfl rfl (any_of HT_.out (by kernel_rfl)) (fun _ _ _ h => h) (Or.inl ⟨by rfl, ?_⟩) ?_ ?_
          rotate_left
          · intro w'
            go_simp
            with_reducible rfl
          rotate_left
          · simp only [Act.put, List.setIfInBounds_toArray, List.set_cons_zero, List.set_cons_succ, i64_w, i32_w]
            rfl
          refine one_ (i := 3) (N := some 26) #[true, true, true, true, false, false, false, false, false, false, false, false, false, false, false, false, false, false] rfl rfl (one_of HT_.out (by kernel_rfl)) (by decide) (fun K hK => ?_)
          refine impl_mayPile.goesFC_ Try.func66 (by kernel_rfl) rfl #[.slice A0 l0.length c0, .int .i64 x20_1] (lb := #[.pointer (some ⟨Q, 0, none⟩), .pointer (some ⟨Y, 0, none⟩)]) (by rfl) rfl rfl (by (try simp only [List.map_toArray, List.map_cons, List.map_nil]); first | done | rfl | (simp only [List.length_drop, List.length_take]; rfl)) ?_
          refine (impl_fewestGroups_1.calls k1 _ _ l0 x20_1 a3 _ _ l4 false _ Q Y LB (blk_below HX.out.2.2.2.2.1 HB.out) (blk_below HX.out.2.2.2.2.2.1 HB.out) (blk_below HX.out.2.2.2.2.2.2.1 HB.out) ?side1 ?side2 ?side3 ?side4 A8.out).mono ?_
          (case side1 => repeat (first | exact (Kd.C_below HR0.out HB.out) | (with_reducible refine Kd.C_alloc ?_ _) | (with_reducible refine Kd.C_drewN ?_ _) | (with_reducible refine Kd.C_drew ?_)))
          (case side2 => exact HC0.out)
          (case side3 => repeat (first | exact (Kd.C_below HR4.out HB.out) | (with_reducible refine Kd.C_alloc ?_ _) | (with_reducible refine Kd.C_drewN ?_ _) | (with_reducible refine Kd.C_drew ?_)))
          (case side4 => exact HC4.out)
          rintro e w36 ⟨rfl, hb⟩
          refine ⟨_, rfl, ?_⟩
          have n0_ := Aside0.mk (below_step (by repeat (first | (with_reducible first | exact HB.out | apply below_alloc | apply pw_below_drewN | apply below_drew1) | exact HB.out)) hb)
          clear HB
          have HB := n0_
          clear n0_
          (try clear hb)
          (try clear hb2)
          (try clear hk)
          (try clear hi)
          refine hK.out _ _ ⟨(blk_cell (blk_below HMC.out.1 HB.out) 0).trans rfl, (blk_cell (blk_below HMC.out.2 HB.out) 0).trans rfl⟩ (fun hHeld => ?_)
          clear hK K
          refine norm_ (a' := ?_) ?_ ?_
          rotate_left
          · show Act.put _ (some 26) _ = _
            simp only [Act.put, List.setIfInBounds_toArray, List.set_cons_zero, List.set_cons_succ, i64_w, i32_w]
            rfl
          refine pure_ (i := 4) (N := some 27) (v := ?_) (a' := ?_) #[true, true, true, true, true, false, false, false, false, false, false, false, false, false, false, false, false, false] rfl rfl (any_of HT_.out (by kernel_rfl)) (fun _ _ _ h => h) (Or.inl ⟨by rfl, ?_⟩) ?_ ?_
          rotate_left
          · intro w'
            go_simp
            with_reducible rfl
          rotate_left
          · simp only [Act.put, List.setIfInBounds_toArray, List.set_cons_zero, List.set_cons_succ, i64_w, i32_w]
            rfl
          refine pure_ (i := 5) (N := some 28) (v := undef) (a' := ?_) #[true, true, true, true, true, true, false, false, false, false, false, false, false, false, false, false, false, false] rfl rfl (any_of HT_.out (by kernel_rfl)) (fun _ _ _ h => h) (Or.inr ⟨by rfl, rfl⟩) ?_ ?_
          rotate_left
          · simp only [Act.put, List.setIfInBounds_toArray, List.set_cons_zero, List.set_cons_succ, i64_w, i32_w]
            rfl
          refine pure_ (i := 6) (N := some 29) (v := undef) (a' := ?_) #[true, true, true, true, true, true, true, false, false, false, false, false, false, false, false, false, false, false] rfl rfl (any_of HT_.out (by kernel_rfl)) (fun _ _ _ h => h) (Or.inr ⟨by rfl, rfl⟩) ?_ ?_
          rotate_left
          · simp only [Act.put, List.setIfInBounds_toArray, List.set_cons_zero, List.set_cons_succ, i64_w, i32_w]
            rfl
          refine pure_ (i := 7) (N := some 30) (v := undef) (a' := ?_) #[true, true, true, true, true, true, true, true, false, false, false, false, false, false, false, false, false, false] rfl rfl (any_of HT_.out (by kernel_rfl)) (fun _ _ _ h => h) (Or.inr ⟨by rfl, rfl⟩) ?_ ?_
          rotate_left
          · simp only [Act.put, List.setIfInBounds_toArray, List.set_cons_zero, List.set_cons_succ, i64_w, i32_w]
            rfl
          refine pure_ (i := 8) (N := some 31) (v := undef) (a' := ?_) #[true, true, true, true, true, true, true, true, true, false, false, false, false, false, false, false, false, false] rfl rfl (any_of HT_.out (by kernel_rfl)) (fun _ _ _ h => h) (Or.inr ⟨by rfl, rfl⟩) ?_ ?_
          rotate_left
          · simp only [Act.put, List.setIfInBounds_toArray, List.set_cons_zero, List.set_cons_succ, i64_w, i32_w]
            rfl
          refine pure_ (i := 9) (N := some 32) (v := undef) (a' := ?_) #[true, true, true, true, true, true, true, true, true, true, false, false, false, false, false, false, false, false] rfl rfl (any_of HT_.out (by kernel_rfl)) (fun _ _ _ h => h) (Or.inr ⟨by rfl, rfl⟩) ?_ ?_
          rotate_left
          · simp only [Act.put, List.setIfInBounds_toArray, List.set_cons_zero, List.set_cons_succ, i64_w, i32_w]
            rfl
          refine pure_ (i := 10) (N := some 33) (v := undef) (a' := ?_) #[true, true, true, true, true, true, true, true, true, true, true, false, false, false, false, false, false, false] rfl rfl (any_of HT_.out (by kernel_rfl)) (fun _ _ _ h => h) (Or.inr ⟨by rfl, rfl⟩) ?_ ?_
          rotate_left
          · simp only [Act.put, List.setIfInBounds_toArray, List.set_cons_zero, List.set_cons_succ, i64_w, i32_w]
            rfl
          refine pure_ (i := 11) (N := some 34) (v := undef) (a' := ?_) #[true, true, true, true, true, true, true, true, true, true, true, true, false, false, false, false, false, false] rfl rfl (any_of HT_.out (by kernel_rfl)) (fun _ _ _ h => h) (Or.inr ⟨by rfl, rfl⟩) ?_ ?_
          rotate_left
          · simp only [Act.put, List.setIfInBounds_toArray, List.set_cons_zero, List.set_cons_succ, i64_w, i32_w]
            rfl
          refine pure_ (i := 12) (N := some 35) (v := undef) (a' := ?_) #[true, true, true, true, true, true, true, true, true, true, true, true, true, false, false, false, false, false] rfl rfl (any_of HT_.out (by kernel_rfl)) (fun _ _ _ h => h) (Or.inr ⟨by rfl, rfl⟩) ?_ ?_
          rotate_left
          · simp only [Act.put, List.setIfInBounds_toArray, List.set_cons_zero, List.set_cons_succ, i64_w, i32_w]
            rfl
          refine pure_ (i := 13) (N := some 36) (v := undef) (a' := ?_) #[true, true, true, true, true, true, true, true, true, true, true, true, true, true, false, false, false, false] rfl rfl (any_of HT_.out (by kernel_rfl)) (fun _ _ _ h => h) (Or.inr ⟨by rfl, rfl⟩) ?_ ?_
          rotate_left
          · simp only [Act.put, List.setIfInBounds_toArray, List.set_cons_zero, List.set_cons_succ, i64_w, i32_w]
            rfl
          refine pure_ (i := 14) (N := some 37) (v := undef) (a' := ?_) #[true, true, true, true, true, true, true, true, true, true, true, true, true, true, true, false, false, false] rfl rfl (any_of HT_.out (by kernel_rfl)) (fun _ _ _ h => h) (Or.inr ⟨by rfl, rfl⟩) ?_ ?_
          rotate_left
          · simp only [Act.put, List.setIfInBounds_toArray, List.set_cons_zero, List.set_cons_succ, i64_w, i32_w]
            rfl
          refine pure_ (i := 15) (N := some 38) (v := undef) (a' := ?_) #[true, true, true, true, true, true, true, true, true, true, true, true, true, true, true, true, false, false] rfl rfl (any_of HT_.out (by kernel_rfl)) (fun _ _ _ h => h) (Or.inr ⟨by rfl, rfl⟩) ?_ ?_
          rotate_left
          · simp only [Act.put, List.setIfInBounds_toArray, List.set_cons_zero, List.set_cons_succ, i64_w, i32_w]
            rfl
          refine pure_ (i := 16) (N := some 39) (v := undef) (a' := ?_) #[true, true, true, true, true, true, true, true, true, true, true, true, true, true, true, true, true, false] rfl rfl (any_of HT_.out (by kernel_rfl)) (fun _ _ _ h => h) (Or.inr ⟨by rfl, rfl⟩) ?_ ?_
          rotate_left
          · simp only [Act.put, List.setIfInBounds_toArray, List.set_cons_zero, List.set_cons_succ, i64_w, i32_w]
            rfl
          refine pure_ (i := 17) (N := some 40) (v := ?_) (a' := ?_) #[true, true, true, true, true, true, true, true, true, true, true, true, true, true, true, true, true, true] rfl rfl (any_of HT_.out (by kernel_rfl)) (fun _ _ _ h => h) (Or.inl ⟨by rfl, ?_⟩) ?_ ?_
          rotate_left
          · intro w'
            go_simp
            with_reducible rfl
          rotate_left
          · simp only [Act.put, List.setIfInBounds_toArray, List.set_cons_zero, List.set_cons_succ, i64_w, i32_w]
            rfl
          refine done_ (done_of HT_.out (by kernel_rfl)) ?_
          try go_wp2
          go_roundg k1
          case measure => have := HK1.out; omega
          case rel => exact ⟨(wrap64 (x20_1 + 1)), (by first | rfl | (simp; done) | (simp [*]; done)), H', ⟨by have := HK1.out; omega⟩, ⟨by repeat (first | (with_reducible first | exact HB.out | apply below_alloc | apply pw_below_drewN | apply below_drew1) | exact HB.out)⟩⟩
        subst c9
        have H1 : ((slices_Clone_int64_int64.f l0).bind fun t497 => ((some (([x20_1] : List Int) : List Int)).bind fun y500 => (if t497.length + y500.length < 17592186044416 then ((impl_grouped_1.f k1 (t497 ++ y500) (mx a1 (wrap64 (x20_1 + 1))) a2 a3 l4).bind fun t506 => (impl_grouped_1.nxt t506 (impl_grouped_1.l0 k1 l0 a1 a2 a3 l4 (wrap64 (a1 + 1)) (wrap64 (x20_1 + 1))))) else (none)))) = some r := by rw [if_pos rfl] at H; exact H
        clear H
        have H := H1
        clear H1
        replace H := Option.bind_eq_some_iff.mp H
        obtain ⟨t497, A100, H⟩ := H
        replace H : ((some (([x20_1] : List Int) : List Int)).bind fun y500 => (if t497.length + y500.length < 17592186044416 then ((impl_grouped_1.f k1 (t497 ++ y500) (mx a1 (wrap64 (x20_1 + 1))) a2 a3 l4).bind fun t506 => (impl_grouped_1.nxt t506 (impl_grouped_1.l0 k1 l0 a1 a2 a3 l4 (wrap64 (a1 + 1)) (wrap64 (x20_1 + 1))))) else (none))) = some r := H
        have A10 := Aside0.mk A100
        clear A100
        obtain ⟨y500, hy500⟩ : ∃ y_ : List Int, y_ = (([x20_1] : List Int)) := ⟨_, rfl⟩
        replace H : (if t497.length + y500.length < 17592186044416 then ((impl_grouped_1.f k1 (t497 ++ y500) (mx a1 (wrap64 (x20_1 + 1))) a2 a3 l4).bind fun t506 => (impl_grouped_1.nxt t506 (impl_grouped_1.l0 k1 l0 a1 a2 a3 l4 (wrap64 (a1 + 1)) (wrap64 (x20_1 + 1))))) else (none)) = some r := by first | (rw [hy500]; with_reducible exact H) | (have H2_ := (Option.bind_some _ _).symm.trans H; rw [hy500]; with_reducible exact H2_) | (have H2_ := (Option.bind_some _ _).symm.trans H; with_reducible exact H2_) | with_reducible exact H | (rw [hy500]; exact H) | exact H
        have Ny500 := Aside0.mk hy500
        clear hy500
        by_cases c11 : t497.length + y500.length < 17592186044416
        rotate_left
        · rw [if_neg c11] at H
          exact absurd H (by simp)
        rw [if_pos c11] at H
        have LMc11 := Aside0.mk c11
        clear c11
        obtain ⟨y503, hy503⟩ : ∃ y_ : List Int, y_ = (t497 ++ y500) := ⟨_, rfl⟩
        replace H : ((impl_grouped_1.f k1 y503 (mx a1 (wrap64 (x20_1 + 1))) a2 a3 l4).bind fun t506 => (impl_grouped_1.nxt t506 (impl_grouped_1.l0 k1 l0 a1 a2 a3 l4 (wrap64 (a1 + 1)) (wrap64 (x20_1 + 1))))) = some r := by first | (rw [hy503]; with_reducible exact H) | (have H2_ := (Option.bind_some _ _).symm.trans H; rw [hy503]; with_reducible exact H2_) | (have H2_ := (Option.bind_some _ _).symm.trans H; with_reducible exact H2_) | with_reducible exact H | (rw [hy503]; exact H) | exact H
        have Ny503 := Aside0.mk hy503
        clear hy503
        obtain ⟨ji12, hji12⟩ : ∃ j_ : Int, (mx a1 (wrap64 (x20_1 + 1))) = j_ := ⟨_, rfl⟩
        replace H : ((impl_grouped_1.f k1 y503 (ji12) a2 a3 l4).bind fun t506 => (impl_grouped_1.nxt t506 (impl_grouped_1.l0 k1 l0 a1 a2 a3 l4 (wrap64 (a1 + 1)) (wrap64 (x20_1 + 1))))) = some r := by first | (rw [hji12] at H; exact H) | (simp only [hji12] at H ⊢; exact H)
        (try rw [hji12] at A8)
        (try rw [hji12] at A10)
        have hji12_ : (if a1 < (wrap64 (x20_1 + 1)) then (wrap64 (x20_1 + 1)) else a1) = ji12 := hji12
        replace H := Option.bind_eq_some_iff.mp H
        obtain ⟨t506, A130, H⟩ := H
        replace H : (impl_grouped_1.nxt t506 (impl_grouped_1.l0 k1 l0 a1 a2 a3 l4 (wrap64 (a1 + 1)) (wrap64 (x20_1 + 1)))) = some r := H
        have A13 := Aside0.mk A130
        clear A130
        rcases t506 with _ | xf
        · have H1 : (impl_grouped_1.l0 k1 l0 a1 a2 a3 l4 (wrap64 (a1 + 1)) (wrap64 (x20_1 + 1))) = some r := H
          clear H
          have H := H1
          clear H1
          have H' := Aside0.mk H
          clear H
          try go_wp2
          have n0_ := Aside0.mk (below_drew1 HB.out)
          clear HB
          have HB := n0_
          clear n0_
          refine start_ (n := 18) (S := fun w' => w'.cell? ⟨Mb, 0, none⟩ = some (.func (.func 66) #[] #[.pointer (some ⟨Q, 0, none⟩), .pointer (some ⟨Y, 0, none⟩)]) ∧ w'.cell? ⟨Cb, 0, none⟩ = some (.func (.func 76) #[] #[.pointer (some ⟨Nb, 0, none⟩), .pointer (some ⟨Eb, 0, none⟩), .pointer (some ⟨Mb, 0, none⟩), .pointer (some ⟨Cb, 0, none⟩)])) (ds := []) #[false, false, false, false, false, false, false, false, false, false, false, false, false, false, false, false, false, false] (by kernel_rfl) rfl rfl ⟨(blk_cell (blk_below HMC.out.1 HB.out) 0).trans rfl, (blk_cell (blk_below HMC.out.2 HB.out) 0).trans rfl⟩ (fun hHeld => ?_); refine with_tabW impl_grouped_1.tab6 impl_grouped_1.bits6 (fun HT_ HW_ => ?_)
          generalize wr.drew = w15 at HB hHeld ⊢
          refine take_ (i := 0) (N := some 23) (v := ?_) (a' := ?_) #[true, false, false, false, false, false, false, false, false, false, false, false, false, false, false, false, false, false] rfl rfl (take_ofW HT_.out HW_.out (by kernel_rfl)) (fun _ _ _ h => h) (Or.inl ⟨by rfl, ?_⟩) hHeld ?_ ?_
          rotate_left
          · rintro w' ⟨sM, sC⟩
            go_simp
            with_reducible rfl
          rotate_left
          · simp only [Act.put, List.setIfInBounds_toArray, List.set_cons_zero, List.set_cons_succ, i64_w, i32_w]
            rfl
          refine pure_ (i := 1) (N := some 24) (v := ?_) (a' := ?_) #[true, true, false, false, false, false, false, false, false, false, false, false, false, false, false, false, false, false] rfl rfl (any_of HT_.out (by kernel_rfl)) (fun _ _ _ h => h) (Or.inl ⟨by rfl, ?_⟩) ?_ ?_
          rotate_left
          · intro w'
            go_simp
            with_reducible rfl
          rotate_left
          · simp only [Act.put, List.setIfInBounds_toArray, List.set_cons_zero, List.set_cons_succ, i64_w, i32_w]
            rfl
          refine pure_ (i := 2) (N := some 25) (v := ?_) (a' := ?_) #[true, true, true, false, false, false, false, false, false, false, false, false, false, false, false, false, false, false] rfl rfl (any_of HT_.out (by kernel_rfl)) (fun _ _ _ h => h) (Or.inl ⟨by rfl, ?_⟩) ?_ ?_
          rotate_left
          · intro w'
            go_simp
            with_reducible rfl
          rotate_left
          · simp only [Act.put, List.setIfInBounds_toArray, List.set_cons_zero, List.set_cons_succ, i64_w, i32_w]
            rfl
          refine one_ (i := 3) (N := some 26) #[true, true, true, true, false, false, false, false, false, false, false, false, false, false, false, false, false, false] rfl rfl (one_of HT_.out (by kernel_rfl)) (by decide) (fun K hK => ?_)
          refine impl_mayPile.goesFC_ Try.func66 (by kernel_rfl) rfl #[.slice A0 l0.length c0, .int .i64 x20_1] (lb := #[.pointer (some ⟨Q, 0, none⟩), .pointer (some ⟨Y, 0, none⟩)]) (by rfl) rfl rfl (by (try simp only [List.map_toArray, List.map_cons, List.map_nil]); first | done | rfl | (simp only [List.length_drop, List.length_take]; rfl)) ?_
          refine (impl_fewestGroups_1.calls k1 _ _ l0 x20_1 a3 _ _ l4 true _ Q Y LB (blk_below HX.out.2.2.2.2.1 HB.out) (blk_below HX.out.2.2.2.2.2.1 HB.out) (blk_below HX.out.2.2.2.2.2.2.1 HB.out) ?side1 ?side2 ?side3 ?side4 A8.out).mono ?_
          (case side1 => repeat (first | exact (Kd.C_below HR0.out HB.out) | (with_reducible refine Kd.C_alloc ?_ _) | (with_reducible refine Kd.C_drewN ?_ _) | (with_reducible refine Kd.C_drew ?_)))
          (case side2 => exact HC0.out)
          (case side3 => repeat (first | exact (Kd.C_below HR4.out HB.out) | (with_reducible refine Kd.C_alloc ?_ _) | (with_reducible refine Kd.C_drewN ?_ _) | (with_reducible refine Kd.C_drew ?_)))
          (case side4 => exact HC4.out)
          rintro e w16 ⟨rfl, hb⟩
          refine ⟨_, rfl, ?_⟩
          have n0_ := Aside0.mk (below_step (by repeat (first | (with_reducible first | exact HB.out | apply below_alloc | apply pw_below_drewN | apply below_drew1) | exact HB.out)) hb)
          clear HB
          have HB := n0_
          clear n0_
          (try clear hb)
          (try clear hb2)
          (try clear hk)
          (try clear hi)
          refine hK.out _ _ ⟨(blk_cell (blk_below HMC.out.1 HB.out) 0).trans rfl, (blk_cell (blk_below HMC.out.2 HB.out) 0).trans rfl⟩ (fun hHeld => ?_)
          clear hK K
          refine norm_ (a' := ?_) ?_ ?_
          rotate_left
          · show Act.put _ (some 26) _ = _
            simp only [Act.put, List.setIfInBounds_toArray, List.set_cons_zero, List.set_cons_succ, i64_w, i32_w]
            rfl
          refine pure_ (i := 4) (N := some 27) (v := ?_) (a' := ?_) #[true, true, true, true, true, false, false, false, false, false, false, false, false, false, false, false, false, false] rfl rfl (any_of HT_.out (by kernel_rfl)) (fun _ _ _ h => h) (Or.inl ⟨by rfl, ?_⟩) ?_ ?_
          rotate_left
          · intro w'
            go_simp
            with_reducible rfl
          rotate_left
          · simp only [Act.put, List.setIfInBounds_toArray, List.set_cons_zero, List.set_cons_succ, i64_w, i32_w]
            rfl
          refine take_ (i := 5) (N := some 28) (v := ?_) (a' := ?_) #[true, true, true, true, true, true, false, false, false, false, false, false, false, false, false, false, false, false] rfl rfl (take_ofW HT_.out HW_.out (by kernel_rfl)) (fun _ _ _ h => h) (Or.inl ⟨by rfl, ?_⟩) hHeld ?_ ?_
          rotate_left
          · rintro w' ⟨sM, sC⟩
            go_simp
            with_reducible rfl
          rotate_left
          · simp only [Act.put, List.setIfInBounds_toArray, List.set_cons_zero, List.set_cons_succ, i64_w, i32_w]
            rfl
          refine pure_ (i := 6) (N := some 29) (v := ?_) (a' := ?_) #[true, true, true, true, true, true, true, false, false, false, false, false, false, false, false, false, false, false] rfl rfl (any_of HT_.out (by kernel_rfl)) (fun _ _ _ h => h) (Or.inl ⟨by rfl, ?_⟩) ?_ ?_
          rotate_left
          · intro w'
            go_simp
            with_reducible rfl
          rotate_left
          · simp only [Act.put, List.setIfInBounds_toArray, List.set_cons_zero, List.set_cons_succ, i64_w, i32_w]
            rfl
          refine pure_ (i := 8) (N := some 31) (v := ?_) (a' := ?_) #[true, true, true, true, true, true, true, false, true, false, false, false, false, false, false, false, false, false] rfl rfl (any_of HT_.out (by kernel_rfl)) (fun _ _ _ h => h) (Or.inl ⟨by rfl, ?_⟩) ?_ ?_
          rotate_left
          · intro w'
            go_simp
            with_reducible rfl
          rotate_left
          · simp only [Act.put, List.setIfInBounds_toArray, List.set_cons_zero, List.set_cons_succ, i64_w, i32_w]
            rfl
          refine pure_ (i := 11) (N := some 34) (v := ?_) (a' := ?_) #[true, true, true, true, true, true, true, false, true, false, false, true, false, false, false, false, false, false] rfl rfl (any_of HT_.out (by kernel_rfl)) (fun _ _ _ h => h) (Or.inl ⟨by rfl, ?_⟩) ?_ ?_
          rotate_left
          · intro w'
            go_simp
            with_reducible rfl
          rotate_left
          · simp only [Act.put, List.setIfInBounds_toArray, List.set_cons_zero, List.set_cons_succ, i64_w, i32_w]
            rfl
          refine pure_ (i := 12) (N := some 35) (v := ?_) (a' := ?_) #[true, true, true, true, true, true, true, false, true, false, false, true, true, false, false, false, false, false] rfl rfl (any_of HT_.out (by kernel_rfl)) (fun _ _ _ h => h) (Or.inl ⟨by rfl, ?_⟩) ?_ ?_
          rotate_left
          · intro w'
            go_simp
            with_reducible rfl
          rotate_left
          · simp only [Act.put, List.setIfInBounds_toArray, List.set_cons_zero, List.set_cons_succ, i64_w, i32_w]
            rfl
          refine pure_ (i := 13) (N := some 36) (v := ?_) (a' := ?_) #[true, true, true, true, true, true, true, false, true, false, false, true, true, true, false, false, false, false] rfl rfl (any_of HT_.out (by kernel_rfl)) (fun _ _ _ h => h) (Or.inl ⟨by rfl, ?_⟩) ?_ ?_
          rotate_left
          · intro w'
            go_simp
            with_reducible rfl
          rotate_left
          · simp only [Act.put, List.setIfInBounds_toArray, List.set_cons_zero, List.set_cons_succ, i64_w, i32_w]
            rfl
          refine pure_ (i := 14) (N := some 37) (v := ?_) (a' := ?_) #[true, true, true, true, true, true, true, false, true, false, false, true, true, true, true, false, false, false] rfl rfl (any_of HT_.out (by kernel_rfl)) (fun _ _ _ h => h) (Or.inl ⟨by rfl, ?_⟩) ?_ ?_
          rotate_left
          · intro w'
            go_simp
            with_reducible rfl
          rotate_left
          · simp only [Act.put, List.setIfInBounds_toArray, List.set_cons_zero, List.set_cons_succ, i64_w, i32_w]
            rfl
          refine join_ (σ := Value × Value) 4 #[true, true, true, true, true, true, true, true, true, true, false, true, true, true, true, false, false, false] (fun s_ => [(30, s_.1), (32, s_.2)]) (fun s_ w' => (Kd.R (Kd.int .i64) 2 w' w.heap.size (fun k_ => some k_ ≠ (s_.2 : Value).ownBlock) s_.1 t497) ∧ (Kd.R (Kd.int .i64) 2 w' w.heap.size (fun k_ => some k_ ≠ (s_.1 : Value).ownBlock) s_.2 y500) ∧ (Below w.heap.size w w')) ?_ ?_
          rotate_left
          · intro hCont
            refine two_ (i := 7) (j := 9) (Ni := some 30) (Nj := some 32) #[true, true, true, true, true, true, true, true, true, false, false, true, true, true, true, false, false, false] #[true, true, true, true, true, true, true, false, true, true, false, true, true, true, true, false, false, false] rfl rfl rfl rfl (two_of HT_.out (by kernel_rfl)) (by decide) (by decide) (fun K hK => ?_) (fun K hK => ?_)
            · skip
              refine goes_ Try.func43 (by kernel_rfl) rfl #[.slice A0 l0.length c0] (by rfl) rfl rfl (by (try simp only [List.map_toArray, List.map_cons, List.map_nil]); first | done | rfl | (simp only [List.length_drop, List.length_take]; rfl)) ?_
              with_reducible refine (slices_Clone_int64_int64.calls _ _ l0 t497 _ ?side1 ?side2 A10.out).mono ?_
              (case side1 => repeat (first | exact (Kd.C_below HR0.out HB.out) | (with_reducible refine Kd.C_alloc ?_ _) | (with_reducible refine Kd.C_drewN ?_ _) | (with_reducible refine Kd.C_drew ?_)))
              (case side2 => exact HC0.out)
              rintro e w17 ⟨v498, rfl, ho0, hb⟩
              refine ⟨_, rfl, ?_⟩
              have n0_ := Aside0.mk (Kd.R_lower ho0 (below_size (by repeat (first | (with_reducible first | exact HB.out | apply below_alloc | apply pw_below_drewN | apply below_drew1) | exact HB.out))))
              have n1_ := Aside0.mk (below_step (by repeat (first | (with_reducible first | exact HB.out | apply below_alloc | apply pw_below_drewN | apply below_drew1) | exact HB.out)) hb)
              clear HB
              have HO499 := n0_
              have HB := n1_
              clear n0_ n1_
              (try clear hb)
              (try clear hb2)
              (try clear hk)
              (try clear hi)
              (try clear ho0)
              refine hK.out _ _ ⟨(blk_cell (blk_below HMC.out.1 HB.out) 0).trans rfl, (blk_cell (blk_below HMC.out.2 HB.out) 0).trans rfl⟩ (fun hHeld => ?_)
              clear hK K
              refine norm_ (a' := ?_) ?_ ?_
              rotate_left
              · show Act.put _ (some 30) _ = _
                simp only [Act.put, List.setIfInBounds_toArray, List.set_cons_zero, List.set_cons_succ, i64_w, i32_w]
                rfl
              refine one_ (i := 9) (N := some 32) #[true, true, true, true, true, true, true, true, true, true, false, true, true, true, true, false, false, false] rfl rfl (one_of HT_.out (by kernel_rfl)) (by decide) (fun K hK => ?_)
              refine Kd.R_lit_step (Kd.int .i64) _ 2 ?hg (N := 32) ?hd (xs := ([x20_1] : List Int)) (inner := [.int .i64 x20_1]) (ok := fun _ => True) (okp := fun _ => True) ?hr ?hp (fun _ hk => hk) trivial (Below.refl _ _) (Nat.le_refl _) (by simp) ?_; (case hd => rfl); (case hg => rfl); (case hr => first | (go_simp; done) | (go_simp; rfl)); (case hp => exact (Reps.one (show Kd.M (Kd.int .i64) _ _ _ x20_1 [.int .i64 x20_1] from rfl) (Reps.none _ _)))
              intro v501 w18 ho19 hb hg_ hnew_
              clear hg_ hnew_
              (first | rw [← Ny500.out] at ho19 | (simp only [Int.reduceToNat] at ho19; rw [← Ny500.out] at ho19))
              have n0_ := Aside0.mk (Kd.R_elder' (by (with_reducible repeat (first | apply Kd.R_alloc | apply Kd.R_drewN | apply Kd.R_drew)); exact HO499.out) (Kd.R_base ho19) hb)
              have n1_ := Aside0.mk (Kd.R_lower (Kd.R_new' ho19 (Kd.R_lt (by (with_reducible repeat (first | apply Kd.R_alloc | apply Kd.R_drewN | apply Kd.R_drew)); exact HO499.out))) (below_size (by repeat (first | (with_reducible first | exact HB.out | apply below_alloc | apply pw_below_drewN | apply below_drew1) | exact HB.out))))
              have n2_ := Aside0.mk (below_step (by repeat (first | (with_reducible first | exact HB.out | apply below_alloc | apply pw_below_drewN | apply below_drew1) | exact HB.out)) hb)
              clear HO499
              clear HB
              have HO499 := n0_
              have HO502 := n1_
              have HB := n2_
              clear n0_ n1_ n2_
              clear hb ho19
              refine hK.out _ _ ⟨(blk_cell (blk_below HMC.out.1 HB.out) 0).trans rfl, (blk_cell (blk_below HMC.out.2 HB.out) 0).trans rfl⟩ (fun hHeld => ?_)
              clear hK K
              refine norm_ (a' := ?_) ?_ ?_
              rotate_left
              · show Act.put _ (some 32) _ = _
                simp only [Act.put, List.setIfInBounds_toArray, List.set_cons_zero, List.set_cons_succ, i64_w, i32_w]
                rfl
              exact norm_ (by simp only [putAll, Act.put, List.setIfInBounds_toArray, List.set_cons_zero, List.set_cons_succ]) (hCont (v498, v501) _ ⟨(by (with_reducible repeat (first | apply Kd.R_alloc | apply Kd.R_drewN | apply Kd.R_drew)); exact Kd.R_mono HO499.out (fun _ hk => hk.2)), (by (with_reducible repeat (first | apply Kd.R_alloc | apply Kd.R_drewN | apply Kd.R_drew)); exact Kd.R_mono HO502.out (fun _ hk => hk.2)), (by repeat (first | (with_reducible first | exact HB.out | apply below_alloc | apply pw_below_drewN | apply below_drew1) | exact HB.out))⟩)
            · skip
              refine Kd.R_lit_step (Kd.int .i64) _ 2 ?hg (N := 32) ?hd (xs := ([x20_1] : List Int)) (inner := [.int .i64 x20_1]) (ok := fun _ => True) (okp := fun _ => True) ?hr ?hp (fun _ hk => hk) trivial (Below.refl _ _) (Nat.le_refl _) (by simp) ?_; (case hd => rfl); (case hg => rfl); (case hr => first | (go_simp; done) | (go_simp; rfl)); (case hp => exact (Reps.one (show Kd.M (Kd.int .i64) _ _ _ x20_1 [.int .i64 x20_1] from rfl) (Reps.none _ _)))
              intro v501 w17 ho18 hb hg_ hnew_
              clear hg_ hnew_
              (first | rw [← Ny500.out] at ho18 | (simp only [Int.reduceToNat] at ho18; rw [← Ny500.out] at ho18))
              have n0_ := Aside0.mk (Kd.R_lower ho18 (below_size (by repeat (first | (with_reducible first | exact HB.out | apply below_alloc | apply pw_below_drewN | apply below_drew1) | exact HB.out))))
              have n1_ := Aside0.mk (below_step (by repeat (first | (with_reducible first | exact HB.out | apply below_alloc | apply pw_below_drewN | apply below_drew1) | exact HB.out)) hb)
              clear HB
              have HO502 := n0_
              have HB := n1_
              clear n0_ n1_
              clear hb ho18
              refine hK.out _ _ ⟨(blk_cell (blk_below HMC.out.1 HB.out) 0).trans rfl, (blk_cell (blk_below HMC.out.2 HB.out) 0).trans rfl⟩ (fun hHeld => ?_)
              clear hK K
              refine norm_ (a' := ?_) ?_ ?_
              rotate_left
              · show Act.put _ (some 32) _ = _
                simp only [Act.put, List.setIfInBounds_toArray, List.set_cons_zero, List.set_cons_succ, i64_w, i32_w]
                rfl
              refine one_ (i := 7) (N := some 30) #[true, true, true, true, true, true, true, true, true, true, false, true, true, true, true, false, false, false] rfl rfl (one_of HT_.out (by kernel_rfl)) (by decide) (fun K hK => ?_)
              refine goes_ Try.func43 (by kernel_rfl) rfl #[.slice A0 l0.length c0] (by rfl) rfl rfl (by (try simp only [List.map_toArray, List.map_cons, List.map_nil]); first | done | rfl | (simp only [List.length_drop, List.length_take]; rfl)) ?_
              with_reducible refine (slices_Clone_int64_int64.calls _ _ l0 t497 _ ?side1 ?side2 A10.out).mono ?_
              (case side1 => repeat (first | exact (Kd.C_below HR0.out HB.out) | (with_reducible refine Kd.C_alloc ?_ _) | (with_reducible refine Kd.C_drewN ?_ _) | (with_reducible refine Kd.C_drew ?_)))
              (case side2 => exact HC0.out)
              rintro e w19 ⟨v498, rfl, ho0, hb⟩
              refine ⟨_, rfl, ?_⟩
              have n0_ := Aside0.mk (Kd.R_elder' (by (with_reducible repeat (first | apply Kd.R_alloc | apply Kd.R_drewN | apply Kd.R_drew)); exact HO502.out) (Kd.R_base ho0) hb)
              have n1_ := Aside0.mk (Kd.R_lower (Kd.R_new' ho0 (Kd.R_lt (by (with_reducible repeat (first | apply Kd.R_alloc | apply Kd.R_drewN | apply Kd.R_drew)); exact HO502.out))) (below_size (by repeat (first | (with_reducible first | exact HB.out | apply below_alloc | apply pw_below_drewN | apply below_drew1) | exact HB.out))))
              have n2_ := Aside0.mk (below_step (by repeat (first | (with_reducible first | exact HB.out | apply below_alloc | apply pw_below_drewN | apply below_drew1) | exact HB.out)) hb)
              clear HO502
              clear HB
              have HO502 := n0_
              have HO499 := n1_
              have HB := n2_
              clear n0_ n1_ n2_
              (try clear hb)
              (try clear hb2)
              (try clear hk)
              (try clear hi)
              (try clear ho0)
              refine hK.out _ _ ⟨(blk_cell (blk_below HMC.out.1 HB.out) 0).trans rfl, (blk_cell (blk_below HMC.out.2 HB.out) 0).trans rfl⟩ (fun hHeld => ?_)
              clear hK K
              refine norm_ (a' := ?_) ?_ ?_
              rotate_left
              · show Act.put _ (some 30) _ = _
                simp only [Act.put, List.setIfInBounds_toArray, List.set_cons_zero, List.set_cons_succ, i64_w, i32_w]
                rfl
              exact norm_ (by simp only [putAll, Act.put, List.setIfInBounds_toArray, List.set_cons_zero, List.set_cons_succ]) (hCont (v498, v501) _ ⟨(by (with_reducible repeat (first | apply Kd.R_alloc | apply Kd.R_drewN | apply Kd.R_drew)); exact Kd.R_mono HO499.out (fun _ hk => hk.2)), (by (with_reducible repeat (first | apply Kd.R_alloc | apply Kd.R_drewN | apply Kd.R_drew)); exact Kd.R_mono HO502.out (fun _ hk => hk.2)), (by repeat (first | (with_reducible first | exact HB.out | apply below_alloc | apply pw_below_drewN | apply below_drew1) | exact HB.out))⟩)
          rintro ⟨v498, v501⟩ w20 ⟨h0_, h1_, h2_⟩
          have n0_ : Aside0 (Kd.R (Kd.int .i64) 2 w20 w.heap.size (fun k_ => some k_ ≠ (v501 : Value).ownBlock) v498 t497) := ⟨h0_⟩
          have n1_ : Aside0 (Kd.R (Kd.int .i64) 2 w20 w.heap.size (fun k_ => some k_ ≠ (v498 : Value).ownBlock) v501 y500) := ⟨h1_⟩
          have n2_ : Aside0 (Below w.heap.size w w20) := ⟨h2_⟩
          clear HB
          clear h0_ h1_ h2_
          have HO499 := n0_
          have HO502 := n1_
          have HB := n2_
          clear n0_ n1_ n2_
          have hHeld := trivial
          obtain ⟨Ao22, co22, eo22⟩ := Kd.R_slice HO502.out
          (first | subst eo22 | (injection eo22 with f1_ f2_ f3_; have f4_ := f1_.symm; have f5_ := f3_.symm; clear f1_ f2_ f3_; subst f4_; subst f5_))
          refine norm_ (a' := ?_) ?_ ?_
          rotate_left
          · simp only [putAll, Act.put, List.setIfInBounds_toArray, List.set_cons_zero, List.set_cons_succ]
            rfl
          refine one_ (i := 10) (N := some 33) #[true, true, true, true, true, true, true, true, true, true, true, true, true, true, true, false, false, false] rfl rfl (one_of HT_.out (by kernel_rfl)) (by decide) (fun K hK => ?_)
          refine Kd.R_append_rows_step (Kd.int .i64) (w0 := w) w.heap.size (by rfl) (.tmp 30) (.tmp 32) 22 2 (.int .i64 0) 8 rfl Try.underlying22 info2 rfl (by decide) (by omega) v498 t497 y500 _ _ _ (fun k_ => some k_ ≠ (.slice Ao22 y500.length co22 : Value).ownBlock) (fun _ => False) rfl rfl ?aO ?aR (fun _ _ h => h) (fun _ h => h.elim) ?aF ?aB ?aS ?aL ?_
          (case aR => repeat (first | exact (Kd.R_reads' HO502.out).2.2 | (with_reducible refine Kd.C_alloc ?_ _) | (with_reducible refine Kd.C_drewN ?_ _) | (with_reducible refine Kd.C_drew ?_)))
          (case aB => exact (by repeat (first | (with_reducible first | exact HB.out | apply below_alloc | apply pw_below_drewN | apply below_drew1) | exact HB.out)))
          (case aF => exact (fun k_ hk => Kd.fresh' (Kd.R_lt (by (with_reducible repeat (first | apply Kd.R_alloc | apply Kd.R_drewN | apply Kd.R_drew)); exact HO502.out)) k_ hk))
          (case aO => exact (by (with_reducible repeat (first | apply Kd.R_alloc | apply Kd.R_drewN | apply Kd.R_drew)); exact HO499.out))
          (case aS => exact (below_size (by repeat (first | (with_reducible first | exact HB.out | apply below_alloc | apply pw_below_drewN | apply below_drew1) | exact HB.out))))
          (case aL => have := LMc11.out; omega)
          intro v504 w21 ho hb hg hat
          rw [← Ny503.out] at ho
          have n0_ := Aside0.mk (Kd.R_after (ok := (fun _ => True)) (by (with_reducible repeat (first | apply Kd.R_alloc | apply Kd.R_drewN | apply Kd.R_drew)); exact Kd.R_mono HO502.out (fun _ hk => ⟨trivial, hk⟩)) hg hat)
          have n1_ := Aside0.mk (hb)
          have n2_ := Aside0.mk (ho)
          clear HO502
          clear HB
          clear HO499
          have HO502 := n0_
          have HB := n1_
          have HO505 := n2_
          clear n0_ n1_ n2_
          clear ho hb hg hat
          obtain ⟨Ao23, co23, eo23⟩ := Kd.R_slice HO505.out
          (first | subst eo23 | (injection eo23 with f1_ f2_ f3_; have f4_ := f1_.symm; have f5_ := f3_.symm; clear f1_ f2_ f3_; subst f4_; subst f5_))
          refine hK.out _ _ ⟨(blk_cell (blk_below HMC.out.1 HB.out) 0).trans rfl, (blk_cell (blk_below HMC.out.2 HB.out) 0).trans rfl⟩ (fun hHeld => ?_)
          clear hK K
          refine norm_ (a' := ?_) ?_ ?_
          rotate_left
          · show Act.put _ (some 33) _ = _
            simp only [Act.put, List.setIfInBounds_toArray, List.set_cons_zero, List.set_cons_succ, i64_w, i32_w]
            rfl
          refine one_ (i := 15) (N := some 38) #[true, true, true, true, true, true, true, true, true, true, true, true, true, true, true, true, false, false] rfl rfl (one_of HT_.out (by kernel_rfl)) (by decide) (fun K hK => ?_)
          refine impl_mayPile.goesFC_ Try.func76 (by kernel_rfl) rfl #[.slice Ao23 y503.length co23, .int .i64 ji12] (lb := #[.pointer (some ⟨Nb, 0, none⟩), .pointer (some ⟨Eb, 0, none⟩), .pointer (some ⟨Mb, 0, none⟩), .pointer (some ⟨Cb, 0, none⟩)]) (by rfl) rfl rfl (by (try simp only [List.map_toArray, List.map_cons, List.map_nil]); first | done | (simp only [hji12]; rfl) | rfl | (simp only [List.length_drop, List.length_take]; rfl)) ?_
          refine (ih k1 (by have := HK1.out; omega) _ _ y503 ji12 a2 a3 A4 c4 l4 none _ (impl_grouped_1.CX.below HX.out HB.out) (below_step HB0.out HB.out) HO0.out HF0.out (Kd.R_lower (Kd.R_mono (Kd.R_bound HO505.out) (fun k_ hk_ => by have h1_ := hk_.2.1; have h2_ := HLT.out.1; have h3_ := HLT.out.2; exact ⟨by omega, by omega⟩)) HB0.out.size) (Kd.C_below HR4.out HB.out) HC4.out A13.out).mono ?_
          rintro e w24 ⟨rfl, hb⟩
          refine ⟨_, rfl, ?_⟩
          have n0_ := Aside0.mk (Kd.R_below (by (with_reducible repeat (first | apply Kd.R_alloc | apply Kd.R_drewN | apply Kd.R_drew)); exact HO502.out) hb)
          have n1_ := Aside0.mk (Kd.R_below (by (with_reducible repeat (first | apply Kd.R_alloc | apply Kd.R_drewN | apply Kd.R_drew)); exact HO505.out) hb)
          have n2_ := Aside0.mk (below_step (by repeat (first | (with_reducible first | exact HB.out | apply below_alloc | apply pw_below_drewN | apply below_drew1) | exact HB.out)) hb)
          clear HO502
          clear HO505
          clear HB
          have HO502 := n0_
          have HO505 := n1_
          have HB := n2_
          clear n0_ n1_ n2_
          (try clear hb)
          (try clear hb2)
          (try clear hk)
          (try clear hi)
          refine hK.out _ _ ⟨(blk_cell (blk_below HMC.out.1 HB.out) 0).trans rfl, (blk_cell (blk_below HMC.out.2 HB.out) 0).trans rfl⟩ (fun hHeld => ?_)
          clear hK K
          refine norm_ (a' := ?_) ?_ ?_
          rotate_left
          · show Act.put _ (some 38) _ = _
            simp only [Act.put, List.setIfInBounds_toArray, List.set_cons_zero, List.set_cons_succ, i64_w, i32_w]
            rfl
          refine pure_ (i := 16) (N := some 39) (v := ?_) (a' := ?_) #[true, true, true, true, true, true, true, true, true, true, true, true, true, true, true, true, true, false] rfl rfl (any_of HT_.out (by kernel_rfl)) (fun _ _ _ h => h) (Or.inl ⟨by rfl, ?_⟩) ?_ ?_
          rotate_left
          · intro w'
            go_simp
            with_reducible rfl
          rotate_left
          · simp only [Act.put, List.setIfInBounds_toArray, List.set_cons_zero, List.set_cons_succ, i64_w, i32_w]
            rfl
          refine pure_ (i := 17) (N := some 40) (v := ?_) (a' := ?_) #[true, true, true, true, true, true, true, true, true, true, true, true, true, true, true, true, true, true] rfl rfl (any_of HT_.out (by kernel_rfl)) (fun _ _ _ h => h) (Or.inl ⟨by rfl, ?_⟩) ?_ ?_
          rotate_left
          · intro w'
            go_simp
            with_reducible rfl
          rotate_left
          · simp only [Act.put, List.setIfInBounds_toArray, List.set_cons_zero, List.set_cons_succ, i64_w, i32_w]
            rfl
          refine done_ (done_of HT_.out (by kernel_rfl)) ?_
          try go_wp2
          go_roundg k1
          case measure => have := HK1.out; omega
          case rel => exact ⟨(wrap64 (x20_1 + 1)), (by first | rfl | (simp; done) | (simp [*]; done)), H', ⟨by have := HK1.out; omega⟩, ⟨by repeat (first | (with_reducible first | exact HB.out | apply below_alloc | apply pw_below_drewN | apply below_drew1) | exact HB.out)⟩⟩
        · have H1 : (some (some xf)) = some r := H
          clear H
          have H := H1
          clear H1
          obtain rfl := Option.some.inj H
          try go_wp2
          have n0_ := Aside0.mk (below_drew1 HB.out)
          clear HB
          have HB := n0_
          clear n0_
          refine start_ (n := 18) (S := fun w' => w'.cell? ⟨Mb, 0, none⟩ = some (.func (.func 66) #[] #[.pointer (some ⟨Q, 0, none⟩), .pointer (some ⟨Y, 0, none⟩)]) ∧ w'.cell? ⟨Cb, 0, none⟩ = some (.func (.func 76) #[] #[.pointer (some ⟨Nb, 0, none⟩), .pointer (some ⟨Eb, 0, none⟩), .pointer (some ⟨Mb, 0, none⟩), .pointer (some ⟨Cb, 0, none⟩)])) (ds := []) #[false, false, false, false, false, false, false, false, false, false, false, false, false, false, false, false, false, false] (by kernel_rfl) rfl rfl ⟨(blk_cell (blk_below HMC.out.1 HB.out) 0).trans rfl, (blk_cell (blk_below HMC.out.2 HB.out) 0).trans rfl⟩ (fun hHeld => ?_); refine with_tabW impl_grouped_1.tab6 impl_grouped_1.bits6 (fun HT_ HW_ => ?_)
          generalize wr.drew = w25 at HB hHeld ⊢
          refine take_ (i := 0) (N := some 23) (v := ?_) (a' := ?_) #[true, false, false, false, false, false, false, false, false, false, false, false, false, false, false, false, false, false] rfl rfl (take_ofW HT_.out HW_.out (by kernel_rfl)) (fun _ _ _ h => h) (Or.inl ⟨by rfl, ?_⟩) hHeld ?_ ?_
          rotate_left
          · rintro w' ⟨sM, sC⟩
            go_simp
            with_reducible rfl
          rotate_left
          · simp only [Act.put, List.setIfInBounds_toArray, List.set_cons_zero, List.set_cons_succ, i64_w, i32_w]
            rfl
          refine pure_ (i := 1) (N := some 24) (v := ?_) (a' := ?_) #[true, true, false, false, false, false, false, false, false, false, false, false, false, false, false, false, false, false] rfl rfl (any_of HT_.out (by kernel_rfl)) (fun _ _ _ h => h) (Or.inl ⟨by rfl, ?_⟩) ?_ ?_
          rotate_left
          · intro w'
            go_simp
            with_reducible rfl
          rotate_left
          · simp only [Act.put, List.setIfInBounds_toArray, List.set_cons_zero, List.set_cons_succ, i64_w, i32_w]
            rfl
          refine pure_ (i := 2) (N := some 25) (v := ?_) (a' := ?_) #[true, true, true, false, false, false, false, false, false, false, false, false, false, false, false, false, false, false] rfl rfl (any_of HT_.out (by kernel_rfl)) (fun _ _ _ h => h) (Or.inl ⟨by rfl, ?_⟩) ?_ ?_
          rotate_left
          · intro w'
            go_simp
            with_reducible rfl
          rotate_left
          · simp only [Act.put, List.setIfInBounds_toArray, List.set_cons_zero, List.set_cons_succ, i64_w, i32_w]
            rfl
          refine one_ (i := 3) (N := some 26) #[true, true, true, true, false, false, false, false, false, false, false, false, false, false, false, false, false, false] rfl rfl (one_of HT_.out (by kernel_rfl)) (by decide) (fun K hK => ?_)
          refine impl_mayPile.goesFC_ Try.func66 (by kernel_rfl) rfl #[.slice A0 l0.length c0, .int .i64 x20_1] (lb := #[.pointer (some ⟨Q, 0, none⟩), .pointer (some ⟨Y, 0, none⟩)]) (by rfl) rfl rfl (by (try simp only [List.map_toArray, List.map_cons, List.map_nil]); first | done | rfl | (simp only [List.length_drop, List.length_take]; rfl)) ?_
          refine (impl_fewestGroups_1.calls k1 _ _ l0 x20_1 a3 _ _ l4 true _ Q Y LB (blk_below HX.out.2.2.2.2.1 HB.out) (blk_below HX.out.2.2.2.2.2.1 HB.out) (blk_below HX.out.2.2.2.2.2.2.1 HB.out) ?side1 ?side2 ?side3 ?side4 A8.out).mono ?_
          (case side1 => repeat (first | exact (Kd.C_below HR0.out HB.out) | (with_reducible refine Kd.C_alloc ?_ _) | (with_reducible refine Kd.C_drewN ?_ _) | (with_reducible refine Kd.C_drew ?_)))
          (case side2 => exact HC0.out)
          (case side3 => repeat (first | exact (Kd.C_below HR4.out HB.out) | (with_reducible refine Kd.C_alloc ?_ _) | (with_reducible refine Kd.C_drewN ?_ _) | (with_reducible refine Kd.C_drew ?_)))
          (case side4 => exact HC4.out)
          rintro e w26 ⟨rfl, hb⟩
          refine ⟨_, rfl, ?_⟩
          have n0_ := Aside0.mk (below_step (by repeat (first | (with_reducible first | exact HB.out | apply below_alloc | apply pw_below_drewN | apply below_drew1) | exact HB.out)) hb)
          clear HB
          have HB := n0_
          clear n0_
          (try clear hb)
          (try clear hb2)
          (try clear hk)
          (try clear hi)
          refine hK.out _ _ ⟨(blk_cell (blk_below HMC.out.1 HB.out) 0).trans rfl, (blk_cell (blk_below HMC.out.2 HB.out) 0).trans rfl⟩ (fun hHeld => ?_)
          clear hK K
          refine norm_ (a' := ?_) ?_ ?_
          rotate_left
          · show Act.put _ (some 26) _ = _
            simp only [Act.put, List.setIfInBounds_toArray, List.set_cons_zero, List.set_cons_succ, i64_w, i32_w]
            rfl
          refine pure_ (i := 4) (N := some 27) (v := ?_) (a' := ?_) #[true, true, true, true, true, false, false, false, false, false, false, false, false, false, false, false, false, false] rfl rfl (any_of HT_.out (by kernel_rfl)) (fun _ _ _ h => h) (Or.inl ⟨by rfl, ?_⟩) ?_ ?_
          rotate_left
          · intro w'
            go_simp
            with_reducible rfl
          rotate_left
          · simp only [Act.put, List.setIfInBounds_toArray, List.set_cons_zero, List.set_cons_succ, i64_w, i32_w]
            rfl
          refine take_ (i := 5) (N := some 28) (v := ?_) (a' := ?_) #[true, true, true, true, true, true, false, false, false, false, false, false, false, false, false, false, false, false] rfl rfl (take_ofW HT_.out HW_.out (by kernel_rfl)) (fun _ _ _ h => h) (Or.inl ⟨by rfl, ?_⟩) hHeld ?_ ?_
          rotate_left
          · rintro w' ⟨sM, sC⟩
            go_simp
            with_reducible rfl
          rotate_left
          · simp only [Act.put, List.setIfInBounds_toArray, List.set_cons_zero, List.set_cons_succ, i64_w, i32_w]
            rfl
          refine pure_ (i := 6) (N := some 29) (v := ?_) (a' := ?_) #[true, true, true, true, true, true, true, false, false, false, false, false, false, false, false, false, false, false] rfl rfl (any_of HT_.out (by kernel_rfl)) (fun _ _ _ h => h) (Or.inl ⟨by rfl, ?_⟩) ?_ ?_
          rotate_left
          · intro w'
            go_simp
            with_reducible rfl
          rotate_left
          · simp only [Act.put, List.setIfInBounds_toArray, List.set_cons_zero, List.set_cons_succ, i64_w, i32_w]
            rfl
          refine pure_ (i := 8) (N := some 31) (v := ?_) (a' := ?_) #[true, true, true, true, true, true, true, false, true, false, false, false, false, false, false, false, false, false] rfl rfl (any_of HT_.out (by kernel_rfl)) (fun _ _ _ h => h) (Or.inl ⟨by rfl, ?_⟩) ?_ ?_
          rotate_left
          · intro w'
            go_simp
            with_reducible rfl
          rotate_left
          · simp only [Act.put, List.setIfInBounds_toArray, List.set_cons_zero, List.set_cons_succ, i64_w, i32_w]
            rfl
          refine pure_ (i := 11) (N := some 34) (v := ?_) (a' := ?_) #[true, true, true, true, true, true, true, false, true, false, false, true, false, false, false, false, false, false] rfl rfl (any_of HT_.out (by kernel_rfl)) (fun _ _ _ h => h) (Or.inl ⟨by rfl, ?_⟩) ?_ ?_
          rotate_left
          · intro w'
            go_simp
            with_reducible rfl
          rotate_left
          · simp only [Act.put, List.setIfInBounds_toArray, List.set_cons_zero, List.set_cons_succ, i64_w, i32_w]
            rfl
          refine pure_ (i := 12) (N := some 35) (v := ?_) (a' := ?_) #[true, true, true, true, true, true, true, false, true, false, false, true, true, false, false, false, false, false] rfl rfl (any_of HT_.out (by kernel_rfl)) (fun _ _ _ h => h) (Or.inl ⟨by rfl, ?_⟩) ?_ ?_
          rotate_left
          · intro w'
            go_simp
            with_reducible rfl
          rotate_left
          · simp only [Act.put, List.setIfInBounds_toArray, List.set_cons_zero, List.set_cons_succ, i64_w, i32_w]
            rfl
          refine pure_ (i := 13) (N := some 36) (v := ?_) (a' := ?_) #[true, true, true, true, true, true, true, false, true, false, false, true, true, true, false, false, false, false] rfl rfl (any_of HT_.out (by kernel_rfl)) (fun _ _ _ h => h) (Or.inl ⟨by rfl, ?_⟩) ?_ ?_
          rotate_left
          · intro w'
            go_simp
            with_reducible rfl
          rotate_left
          · simp only [Act.put, List.setIfInBounds_toArray, List.set_cons_zero, List.set_cons_succ, i64_w, i32_w]
            rfl
          refine pure_ (i := 14) (N := some 37) (v := ?_) (a' := ?_) #[true, true, true, true, true, true, true, false, true, false, false, true, true, true, true, false, false, false] rfl rfl (any_of HT_.out (by kernel_rfl)) (fun _ _ _ h => h) (Or.inl ⟨by rfl, ?_⟩) ?_ ?_
          rotate_left
          · intro w'
            go_simp
            with_reducible rfl
          rotate_left
          · simp only [Act.put, List.setIfInBounds_toArray, List.set_cons_zero, List.set_cons_succ, i64_w, i32_w]
            rfl
          refine join_ (σ := Value × Value) 4 #[true, true, true, true, true, true, true, true, true, true, false, true, true, true, true, false, false, false] (fun s_ => [(30, s_.1), (32, s_.2)]) (fun s_ w' => (Kd.R (Kd.int .i64) 2 w' w.heap.size (fun k_ => some k_ ≠ (s_.2 : Value).ownBlock) s_.1 t497) ∧ (Kd.R (Kd.int .i64) 2 w' w.heap.size (fun k_ => some k_ ≠ (s_.1 : Value).ownBlock) s_.2 y500) ∧ (Below w.heap.size w w')) ?_ ?_
          rotate_left
          · intro hCont
            refine two_ (i := 7) (j := 9) (Ni := some 30) (Nj := some 32) #[true, true, true, true, true, true, true, true, true, false, false, true, true, true, true, false, false, false] #[true, true, true, true, true, true, true, false, true, true, false, true, true, true, true, false, false, false] rfl rfl rfl rfl (two_of HT_.out (by kernel_rfl)) (by decide) (by decide) (fun K hK => ?_) (fun K hK => ?_)
            · skip
              refine goes_ Try.func43 (by kernel_rfl) rfl #[.slice A0 l0.length c0] (by rfl) rfl rfl (by (try simp only [List.map_toArray, List.map_cons, List.map_nil]); first | done | rfl | (simp only [List.length_drop, List.length_take]; rfl)) ?_
              with_reducible refine (slices_Clone_int64_int64.calls _ _ l0 t497 _ ?side1 ?side2 A10.out).mono ?_
              (case side1 => repeat (first | exact (Kd.C_below HR0.out HB.out) | (with_reducible refine Kd.C_alloc ?_ _) | (with_reducible refine Kd.C_drewN ?_ _) | (with_reducible refine Kd.C_drew ?_)))
              (case side2 => exact HC0.out)
              rintro e w27 ⟨v498, rfl, ho0, hb⟩
              refine ⟨_, rfl, ?_⟩
              have n0_ := Aside0.mk (Kd.R_lower ho0 (below_size (by repeat (first | (with_reducible first | exact HB.out | apply below_alloc | apply pw_below_drewN | apply below_drew1) | exact HB.out))))
              have n1_ := Aside0.mk (below_step (by repeat (first | (with_reducible first | exact HB.out | apply below_alloc | apply pw_below_drewN | apply below_drew1) | exact HB.out)) hb)
              clear HB
              have HO499 := n0_
              have HB := n1_
              clear n0_ n1_
              (try clear hb)
              (try clear hb2)
              (try clear hk)
              (try clear hi)
              (try clear ho0)
              refine hK.out _ _ ⟨(blk_cell (blk_below HMC.out.1 HB.out) 0).trans rfl, (blk_cell (blk_below HMC.out.2 HB.out) 0).trans rfl⟩ (fun hHeld => ?_)
              clear hK K
              refine norm_ (a' := ?_) ?_ ?_
              rotate_left
              · show Act.put _ (some 30) _ = _
                simp only [Act.put, List.setIfInBounds_toArray, List.set_cons_zero, List.set_cons_succ, i64_w, i32_w]
                rfl
              refine one_ (i := 9) (N := some 32) #[true, true, true, true, true, true, true, true, true, true, false, true, true, true, true, false, false, false] rfl rfl (one_of HT_.out (by kernel_rfl)) (by decide) (fun K hK => ?_)
              refine Kd.R_lit_step (Kd.int .i64) _ 2 ?hg (N := 32) ?hd (xs := ([x20_1] : List Int)) (inner := [.int .i64 x20_1]) (ok := fun _ => True) (okp := fun _ => True) ?hr ?hp (fun _ hk => hk) trivial (Below.refl _ _) (Nat.le_refl _) (by simp) ?_; (case hd => rfl); (case hg => rfl); (case hr => first | (go_simp; done) | (go_simp; rfl)); (case hp => exact (Reps.one (show Kd.M (Kd.int .i64) _ _ _ x20_1 [.int .i64 x20_1] from rfl) (Reps.none _ _)))
              intro v501 w28 ho29 hb hg_ hnew_
              clear hg_ hnew_
              (first | rw [← Ny500.out] at ho29 | (simp only [Int.reduceToNat] at ho29; rw [← Ny500.out] at ho29))
              have n0_ := Aside0.mk (Kd.R_elder' (by (with_reducible repeat (first | apply Kd.R_alloc | apply Kd.R_drewN | apply Kd.R_drew)); exact HO499.out) (Kd.R_base ho29) hb)
              have n1_ := Aside0.mk (Kd.R_lower (Kd.R_new' ho29 (Kd.R_lt (by (with_reducible repeat (first | apply Kd.R_alloc | apply Kd.R_drewN | apply Kd.R_drew)); exact HO499.out))) (below_size (by repeat (first | (with_reducible first | exact HB.out | apply below_alloc | apply pw_below_drewN | apply below_drew1) | exact HB.out))))
              have n2_ := Aside0.mk (below_step (by repeat (first | (with_reducible first | exact HB.out | apply below_alloc | apply pw_below_drewN | apply below_drew1) | exact HB.out)) hb)
              clear HO499
              clear HB
              have HO499 := n0_
              have HO502 := n1_
              have HB := n2_
              clear n0_ n1_ n2_
              clear hb ho29
              refine hK.out _ _ ⟨(blk_cell (blk_below HMC.out.1 HB.out) 0).trans rfl, (blk_cell (blk_below HMC.out.2 HB.out) 0).trans rfl⟩ (fun hHeld => ?_)
              clear hK K
              refine norm_ (a' := ?_) ?_ ?_
              rotate_left
              · show Act.put _ (some 32) _ = _
                simp only [Act.put, List.setIfInBounds_toArray, List.set_cons_zero, List.set_cons_succ, i64_w, i32_w]
                rfl
              exact norm_ (by simp only [putAll, Act.put, List.setIfInBounds_toArray, List.set_cons_zero, List.set_cons_succ]) (hCont (v498, v501) _ ⟨(by (with_reducible repeat (first | apply Kd.R_alloc | apply Kd.R_drewN | apply Kd.R_drew)); exact Kd.R_mono HO499.out (fun _ hk => hk.2)), (by (with_reducible repeat (first | apply Kd.R_alloc | apply Kd.R_drewN | apply Kd.R_drew)); exact Kd.R_mono HO502.out (fun _ hk => hk.2)), (by repeat (first | (with_reducible first | exact HB.out | apply below_alloc | apply pw_below_drewN | apply below_drew1) | exact HB.out))⟩)
            · skip
              refine Kd.R_lit_step (Kd.int .i64) _ 2 ?hg (N := 32) ?hd (xs := ([x20_1] : List Int)) (inner := [.int .i64 x20_1]) (ok := fun _ => True) (okp := fun _ => True) ?hr ?hp (fun _ hk => hk) trivial (Below.refl _ _) (Nat.le_refl _) (by simp) ?_; (case hd => rfl); (case hg => rfl); (case hr => first | (go_simp; done) | (go_simp; rfl)); (case hp => exact (Reps.one (show Kd.M (Kd.int .i64) _ _ _ x20_1 [.int .i64 x20_1] from rfl) (Reps.none _ _)))
              intro v501 w27 ho28 hb hg_ hnew_
              clear hg_ hnew_
              (first | rw [← Ny500.out] at ho28 | (simp only [Int.reduceToNat] at ho28; rw [← Ny500.out] at ho28))
              have n0_ := Aside0.mk (Kd.R_lower ho28 (below_size (by repeat (first | (with_reducible first | exact HB.out | apply below_alloc | apply pw_below_drewN | apply below_drew1) | exact HB.out))))
              have n1_ := Aside0.mk (below_step (by repeat (first | (with_reducible first | exact HB.out | apply below_alloc | apply pw_below_drewN | apply below_drew1) | exact HB.out)) hb)
              clear HB
              have HO502 := n0_
              have HB := n1_
              clear n0_ n1_
              clear hb ho28
              refine hK.out _ _ ⟨(blk_cell (blk_below HMC.out.1 HB.out) 0).trans rfl, (blk_cell (blk_below HMC.out.2 HB.out) 0).trans rfl⟩ (fun hHeld => ?_)
              clear hK K
              refine norm_ (a' := ?_) ?_ ?_
              rotate_left
              · show Act.put _ (some 32) _ = _
                simp only [Act.put, List.setIfInBounds_toArray, List.set_cons_zero, List.set_cons_succ, i64_w, i32_w]
                rfl
              refine one_ (i := 7) (N := some 30) #[true, true, true, true, true, true, true, true, true, true, false, true, true, true, true, false, false, false] rfl rfl (one_of HT_.out (by kernel_rfl)) (by decide) (fun K hK => ?_)
              refine goes_ Try.func43 (by kernel_rfl) rfl #[.slice A0 l0.length c0] (by rfl) rfl rfl (by (try simp only [List.map_toArray, List.map_cons, List.map_nil]); first | done | rfl | (simp only [List.length_drop, List.length_take]; rfl)) ?_
              with_reducible refine (slices_Clone_int64_int64.calls _ _ l0 t497 _ ?side1 ?side2 A10.out).mono ?_
              (case side1 => repeat (first | exact (Kd.C_below HR0.out HB.out) | (with_reducible refine Kd.C_alloc ?_ _) | (with_reducible refine Kd.C_drewN ?_ _) | (with_reducible refine Kd.C_drew ?_)))
              (case side2 => exact HC0.out)
              rintro e w29 ⟨v498, rfl, ho0, hb⟩
              refine ⟨_, rfl, ?_⟩
              have n0_ := Aside0.mk (Kd.R_elder' (by (with_reducible repeat (first | apply Kd.R_alloc | apply Kd.R_drewN | apply Kd.R_drew)); exact HO502.out) (Kd.R_base ho0) hb)
              have n1_ := Aside0.mk (Kd.R_lower (Kd.R_new' ho0 (Kd.R_lt (by (with_reducible repeat (first | apply Kd.R_alloc | apply Kd.R_drewN | apply Kd.R_drew)); exact HO502.out))) (below_size (by repeat (first | (with_reducible first | exact HB.out | apply below_alloc | apply pw_below_drewN | apply below_drew1) | exact HB.out))))
              have n2_ := Aside0.mk (below_step (by repeat (first | (with_reducible first | exact HB.out | apply below_alloc | apply pw_below_drewN | apply below_drew1) | exact HB.out)) hb)
              clear HO502
              clear HB
              have HO502 := n0_
              have HO499 := n1_
              have HB := n2_
              clear n0_ n1_ n2_
              (try clear hb)
              (try clear hb2)
              (try clear hk)
              (try clear hi)
              (try clear ho0)
              refine hK.out _ _ ⟨(blk_cell (blk_below HMC.out.1 HB.out) 0).trans rfl, (blk_cell (blk_below HMC.out.2 HB.out) 0).trans rfl⟩ (fun hHeld => ?_)
              clear hK K
              refine norm_ (a' := ?_) ?_ ?_
              rotate_left
              · show Act.put _ (some 30) _ = _
                simp only [Act.put, List.setIfInBounds_toArray, List.set_cons_zero, List.set_cons_succ, i64_w, i32_w]
                rfl
              exact norm_ (by simp only [putAll, Act.put, List.setIfInBounds_toArray, List.set_cons_zero, List.set_cons_succ]) (hCont (v498, v501) _ ⟨(by (with_reducible repeat (first | apply Kd.R_alloc | apply Kd.R_drewN | apply Kd.R_drew)); exact Kd.R_mono HO499.out (fun _ hk => hk.2)), (by (with_reducible repeat (first | apply Kd.R_alloc | apply Kd.R_drewN | apply Kd.R_drew)); exact Kd.R_mono HO502.out (fun _ hk => hk.2)), (by repeat (first | (with_reducible first | exact HB.out | apply below_alloc | apply pw_below_drewN | apply below_drew1) | exact HB.out))⟩)
          rintro ⟨v498, v501⟩ w30 ⟨h0_, h1_, h2_⟩
          have n0_ : Aside0 (Kd.R (Kd.int .i64) 2 w30 w.heap.size (fun k_ => some k_ ≠ (v501 : Value).ownBlock) v498 t497) := ⟨h0_⟩
          have n1_ : Aside0 (Kd.R (Kd.int .i64) 2 w30 w.heap.size (fun k_ => some k_ ≠ (v498 : Value).ownBlock) v501 y500) := ⟨h1_⟩
          have n2_ : Aside0 (Below w.heap.size w w30) := ⟨h2_⟩
          clear HB
          clear h0_ h1_ h2_
          have HO499 := n0_
          have HO502 := n1_
          have HB := n2_
          clear n0_ n1_ n2_
          have hHeld := trivial
          obtain ⟨Ao32, co32, eo32⟩ := Kd.R_slice HO502.out
          (first | subst eo32 | (injection eo32 with f1_ f2_ f3_; have f4_ := f1_.symm; have f5_ := f3_.symm; clear f1_ f2_ f3_; subst f4_; subst f5_))
          refine norm_ (a' := ?_) ?_ ?_
          rotate_left
          · simp only [putAll, Act.put, List.setIfInBounds_toArray, List.set_cons_zero, List.set_cons_succ]
            rfl
          refine one_ (i := 10) (N := some 33) #[true, true, true, true, true, true, true, true, true, true, true, true, true, true, true, false, false, false] rfl rfl (one_of HT_.out (by kernel_rfl)) (by decide) (fun K hK => ?_)
          refine Kd.R_append_rows_step (Kd.int .i64) (w0 := w) w.heap.size (by rfl) (.tmp 30) (.tmp 32) 22 2 (.int .i64 0) 8 rfl Try.underlying22 info2 rfl (by decide) (by omega) v498 t497 y500 _ _ _ (fun k_ => some k_ ≠ (.slice Ao32 y500.length co32 : Value).ownBlock) (fun _ => False) rfl rfl ?aO ?aR (fun _ _ h => h) (fun _ h => h.elim) ?aF ?aB ?aS ?aL ?_
          (case aR => repeat (first | exact (Kd.R_reads' HO502.out).2.2 | (with_reducible refine Kd.C_alloc ?_ _) | (with_reducible refine Kd.C_drewN ?_ _) | (with_reducible refine Kd.C_drew ?_)))
          (case aB => exact (by repeat (first | (with_reducible first | exact HB.out | apply below_alloc | apply pw_below_drewN | apply below_drew1) | exact HB.out)))
          (case aF => exact (fun k_ hk => Kd.fresh' (Kd.R_lt (by (with_reducible repeat (first | apply Kd.R_alloc | apply Kd.R_drewN | apply Kd.R_drew)); exact HO502.out)) k_ hk))
          (case aO => exact (by (with_reducible repeat (first | apply Kd.R_alloc | apply Kd.R_drewN | apply Kd.R_drew)); exact HO499.out))
          (case aS => exact (below_size (by repeat (first | (with_reducible first | exact HB.out | apply below_alloc | apply pw_below_drewN | apply below_drew1) | exact HB.out))))
          (case aL => have := LMc11.out; omega)
          intro v504 w31 ho hb hg hat
          rw [← Ny503.out] at ho
          have n0_ := Aside0.mk (Kd.R_after (ok := (fun _ => True)) (by (with_reducible repeat (first | apply Kd.R_alloc | apply Kd.R_drewN | apply Kd.R_drew)); exact Kd.R_mono HO502.out (fun _ hk => ⟨trivial, hk⟩)) hg hat)
          have n1_ := Aside0.mk (hb)
          have n2_ := Aside0.mk (ho)
          clear HO502
          clear HB
          clear HO499
          have HO502 := n0_
          have HB := n1_
          have HO505 := n2_
          clear n0_ n1_ n2_
          clear ho hb hg hat
          obtain ⟨Ao33, co33, eo33⟩ := Kd.R_slice HO505.out
          (first | subst eo33 | (injection eo33 with f1_ f2_ f3_; have f4_ := f1_.symm; have f5_ := f3_.symm; clear f1_ f2_ f3_; subst f4_; subst f5_))
          refine hK.out _ _ ⟨(blk_cell (blk_below HMC.out.1 HB.out) 0).trans rfl, (blk_cell (blk_below HMC.out.2 HB.out) 0).trans rfl⟩ (fun hHeld => ?_)
          clear hK K
          refine norm_ (a' := ?_) ?_ ?_
          rotate_left
          · show Act.put _ (some 33) _ = _
            simp only [Act.put, List.setIfInBounds_toArray, List.set_cons_zero, List.set_cons_succ, i64_w, i32_w]
            rfl
          refine one_ (i := 15) (N := some 38) #[true, true, true, true, true, true, true, true, true, true, true, true, true, true, true, true, false, false] rfl rfl (one_of HT_.out (by kernel_rfl)) (by decide) (fun K hK => ?_)
          refine impl_mayPile.goesFC_ Try.func76 (by kernel_rfl) rfl #[.slice Ao33 y503.length co33, .int .i64 ji12] (lb := #[.pointer (some ⟨Nb, 0, none⟩), .pointer (some ⟨Eb, 0, none⟩), .pointer (some ⟨Mb, 0, none⟩), .pointer (some ⟨Cb, 0, none⟩)]) (by rfl) rfl rfl (by (try simp only [List.map_toArray, List.map_cons, List.map_nil]); first | done | (simp only [hji12]; rfl) | rfl | (simp only [List.length_drop, List.length_take]; rfl)) ?_
          refine (ih k1 (by have := HK1.out; omega) _ _ y503 ji12 a2 a3 A4 c4 l4 (some xf) _ (impl_grouped_1.CX.below HX.out HB.out) (below_step HB0.out HB.out) HO0.out HF0.out (Kd.R_lower (Kd.R_mono (Kd.R_bound HO505.out) (fun k_ hk_ => by have h1_ := hk_.2.1; have h2_ := HLT.out.1; have h3_ := HLT.out.2; exact ⟨by omega, by omega⟩)) HB0.out.size) (Kd.C_below HR4.out HB.out) HC4.out A13.out).mono ?_
          rintro e w34 ⟨rfl, hb⟩
          refine ⟨_, rfl, ?_⟩
          have HFN := Aside0.mk (impl_grouped_1.Fnd.from_ hb HB.out)
          clear hb
          refine hK.out _ _ ⟨(blk_cell (KeepBut.blk HFN.out.2.1 HMC.out.1 HNE.out.1.1 (fun e_ => HNE.out.1.2 (by injection e_))) 0).trans rfl, (blk_cell (KeepBut.blk HFN.out.2.1 HMC.out.2 HNE.out.2.1 (fun e_ => HNE.out.2.2 (by injection e_))) 0).trans rfl⟩ (fun hHeld => ?_)
          clear hK K
          refine norm_ (a' := ?_) ?_ ?_
          rotate_left
          · show Act.put _ (some 38) _ = _
            simp only [Act.put, List.setIfInBounds_toArray, List.set_cons_zero, List.set_cons_succ, i64_w, i32_w]
            rfl
          refine pure_ (i := 16) (N := some 39) (v := ?_) (a' := ?_) #[true, true, true, true, true, true, true, true, true, true, true, true, true, true, true, true, true, false] rfl rfl (any_of HT_.out (by kernel_rfl)) (fun _ _ _ h => h) (Or.inl ⟨by rfl, ?_⟩) ?_ ?_
          rotate_left
          · intro w'
            go_simp
            with_reducible rfl
          rotate_left
          · simp only [Act.put, List.setIfInBounds_toArray, List.set_cons_zero, List.set_cons_succ, i64_w, i32_w]
            rfl
          refine pure_ (i := 17) (N := some 40) (v := ?_) (a' := ?_) #[true, true, true, true, true, true, true, true, true, true, true, true, true, true, true, true, true, true] rfl rfl (any_of HT_.out (by kernel_rfl)) (fun _ _ _ h => h) (Or.inl ⟨by rfl, ?_⟩) ?_ ?_
          rotate_left
          · intro w'
            go_simp
            with_reducible rfl
          rotate_left
          · simp only [Act.put, List.setIfInBounds_toArray, List.set_cons_zero, List.set_cons_succ, i64_w, i32_w]
            rfl
          refine done_ (done_of HT_.out (by kernel_rfl)) ?_
          try go_wp2
          go_ret
          exact ⟨rfl, by (with_reducible repeat (first | apply impl_grouped_1.Fnd.drewN | apply impl_grouped_1.Fnd.drew)); exact HFN.out⟩
  rw [if_pos c6] at H
  have c6b0 : ((l0.length : Int) == a2) = true := beq_iff_eq.mpr c6
  have c6b1 : ((l0.length : Int) != a2) = false := bne_eq_false_iff_eq.mpr c6
  clear c6
  obtain rfl := Option.some.inj H
  go_enter Try.func76, Try.ntmps76
  go_wp2_with (first | (go_at_call 67; (refine (impl_fewestGroups_2.calls w0 A0 l0.length c0 a1 O F vo vf _ HOF.out.1 HOF.out.2 HB0.out HO0.out HF0.out).mono ?_); rintro e w7 ⟨rfl, h1_, h2_, h3_, h4_⟩; have HFN := Aside0.mk (show impl_grouped_1.Fnd w0 w w7 O F l0 from ⟨h4_, h3_, _, h1_, h2_, Kd.R_mono (Kd.R_step HN0.out (fun k_ hk hlt => h3_.2 k_ hlt hk.1 (fun e_ => hk.2 (by injection e_)))) (fun _ hk => hk.1)⟩); clear h1_ h2_ h3_ h4_))
  go_ret
  exact ⟨rfl, by (with_reducible repeat (first | apply impl_grouped_1.Fnd.drewN | apply impl_grouped_1.Fnd.drew)); exact HFN.out⟩
end Go.Proofs.Ytipdmnibjkdpcaa.P

namespace Go.Proofs.Ytipdmnibjkdpcaa.P
open Go.RowKit Go.Proofs.YtipdmnibjkdpcaaW.PrintWords Go.Proofs.YtipdmnibjkdpcaaW.PrintLast Go.Proofs.YtipdmnibjkdpcaaW.PrintMore
attribute [local go_sem] max2_int min2_int max_two min_two max_three min_three max_four min_four
set_option linter.unusedVariables false
set_option linter.unusedSimpArgs false
-- needs 76
theorem impl_grouped.run_store_func {P : Program} {w : World} {a : Addr} {m : Mode} (f : Fn) (x y : Array Value) : (store a (.func f x y) m).run P w = stored P w a (.func f x y) m := run_store P w a _ m rfl
attribute [local go_sem] impl_grouped.run_store_func
def impl_grouped.Post (w0 w w' : World) (O F : Nat) : Option (List Int) → Prop
  | none => Below w.heap.size w w'
  | some x => impl_grouped_1.Fnd w0 w w' O F x
set_option maxHeartbeats 8000000 in
set_option maxRecDepth 100000 in
theorem impl_grouped.calls (Q Y LB O F : Nat) (w0 : World) (k : Nat) (n most : Int) (A4 : Option Addr) (c4 : Nat) (l4 : List (S64)) (r : Option (List Int)) (w : World) (vo vf : Value) (hq : w.heap[Q]? = some (.cells #[.int .i64 most] 2 (0, 0))) (hy : w.heap[Y]? = some (.cells #[.func (.func 68) #[] #[.pointer (some ⟨LB, 0, none⟩)]] 28 (0, 0))) (hl : w.heap[LB]? = some (.cells #[.slice A4 l4.length c4] 35 (0, 0))) (ho : w.heap[O]? = some (.cells #[vo] 22 (0, 0))) (hf : w.heap[F]? = some (.cells #[vf] 4 (0, 0))) (hB0 : Below w0.heap.size w0 w) (hO0 : w0.heap.size ≤ O) (hF0 : w0.heap.size ≤ F) (hr4 : Kd.C k64 w A4 l4.length l4) (hc4 : l4.length ≤ c4) (h : impl_grouped_1.f k ([] : List Int) 0 n most l4 = some r) :
    Calls Try.prog 65 #[.int .i64 n, .func (.func 66) #[] #[.pointer (some ⟨Q, 0, none⟩), .pointer (some ⟨Y, 0, none⟩)], .func (.func 67) #[] #[.pointer (some ⟨O, 0, none⟩), .pointer (some ⟨F, 0, none⟩)]] w fun e w' => e = .returned (.tuple #[]) ∧ impl_grouped.Post w0 w w' O F r := by
  have HQ := Aside0.mk hq
  have HY := Aside0.mk hy
  have HL := Aside0.mk hl
  have HO := Aside0.mk ho
  have HF := Aside0.mk hf
  have HB0 := Aside0.mk hB0
  have HO0 := Aside0.mk hO0
  have HF0 := Aside0.mk hF0
  have HR4 := Aside0.mk hr4
  have HC4 := Aside0.mk hc4
  have HB := Aside0.mk (Below.refl w.heap.size w)
  have A1 := Aside0.mk h
  clear hq hy hl ho hf hB0 hO0 hF0 hr4 hc4 h
  rcases r with _ | xf
  · skip
    go_enter Try.func65, Try.ntmps65
    go_wp2_with (first | ((with_reducible refine gate_dst (N := 3) rfl ?_); refine box_event ?hg (N := 3) ?hd (cs := #[.int .i64 n]) (t := 3) ?hr ?_; (case hd => rfl); (case hg => rfl); (case hr => first | (go_simp; done) | (go_simp; rfl)); intro gN hg_ w1_ hblk_ hb_; have n0_ := Aside0.mk (show w1_.heap[Q]? = some (.cells #[.int .i64 most] 2 (0, 0)) from blk_below (by (with_reducible repeat (first | refine blk_drewN ?_ _ | refine blk_drew ?_)); exact HQ.out) hb_); have n1_ := Aside0.mk (show w1_.heap[Y]? = some (.cells #[.func (.func 68) #[] #[.pointer (some ⟨LB, 0, none⟩)]] 28 (0, 0)) from blk_below (by (with_reducible repeat (first | refine blk_drewN ?_ _ | refine blk_drew ?_)); exact HY.out) hb_); have n2_ := Aside0.mk (show w1_.heap[LB]? = some (.cells #[.slice A4 l4.length c4] 35 (0, 0)) from blk_below (by (with_reducible repeat (first | refine blk_drewN ?_ _ | refine blk_drew ?_)); exact HL.out) hb_); have n3_ := Aside0.mk (show w1_.heap[O]? = some (.cells #[vo] 22 (0, 0)) from blk_below (by (with_reducible repeat (first | refine blk_drewN ?_ _ | refine blk_drew ?_)); exact HO.out) hb_); have n4_ := Aside0.mk (show w1_.heap[F]? = some (.cells #[vf] 4 (0, 0)) from blk_below (by (with_reducible repeat (first | refine blk_drewN ?_ _ | refine blk_drew ?_)); exact HF.out) hb_); have n5_ := Aside0.mk (show Below w.heap.size w w1_ from below_step (by repeat (first | (with_reducible first | exact HB.out | apply below_alloc | apply pw_below_drewN | apply below_drew1) | exact HB.out)) hb_); have n6_ := Aside0.mk hblk_; have n7_ := Aside0.mk (show w.heap.size ≤ gN from by rw [hg_]; exact below_size (by repeat (first | (with_reducible first | exact HB.out | apply below_alloc | apply pw_below_drewN | apply below_drew1) | exact HB.out))); have n8_ := Aside0.mk (show Q ≠ gN from by rw [hg_]; exact Nat.ne_of_lt (blk_lt (g := Q) (o := .cells #[.int .i64 most] 2 (0, 0)) (by (with_reducible repeat (first | refine blk_drewN ?_ _ | refine blk_drew ?_)); exact HQ.out))); have n9_ := Aside0.mk (show Y ≠ gN from by rw [hg_]; exact Nat.ne_of_lt (blk_lt (g := Y) (o := .cells #[.func (.func 68) #[] #[.pointer (some ⟨LB, 0, none⟩)]] 28 (0, 0)) (by (with_reducible repeat (first | refine blk_drewN ?_ _ | refine blk_drew ?_)); exact HY.out))); have n10_ := Aside0.mk (show LB ≠ gN from by rw [hg_]; exact Nat.ne_of_lt (blk_lt (g := LB) (o := .cells #[.slice A4 l4.length c4] 35 (0, 0)) (by (with_reducible repeat (first | refine blk_drewN ?_ _ | refine blk_drew ?_)); exact HL.out))); have n11_ := Aside0.mk (show O ≠ gN from by rw [hg_]; exact Nat.ne_of_lt (blk_lt (g := O) (o := .cells #[vo] 22 (0, 0)) (by (with_reducible repeat (first | refine blk_drewN ?_ _ | refine blk_drew ?_)); exact HO.out))); have n12_ := Aside0.mk (show F ≠ gN from by rw [hg_]; exact Nat.ne_of_lt (blk_lt (g := F) (o := .cells #[vf] 4 (0, 0)) (by (with_reducible repeat (first | refine blk_drewN ?_ _ | refine blk_drew ?_)); exact HF.out))); clear HQ; clear HY; clear HL; clear HO; clear HF; clear HB; have HQ := n0_; have HY := n1_; have HL := n2_; have HO := n3_; have HF := n4_; have HB := n5_; have HN := n6_; have GEN := n7_; have NEQ_N := n8_; have NEY_N := n9_; have NEL_N := n10_; have NEO_N := n11_; have NEF_N := n12_; clear n0_ n1_ n2_ n3_ n4_ n5_ n6_ n7_ n8_ n9_ n10_ n11_ n12_; clear hg_ hblk_ hb_; have hc1Q : w1_.cell? ⟨Q, 0, none⟩ = some (.int .i64 most) := (blk_cell HQ.out 0).trans rfl; have hf1Q := blk_frozen HQ.out 0; have hc1Y : w1_.cell? ⟨Y, 0, none⟩ = some (.func (.func 68) #[] #[.pointer (some ⟨LB, 0, none⟩)]) := (blk_cell HY.out 0).trans rfl; have hf1Y := blk_frozen HY.out 0; have hc1L : w1_.cell? ⟨LB, 0, none⟩ = some (.slice A4 l4.length c4) := (blk_cell HL.out 0).trans rfl; have hf1L := blk_frozen HL.out 0; have hc1O : w1_.cell? ⟨O, 0, none⟩ = some (vo) := (blk_cell HO.out 0).trans rfl; have hf1O := blk_frozen HO.out 0; have hc1F : w1_.cell? ⟨F, 0, none⟩ = some (vf) := (blk_cell HF.out 0).trans rfl; have hf1F := blk_frozen HF.out 0; have hc1N : w1_.cell? ⟨gN, 0, none⟩ = some (.int .i64 n) := (blk_cell HN.out 0).trans rfl; have hf1N := blk_frozen HN.out 0) | ((with_reducible refine gate_dst (N := 4) rfl ?_); refine box_event ?hg (N := 4) ?hd (cs := #[.func (.func 66) #[] #[.pointer (some ⟨Q, 0, none⟩), .pointer (some ⟨Y, 0, none⟩)]]) (t := 28) ?hr ?_; (case hd => rfl); (case hg => rfl); (case hr => first | (go_simp; done) | (go_simp; rfl)); intro gM hg_ w2_ hblk_ hb_; have n0_ := Aside0.mk (show w2_.heap[Q]? = some (.cells #[.int .i64 most] 2 (0, 0)) from blk_below (by (with_reducible repeat (first | refine blk_drewN ?_ _ | refine blk_drew ?_)); exact HQ.out) hb_); have n1_ := Aside0.mk (show w2_.heap[Y]? = some (.cells #[.func (.func 68) #[] #[.pointer (some ⟨LB, 0, none⟩)]] 28 (0, 0)) from blk_below (by (with_reducible repeat (first | refine blk_drewN ?_ _ | refine blk_drew ?_)); exact HY.out) hb_); have n2_ := Aside0.mk (show w2_.heap[LB]? = some (.cells #[.slice A4 l4.length c4] 35 (0, 0)) from blk_below (by (with_reducible repeat (first | refine blk_drewN ?_ _ | refine blk_drew ?_)); exact HL.out) hb_); have n3_ := Aside0.mk (show w2_.heap[O]? = some (.cells #[vo] 22 (0, 0)) from blk_below (by (with_reducible repeat (first | refine blk_drewN ?_ _ | refine blk_drew ?_)); exact HO.out) hb_); have n4_ := Aside0.mk (show w2_.heap[F]? = some (.cells #[vf] 4 (0, 0)) from blk_below (by (with_reducible repeat (first | refine blk_drewN ?_ _ | refine blk_drew ?_)); exact HF.out) hb_); have n5_ := Aside0.mk (show w2_.heap[gN]? = some (.cells #[.int .i64 n] 3 (0, 0)) from blk_below (by (with_reducible repeat (first | refine blk_drewN ?_ _ | refine blk_drew ?_)); exact HN.out) hb_); have n6_ := Aside0.mk (show Below w.heap.size w w2_ from below_step (by repeat (first | (with_reducible first | exact HB.out | apply below_alloc | apply pw_below_drewN | apply below_drew1) | exact HB.out)) hb_); have n7_ := Aside0.mk hblk_; have n8_ := Aside0.mk (show w.heap.size ≤ gM from by rw [hg_]; exact below_size (by repeat (first | (with_reducible first | exact HB.out | apply below_alloc | apply pw_below_drewN | apply below_drew1) | exact HB.out))); have n9_ := Aside0.mk (show Q ≠ gM from by rw [hg_]; exact Nat.ne_of_lt (blk_lt (g := Q) (o := .cells #[.int .i64 most] 2 (0, 0)) (by (with_reducible repeat (first | refine blk_drewN ?_ _ | refine blk_drew ?_)); exact HQ.out))); have n10_ := Aside0.mk (show Y ≠ gM from by rw [hg_]; exact Nat.ne_of_lt (blk_lt (g := Y) (o := .cells #[.func (.func 68) #[] #[.pointer (some ⟨LB, 0, none⟩)]] 28 (0, 0)) (by (with_reducible repeat (first | refine blk_drewN ?_ _ | refine blk_drew ?_)); exact HY.out))); have n11_ := Aside0.mk (show LB ≠ gM from by rw [hg_]; exact Nat.ne_of_lt (blk_lt (g := LB) (o := .cells #[.slice A4 l4.length c4] 35 (0, 0)) (by (with_reducible repeat (first | refine blk_drewN ?_ _ | refine blk_drew ?_)); exact HL.out))); have n12_ := Aside0.mk (show O ≠ gM from by rw [hg_]; exact Nat.ne_of_lt (blk_lt (g := O) (o := .cells #[vo] 22 (0, 0)) (by (with_reducible repeat (first | refine blk_drewN ?_ _ | refine blk_drew ?_)); exact HO.out))); have n13_ := Aside0.mk (show F ≠ gM from by rw [hg_]; exact Nat.ne_of_lt (blk_lt (g := F) (o := .cells #[vf] 4 (0, 0)) (by (with_reducible repeat (first | refine blk_drewN ?_ _ | refine blk_drew ?_)); exact HF.out))); have n14_ := Aside0.mk (show gN ≠ gM from by rw [hg_]; exact Nat.ne_of_lt (blk_lt (g := gN) (o := .cells #[.int .i64 n] 3 (0, 0)) (by (with_reducible repeat (first | refine blk_drewN ?_ _ | refine blk_drew ?_)); exact HN.out))); clear HQ; clear HY; clear HL; clear HO; clear HF; clear HN; clear HB; have HQ := n0_; have HY := n1_; have HL := n2_; have HO := n3_; have HF := n4_; have HN := n5_; have HB := n6_; have HM := n7_; have GEM := n8_; have NEQ_M := n9_; have NEY_M := n10_; have NEL_M := n11_; have NEO_M := n12_; have NEF_M := n13_; have NEN_M := n14_; clear n0_ n1_ n2_ n3_ n4_ n5_ n6_ n7_ n8_ n9_ n10_ n11_ n12_ n13_ n14_; clear hg_ hblk_ hb_; (try clear hc1Q); (try clear hf1Q); (try clear hc1Y); (try clear hf1Y); (try clear hc1L); (try clear hf1L); (try clear hc1O); (try clear hf1O); (try clear hc1F); (try clear hf1F); (try clear hc1N); (try clear hf1N); have hc2Q : w2_.cell? ⟨Q, 0, none⟩ = some (.int .i64 most) := (blk_cell HQ.out 0).trans rfl; have hf2Q := blk_frozen HQ.out 0; have hc2Y : w2_.cell? ⟨Y, 0, none⟩ = some (.func (.func 68) #[] #[.pointer (some ⟨LB, 0, none⟩)]) := (blk_cell HY.out 0).trans rfl; have hf2Y := blk_frozen HY.out 0; have hc2L : w2_.cell? ⟨LB, 0, none⟩ = some (.slice A4 l4.length c4) := (blk_cell HL.out 0).trans rfl; have hf2L := blk_frozen HL.out 0; have hc2O : w2_.cell? ⟨O, 0, none⟩ = some (vo) := (blk_cell HO.out 0).trans rfl; have hf2O := blk_frozen HO.out 0; have hc2F : w2_.cell? ⟨F, 0, none⟩ = some (vf) := (blk_cell HF.out 0).trans rfl; have hf2F := blk_frozen HF.out 0; have hc2N : w2_.cell? ⟨gN, 0, none⟩ = some (.int .i64 n) := (blk_cell HN.out 0).trans rfl; have hf2N := blk_frozen HN.out 0; have hc2M : w2_.cell? ⟨gM, 0, none⟩ = some (.func (.func 66) #[] #[.pointer (some ⟨Q, 0, none⟩), .pointer (some ⟨Y, 0, none⟩)]) := (blk_cell HM.out 0).trans rfl; have hf2M := blk_frozen HM.out 0) | ((with_reducible refine gate_dst (N := 5) rfl ?_); refine box_event ?hg (N := 5) ?hd (cs := #[.func (.func 67) #[] #[.pointer (some ⟨O, 0, none⟩), .pointer (some ⟨F, 0, none⟩)]]) (t := 28) ?hr ?_; (case hd => rfl); (case hg => rfl); (case hr => first | (go_simp; done) | (go_simp; rfl)); intro gE hg_ w3_ hblk_ hb_; have n0_ := Aside0.mk (show w3_.heap[Q]? = some (.cells #[.int .i64 most] 2 (0, 0)) from blk_below (by (with_reducible repeat (first | refine blk_drewN ?_ _ | refine blk_drew ?_)); exact HQ.out) hb_); have n1_ := Aside0.mk (show w3_.heap[Y]? = some (.cells #[.func (.func 68) #[] #[.pointer (some ⟨LB, 0, none⟩)]] 28 (0, 0)) from blk_below (by (with_reducible repeat (first | refine blk_drewN ?_ _ | refine blk_drew ?_)); exact HY.out) hb_); have n2_ := Aside0.mk (show w3_.heap[LB]? = some (.cells #[.slice A4 l4.length c4] 35 (0, 0)) from blk_below (by (with_reducible repeat (first | refine blk_drewN ?_ _ | refine blk_drew ?_)); exact HL.out) hb_); have n3_ := Aside0.mk (show w3_.heap[O]? = some (.cells #[vo] 22 (0, 0)) from blk_below (by (with_reducible repeat (first | refine blk_drewN ?_ _ | refine blk_drew ?_)); exact HO.out) hb_); have n4_ := Aside0.mk (show w3_.heap[F]? = some (.cells #[vf] 4 (0, 0)) from blk_below (by (with_reducible repeat (first | refine blk_drewN ?_ _ | refine blk_drew ?_)); exact HF.out) hb_); have n5_ := Aside0.mk (show w3_.heap[gN]? = some (.cells #[.int .i64 n] 3 (0, 0)) from blk_below (by (with_reducible repeat (first | refine blk_drewN ?_ _ | refine blk_drew ?_)); exact HN.out) hb_); have n6_ := Aside0.mk (show w3_.heap[gM]? = some (.cells #[.func (.func 66) #[] #[.pointer (some ⟨Q, 0, none⟩), .pointer (some ⟨Y, 0, none⟩)]] 28 (0, 0)) from blk_below (by (with_reducible repeat (first | refine blk_drewN ?_ _ | refine blk_drew ?_)); exact HM.out) hb_); have n7_ := Aside0.mk (show Below w.heap.size w w3_ from below_step (by repeat (first | (with_reducible first | exact HB.out | apply below_alloc | apply pw_below_drewN | apply below_drew1) | exact HB.out)) hb_); have n8_ := Aside0.mk hblk_; have n9_ := Aside0.mk (show w.heap.size ≤ gE from by rw [hg_]; exact below_size (by repeat (first | (with_reducible first | exact HB.out | apply below_alloc | apply pw_below_drewN | apply below_drew1) | exact HB.out))); have n10_ := Aside0.mk (show Q ≠ gE from by rw [hg_]; exact Nat.ne_of_lt (blk_lt (g := Q) (o := .cells #[.int .i64 most] 2 (0, 0)) (by (with_reducible repeat (first | refine blk_drewN ?_ _ | refine blk_drew ?_)); exact HQ.out))); have n11_ := Aside0.mk (show Y ≠ gE from by rw [hg_]; exact Nat.ne_of_lt (blk_lt (g := Y) (o := .cells #[.func (.func 68) #[] #[.pointer (some ⟨LB, 0, none⟩)]] 28 (0, 0)) (by (with_reducible repeat (first | refine blk_drewN ?_ _ | refine blk_drew ?_)); exact HY.out))); have n12_ := Aside0.mk (show LB ≠ gE from by rw [hg_]; exact Nat.ne_of_lt (blk_lt (g := LB) (o := .cells #[.slice A4 l4.length c4] 35 (0, 0)) (by (with_reducible repeat (first | refine blk_drewN ?_ _ | refine blk_drew ?_)); exact HL.out))); have n13_ := Aside0.mk (show O ≠ gE from by rw [hg_]; exact Nat.ne_of_lt (blk_lt (g := O) (o := .cells #[vo] 22 (0, 0)) (by (with_reducible repeat (first | refine blk_drewN ?_ _ | refine blk_drew ?_)); exact HO.out))); have n14_ := Aside0.mk (show F ≠ gE from by rw [hg_]; exact Nat.ne_of_lt (blk_lt (g := F) (o := .cells #[vf] 4 (0, 0)) (by (with_reducible repeat (first | refine blk_drewN ?_ _ | refine blk_drew ?_)); exact HF.out))); have n15_ := Aside0.mk (show gN ≠ gE from by rw [hg_]; exact Nat.ne_of_lt (blk_lt (g := gN) (o := .cells #[.int .i64 n] 3 (0, 0)) (by (with_reducible repeat (first | refine blk_drewN ?_ _ | refine blk_drew ?_)); exact HN.out))); have n16_ := Aside0.mk (show gM ≠ gE from by rw [hg_]; exact Nat.ne_of_lt (blk_lt (g := gM) (o := .cells #[.func (.func 66) #[] #[.pointer (some ⟨Q, 0, none⟩), .pointer (some ⟨Y, 0, none⟩)]] 28 (0, 0)) (by (with_reducible repeat (first | refine blk_drewN ?_ _ | refine blk_drew ?_)); exact HM.out))); clear HQ; clear HY; clear HL; clear HO; clear HF; clear HN; clear HM; clear HB; have HQ := n0_; have HY := n1_; have HL := n2_; have HO := n3_; have HF := n4_; have HN := n5_; have HM := n6_; have HB := n7_; have HE := n8_; have GEE := n9_; have NEQ_E := n10_; have NEY_E := n11_; have NEL_E := n12_; have NEO_E := n13_; have NEF_E := n14_; have NEN_E := n15_; have NEM_E := n16_; clear n0_ n1_ n2_ n3_ n4_ n5_ n6_ n7_ n8_ n9_ n10_ n11_ n12_ n13_ n14_ n15_ n16_; clear hg_ hblk_ hb_; (try clear hc2Q); (try clear hf2Q); (try clear hc2Y); (try clear hf2Y); (try clear hc2L); (try clear hf2L); (try clear hc2O); (try clear hf2O); (try clear hc2F); (try clear hf2F); (try clear hc2N); (try clear hf2N); (try clear hc2M); (try clear hf2M); have hc3Q : w3_.cell? ⟨Q, 0, none⟩ = some (.int .i64 most) := (blk_cell HQ.out 0).trans rfl; have hf3Q := blk_frozen HQ.out 0; have hc3Y : w3_.cell? ⟨Y, 0, none⟩ = some (.func (.func 68) #[] #[.pointer (some ⟨LB, 0, none⟩)]) := (blk_cell HY.out 0).trans rfl; have hf3Y := blk_frozen HY.out 0; have hc3L : w3_.cell? ⟨LB, 0, none⟩ = some (.slice A4 l4.length c4) := (blk_cell HL.out 0).trans rfl; have hf3L := blk_frozen HL.out 0; have hc3O : w3_.cell? ⟨O, 0, none⟩ = some (vo) := (blk_cell HO.out 0).trans rfl; have hf3O := blk_frozen HO.out 0; have hc3F : w3_.cell? ⟨F, 0, none⟩ = some (vf) := (blk_cell HF.out 0).trans rfl; have hf3F := blk_frozen HF.out 0; have hc3N : w3_.cell? ⟨gN, 0, none⟩ = some (.int .i64 n) := (blk_cell HN.out 0).trans rfl; have hf3N := blk_frozen HN.out 0; have hc3M : w3_.cell? ⟨gM, 0, none⟩ = some (.func (.func 66) #[] #[.pointer (some ⟨Q, 0, none⟩), .pointer (some ⟨Y, 0, none⟩)]) := (blk_cell HM.out 0).trans rfl; have hf3M := blk_frozen HM.out 0; have hc3E : w3_.cell? ⟨gE, 0, none⟩ = some (.func (.func 67) #[] #[.pointer (some ⟨O, 0, none⟩), .pointer (some ⟨F, 0, none⟩)]) := (blk_cell HE.out 0).trans rfl; have hf3E := blk_frozen HE.out 0) | ((with_reducible refine gate_dst (N := 6) rfl ?_); refine box_event ?hg (N := 6) ?hd (cs := #[.nilFunc]) (t := 28) ?hr ?_; (case hd => rfl); (case hg => rfl); (case hr => first | (go_simp; done) | (go_simp; rfl)); intro gC hg_ w4_ hblk_ hb_; have n0_ := Aside0.mk (show w4_.heap[Q]? = some (.cells #[.int .i64 most] 2 (0, 0)) from blk_below (by (with_reducible repeat (first | refine blk_drewN ?_ _ | refine blk_drew ?_)); exact HQ.out) hb_); have n1_ := Aside0.mk (show w4_.heap[Y]? = some (.cells #[.func (.func 68) #[] #[.pointer (some ⟨LB, 0, none⟩)]] 28 (0, 0)) from blk_below (by (with_reducible repeat (first | refine blk_drewN ?_ _ | refine blk_drew ?_)); exact HY.out) hb_); have n2_ := Aside0.mk (show w4_.heap[LB]? = some (.cells #[.slice A4 l4.length c4] 35 (0, 0)) from blk_below (by (with_reducible repeat (first | refine blk_drewN ?_ _ | refine blk_drew ?_)); exact HL.out) hb_); have n3_ := Aside0.mk (show w4_.heap[O]? = some (.cells #[vo] 22 (0, 0)) from blk_below (by (with_reducible repeat (first | refine blk_drewN ?_ _ | refine blk_drew ?_)); exact HO.out) hb_); have n4_ := Aside0.mk (show w4_.heap[F]? = some (.cells #[vf] 4 (0, 0)) from blk_below (by (with_reducible repeat (first | refine blk_drewN ?_ _ | refine blk_drew ?_)); exact HF.out) hb_); have n5_ := Aside0.mk (show w4_.heap[gN]? = some (.cells #[.int .i64 n] 3 (0, 0)) from blk_below (by (with_reducible repeat (first | refine blk_drewN ?_ _ | refine blk_drew ?_)); exact HN.out) hb_); have n6_ := Aside0.mk (show w4_.heap[gM]? = some (.cells #[.func (.func 66) #[] #[.pointer (some ⟨Q, 0, none⟩), .pointer (some ⟨Y, 0, none⟩)]] 28 (0, 0)) from blk_below (by (with_reducible repeat (first | refine blk_drewN ?_ _ | refine blk_drew ?_)); exact HM.out) hb_); have n7_ := Aside0.mk (show w4_.heap[gE]? = some (.cells #[.func (.func 67) #[] #[.pointer (some ⟨O, 0, none⟩), .pointer (some ⟨F, 0, none⟩)]] 28 (0, 0)) from blk_below (by (with_reducible repeat (first | refine blk_drewN ?_ _ | refine blk_drew ?_)); exact HE.out) hb_); have n8_ := Aside0.mk (show Below w.heap.size w w4_ from below_step (by repeat (first | (with_reducible first | exact HB.out | apply below_alloc | apply pw_below_drewN | apply below_drew1) | exact HB.out)) hb_); have n9_ := Aside0.mk hblk_; have n10_ := Aside0.mk (show w.heap.size ≤ gC from by rw [hg_]; exact below_size (by repeat (first | (with_reducible first | exact HB.out | apply below_alloc | apply pw_below_drewN | apply below_drew1) | exact HB.out))); have n11_ := Aside0.mk (show Q ≠ gC from by rw [hg_]; exact Nat.ne_of_lt (blk_lt (g := Q) (o := .cells #[.int .i64 most] 2 (0, 0)) (by (with_reducible repeat (first | refine blk_drewN ?_ _ | refine blk_drew ?_)); exact HQ.out))); have n12_ := Aside0.mk (show Y ≠ gC from by rw [hg_]; exact Nat.ne_of_lt (blk_lt (g := Y) (o := .cells #[.func (.func 68) #[] #[.pointer (some ⟨LB, 0, none⟩)]] 28 (0, 0)) (by (with_reducible repeat (first | refine blk_drewN ?_ _ | refine blk_drew ?_)); exact HY.out))); have n13_ := Aside0.mk (show LB ≠ gC from by rw [hg_]; exact Nat.ne_of_lt (blk_lt (g := LB) (o := .cells #[.slice A4 l4.length c4] 35 (0, 0)) (by (with_reducible repeat (first | refine blk_drewN ?_ _ | refine blk_drew ?_)); exact HL.out))); have n14_ := Aside0.mk (show O ≠ gC from by rw [hg_]; exact Nat.ne_of_lt (blk_lt (g := O) (o := .cells #[vo] 22 (0, 0)) (by (with_reducible repeat (first | refine blk_drewN ?_ _ | refine blk_drew ?_)); exact HO.out))); have n15_ := Aside0.mk (show F ≠ gC from by rw [hg_]; exact Nat.ne_of_lt (blk_lt (g := F) (o := .cells #[vf] 4 (0, 0)) (by (with_reducible repeat (first | refine blk_drewN ?_ _ | refine blk_drew ?_)); exact HF.out))); have n16_ := Aside0.mk (show gN ≠ gC from by rw [hg_]; exact Nat.ne_of_lt (blk_lt (g := gN) (o := .cells #[.int .i64 n] 3 (0, 0)) (by (with_reducible repeat (first | refine blk_drewN ?_ _ | refine blk_drew ?_)); exact HN.out))); have n17_ := Aside0.mk (show gM ≠ gC from by rw [hg_]; exact Nat.ne_of_lt (blk_lt (g := gM) (o := .cells #[.func (.func 66) #[] #[.pointer (some ⟨Q, 0, none⟩), .pointer (some ⟨Y, 0, none⟩)]] 28 (0, 0)) (by (with_reducible repeat (first | refine blk_drewN ?_ _ | refine blk_drew ?_)); exact HM.out))); have n18_ := Aside0.mk (show gE ≠ gC from by rw [hg_]; exact Nat.ne_of_lt (blk_lt (g := gE) (o := .cells #[.func (.func 67) #[] #[.pointer (some ⟨O, 0, none⟩), .pointer (some ⟨F, 0, none⟩)]] 28 (0, 0)) (by (with_reducible repeat (first | refine blk_drewN ?_ _ | refine blk_drew ?_)); exact HE.out))); clear HQ; clear HY; clear HL; clear HO; clear HF; clear HN; clear HM; clear HE; clear HB; have HQ := n0_; have HY := n1_; have HL := n2_; have HO := n3_; have HF := n4_; have HN := n5_; have HM := n6_; have HE := n7_; have HB := n8_; have HC := n9_; have GEC := n10_; have NEQ_C := n11_; have NEY_C := n12_; have NEL_C := n13_; have NEO_C := n14_; have NEF_C := n15_; have NEN_C := n16_; have NEM_C := n17_; have NEE_C := n18_; clear n0_ n1_ n2_ n3_ n4_ n5_ n6_ n7_ n8_ n9_ n10_ n11_ n12_ n13_ n14_ n15_ n16_ n17_ n18_; clear hg_ hblk_ hb_; (try clear hc3Q); (try clear hf3Q); (try clear hc3Y); (try clear hf3Y); (try clear hc3L); (try clear hf3L); (try clear hc3O); (try clear hf3O); (try clear hc3F); (try clear hf3F); (try clear hc3N); (try clear hf3N); (try clear hc3M); (try clear hf3M); (try clear hc3E); (try clear hf3E); have hc4Q : w4_.cell? ⟨Q, 0, none⟩ = some (.int .i64 most) := (blk_cell HQ.out 0).trans rfl; have hf4Q := blk_frozen HQ.out 0; have hc4Y : w4_.cell? ⟨Y, 0, none⟩ = some (.func (.func 68) #[] #[.pointer (some ⟨LB, 0, none⟩)]) := (blk_cell HY.out 0).trans rfl; have hf4Y := blk_frozen HY.out 0; have hc4L : w4_.cell? ⟨LB, 0, none⟩ = some (.slice A4 l4.length c4) := (blk_cell HL.out 0).trans rfl; have hf4L := blk_frozen HL.out 0; have hc4O : w4_.cell? ⟨O, 0, none⟩ = some (vo) := (blk_cell HO.out 0).trans rfl; have hf4O := blk_frozen HO.out 0; have hc4F : w4_.cell? ⟨F, 0, none⟩ = some (vf) := (blk_cell HF.out 0).trans rfl; have hf4F := blk_frozen HF.out 0; have hc4N : w4_.cell? ⟨gN, 0, none⟩ = some (.int .i64 n) := (blk_cell HN.out 0).trans rfl; have hf4N := blk_frozen HN.out 0; have hc4M : w4_.cell? ⟨gM, 0, none⟩ = some (.func (.func 66) #[] #[.pointer (some ⟨Q, 0, none⟩), .pointer (some ⟨Y, 0, none⟩)]) := (blk_cell HM.out 0).trans rfl; have hf4M := blk_frozen HM.out 0; have hc4E : w4_.cell? ⟨gE, 0, none⟩ = some (.func (.func 67) #[] #[.pointer (some ⟨O, 0, none⟩), .pointer (some ⟨F, 0, none⟩)]) := (blk_cell HE.out 0).trans rfl; have hf4E := blk_frozen HE.out 0; have hc4C : w4_.cell? ⟨gC, 0, none⟩ = some (.nilFunc) := (blk_cell HC.out 0).trans rfl; have hf4C := blk_frozen HC.out 0) | ((with_reducible refine gate_store (t := 28) (p := 6) rfl ?_); refine store_event (t := 28) (p := 6) (v := .tmp 7) (w1 := (w4_.setCell ⟨gC, 0, none⟩ (.func (.func 76) #[] #[.pointer (some ⟨gN, 0, none⟩), .pointer (some ⟨gE, 0, none⟩), .pointer (some ⟨gM, 0, none⟩), .pointer (some ⟨gC, 0, none⟩)]))) ?hg5 ?ho5 ?hn5 ?hr5 ?_; (case ho5 => rfl); (case hg5 => rfl); (case hn5 => rfl); (case hr5 => first | (go_simp; done) | (go_simp; rfl)); intro w5_ hw_; have n0_ := Aside0.mk (show w5_.heap[Q]? = some (.cells #[.int .i64 most] 2 (0, 0)) from by rw [hw_]; exact blk_far HQ.out (p := ⟨gC, 0, none⟩) NEQ_C.out _); have n1_ := Aside0.mk (show w5_.heap[Y]? = some (.cells #[.func (.func 68) #[] #[.pointer (some ⟨LB, 0, none⟩)]] 28 (0, 0)) from by rw [hw_]; exact blk_far HY.out (p := ⟨gC, 0, none⟩) NEY_C.out _); have n2_ := Aside0.mk (show w5_.heap[LB]? = some (.cells #[.slice A4 l4.length c4] 35 (0, 0)) from by rw [hw_]; exact blk_far HL.out (p := ⟨gC, 0, none⟩) NEL_C.out _); have n3_ := Aside0.mk (show w5_.heap[O]? = some (.cells #[vo] 22 (0, 0)) from by rw [hw_]; exact blk_far HO.out (p := ⟨gC, 0, none⟩) NEO_C.out _); have n4_ := Aside0.mk (show w5_.heap[F]? = some (.cells #[vf] 4 (0, 0)) from by rw [hw_]; exact blk_far HF.out (p := ⟨gC, 0, none⟩) NEF_C.out _); have n5_ := Aside0.mk (show w5_.heap[gN]? = some (.cells #[.int .i64 n] 3 (0, 0)) from by rw [hw_]; exact blk_far HN.out (p := ⟨gC, 0, none⟩) NEN_C.out _); have n6_ := Aside0.mk (show w5_.heap[gM]? = some (.cells #[.func (.func 66) #[] #[.pointer (some ⟨Q, 0, none⟩), .pointer (some ⟨Y, 0, none⟩)]] 28 (0, 0)) from by rw [hw_]; exact blk_far HM.out (p := ⟨gC, 0, none⟩) NEM_C.out _); have n7_ := Aside0.mk (show w5_.heap[gE]? = some (.cells #[.func (.func 67) #[] #[.pointer (some ⟨O, 0, none⟩), .pointer (some ⟨F, 0, none⟩)]] 28 (0, 0)) from by rw [hw_]; exact blk_far HE.out (p := ⟨gC, 0, none⟩) NEE_C.out _); have n8_ := Aside0.mk (show w5_.heap[gC]? = some (.cells #[.func (.func 76) #[] #[.pointer (some ⟨gN, 0, none⟩), .pointer (some ⟨gE, 0, none⟩), .pointer (some ⟨gM, 0, none⟩), .pointer (some ⟨gC, 0, none⟩)]] 28 (0, 0)) from by rw [hw_]; exact blk_put HC.out 0 _ rfl); have n9_ := Aside0.mk (show Below w.heap.size w w5_ from by rw [hw_]; exact HB.out.setCell GEC.out _); clear HQ; clear HY; clear HL; clear HO; clear HF; clear HN; clear HM; clear HE; clear HC; clear HB; have HQ := n0_; have HY := n1_; have HL := n2_; have HO := n3_; have HF := n4_; have HN := n5_; have HM := n6_; have HE := n7_; have HC := n8_; have HB := n9_; clear n0_ n1_ n2_ n3_ n4_ n5_ n6_ n7_ n8_ n9_; clear hw_; (try clear hc4Q); (try clear hf4Q); (try clear hc4Y); (try clear hf4Y); (try clear hc4L); (try clear hf4L); (try clear hc4O); (try clear hf4O); (try clear hc4F); (try clear hf4F); (try clear hc4N); (try clear hf4N); (try clear hc4M); (try clear hf4M); (try clear hc4E); (try clear hf4E); (try clear hc4C); (try clear hf4C); have hc5Q : w5_.cell? ⟨Q, 0, none⟩ = some (.int .i64 most) := (blk_cell HQ.out 0).trans rfl; have hf5Q := blk_frozen HQ.out 0; have hc5Y : w5_.cell? ⟨Y, 0, none⟩ = some (.func (.func 68) #[] #[.pointer (some ⟨LB, 0, none⟩)]) := (blk_cell HY.out 0).trans rfl; have hf5Y := blk_frozen HY.out 0; have hc5L : w5_.cell? ⟨LB, 0, none⟩ = some (.slice A4 l4.length c4) := (blk_cell HL.out 0).trans rfl; have hf5L := blk_frozen HL.out 0; have hc5O : w5_.cell? ⟨O, 0, none⟩ = some (vo) := (blk_cell HO.out 0).trans rfl; have hf5O := blk_frozen HO.out 0; have hc5F : w5_.cell? ⟨F, 0, none⟩ = some (vf) := (blk_cell HF.out 0).trans rfl; have hf5F := blk_frozen HF.out 0; have hc5N : w5_.cell? ⟨gN, 0, none⟩ = some (.int .i64 n) := (blk_cell HN.out 0).trans rfl; have hf5N := blk_frozen HN.out 0; have hc5M : w5_.cell? ⟨gM, 0, none⟩ = some (.func (.func 66) #[] #[.pointer (some ⟨Q, 0, none⟩), .pointer (some ⟨Y, 0, none⟩)]) := (blk_cell HM.out 0).trans rfl; have hf5M := blk_frozen HM.out 0; have hc5E : w5_.cell? ⟨gE, 0, none⟩ = some (.func (.func 67) #[] #[.pointer (some ⟨O, 0, none⟩), .pointer (some ⟨F, 0, none⟩)]) := (blk_cell HE.out 0).trans rfl; have hf5E := blk_frozen HE.out 0; have hc5C : w5_.cell? ⟨gC, 0, none⟩ = some (.func (.func 76) #[] #[.pointer (some ⟨gN, 0, none⟩), .pointer (some ⟨gE, 0, none⟩), .pointer (some ⟨gM, 0, none⟩), .pointer (some ⟨gC, 0, none⟩)]) := (blk_cell HC.out 0).trans rfl; have hf5C := blk_frozen HC.out 0) | (go_at_call 76; (refine (impl_grouped_1.calls gN gE gM gC Q Y LB O F w0 k none 0 [] 0 n most A4 c4 l4 none _ ⟨HN.out, HE.out, HM.out, HC.out, HQ.out, HY.out, HL.out, ⟨_, HO.out⟩, ⟨_, HF.out⟩⟩ (below_step HB0.out HB.out) HO0.out HF0.out (Kd.R_nil _ _ _ _ _) (Kd.C_below HR4.out HB.out) HC4.out A1.out).mono ?_); rintro e w9_ ⟨rfl, hb⟩; have n0_ := Aside0.mk (below_step HB.out hb); clear HB hb; have HB := n0_; clear n0_))
    first | go_end0 | ((try simp only [Exit.inBlock, Exit.then]); refine bodyPost_ret (results_none rfl _ _ _) rfl ?_)
    exact ⟨rfl, (by repeat (first | (with_reducible first | exact HB.out | apply below_alloc | apply pw_below_drewN | apply below_drew1) | exact HB.out))⟩
  · skip
    go_enter Try.func65, Try.ntmps65
    go_wp2_with (first | ((with_reducible refine gate_dst (N := 3) rfl ?_); refine box_event ?hg (N := 3) ?hd (cs := #[.int .i64 n]) (t := 3) ?hr ?_; (case hd => rfl); (case hg => rfl); (case hr => first | (go_simp; done) | (go_simp; rfl)); intro gN hg_ w1_ hblk_ hb_; have n0_ := Aside0.mk (show w1_.heap[Q]? = some (.cells #[.int .i64 most] 2 (0, 0)) from blk_below (by (with_reducible repeat (first | refine blk_drewN ?_ _ | refine blk_drew ?_)); exact HQ.out) hb_); have n1_ := Aside0.mk (show w1_.heap[Y]? = some (.cells #[.func (.func 68) #[] #[.pointer (some ⟨LB, 0, none⟩)]] 28 (0, 0)) from blk_below (by (with_reducible repeat (first | refine blk_drewN ?_ _ | refine blk_drew ?_)); exact HY.out) hb_); have n2_ := Aside0.mk (show w1_.heap[LB]? = some (.cells #[.slice A4 l4.length c4] 35 (0, 0)) from blk_below (by (with_reducible repeat (first | refine blk_drewN ?_ _ | refine blk_drew ?_)); exact HL.out) hb_); have n3_ := Aside0.mk (show w1_.heap[O]? = some (.cells #[vo] 22 (0, 0)) from blk_below (by (with_reducible repeat (first | refine blk_drewN ?_ _ | refine blk_drew ?_)); exact HO.out) hb_); have n4_ := Aside0.mk (show w1_.heap[F]? = some (.cells #[vf] 4 (0, 0)) from blk_below (by (with_reducible repeat (first | refine blk_drewN ?_ _ | refine blk_drew ?_)); exact HF.out) hb_); have n5_ := Aside0.mk (show Below w.heap.size w w1_ from below_step (by repeat (first | (with_reducible first | exact HB.out | apply below_alloc | apply pw_below_drewN | apply below_drew1) | exact HB.out)) hb_); have n6_ := Aside0.mk hblk_; have n7_ := Aside0.mk (show w.heap.size ≤ gN from by rw [hg_]; exact below_size (by repeat (first | (with_reducible first | exact HB.out | apply below_alloc | apply pw_below_drewN | apply below_drew1) | exact HB.out))); have n8_ := Aside0.mk (show Q ≠ gN from by rw [hg_]; exact Nat.ne_of_lt (blk_lt (g := Q) (o := .cells #[.int .i64 most] 2 (0, 0)) (by (with_reducible repeat (first | refine blk_drewN ?_ _ | refine blk_drew ?_)); exact HQ.out))); have n9_ := Aside0.mk (show Y ≠ gN from by rw [hg_]; exact Nat.ne_of_lt (blk_lt (g := Y) (o := .cells #[.func (.func 68) #[] #[.pointer (some ⟨LB, 0, none⟩)]] 28 (0, 0)) (by (with_reducible repeat (first | refine blk_drewN ?_ _ | refine blk_drew ?_)); exact HY.out))); have n10_ := Aside0.mk (show LB ≠ gN from by rw [hg_]; exact Nat.ne_of_lt (blk_lt (g := LB) (o := .cells #[.slice A4 l4.length c4] 35 (0, 0)) (by (with_reducible repeat (first | refine blk_drewN ?_ _ | refine blk_drew ?_)); exact HL.out))); have n11_ := Aside0.mk (show O ≠ gN from by rw [hg_]; exact Nat.ne_of_lt (blk_lt (g := O) (o := .cells #[vo] 22 (0, 0)) (by (with_reducible repeat (first | refine blk_drewN ?_ _ | refine blk_drew ?_)); exact HO.out))); have n12_ := Aside0.mk (show F ≠ gN from by rw [hg_]; exact Nat.ne_of_lt (blk_lt (g := F) (o := .cells #[vf] 4 (0, 0)) (by (with_reducible repeat (first | refine blk_drewN ?_ _ | refine blk_drew ?_)); exact HF.out))); clear HQ; clear HY; clear HL; clear HO; clear HF; clear HB; have HQ := n0_; have HY := n1_; have HL := n2_; have HO := n3_; have HF := n4_; have HB := n5_; have HN := n6_; have GEN := n7_; have NEQ_N := n8_; have NEY_N := n9_; have NEL_N := n10_; have NEO_N := n11_; have NEF_N := n12_; clear n0_ n1_ n2_ n3_ n4_ n5_ n6_ n7_ n8_ n9_ n10_ n11_ n12_; clear hg_ hblk_ hb_; have hc1Q : w1_.cell? ⟨Q, 0, none⟩ = some (.int .i64 most) := (blk_cell HQ.out 0).trans rfl; have hf1Q := blk_frozen HQ.out 0; have hc1Y : w1_.cell? ⟨Y, 0, none⟩ = some (.func (.func 68) #[] #[.pointer (some ⟨LB, 0, none⟩)]) := (blk_cell HY.out 0).trans rfl; have hf1Y := blk_frozen HY.out 0; have hc1L : w1_.cell? ⟨LB, 0, none⟩ = some (.slice A4 l4.length c4) := (blk_cell HL.out 0).trans rfl; have hf1L := blk_frozen HL.out 0; have hc1O : w1_.cell? ⟨O, 0, none⟩ = some (vo) := (blk_cell HO.out 0).trans rfl; have hf1O := blk_frozen HO.out 0; have hc1F : w1_.cell? ⟨F, 0, none⟩ = some (vf) := (blk_cell HF.out 0).trans rfl; have hf1F := blk_frozen HF.out 0; have hc1N : w1_.cell? ⟨gN, 0, none⟩ = some (.int .i64 n) := (blk_cell HN.out 0).trans rfl; have hf1N := blk_frozen HN.out 0) | ((with_reducible refine gate_dst (N := 4) rfl ?_); refine box_event ?hg (N := 4) ?hd (cs := #[.func (.func 66) #[] #[.pointer (some ⟨Q, 0, none⟩), .pointer (some ⟨Y, 0, none⟩)]]) (t := 28) ?hr ?_; (case hd => rfl); (case hg => rfl); (case hr => first | (go_simp; done) | (go_simp; rfl)); intro gM hg_ w2_ hblk_ hb_; have n0_ := Aside0.mk (show w2_.heap[Q]? = some (.cells #[.int .i64 most] 2 (0, 0)) from blk_below (by (with_reducible repeat (first | refine blk_drewN ?_ _ | refine blk_drew ?_)); exact HQ.out) hb_); have n1_ := Aside0.mk (show w2_.heap[Y]? = some (.cells #[.func (.func 68) #[] #[.pointer (some ⟨LB, 0, none⟩)]] 28 (0, 0)) from blk_below (by (with_reducible repeat (first | refine blk_drewN ?_ _ | refine blk_drew ?_)); exact HY.out) hb_); have n2_ := Aside0.mk (show w2_.heap[LB]? = some (.cells #[.slice A4 l4.length c4] 35 (0, 0)) from blk_below (by (with_reducible repeat (first | refine blk_drewN ?_ _ | refine blk_drew ?_)); exact HL.out) hb_); have n3_ := Aside0.mk (show w2_.heap[O]? = some (.cells #[vo] 22 (0, 0)) from blk_below (by (with_reducible repeat (first | refine blk_drewN ?_ _ | refine blk_drew ?_)); exact HO.out) hb_); have n4_ := Aside0.mk (show w2_.heap[F]? = some (.cells #[vf] 4 (0, 0)) from blk_below (by (with_reducible repeat (first | refine blk_drewN ?_ _ | refine blk_drew ?_)); exact HF.out) hb_); have n5_ := Aside0.mk (show w2_.heap[gN]? = some (.cells #[.int .i64 n] 3 (0, 0)) from blk_below (by (with_reducible repeat (first | refine blk_drewN ?_ _ | refine blk_drew ?_)); exact HN.out) hb_); have n6_ := Aside0.mk (show Below w.heap.size w w2_ from below_step (by repeat (first | (with_reducible first | exact HB.out | apply below_alloc | apply pw_below_drewN | apply below_drew1) | exact HB.out)) hb_); have n7_ := Aside0.mk hblk_; have n8_ := Aside0.mk (show w.heap.size ≤ gM from by rw [hg_]; exact below_size (by repeat (first | (with_reducible first | exact HB.out | apply below_alloc | apply pw_below_drewN | apply below_drew1) | exact HB.out))); have n9_ := Aside0.mk (show Q ≠ gM from by rw [hg_]; exact Nat.ne_of_lt (blk_lt (g := Q) (o := .cells #[.int .i64 most] 2 (0, 0)) (by (with_reducible repeat (first | refine blk_drewN ?_ _ | refine blk_drew ?_)); exact HQ.out))); have n10_ := Aside0.mk (show Y ≠ gM from by rw [hg_]; exact Nat.ne_of_lt (blk_lt (g := Y) (o := .cells #[.func (.func 68) #[] #[.pointer (some ⟨LB, 0, none⟩)]] 28 (0, 0)) (by (with_reducible repeat (first | refine blk_drewN ?_ _ | refine blk_drew ?_)); exact HY.out))); have n11_ := Aside0.mk (show LB ≠ gM from by rw [hg_]; exact Nat.ne_of_lt (blk_lt (g := LB) (o := .cells #[.slice A4 l4.length c4] 35 (0, 0)) (by (with_reducible repeat (first | refine blk_drewN ?_ _ | refine blk_drew ?_)); exact HL.out))); have n12_ := Aside0.mk (show O ≠ gM from by rw [hg_]; exact Nat.ne_of_lt (blk_lt (g := O) (o := .cells #[vo] 22 (0, 0)) (by (with_reducible repeat (first | refine blk_drewN ?_ _ | refine blk_drew ?_)); exact HO.out))); have n13_ := Aside0.mk (show F ≠ gM from by rw [hg_]; exact Nat.ne_of_lt (blk_lt (g := F) (o := .cells #[vf] 4 (0, 0)) (by (with_reducible repeat (first | refine blk_drewN ?_ _ | refine blk_drew ?_)); exact HF.out))); have n14_ := Aside0.mk (show gN ≠ gM from by rw [hg_]; exact Nat.ne_of_lt (blk_lt (g := gN) (o := .cells #[.int .i64 n] 3 (0, 0)) (by (with_reducible repeat (first | refine blk_drewN ?_ _ | refine blk_drew ?_)); exact HN.out))); clear HQ; clear HY; clear HL; clear HO; clear HF; clear HN; clear HB; have HQ := n0_; have HY := n1_; have HL := n2_; have HO := n3_; have HF := n4_; have HN := n5_; have HB := n6_; have HM := n7_; have GEM := n8_; have NEQ_M := n9_; have NEY_M := n10_; have NEL_M := n11_; have NEO_M := n12_; have NEF_M := n13_; have NEN_M := n14_; clear n0_ n1_ n2_ n3_ n4_ n5_ n6_ n7_ n8_ n9_ n10_ n11_ n12_ n13_ n14_; clear hg_ hblk_ hb_; (try clear hc1Q); (try clear hf1Q); (try clear hc1Y); (try clear hf1Y); (try clear hc1L); (try clear hf1L); (try clear hc1O); (try clear hf1O); (try clear hc1F); (try clear hf1F); (try clear hc1N); (try clear hf1N); have hc2Q : w2_.cell? ⟨Q, 0, none⟩ = some (.int .i64 most) := (blk_cell HQ.out 0).trans rfl; have hf2Q := blk_frozen HQ.out 0; have hc2Y : w2_.cell? ⟨Y, 0, none⟩ = some (.func (.func 68) #[] #[.pointer (some ⟨LB, 0, none⟩)]) := (blk_cell HY.out 0).trans rfl; have hf2Y := blk_frozen HY.out 0; have hc2L : w2_.cell? ⟨LB, 0, none⟩ = some (.slice A4 l4.length c4) := (blk_cell HL.out 0).trans rfl; have hf2L := blk_frozen HL.out 0; have hc2O : w2_.cell? ⟨O, 0, none⟩ = some (vo) := (blk_cell HO.out 0).trans rfl; have hf2O := blk_frozen HO.out 0; have hc2F : w2_.cell? ⟨F, 0, none⟩ = some (vf) := (blk_cell HF.out 0).trans rfl; have hf2F := blk_frozen HF.out 0; have hc2N : w2_.cell? ⟨gN, 0, none⟩ = some (.int .i64 n) := (blk_cell HN.out 0).trans rfl; have hf2N := blk_frozen HN.out 0; have hc2M : w2_.cell? ⟨gM, 0, none⟩ = some (.func (.func 66) #[] #[.pointer (some ⟨Q, 0, none⟩), .pointer (some ⟨Y, 0, none⟩)]) := (blk_cell HM.out 0).trans rfl; have hf2M := blk_frozen HM.out 0) | ((with_reducible refine gate_dst (N := 5) rfl ?_); refine box_event ?hg (N := 5) ?hd (cs := #[.func (.func 67) #[] #[.pointer (some ⟨O, 0, none⟩), .pointer (some ⟨F, 0, none⟩)]]) (t := 28) ?hr ?_; (case hd => rfl); (case hg => rfl); (case hr => first | (go_simp; done) | (go_simp; rfl)); intro gE hg_ w3_ hblk_ hb_; have n0_ := Aside0.mk (show w3_.heap[Q]? = some (.cells #[.int .i64 most] 2 (0, 0)) from blk_below (by (with_reducible repeat (first | refine blk_drewN ?_ _ | refine blk_drew ?_)); exact HQ.out) hb_); have n1_ := Aside0.mk (show w3_.heap[Y]? = some (.cells #[.func (.func 68) #[] #[.pointer (some ⟨LB, 0, none⟩)]] 28 (0, 0)) from blk_below (by (with_reducible repeat (first | refine blk_drewN ?_ _ | refine blk_drew ?_)); exact HY.out) hb_); have n2_ := Aside0.mk (show w3_.heap[LB]? = some (.cells #[.slice A4 l4.length c4] 35 (0, 0)) from blk_below (by (with_reducible repeat (first | refine blk_drewN ?_ _ | refine blk_drew ?_)); exact HL.out) hb_); have n3_ := Aside0.mk (show w3_.heap[O]? = some (.cells #[vo] 22 (0, 0)) from blk_below (by (with_reducible repeat (first | refine blk_drewN ?_ _ | refine blk_drew ?_)); exact HO.out) hb_); have n4_ := Aside0.mk (show w3_.heap[F]? = some (.cells #[vf] 4 (0, 0)) from blk_below (by (with_reducible repeat (first | refine blk_drewN ?_ _ | refine blk_drew ?_)); exact HF.out) hb_); have n5_ := Aside0.mk (show w3_.heap[gN]? = some (.cells #[.int .i64 n] 3 (0, 0)) from blk_below (by (with_reducible repeat (first | refine blk_drewN ?_ _ | refine blk_drew ?_)); exact HN.out) hb_); have n6_ := Aside0.mk (show w3_.heap[gM]? = some (.cells #[.func (.func 66) #[] #[.pointer (some ⟨Q, 0, none⟩), .pointer (some ⟨Y, 0, none⟩)]] 28 (0, 0)) from blk_below (by (with_reducible repeat (first | refine blk_drewN ?_ _ | refine blk_drew ?_)); exact HM.out) hb_); have n7_ := Aside0.mk (show Below w.heap.size w w3_ from below_step (by repeat (first | (with_reducible first | exact HB.out | apply below_alloc | apply pw_below_drewN | apply below_drew1) | exact HB.out)) hb_); have n8_ := Aside0.mk hblk_; have n9_ := Aside0.mk (show w.heap.size ≤ gE from by rw [hg_]; exact below_size (by repeat (first | (with_reducible first | exact HB.out | apply below_alloc | apply pw_below_drewN | apply below_drew1) | exact HB.out))); have n10_ := Aside0.mk (show Q ≠ gE from by rw [hg_]; exact Nat.ne_of_lt (blk_lt (g := Q) (o := .cells #[.int .i64 most] 2 (0, 0)) (by (with_reducible repeat (first | refine blk_drewN ?_ _ | refine blk_drew ?_)); exact HQ.out))); have n11_ := Aside0.mk (show Y ≠ gE from by rw [hg_]; exact Nat.ne_of_lt (blk_lt (g := Y) (o := .cells #[.func (.func 68) #[] #[.pointer (some ⟨LB, 0, none⟩)]] 28 (0, 0)) (by (with_reducible repeat (first | refine blk_drewN ?_ _ | refine blk_drew ?_)); exact HY.out))); have n12_ := Aside0.mk (show LB ≠ gE from by rw [hg_]; exact Nat.ne_of_lt (blk_lt (g := LB) (o := .cells #[.slice A4 l4.length c4] 35 (0, 0)) (by (with_reducible repeat (first | refine blk_drewN ?_ _ | refine blk_drew ?_)); exact HL.out))); have n13_ := Aside0.mk (show O ≠ gE from by rw [hg_]; exact Nat.ne_of_lt (blk_lt (g := O) (o := .cells #[vo] 22 (0, 0)) (by (with_reducible repeat (first | refine blk_drewN ?_ _ | refine blk_drew ?_)); exact HO.out))); have n14_ := Aside0.mk (show F ≠ gE from by rw [hg_]; exact Nat.ne_of_lt (blk_lt (g := F) (o := .cells #[vf] 4 (0, 0)) (by (with_reducible repeat (first | refine blk_drewN ?_ _ | refine blk_drew ?_)); exact HF.out))); have n15_ := Aside0.mk (show gN ≠ gE from by rw [hg_]; exact Nat.ne_of_lt (blk_lt (g := gN) (o := .cells #[.int .i64 n] 3 (0, 0)) (by (with_reducible repeat (first | refine blk_drewN ?_ _ | refine blk_drew ?_)); exact HN.out))); have n16_ := Aside0.mk (show gM ≠ gE from by rw [hg_]; exact Nat.ne_of_lt (blk_lt (g := gM) (o := .cells #[.func (.func 66) #[] #[.pointer (some ⟨Q, 0, none⟩), .pointer (some ⟨Y, 0, none⟩)]] 28 (0, 0)) (by (with_reducible repeat (first | refine blk_drewN ?_ _ | refine blk_drew ?_)); exact HM.out))); clear HQ; clear HY; clear HL; clear HO; clear HF; clear HN; clear HM; clear HB; have HQ := n0_; have HY := n1_; have HL := n2_; have HO := n3_; have HF := n4_; have HN := n5_; have HM := n6_; have HB := n7_; have HE := n8_; have GEE := n9_; have NEQ_E := n10_; have NEY_E := n11_; have NEL_E := n12_; have NEO_E := n13_; have NEF_E := n14_; have NEN_E := n15_; have NEM_E := n16_; clear n0_ n1_ n2_ n3_ n4_ n5_ n6_ n7_ n8_ n9_ n10_ n11_ n12_ n13_ n14_ n15_ n16_; clear hg_ hblk_ hb_; (try clear hc2Q); (try clear hf2Q); (try clear hc2Y); (try clear hf2Y); (try clear hc2L); (try clear hf2L); (try clear hc2O); (try clear hf2O); (try clear hc2F); (try clear hf2F); (try clear hc2N); (try clear hf2N); (try clear hc2M); (try clear hf2M); have hc3Q : w3_.cell? ⟨Q, 0, none⟩ = some (.int .i64 most) := (blk_cell HQ.out 0).trans rfl; have hf3Q := blk_frozen HQ.out 0; have hc3Y : w3_.cell? ⟨Y, 0, none⟩ = some (.func (.func 68) #[] #[.pointer (some ⟨LB, 0, none⟩)]) := (blk_cell HY.out 0).trans rfl; have hf3Y := blk_frozen HY.out 0; have hc3L : w3_.cell? ⟨LB, 0, none⟩ = some (.slice A4 l4.length c4) := (blk_cell HL.out 0).trans rfl; have hf3L := blk_frozen HL.out 0; have hc3O : w3_.cell? ⟨O, 0, none⟩ = some (vo) := (blk_cell HO.out 0).trans rfl; have hf3O := blk_frozen HO.out 0; have hc3F : w3_.cell? ⟨F, 0, none⟩ = some (vf) := (blk_cell HF.out 0).trans rfl; have hf3F := blk_frozen HF.out 0; have hc3N : w3_.cell? ⟨gN, 0, none⟩ = some (.int .i64 n) := (blk_cell HN.out 0).trans rfl; have hf3N := blk_frozen HN.out 0; have hc3M : w3_.cell? ⟨gM, 0, none⟩ = some (.func (.func 66) #[] #[.pointer (some ⟨Q, 0, none⟩), .pointer (some ⟨Y, 0, none⟩)]) := (blk_cell HM.out 0).trans rfl; have hf3M := blk_frozen HM.out 0; have hc3E : w3_.cell? ⟨gE, 0, none⟩ = some (.func (.func 67) #[] #[.pointer (some ⟨O, 0, none⟩), .pointer (some ⟨F, 0, none⟩)]) := (blk_cell HE.out 0).trans rfl; have hf3E := blk_frozen HE.out 0) | ((with_reducible refine gate_dst (N := 6) rfl ?_); refine box_event ?hg (N := 6) ?hd (cs := #[.nilFunc]) (t := 28) ?hr ?_; (case hd => rfl); (case hg => rfl); (case hr => first | (go_simp; done) | (go_simp; rfl)); intro gC hg_ w4_ hblk_ hb_; have n0_ := Aside0.mk (show w4_.heap[Q]? = some (.cells #[.int .i64 most] 2 (0, 0)) from blk_below (by (with_reducible repeat (first | refine blk_drewN ?_ _ | refine blk_drew ?_)); exact HQ.out) hb_); have n1_ := Aside0.mk (show w4_.heap[Y]? = some (.cells #[.func (.func 68) #[] #[.pointer (some ⟨LB, 0, none⟩)]] 28 (0, 0)) from blk_below (by (with_reducible repeat (first | refine blk_drewN ?_ _ | refine blk_drew ?_)); exact HY.out) hb_); have n2_ := Aside0.mk (show w4_.heap[LB]? = some (.cells #[.slice A4 l4.length c4] 35 (0, 0)) from blk_below (by (with_reducible repeat (first | refine blk_drewN ?_ _ | refine blk_drew ?_)); exact HL.out) hb_); have n3_ := Aside0.mk (show w4_.heap[O]? = some (.cells #[vo] 22 (0, 0)) from blk_below (by (with_reducible repeat (first | refine blk_drewN ?_ _ | refine blk_drew ?_)); exact HO.out) hb_); have n4_ := Aside0.mk (show w4_.heap[F]? = some (.cells #[vf] 4 (0, 0)) from blk_below (by (with_reducible repeat (first | refine blk_drewN ?_ _ | refine blk_drew ?_)); exact HF.out) hb_); have n5_ := Aside0.mk (show w4_.heap[gN]? = some (.cells #[.int .i64 n] 3 (0, 0)) from blk_below (by (with_reducible repeat (first | refine blk_drewN ?_ _ | refine blk_drew ?_)); exact HN.out) hb_); have n6_ := Aside0.mk (show w4_.heap[gM]? = some (.cells #[.func (.func 66) #[] #[.pointer (some ⟨Q, 0, none⟩), .pointer (some ⟨Y, 0, none⟩)]] 28 (0, 0)) from blk_below (by (with_reducible repeat (first | refine blk_drewN ?_ _ | refine blk_drew ?_)); exact HM.out) hb_); have n7_ := Aside0.mk (show w4_.heap[gE]? = some (.cells #[.func (.func 67) #[] #[.pointer (some ⟨O, 0, none⟩), .pointer (some ⟨F, 0, none⟩)]] 28 (0, 0)) from blk_below (by (with_reducible repeat (first | refine blk_drewN ?_ _ | refine blk_drew ?_)); exact HE.out) hb_); have n8_ := Aside0.mk (show Below w.heap.size w w4_ from below_step (by repeat (first | (with_reducible first | exact HB.out | apply below_alloc | apply pw_below_drewN | apply below_drew1) | exact HB.out)) hb_); have n9_ := Aside0.mk hblk_; have n10_ := Aside0.mk (show w.heap.size ≤ gC from by rw [hg_]; exact below_size (by repeat (first | (with_reducible first | exact HB.out | apply below_alloc | apply pw_below_drewN | apply below_drew1) | exact HB.out))); have n11_ := Aside0.mk (show Q ≠ gC from by rw [hg_]; exact Nat.ne_of_lt (blk_lt (g := Q) (o := .cells #[.int .i64 most] 2 (0, 0)) (by (with_reducible repeat (first | refine blk_drewN ?_ _ | refine blk_drew ?_)); exact HQ.out))); have n12_ := Aside0.mk (show Y ≠ gC from by rw [hg_]; exact Nat.ne_of_lt (blk_lt (g := Y) (o := .cells #[.func (.func 68) #[] #[.pointer (some ⟨LB, 0, none⟩)]] 28 (0, 0)) (by (with_reducible repeat (first | refine blk_drewN ?_ _ | refine blk_drew ?_)); exact HY.out))); have n13_ := Aside0.mk (show LB ≠ gC from by rw [hg_]; exact Nat.ne_of_lt (blk_lt (g := LB) (o := .cells #[.slice A4 l4.length c4] 35 (0, 0)) (by (with_reducible repeat (first | refine blk_drewN ?_ _ | refine blk_drew ?_)); exact HL.out))); have n14_ := Aside0.mk (show O ≠ gC from by rw [hg_]; exact Nat.ne_of_lt (blk_lt (g := O) (o := .cells #[vo] 22 (0, 0)) (by (with_reducible repeat (first | refine blk_drewN ?_ _ | refine blk_drew ?_)); exact HO.out))); have n15_ := Aside0.mk (show F ≠ gC from by rw [hg_]; exact Nat.ne_of_lt (blk_lt (g := F) (o := .cells #[vf] 4 (0, 0)) (by (with_reducible repeat (first | refine blk_drewN ?_ _ | refine blk_drew ?_)); exact HF.out))); have n16_ := Aside0.mk (show gN ≠ gC from by rw [hg_]; exact Nat.ne_of_lt (blk_lt (g := gN) (o := .cells #[.int .i64 n] 3 (0, 0)) (by (with_reducible repeat (first | refine blk_drewN ?_ _ | refine blk_drew ?_)); exact HN.out))); have n17_ := Aside0.mk (show gM ≠ gC from by rw [hg_]; exact Nat.ne_of_lt (blk_lt (g := gM) (o := .cells #[.func (.func 66) #[] #[.pointer (some ⟨Q, 0, none⟩), .pointer (some ⟨Y, 0, none⟩)]] 28 (0, 0)) (by (with_reducible repeat (first | refine blk_drewN ?_ _ | refine blk_drew ?_)); exact HM.out))); have n18_ := Aside0.mk (show gE ≠ gC from by rw [hg_]; exact Nat.ne_of_lt (blk_lt (g := gE) (o := .cells #[.func (.func 67) #[] #[.pointer (some ⟨O, 0, none⟩), .pointer (some ⟨F, 0, none⟩)]] 28 (0, 0)) (by (with_reducible repeat (first | refine blk_drewN ?_ _ | refine blk_drew ?_)); exact HE.out))); clear HQ; clear HY; clear HL; clear HO; clear HF; clear HN; clear HM; clear HE; clear HB; have HQ := n0_; have HY := n1_; have HL := n2_; have HO := n3_; have HF := n4_; have HN := n5_; have HM := n6_; have HE := n7_; have HB := n8_; have HC := n9_; have GEC := n10_; have NEQ_C := n11_; have NEY_C := n12_; have NEL_C := n13_; have NEO_C := n14_; have NEF_C := n15_; have NEN_C := n16_; have NEM_C := n17_; have NEE_C := n18_; clear n0_ n1_ n2_ n3_ n4_ n5_ n6_ n7_ n8_ n9_ n10_ n11_ n12_ n13_ n14_ n15_ n16_ n17_ n18_; clear hg_ hblk_ hb_; (try clear hc3Q); (try clear hf3Q); (try clear hc3Y); (try clear hf3Y); (try clear hc3L); (try clear hf3L); (try clear hc3O); (try clear hf3O); (try clear hc3F); (try clear hf3F); (try clear hc3N); (try clear hf3N); (try clear hc3M); (try clear hf3M); (try clear hc3E); (try clear hf3E); have hc4Q : w4_.cell? ⟨Q, 0, none⟩ = some (.int .i64 most) := (blk_cell HQ.out 0).trans rfl; have hf4Q := blk_frozen HQ.out 0; have hc4Y : w4_.cell? ⟨Y, 0, none⟩ = some (.func (.func 68) #[] #[.pointer (some ⟨LB, 0, none⟩)]) := (blk_cell HY.out 0).trans rfl; have hf4Y := blk_frozen HY.out 0; have hc4L : w4_.cell? ⟨LB, 0, none⟩ = some (.slice A4 l4.length c4) := (blk_cell HL.out 0).trans rfl; have hf4L := blk_frozen HL.out 0; have hc4O : w4_.cell? ⟨O, 0, none⟩ = some (vo) := (blk_cell HO.out 0).trans rfl; have hf4O := blk_frozen HO.out 0; have hc4F : w4_.cell? ⟨F, 0, none⟩ = some (vf) := (blk_cell HF.out 0).trans rfl; have hf4F := blk_frozen HF.out 0; have hc4N : w4_.cell? ⟨gN, 0, none⟩ = some (.int .i64 n) := (blk_cell HN.out 0).trans rfl; have hf4N := blk_frozen HN.out 0; have hc4M : w4_.cell? ⟨gM, 0, none⟩ = some (.func (.func 66) #[] #[.pointer (some ⟨Q, 0, none⟩), .pointer (some ⟨Y, 0, none⟩)]) := (blk_cell HM.out 0).trans rfl; have hf4M := blk_frozen HM.out 0; have hc4E : w4_.cell? ⟨gE, 0, none⟩ = some (.func (.func 67) #[] #[.pointer (some ⟨O, 0, none⟩), .pointer (some ⟨F, 0, none⟩)]) := (blk_cell HE.out 0).trans rfl; have hf4E := blk_frozen HE.out 0; have hc4C : w4_.cell? ⟨gC, 0, none⟩ = some (.nilFunc) := (blk_cell HC.out 0).trans rfl; have hf4C := blk_frozen HC.out 0) | ((with_reducible refine gate_store (t := 28) (p := 6) rfl ?_); refine store_event (t := 28) (p := 6) (v := .tmp 7) (w1 := (w4_.setCell ⟨gC, 0, none⟩ (.func (.func 76) #[] #[.pointer (some ⟨gN, 0, none⟩), .pointer (some ⟨gE, 0, none⟩), .pointer (some ⟨gM, 0, none⟩), .pointer (some ⟨gC, 0, none⟩)]))) ?hg5 ?ho5 ?hn5 ?hr5 ?_; (case ho5 => rfl); (case hg5 => rfl); (case hn5 => rfl); (case hr5 => first | (go_simp; done) | (go_simp; rfl)); intro w5_ hw_; have n0_ := Aside0.mk (show w5_.heap[Q]? = some (.cells #[.int .i64 most] 2 (0, 0)) from by rw [hw_]; exact blk_far HQ.out (p := ⟨gC, 0, none⟩) NEQ_C.out _); have n1_ := Aside0.mk (show w5_.heap[Y]? = some (.cells #[.func (.func 68) #[] #[.pointer (some ⟨LB, 0, none⟩)]] 28 (0, 0)) from by rw [hw_]; exact blk_far HY.out (p := ⟨gC, 0, none⟩) NEY_C.out _); have n2_ := Aside0.mk (show w5_.heap[LB]? = some (.cells #[.slice A4 l4.length c4] 35 (0, 0)) from by rw [hw_]; exact blk_far HL.out (p := ⟨gC, 0, none⟩) NEL_C.out _); have n3_ := Aside0.mk (show w5_.heap[O]? = some (.cells #[vo] 22 (0, 0)) from by rw [hw_]; exact blk_far HO.out (p := ⟨gC, 0, none⟩) NEO_C.out _); have n4_ := Aside0.mk (show w5_.heap[F]? = some (.cells #[vf] 4 (0, 0)) from by rw [hw_]; exact blk_far HF.out (p := ⟨gC, 0, none⟩) NEF_C.out _); have n5_ := Aside0.mk (show w5_.heap[gN]? = some (.cells #[.int .i64 n] 3 (0, 0)) from by rw [hw_]; exact blk_far HN.out (p := ⟨gC, 0, none⟩) NEN_C.out _); have n6_ := Aside0.mk (show w5_.heap[gM]? = some (.cells #[.func (.func 66) #[] #[.pointer (some ⟨Q, 0, none⟩), .pointer (some ⟨Y, 0, none⟩)]] 28 (0, 0)) from by rw [hw_]; exact blk_far HM.out (p := ⟨gC, 0, none⟩) NEM_C.out _); have n7_ := Aside0.mk (show w5_.heap[gE]? = some (.cells #[.func (.func 67) #[] #[.pointer (some ⟨O, 0, none⟩), .pointer (some ⟨F, 0, none⟩)]] 28 (0, 0)) from by rw [hw_]; exact blk_far HE.out (p := ⟨gC, 0, none⟩) NEE_C.out _); have n8_ := Aside0.mk (show w5_.heap[gC]? = some (.cells #[.func (.func 76) #[] #[.pointer (some ⟨gN, 0, none⟩), .pointer (some ⟨gE, 0, none⟩), .pointer (some ⟨gM, 0, none⟩), .pointer (some ⟨gC, 0, none⟩)]] 28 (0, 0)) from by rw [hw_]; exact blk_put HC.out 0 _ rfl); have n9_ := Aside0.mk (show Below w.heap.size w w5_ from by rw [hw_]; exact HB.out.setCell GEC.out _); clear HQ; clear HY; clear HL; clear HO; clear HF; clear HN; clear HM; clear HE; clear HC; clear HB; have HQ := n0_; have HY := n1_; have HL := n2_; have HO := n3_; have HF := n4_; have HN := n5_; have HM := n6_; have HE := n7_; have HC := n8_; have HB := n9_; clear n0_ n1_ n2_ n3_ n4_ n5_ n6_ n7_ n8_ n9_; clear hw_; (try clear hc4Q); (try clear hf4Q); (try clear hc4Y); (try clear hf4Y); (try clear hc4L); (try clear hf4L); (try clear hc4O); (try clear hf4O); (try clear hc4F); (try clear hf4F); (try clear hc4N); (try clear hf4N); (try clear hc4M); (try clear hf4M); (try clear hc4E); (try clear hf4E); (try clear hc4C); (try clear hf4C); have hc5Q : w5_.cell? ⟨Q, 0, none⟩ = some (.int .i64 most) := (blk_cell HQ.out 0).trans rfl; have hf5Q := blk_frozen HQ.out 0; have hc5Y : w5_.cell? ⟨Y, 0, none⟩ = some (.func (.func 68) #[] #[.pointer (some ⟨LB, 0, none⟩)]) := (blk_cell HY.out 0).trans rfl; have hf5Y := blk_frozen HY.out 0; have hc5L : w5_.cell? ⟨LB, 0, none⟩ = some (.slice A4 l4.length c4) := (blk_cell HL.out 0).trans rfl; have hf5L := blk_frozen HL.out 0; have hc5O : w5_.cell? ⟨O, 0, none⟩ = some (vo) := (blk_cell HO.out 0).trans rfl; have hf5O := blk_frozen HO.out 0; have hc5F : w5_.cell? ⟨F, 0, none⟩ = some (vf) := (blk_cell HF.out 0).trans rfl; have hf5F := blk_frozen HF.out 0; have hc5N : w5_.cell? ⟨gN, 0, none⟩ = some (.int .i64 n) := (blk_cell HN.out 0).trans rfl; have hf5N := blk_frozen HN.out 0; have hc5M : w5_.cell? ⟨gM, 0, none⟩ = some (.func (.func 66) #[] #[.pointer (some ⟨Q, 0, none⟩), .pointer (some ⟨Y, 0, none⟩)]) := (blk_cell HM.out 0).trans rfl; have hf5M := blk_frozen HM.out 0; have hc5E : w5_.cell? ⟨gE, 0, none⟩ = some (.func (.func 67) #[] #[.pointer (some ⟨O, 0, none⟩), .pointer (some ⟨F, 0, none⟩)]) := (blk_cell HE.out 0).trans rfl; have hf5E := blk_frozen HE.out 0; have hc5C : w5_.cell? ⟨gC, 0, none⟩ = some (.func (.func 76) #[] #[.pointer (some ⟨gN, 0, none⟩), .pointer (some ⟨gE, 0, none⟩), .pointer (some ⟨gM, 0, none⟩), .pointer (some ⟨gC, 0, none⟩)]) := (blk_cell HC.out 0).trans rfl; have hf5C := blk_frozen HC.out 0) | (go_at_call 76; (refine (impl_grouped_1.calls gN gE gM gC Q Y LB O F w0 k none 0 [] 0 n most A4 c4 l4 (some xf) _ ⟨HN.out, HE.out, HM.out, HC.out, HQ.out, HY.out, HL.out, ⟨_, HO.out⟩, ⟨_, HF.out⟩⟩ (below_step HB0.out HB.out) HO0.out HF0.out (Kd.R_nil _ _ _ _ _) (Kd.C_below HR4.out HB.out) HC4.out A1.out).mono ?_); rintro e w9_ ⟨rfl, hb⟩; have HFN := Aside0.mk (impl_grouped_1.Fnd.from_ hb HB.out); clear hb))
    first | go_end0 | ((try simp only [Exit.inBlock, Exit.then]); refine bodyPost_ret (results_none rfl _ _ _) rfl ?_)
    exact ⟨rfl, by (with_reducible repeat (first | apply impl_grouped_1.Fnd.drewN | apply impl_grouped_1.Fnd.drew)); exact HFN.out⟩
end Go.Proofs.Ytipdmnibjkdpcaa.P

namespace Go.Proofs.Ytipdmnibjkdpcaa.P
open Go.RowKit Go.Proofs.YtipdmnibjkdpcaaW.PrintWords Go.Proofs.YtipdmnibjkdpcaaW.PrintLast Go.Proofs.YtipdmnibjkdpcaaW.PrintMore
attribute [local go_sem] max2_int min2_int max_two min_two max_three min_three max_four min_four
set_option linter.unusedVariables false
set_option linter.unusedSimpArgs false
-- needs 65
theorem impl_fewestGroups.run_store_func {P : Program} {w : World} {a : Addr} {m : Mode} (f : Fn) (x y : Array Value) : (store a (.func f x y) m).run P w = stored P w a (.func f x y) m := run_store P w a _ m rfl
attribute [local go_sem] impl_fewestGroups.run_store_func
def impl_fewestGroups.l0 : Nat → Int → List (S64) → Int → Option (List Int × Int × Bool)
  | 0, _, _, _ => none
  | k + 1, n, l4, m => if m ≤ n then ((impl_grouped_1.f k ([] : List Int) 0 n m l4).bind fun t => (match t with
    | some x => some (x, m, true)
    | none => impl_fewestGroups.l0 k n l4 (wrap64 (m + 1)))) else some (([] : List Int), 0, false)
def impl_fewestGroups.f (k : Nat) (n : Int) (l4 : List (S64)) : Option (List Int × Int × Bool) := impl_fewestGroups.l0 k n l4 0
set_option maxHeartbeats 16000000 in
set_option maxRecDepth 100000 in
theorem impl_fewestGroups.calls (LB : Nat) (k : Nat) (n : Int) (A4 : Option Addr) (c4 : Nat) (l4 : List (S64)) (r1 : List Int) (r2 : Int) (r3 : Bool) (w : World) (hl : w.heap[LB]? = some (.cells #[.slice A4 l4.length c4] 35 (0, 0))) (hr4 : Kd.C k64 w A4 l4.length l4) (hc4 : l4.length ≤ c4) (h : impl_fewestGroups.f k n l4 = some (r1, r2, r3)) :
    Calls Try.prog 50 #[.int .i64 n, .func (.func 68) #[] #[.pointer (some ⟨LB, 0, none⟩)]] w fun e w' => ∃ v0_ : Value, e = .returned (.tuple #[v0_, .int .i64 r2, .bool r3]) ∧ Kd.R (Kd.int .i64) 2 w' w.heap.size (fun _ => True) v0_ r1 ∧ Below w.heap.size w w' := by
  have HL := Aside0.mk hl
  have HR4 := Aside0.mk hr4
  have HC4 := Aside0.mk hc4
  have HB := Aside0.mk (Below.refl w.heap.size w)
  have H' := Aside0.mk (show impl_fewestGroups.l0 k n l4 0 = some (r1, r2, r3) from h)
  clear hl hr4 hc4 h
  go_enter Try.func50, Try.ntmps50
  go_wp2_with (first | ((with_reducible refine gate_dst (N := 3) rfl ?_); refine box_event ?hg (N := 3) ?hd (cs := #[.func (.func 68) #[] #[.pointer (some ⟨LB, 0, none⟩)]]) (t := 28) ?hr ?_; (case hd => rfl); (case hg => rfl); (case hr => first | (go_simp; done) | (go_simp; rfl)); intro gY hg_ w1_ hblk_ hb_; have n0_ := Aside0.mk (show w1_.heap[LB]? = some (.cells #[.slice A4 l4.length c4] 35 (0, 0)) from blk_below (by (with_reducible repeat (first | refine blk_drewN ?_ _ | refine blk_drew ?_)); exact HL.out) hb_); have n1_ := Aside0.mk (show Below w.heap.size w w1_ from below_step (by repeat (first | (with_reducible first | exact HB.out | apply below_alloc | apply pw_below_drewN | apply below_drew1) | exact HB.out)) hb_); have n2_ := Aside0.mk hblk_; have n3_ := Aside0.mk (show w.heap.size ≤ gY from by rw [hg_]; exact below_size (by repeat (first | (with_reducible first | exact HB.out | apply below_alloc | apply pw_below_drewN | apply below_drew1) | exact HB.out))); have n4_ := Aside0.mk (show LB ≠ gY from by rw [hg_]; exact Nat.ne_of_lt (blk_lt (g := LB) (o := .cells #[.slice A4 l4.length c4] 35 (0, 0)) (by (with_reducible repeat (first | refine blk_drewN ?_ _ | refine blk_drew ?_)); exact HL.out))); clear HL; clear HB; have HL := n0_; have HB := n1_; have HY := n2_; have GEY := n3_; have NEL_Y := n4_; clear n0_ n1_ n2_ n3_ n4_; clear hg_ hblk_ hb_; have hc1L : w1_.cell? ⟨LB, 0, none⟩ = some (.slice A4 l4.length c4) := (blk_cell HL.out 0).trans rfl; have hf1L := blk_frozen HL.out 0; have hc1Y : w1_.cell? ⟨gY, 0, none⟩ = some (.func (.func 68) #[] #[.pointer (some ⟨LB, 0, none⟩)]) := (blk_cell HY.out 0).trans rfl; have hf1Y := blk_frozen HY.out 0) | ((with_reducible refine gate_dst (N := 7) rfl ?_); refine box_event ?hg (N := 7) ?hd (cs := #[.int .i64 0]) (t := 2) ?hr ?_; (case hd => rfl); (case hg => rfl); (case hr => first | (go_simp; done) | (go_simp; rfl)); intro gQ hg_ w2_ hblk_ hb_; have n0_ := Aside0.mk (show w2_.heap[LB]? = some (.cells #[.slice A4 l4.length c4] 35 (0, 0)) from blk_below (by (with_reducible repeat (first | refine blk_drewN ?_ _ | refine blk_drew ?_)); exact HL.out) hb_); have n1_ := Aside0.mk (show w2_.heap[gY]? = some (.cells #[.func (.func 68) #[] #[.pointer (some ⟨LB, 0, none⟩)]] 28 (0, 0)) from blk_below (by (with_reducible repeat (first | refine blk_drewN ?_ _ | refine blk_drew ?_)); exact HY.out) hb_); have n2_ := Aside0.mk (show Below w.heap.size w w2_ from below_step (by repeat (first | (with_reducible first | exact HB.out | apply below_alloc | apply pw_below_drewN | apply below_drew1) | exact HB.out)) hb_); have n3_ := Aside0.mk hblk_; have n4_ := Aside0.mk (show w.heap.size ≤ gQ from by rw [hg_]; exact below_size (by repeat (first | (with_reducible first | exact HB.out | apply below_alloc | apply pw_below_drewN | apply below_drew1) | exact HB.out))); have n5_ := Aside0.mk (show LB ≠ gQ from by rw [hg_]; exact Nat.ne_of_lt (blk_lt (g := LB) (o := .cells #[.slice A4 l4.length c4] 35 (0, 0)) (by (with_reducible repeat (first | refine blk_drewN ?_ _ | refine blk_drew ?_)); exact HL.out))); have n6_ := Aside0.mk (show gY ≠ gQ from by rw [hg_]; exact Nat.ne_of_lt (blk_lt (g := gY) (o := .cells #[.func (.func 68) #[] #[.pointer (some ⟨LB, 0, none⟩)]] 28 (0, 0)) (by (with_reducible repeat (first | refine blk_drewN ?_ _ | refine blk_drew ?_)); exact HY.out))); clear HL; clear HY; clear HB; have HL := n0_; have HY := n1_; have HB := n2_; have HQ := n3_; have GEQ := n4_; have NEL_Q := n5_; have NEY_Q := n6_; clear n0_ n1_ n2_ n3_ n4_ n5_ n6_; clear hg_ hblk_ hb_; (try clear hc1L); (try clear hf1L); (try clear hc1Y); (try clear hf1Y); have hc2L : w2_.cell? ⟨LB, 0, none⟩ = some (.slice A4 l4.length c4) := (blk_cell HL.out 0).trans rfl; have hf2L := blk_frozen HL.out 0; have hc2Y : w2_.cell? ⟨gY, 0, none⟩ = some (.func (.func 68) #[] #[.pointer (some ⟨LB, 0, none⟩)]) := (blk_cell HY.out 0).trans rfl; have hf2Y := blk_frozen HY.out 0; have hc2Q : w2_.cell? ⟨gQ, 0, none⟩ = some (.int .i64 0) := (blk_cell HQ.out 0).trans rfl; have hf2Q := blk_frozen HQ.out 0) | ((with_reducible refine gate_store (t := 2) (p := 7) rfl ?_); refine store_event (t := 2) (p := 7) (v := .const (.int .i64 0)) (w1 := (w2_.setCell ⟨gQ, 0, none⟩ (.int .i64 0))) ?hg3 ?ho3 ?hn3 ?hr3 ?_; (case ho3 => rfl); (case hg3 => rfl); (case hn3 => rfl); (case hr3 => first | (go_simp; done) | (go_simp; rfl)); intro w3_ hw_; have n0_ := Aside0.mk (show w3_.heap[LB]? = some (.cells #[.slice A4 l4.length c4] 35 (0, 0)) from by rw [hw_]; exact blk_far HL.out (p := ⟨gQ, 0, none⟩) NEL_Q.out _); have n1_ := Aside0.mk (show w3_.heap[gY]? = some (.cells #[.func (.func 68) #[] #[.pointer (some ⟨LB, 0, none⟩)]] 28 (0, 0)) from by rw [hw_]; exact blk_far HY.out (p := ⟨gQ, 0, none⟩) NEY_Q.out _); have n2_ := Aside0.mk (show w3_.heap[gQ]? = some (.cells #[.int .i64 0] 2 (0, 0)) from by rw [hw_]; exact blk_put HQ.out 0 _ rfl); have n3_ := Aside0.mk (show Below w.heap.size w w3_ from by rw [hw_]; exact HB.out.setCell GEQ.out _); clear HL; clear HY; clear HQ; clear HB; have HL := n0_; have HY := n1_; have HQ := n2_; have HB := n3_; clear n0_ n1_ n2_ n3_; clear hw_; (try clear hc2L); (try clear hf2L); (try clear hc2Y); (try clear hf2Y); (try clear hc2Q); (try clear hf2Q); have hc3L : w3_.cell? ⟨LB, 0, none⟩ = some (.slice A4 l4.length c4) := (blk_cell HL.out 0).trans rfl; have hf3L := blk_frozen HL.out 0; have hc3Y : w3_.cell? ⟨gY, 0, none⟩ = some (.func (.func 68) #[] #[.pointer (some ⟨LB, 0, none⟩)]) := (blk_cell HY.out 0).trans rfl; have hf3Y := blk_frozen HY.out 0; have hc3Q : w3_.cell? ⟨gQ, 0, none⟩ = some (.int .i64 0) := (blk_cell HQ.out 0).trans rfl; have hf3Q := blk_frozen HQ.out 0))
  (try clear hc3L)
  (try clear hf3L)
  (try clear hc3Y)
  (try clear hf3Y)
  (try clear hc3Q)
  (try clear hf3Q)
  simp only [Act.put, List.setIfInBounds_toArray, List.set_cons_succ, List.set_cons_zero]
  go_loopg [7] k (fun kq v7 w' => ∃ (gQ : Nat) (m : Int), v7 = .pointer (some ⟨gQ, 0, none⟩) ∧ Aside0 (impl_fewestGroups.l0 kq n l4 m = some (r1, r2, r3)) ∧ Aside0 (kq ≤ k) ∧ Aside0 (w'.heap[gQ]? = some (.cells #[.int .i64 m] 2 (0, 0))) ∧ Aside0 (w'.heap[gY]? = some (.cells #[.func (.func 68) #[] #[.pointer (some ⟨LB, 0, none⟩)]] 28 (0, 0))) ∧ Aside0 (w'.heap[LB]? = some (.cells #[.slice A4 l4.length c4] 35 (0, 0))) ∧ Aside0 (w.heap.size ≤ gQ) ∧ Aside0 (gY ≠ gQ) ∧ Aside0 (LB ≠ gQ) ∧ Aside0 (Below w.heap.size w w'))
  case atStart => exact ⟨gQ, 0, rfl, H', ⟨Nat.le_refl _⟩, ⟨(by (with_reducible repeat (first | refine blk_drewN ?_ _ | refine blk_drew ?_)); exact HQ.out)⟩, ⟨(by (with_reducible repeat (first | refine blk_drewN ?_ _ | refine blk_drew ?_)); exact HY.out)⟩, ⟨(by (with_reducible repeat (first | refine blk_drewN ?_ _ | refine blk_drew ?_)); exact HL.out)⟩, GEQ, NEY_Q, NEL_Q, ⟨by repeat (first | (with_reducible first | exact HB.out | apply below_alloc | apply pw_below_drewN | apply below_drew1) | exact HB.out)⟩⟩
  case round =>
    clear H' HB HQ HY HL GEQ GEY NEY_Q NEL_Q
    rename_i gQ0
    obtain ⟨gQ, m, rfl, HA, HK1, HQ, HY, HL, GEQ, NEY_Q, NEL_Q, HB⟩ := hrel
    cases gk with
    | zero => exact absurd HA.out (by simp [impl_fewestGroups.l0])
    | succ k1 =>
      have H := HA.out
      clear HA
      simp only [impl_fewestGroups.l0] at H
      by_cases c1 : m ≤ n
      rotate_left
      · rw [if_neg c1] at H
        have c1b : decide (m ≤ n) = false := decide_eq_false c1
        clear c1
        simp only [Option.some.injEq, Prod.mk.injEq] at H
        obtain ⟨rfl, rfl, rfl⟩ := H
        have hc1Y : wr.cell? ⟨gY, 0, none⟩ = some (.func (.func 68) #[] #[.pointer (some ⟨LB, 0, none⟩)]) := (blk_cell HY.out 0).trans rfl
        have hf1Y := blk_frozen HY.out 0
        have hc1L : wr.cell? ⟨LB, 0, none⟩ = some (.slice A4 l4.length c4) := (blk_cell HL.out 0).trans rfl
        have hf1L := blk_frozen HL.out 0
        have hc1Q : wr.cell? ⟨gQ, 0, none⟩ = some (.int .i64 m) := (blk_cell HQ.out 0).trans rfl
        have hf1Q := blk_frozen HQ.out 0
        go_wp2
        go_ret3
        exact ⟨_, rfl, Kd.R_nil _ _ _ _ _, by repeat (first | (with_reducible first | exact HB.out | apply below_alloc | apply pw_below_drewN | apply below_drew1) | exact HB.out)⟩
      rw [if_pos c1] at H
      have c1b : decide (m ≤ n) = true := decide_eq_true c1
      clear c1
      obtain ⟨t, A10, H⟩ := Option.bind_eq_some_iff.mp H
      have A1 := Aside0.mk A10
      clear A10
      rcases t with _ | xf
      · have H' := Aside0.mk (show impl_fewestGroups.l0 k1 n l4 (wrap64 (m + 1)) = some (r1, r2, r3) from H)
        clear H
        have hc1Y : wr.cell? ⟨gY, 0, none⟩ = some (.func (.func 68) #[] #[.pointer (some ⟨LB, 0, none⟩)]) := (blk_cell HY.out 0).trans rfl
        have hf1Y := blk_frozen HY.out 0
        have hc1L : wr.cell? ⟨LB, 0, none⟩ = some (.slice A4 l4.length c4) := (blk_cell HL.out 0).trans rfl
        have hf1L := blk_frozen HL.out 0
        have hc1Q : wr.cell? ⟨gQ, 0, none⟩ = some (.int .i64 m) := (blk_cell HQ.out 0).trans rfl
        have hf1Q := blk_frozen HQ.out 0
        go_wp2_with (first | ((with_reducible refine gate_dst (N := 15) rfl ?_); (try (refine gate_guard (by rfl) ?_; dsimp only)); refine Kd.R_lit (Kd.int .i64) _ 2 ?hg (N := 15) ?hd (xs := ([] : List Int)) (inner := []) (ok := fun _ => True) (okp := fun _ => True) ?hr ?hp (fun _ hk => hk) trivial (Below.refl _ _) (Nat.le_refl _) (by simp) ?_; (case hd => rfl); (case hg => rfl); (case hr => first | (go_simp; done) | (go_simp; rfl)); (case hp => exact (Reps.none _ _)); intro v15_ w15_ ho_ hb_ hg_ hnew_; clear hg_ hnew_; have n0_ := Aside0.mk (show w15_.heap[gY]? = some (.cells #[.func (.func 68) #[] #[.pointer (some ⟨LB, 0, none⟩)]] 28 (0, 0)) from blk_below (by (with_reducible repeat (first | refine blk_drewN ?_ _ | refine blk_drew ?_)); exact HY.out) hb_); have n1_ := Aside0.mk (show w15_.heap[LB]? = some (.cells #[.slice A4 l4.length c4] 35 (0, 0)) from blk_below (by (with_reducible repeat (first | refine blk_drewN ?_ _ | refine blk_drew ?_)); exact HL.out) hb_); have n2_ := Aside0.mk (show w15_.heap[gQ]? = some (.cells #[.int .i64 m] 2 (0, 0)) from blk_below (by (with_reducible repeat (first | refine blk_drewN ?_ _ | refine blk_drew ?_)); exact HQ.out) hb_); have n3_ := Aside0.mk (show Below w.heap.size w w15_ from below_step (by repeat (first | (with_reducible first | exact HB.out | apply below_alloc | apply pw_below_drewN | apply below_drew1) | exact HB.out)) hb_); have n4_ := Aside0.mk (show Kd.R (Kd.int .i64) 2 w15_ w.heap.size (fun _ => True) v15_ [] from Kd.R_lower ho_ (below_size (by repeat (first | (with_reducible first | exact HB.out | apply below_alloc | apply pw_below_drewN | apply below_drew1) | exact HB.out)))); clear HY; clear HL; clear HQ; clear HB; have HY := n0_; have HL := n1_; have HQ := n2_; have HB := n3_; have HR15 := n4_; clear n0_ n1_ n2_ n3_ n4_; clear ho_ hb_; obtain ⟨A15, c15, e15⟩ := Kd.R_slice HR15.out; subst e15; (try clear hc1Y); (try clear hf1Y); (try clear hc1L); (try clear hf1L); (try clear hc1Q); (try clear hf1Q); have hc2Y : w15_.cell? ⟨gY, 0, none⟩ = some (.func (.func 68) #[] #[.pointer (some ⟨LB, 0, none⟩)]) := (blk_cell HY.out 0).trans rfl; have hf2Y := blk_frozen HY.out 0; have hc2L : w15_.cell? ⟨LB, 0, none⟩ = some (.slice A4 l4.length c4) := (blk_cell HL.out 0).trans rfl; have hf2L := blk_frozen HL.out 0; have hc2Q : w15_.cell? ⟨gQ, 0, none⟩ = some (.int .i64 m) := (blk_cell HQ.out 0).trans rfl; have hf2Q := blk_frozen HQ.out 0) | ((with_reducible refine gate_dst (N := 8) rfl ?_); refine box_event ?hg (N := 8) ?hd (cs := #[.slice none 0 0]) (t := 22) ?hr ?_; (case hd => rfl); (case hg => rfl); (case hr => first | (go_simp; done) | (go_simp; rfl)); intro gO hg_ w21_ hblk_ hb_; have n0_ := Aside0.mk (show w21_.heap[gY]? = some (.cells #[.func (.func 68) #[] #[.pointer (some ⟨LB, 0, none⟩)]] 28 (0, 0)) from blk_below (by (with_reducible repeat (first | refine blk_drewN ?_ _ | refine blk_drew ?_)); exact HY.out) hb_); have n1_ := Aside0.mk (show w21_.heap[LB]? = some (.cells #[.slice A4 l4.length c4] 35 (0, 0)) from blk_below (by (with_reducible repeat (first | refine blk_drewN ?_ _ | refine blk_drew ?_)); exact HL.out) hb_); have n2_ := Aside0.mk (show w21_.heap[gQ]? = some (.cells #[.int .i64 m] 2 (0, 0)) from blk_below (by (with_reducible repeat (first | refine blk_drewN ?_ _ | refine blk_drew ?_)); exact HQ.out) hb_); have n3_ := Aside0.mk (show Kd.R (Kd.int .i64) 2 w21_ w.heap.size (fun _ => True) (.slice A15 0 c15) ([] : List Int) from Kd.R_below (by (with_reducible repeat (first | apply Kd.R_drewN | apply Kd.R_drew)); exact HR15.out) hb_); have n4_ := Aside0.mk (show Below w.heap.size w w21_ from below_step (by repeat (first | (with_reducible first | exact HB.out | apply below_alloc | apply pw_below_drewN | apply below_drew1) | exact HB.out)) hb_); have n5_ := Aside0.mk hblk_; have n6_ := Aside0.mk (show w.heap.size ≤ gO from by rw [hg_]; exact below_size (by repeat (first | (with_reducible first | exact HB.out | apply below_alloc | apply pw_below_drewN | apply below_drew1) | exact HB.out))); have n7_ := Aside0.mk (show gY ≠ gO from by rw [hg_]; exact Nat.ne_of_lt (blk_lt (g := gY) (o := .cells #[.func (.func 68) #[] #[.pointer (some ⟨LB, 0, none⟩)]] 28 (0, 0)) (by (with_reducible repeat (first | refine blk_drewN ?_ _ | refine blk_drew ?_)); exact HY.out))); have n8_ := Aside0.mk (show LB ≠ gO from by rw [hg_]; exact Nat.ne_of_lt (blk_lt (g := LB) (o := .cells #[.slice A4 l4.length c4] 35 (0, 0)) (by (with_reducible repeat (first | refine blk_drewN ?_ _ | refine blk_drew ?_)); exact HL.out))); have n9_ := Aside0.mk (show gQ ≠ gO from by rw [hg_]; exact Nat.ne_of_lt (blk_lt (g := gQ) (o := .cells #[.int .i64 m] 2 (0, 0)) (by (with_reducible repeat (first | refine blk_drewN ?_ _ | refine blk_drew ?_)); exact HQ.out))); have n10_ := Aside0.mk (show some gO ≠ ((.slice A15 0 c15) : Value).ownBlock from fun e_ => by have h_ := Kd.R_lt HR15.out gO e_.symm; rw [hg_] at h_; exact Nat.lt_irrefl _ h_); clear HY; clear HL; clear HQ; clear HR15; clear HB; have HY := n0_; have HL := n1_; have HQ := n2_; have HR15 := n3_; have HB := n4_; have HO := n5_; have GEO := n6_; have NEY_O := n7_; have NEL_O := n8_; have NEQ_O := n9_; have NRR15_O := n10_; clear n0_ n1_ n2_ n3_ n4_ n5_ n6_ n7_ n8_ n9_ n10_; clear hg_ hblk_ hb_; (try clear hc2Y); (try clear hf2Y); (try clear hc2L); (try clear hf2L); (try clear hc2Q); (try clear hf2Q); have hc3Y : w21_.cell? ⟨gY, 0, none⟩ = some (.func (.func 68) #[] #[.pointer (some ⟨LB, 0, none⟩)]) := (blk_cell HY.out 0).trans rfl; have hf3Y := blk_frozen HY.out 0; have hc3L : w21_.cell? ⟨LB, 0, none⟩ = some (.slice A4 l4.length c4) := (blk_cell HL.out 0).trans rfl; have hf3L := blk_frozen HL.out 0; have hc3Q : w21_.cell? ⟨gQ, 0, none⟩ = some (.int .i64 m) := (blk_cell HQ.out 0).trans rfl; have hf3Q := blk_frozen HQ.out 0; have hc3O : w21_.cell? ⟨gO, 0, none⟩ = some (.slice none 0 0) := (blk_cell HO.out 0).trans rfl; have hf3O := blk_frozen HO.out 0) | ((with_reducible refine gate_dst (N := 9) rfl ?_); refine box_event ?hg (N := 9) ?hd (cs := #[.bool false]) (t := 4) ?hr ?_; (case hd => rfl); (case hg => rfl); (case hr => first | (go_simp; done) | (go_simp; rfl)); intro gF hg_ w22_ hblk_ hb_; have n0_ := Aside0.mk (show w22_.heap[gY]? = some (.cells #[.func (.func 68) #[] #[.pointer (some ⟨LB, 0, none⟩)]] 28 (0, 0)) from blk_below (by (with_reducible repeat (first | refine blk_drewN ?_ _ | refine blk_drew ?_)); exact HY.out) hb_); have n1_ := Aside0.mk (show w22_.heap[LB]? = some (.cells #[.slice A4 l4.length c4] 35 (0, 0)) from blk_below (by (with_reducible repeat (first | refine blk_drewN ?_ _ | refine blk_drew ?_)); exact HL.out) hb_); have n2_ := Aside0.mk (show w22_.heap[gQ]? = some (.cells #[.int .i64 m] 2 (0, 0)) from blk_below (by (with_reducible repeat (first | refine blk_drewN ?_ _ | refine blk_drew ?_)); exact HQ.out) hb_); have n3_ := Aside0.mk (show w22_.heap[gO]? = some (.cells #[.slice none 0 0] 22 (0, 0)) from blk_below (by (with_reducible repeat (first | refine blk_drewN ?_ _ | refine blk_drew ?_)); exact HO.out) hb_); have n4_ := Aside0.mk (show Kd.R (Kd.int .i64) 2 w22_ w.heap.size (fun _ => True) (.slice A15 0 c15) ([] : List Int) from Kd.R_below (by (with_reducible repeat (first | apply Kd.R_drewN | apply Kd.R_drew)); exact HR15.out) hb_); have n5_ := Aside0.mk (show Below w.heap.size w w22_ from below_step (by repeat (first | (with_reducible first | exact HB.out | apply below_alloc | apply pw_below_drewN | apply below_drew1) | exact HB.out)) hb_); have n6_ := Aside0.mk hblk_; have n7_ := Aside0.mk (show w.heap.size ≤ gF from by rw [hg_]; exact below_size (by repeat (first | (with_reducible first | exact HB.out | apply below_alloc | apply pw_below_drewN | apply below_drew1) | exact HB.out))); have n8_ := Aside0.mk (show gY ≠ gF from by rw [hg_]; exact Nat.ne_of_lt (blk_lt (g := gY) (o := .cells #[.func (.func 68) #[] #[.pointer (some ⟨LB, 0, none⟩)]] 28 (0, 0)) (by (with_reducible repeat (first | refine blk_drewN ?_ _ | refine blk_drew ?_)); exact HY.out))); have n9_ := Aside0.mk (show LB ≠ gF from by rw [hg_]; exact Nat.ne_of_lt (blk_lt (g := LB) (o := .cells #[.slice A4 l4.length c4] 35 (0, 0)) (by (with_reducible repeat (first | refine blk_drewN ?_ _ | refine blk_drew ?_)); exact HL.out))); have n10_ := Aside0.mk (show gQ ≠ gF from by rw [hg_]; exact Nat.ne_of_lt (blk_lt (g := gQ) (o := .cells #[.int .i64 m] 2 (0, 0)) (by (with_reducible repeat (first | refine blk_drewN ?_ _ | refine blk_drew ?_)); exact HQ.out))); have n11_ := Aside0.mk (show gO ≠ gF from by rw [hg_]; exact Nat.ne_of_lt (blk_lt (g := gO) (o := .cells #[.slice none 0 0] 22 (0, 0)) (by (with_reducible repeat (first | refine blk_drewN ?_ _ | refine blk_drew ?_)); exact HO.out))); have n12_ := Aside0.mk (show some gF ≠ ((.slice A15 0 c15) : Value).ownBlock from fun e_ => by have h_ := Kd.R_lt HR15.out gF e_.symm; rw [hg_] at h_; exact Nat.lt_irrefl _ h_); clear HY; clear HL; clear HQ; clear HO; clear HR15; clear HB; have HY := n0_; have HL := n1_; have HQ := n2_; have HO := n3_; have HR15 := n4_; have HB := n5_; have HF := n6_; have GEF := n7_; have NEY_F := n8_; have NEL_F := n9_; have NEQ_F := n10_; have NEO_F := n11_; have NRR15_F := n12_; clear n0_ n1_ n2_ n3_ n4_ n5_ n6_ n7_ n8_ n9_ n10_ n11_ n12_; clear hg_ hblk_ hb_; (try clear hc3Y); (try clear hf3Y); (try clear hc3L); (try clear hf3L); (try clear hc3Q); (try clear hf3Q); (try clear hc3O); (try clear hf3O); have hc4Y : w22_.cell? ⟨gY, 0, none⟩ = some (.func (.func 68) #[] #[.pointer (some ⟨LB, 0, none⟩)]) := (blk_cell HY.out 0).trans rfl; have hf4Y := blk_frozen HY.out 0; have hc4L : w22_.cell? ⟨LB, 0, none⟩ = some (.slice A4 l4.length c4) := (blk_cell HL.out 0).trans rfl; have hf4L := blk_frozen HL.out 0; have hc4Q : w22_.cell? ⟨gQ, 0, none⟩ = some (.int .i64 m) := (blk_cell HQ.out 0).trans rfl; have hf4Q := blk_frozen HQ.out 0; have hc4O : w22_.cell? ⟨gO, 0, none⟩ = some (.slice none 0 0) := (blk_cell HO.out 0).trans rfl; have hf4O := blk_frozen HO.out 0; have hc4F : w22_.cell? ⟨gF, 0, none⟩ = some (.bool false) := (blk_cell HF.out 0).trans rfl; have hf4F := blk_frozen HF.out 0) | ((with_reducible refine gate_store (t := 22) (p := 8) rfl ?_); refine store_event (t := 22) (p := 8) (v := .tmp 15) (w1 := (w22_.setCell ⟨gO, 0, none⟩ (.slice A15 0 c15))) ?hg23 ?ho23 ?hn23 ?hr23 ?_; (case ho23 => rfl); (case hg23 => rfl); (case hn23 => rfl); (case hr23 => first | (go_simp; done) | (go_simp; rfl)); intro w23_ hw_; have n0_ := Aside0.mk (show w23_.heap[gY]? = some (.cells #[.func (.func 68) #[] #[.pointer (some ⟨LB, 0, none⟩)]] 28 (0, 0)) from by rw [hw_]; exact blk_far HY.out (p := ⟨gO, 0, none⟩) NEY_O.out _); have n1_ := Aside0.mk (show w23_.heap[LB]? = some (.cells #[.slice A4 l4.length c4] 35 (0, 0)) from by rw [hw_]; exact blk_far HL.out (p := ⟨gO, 0, none⟩) NEL_O.out _); have n2_ := Aside0.mk (show w23_.heap[gQ]? = some (.cells #[.int .i64 m] 2 (0, 0)) from by rw [hw_]; exact blk_far HQ.out (p := ⟨gO, 0, none⟩) NEQ_O.out _); have n3_ := Aside0.mk (show w23_.heap[gO]? = some (.cells #[.slice A15 0 c15] 22 (0, 0)) from by rw [hw_]; exact blk_put HO.out 0 _ rfl); have n4_ := Aside0.mk (show w23_.heap[gF]? = some (.cells #[.bool false] 4 (0, 0)) from by rw [hw_]; exact blk_far HF.out (p := ⟨gO, 0, none⟩) (fun e_ => NEO_F.out e_.symm) _); have n5_ := Aside0.mk (show Kd.R (Kd.int .i64) 2 w23_ w.heap.size (fun _ => True) (.slice A15 0 c15) ([] : List Int) from by rw [hw_]; exact Kd.R_mono (Kd.R_far (p := ⟨gO, 0, none⟩) (Kd.R_far1 HR15.out rfl NRR15_O.out) (fun k_ hk => hk.2) _) (fun _ _ => trivial)); have n6_ := Aside0.mk (show Below w.heap.size w w23_ from by rw [hw_]; exact HB.out.setCell GEO.out _); clear HY; clear HL; clear HQ; clear HO; clear HF; clear HR15; clear HB; have HY := n0_; have HL := n1_; have HQ := n2_; have HO := n3_; have HF := n4_; have HR15 := n5_; have HB := n6_; clear n0_ n1_ n2_ n3_ n4_ n5_ n6_; clear hw_; (try clear hc4Y); (try clear hf4Y); (try clear hc4L); (try clear hf4L); (try clear hc4Q); (try clear hf4Q); (try clear hc4O); (try clear hf4O); (try clear hc4F); (try clear hf4F); have hc5Y : w23_.cell? ⟨gY, 0, none⟩ = some (.func (.func 68) #[] #[.pointer (some ⟨LB, 0, none⟩)]) := (blk_cell HY.out 0).trans rfl; have hf5Y := blk_frozen HY.out 0; have hc5L : w23_.cell? ⟨LB, 0, none⟩ = some (.slice A4 l4.length c4) := (blk_cell HL.out 0).trans rfl; have hf5L := blk_frozen HL.out 0; have hc5Q : w23_.cell? ⟨gQ, 0, none⟩ = some (.int .i64 m) := (blk_cell HQ.out 0).trans rfl; have hf5Q := blk_frozen HQ.out 0; have hc5O : w23_.cell? ⟨gO, 0, none⟩ = some (.slice A15 0 c15) := (blk_cell HO.out 0).trans rfl; have hf5O := blk_frozen HO.out 0; have hc5F : w23_.cell? ⟨gF, 0, none⟩ = some (.bool false) := (blk_cell HF.out 0).trans rfl; have hf5F := blk_frozen HF.out 0) | ((with_reducible refine gate_store (t := 4) (p := 9) rfl ?_); refine store_event (t := 4) (p := 9) (v := .const (.bool false)) (w1 := (w23_.setCell ⟨gF, 0, none⟩ (.bool false))) ?hg24 ?ho24 ?hn24 ?hr24 ?_; (case ho24 => rfl); (case hg24 => rfl); (case hn24 => rfl); (case hr24 => first | (go_simp; done) | (go_simp; rfl)); intro w24_ hw_; have n0_ := Aside0.mk (show w24_.heap[gY]? = some (.cells #[.func (.func 68) #[] #[.pointer (some ⟨LB, 0, none⟩)]] 28 (0, 0)) from by rw [hw_]; exact blk_far HY.out (p := ⟨gF, 0, none⟩) NEY_F.out _); have n1_ := Aside0.mk (show w24_.heap[LB]? = some (.cells #[.slice A4 l4.length c4] 35 (0, 0)) from by rw [hw_]; exact blk_far HL.out (p := ⟨gF, 0, none⟩) NEL_F.out _); have n2_ := Aside0.mk (show w24_.heap[gQ]? = some (.cells #[.int .i64 m] 2 (0, 0)) from by rw [hw_]; exact blk_far HQ.out (p := ⟨gF, 0, none⟩) NEQ_F.out _); have n3_ := Aside0.mk (show w24_.heap[gO]? = some (.cells #[.slice A15 0 c15] 22 (0, 0)) from by rw [hw_]; exact blk_far HO.out (p := ⟨gF, 0, none⟩) NEO_F.out _); have n4_ := Aside0.mk (show w24_.heap[gF]? = some (.cells #[.bool false] 4 (0, 0)) from by rw [hw_]; exact blk_put HF.out 0 _ rfl); have n5_ := Aside0.mk (show Kd.R (Kd.int .i64) 2 w24_ w.heap.size (fun _ => True) (.slice A15 0 c15) ([] : List Int) from by rw [hw_]; exact Kd.R_mono (Kd.R_far (p := ⟨gF, 0, none⟩) (Kd.R_far1 HR15.out rfl NRR15_F.out) (fun k_ hk => hk.2) _) (fun _ _ => trivial)); have n6_ := Aside0.mk (show Below w.heap.size w w24_ from by rw [hw_]; exact HB.out.setCell GEF.out _); clear HY; clear HL; clear HQ; clear HO; clear HF; clear HR15; clear HB; have HY := n0_; have HL := n1_; have HQ := n2_; have HO := n3_; have HF := n4_; have HR15 := n5_; have HB := n6_; clear n0_ n1_ n2_ n3_ n4_ n5_ n6_; clear hw_; (try clear hc5Y); (try clear hf5Y); (try clear hc5L); (try clear hf5L); (try clear hc5Q); (try clear hf5Q); (try clear hc5O); (try clear hf5O); (try clear hc5F); (try clear hf5F); have hc6Y : w24_.cell? ⟨gY, 0, none⟩ = some (.func (.func 68) #[] #[.pointer (some ⟨LB, 0, none⟩)]) := (blk_cell HY.out 0).trans rfl; have hf6Y := blk_frozen HY.out 0; have hc6L : w24_.cell? ⟨LB, 0, none⟩ = some (.slice A4 l4.length c4) := (blk_cell HL.out 0).trans rfl; have hf6L := blk_frozen HL.out 0; have hc6Q : w24_.cell? ⟨gQ, 0, none⟩ = some (.int .i64 m) := (blk_cell HQ.out 0).trans rfl; have hf6Q := blk_frozen HQ.out 0; have hc6O : w24_.cell? ⟨gO, 0, none⟩ = some (.slice A15 0 c15) := (blk_cell HO.out 0).trans rfl; have hf6O := blk_frozen HO.out 0; have hc6F : w24_.cell? ⟨gF, 0, none⟩ = some (.bool false) := (blk_cell HF.out 0).trans rfl; have hf6F := blk_frozen HF.out 0) | (go_at_call 65; (refine (impl_grouped.calls gQ gY LB gO gF w k1 n m A4 c4 l4 none _ _ _ HQ.out HY.out HL.out HO.out HF.out HB.out GEO.out GEF.out (Kd.C_below HR4.out HB.out) HC4.out A1.out).mono ?_); rintro e w40_ ⟨rfl, hb⟩; have n0_ := Aside0.mk (show w40_.heap[gY]? = some (.cells #[.func (.func 68) #[] #[.pointer (some ⟨LB, 0, none⟩)]] 28 (0, 0)) from blk_below (by (with_reducible repeat (first | refine blk_drewN ?_ _ | refine blk_drew ?_)); exact HY.out) hb); have n1_ := Aside0.mk (show w40_.heap[LB]? = some (.cells #[.slice A4 l4.length c4] 35 (0, 0)) from blk_below (by (with_reducible repeat (first | refine blk_drewN ?_ _ | refine blk_drew ?_)); exact HL.out) hb); have n2_ := Aside0.mk (show w40_.heap[gQ]? = some (.cells #[.int .i64 m] 2 (0, 0)) from blk_below (by (with_reducible repeat (first | refine blk_drewN ?_ _ | refine blk_drew ?_)); exact HQ.out) hb); have n3_ := Aside0.mk (show w40_.heap[gO]? = some (.cells #[.slice A15 0 c15] 22 (0, 0)) from blk_below (by (with_reducible repeat (first | refine blk_drewN ?_ _ | refine blk_drew ?_)); exact HO.out) hb); have n4_ := Aside0.mk (show w40_.heap[gF]? = some (.cells #[.bool false] 4 (0, 0)) from blk_below (by (with_reducible repeat (first | refine blk_drewN ?_ _ | refine blk_drew ?_)); exact HF.out) hb); have n5_ := Aside0.mk (show Kd.R (Kd.int .i64) 2 w40_ w.heap.size (fun _ => True) (.slice A15 0 c15) ([] : List Int) from Kd.R_below (by (with_reducible repeat (first | apply Kd.R_drewN | apply Kd.R_drew)); exact HR15.out) hb); have n6_ := Aside0.mk (show Below w.heap.size w w40_ from below_step (by repeat (first | (with_reducible first | exact HB.out | apply below_alloc | apply pw_below_drewN | apply below_drew1) | exact HB.out)) hb); clear HY; clear HL; clear HQ; clear HO; clear HF; clear HR15; clear HB; have HY := n0_; have HL := n1_; have HQ := n2_; have HO := n3_; have HF := n4_; have HR15 := n5_; have HB := n6_; clear n0_ n1_ n2_ n3_ n4_ n5_ n6_; clear hb; (try clear hc6Y); (try clear hf6Y); (try clear hc6L); (try clear hf6L); (try clear hc6Q); (try clear hf6Q); (try clear hc6O); (try clear hf6O); (try clear hc6F); (try clear hf6F); have hc7Y : w40_.cell? ⟨gY, 0, none⟩ = some (.func (.func 68) #[] #[.pointer (some ⟨LB, 0, none⟩)]) := (blk_cell HY.out 0).trans rfl; have hf7Y := blk_frozen HY.out 0; have hc7L : w40_.cell? ⟨LB, 0, none⟩ = some (.slice A4 l4.length c4) := (blk_cell HL.out 0).trans rfl; have hf7L := blk_frozen HL.out 0; have hc7Q : w40_.cell? ⟨gQ, 0, none⟩ = some (.int .i64 m) := (blk_cell HQ.out 0).trans rfl; have hf7Q := blk_frozen HQ.out 0; have hc7O : w40_.cell? ⟨gO, 0, none⟩ = some (.slice A15 0 c15) := (blk_cell HO.out 0).trans rfl; have hf7O := blk_frozen HO.out 0; have hc7F : w40_.cell? ⟨gF, 0, none⟩ = some (.bool false) := (blk_cell HF.out 0).trans rfl; have hf7F := blk_frozen HF.out 0) | ((with_reducible refine gate_dst (N := 7) rfl ?_); refine box_event ?hg (N := 7) ?hd (cs := #[.int .i64 0]) (t := 2) ?hr ?_; (case hd => rfl); (case hg => rfl); (case hr => first | (go_simp; done) | (go_simp; rfl)); intro gP hg_ w51_ hblk_ hb_; have n0_ := Aside0.mk (show w51_.heap[gY]? = some (.cells #[.func (.func 68) #[] #[.pointer (some ⟨LB, 0, none⟩)]] 28 (0, 0)) from blk_below (by (with_reducible repeat (first | refine blk_drewN ?_ _ | refine blk_drew ?_)); exact HY.out) hb_); have n1_ := Aside0.mk (show w51_.heap[LB]? = some (.cells #[.slice A4 l4.length c4] 35 (0, 0)) from blk_below (by (with_reducible repeat (first | refine blk_drewN ?_ _ | refine blk_drew ?_)); exact HL.out) hb_); have n2_ := Aside0.mk (show w51_.heap[gQ]? = some (.cells #[.int .i64 m] 2 (0, 0)) from blk_below (by (with_reducible repeat (first | refine blk_drewN ?_ _ | refine blk_drew ?_)); exact HQ.out) hb_); have n3_ := Aside0.mk (show w51_.heap[gO]? = some (.cells #[.slice A15 0 c15] 22 (0, 0)) from blk_below (by (with_reducible repeat (first | refine blk_drewN ?_ _ | refine blk_drew ?_)); exact HO.out) hb_); have n4_ := Aside0.mk (show w51_.heap[gF]? = some (.cells #[.bool false] 4 (0, 0)) from blk_below (by (with_reducible repeat (first | refine blk_drewN ?_ _ | refine blk_drew ?_)); exact HF.out) hb_); have n5_ := Aside0.mk (show Kd.R (Kd.int .i64) 2 w51_ w.heap.size (fun _ => True) (.slice A15 0 c15) ([] : List Int) from Kd.R_below (by (with_reducible repeat (first | apply Kd.R_drewN | apply Kd.R_drew)); exact HR15.out) hb_); have n6_ := Aside0.mk (show Below w.heap.size w w51_ from below_step (by repeat (first | (with_reducible first | exact HB.out | apply below_alloc | apply pw_below_drewN | apply below_drew1) | exact HB.out)) hb_); have n7_ := Aside0.mk hblk_; have n8_ := Aside0.mk (show w.heap.size ≤ gP from by rw [hg_]; exact below_size (by repeat (first | (with_reducible first | exact HB.out | apply below_alloc | apply pw_below_drewN | apply below_drew1) | exact HB.out))); have n9_ := Aside0.mk (show gY ≠ gP from by rw [hg_]; exact Nat.ne_of_lt (blk_lt (g := gY) (o := .cells #[.func (.func 68) #[] #[.pointer (some ⟨LB, 0, none⟩)]] 28 (0, 0)) (by (with_reducible repeat (first | refine blk_drewN ?_ _ | refine blk_drew ?_)); exact HY.out))); have n10_ := Aside0.mk (show LB ≠ gP from by rw [hg_]; exact Nat.ne_of_lt (blk_lt (g := LB) (o := .cells #[.slice A4 l4.length c4] 35 (0, 0)) (by (with_reducible repeat (first | refine blk_drewN ?_ _ | refine blk_drew ?_)); exact HL.out))); have n11_ := Aside0.mk (show gQ ≠ gP from by rw [hg_]; exact Nat.ne_of_lt (blk_lt (g := gQ) (o := .cells #[.int .i64 m] 2 (0, 0)) (by (with_reducible repeat (first | refine blk_drewN ?_ _ | refine blk_drew ?_)); exact HQ.out))); have n12_ := Aside0.mk (show gO ≠ gP from by rw [hg_]; exact Nat.ne_of_lt (blk_lt (g := gO) (o := .cells #[.slice A15 0 c15] 22 (0, 0)) (by (with_reducible repeat (first | refine blk_drewN ?_ _ | refine blk_drew ?_)); exact HO.out))); have n13_ := Aside0.mk (show gF ≠ gP from by rw [hg_]; exact Nat.ne_of_lt (blk_lt (g := gF) (o := .cells #[.bool false] 4 (0, 0)) (by (with_reducible repeat (first | refine blk_drewN ?_ _ | refine blk_drew ?_)); exact HF.out))); have n14_ := Aside0.mk (show some gP ≠ ((.slice A15 0 c15) : Value).ownBlock from fun e_ => by have h_ := Kd.R_lt HR15.out gP e_.symm; rw [hg_] at h_; exact Nat.lt_irrefl _ h_); clear HY; clear HL; clear HQ; clear HO; clear HF; clear HR15; clear HB; have HY := n0_; have HL := n1_; have HQ := n2_; have HO := n3_; have HF := n4_; have HR15 := n5_; have HB := n6_; have HP := n7_; have GEP := n8_; have NEY_P := n9_; have NEL_P := n10_; have NEQ_P := n11_; have NEO_P := n12_; have NEF_P := n13_; have NRR15_P := n14_; clear n0_ n1_ n2_ n3_ n4_ n5_ n6_ n7_ n8_ n9_ n10_ n11_ n12_ n13_ n14_; clear hg_ hblk_ hb_; (try clear hc7Y); (try clear hf7Y); (try clear hc7L); (try clear hf7L); (try clear hc7Q); (try clear hf7Q); (try clear hc7O); (try clear hf7O); (try clear hc7F); (try clear hf7F); have hc8Y : w51_.cell? ⟨gY, 0, none⟩ = some (.func (.func 68) #[] #[.pointer (some ⟨LB, 0, none⟩)]) := (blk_cell HY.out 0).trans rfl; have hf8Y := blk_frozen HY.out 0; have hc8L : w51_.cell? ⟨LB, 0, none⟩ = some (.slice A4 l4.length c4) := (blk_cell HL.out 0).trans rfl; have hf8L := blk_frozen HL.out 0; have hc8Q : w51_.cell? ⟨gQ, 0, none⟩ = some (.int .i64 m) := (blk_cell HQ.out 0).trans rfl; have hf8Q := blk_frozen HQ.out 0; have hc8O : w51_.cell? ⟨gO, 0, none⟩ = some (.slice A15 0 c15) := (blk_cell HO.out 0).trans rfl; have hf8O := blk_frozen HO.out 0; have hc8F : w51_.cell? ⟨gF, 0, none⟩ = some (.bool false) := (blk_cell HF.out 0).trans rfl; have hf8F := blk_frozen HF.out 0; have hc8P : w51_.cell? ⟨gP, 0, none⟩ = some (.int .i64 0) := (blk_cell HP.out 0).trans rfl; have hf8P := blk_frozen HP.out 0) | ((with_reducible refine gate_store (t := 2) (p := 7) rfl ?_); refine store_event (t := 2) (p := 7) (v := .tmp 23) (w1 := (w51_.setCell ⟨gP, 0, none⟩ (.int .i64 m))) ?hg52 ?ho52 ?hn52 ?hr52 ?_; (case ho52 => rfl); (case hg52 => rfl); (case hn52 => rfl); (case hr52 => first | (go_simp; done) | (go_simp; rfl)); intro w52_ hw_; have n0_ := Aside0.mk (show w52_.heap[gY]? = some (.cells #[.func (.func 68) #[] #[.pointer (some ⟨LB, 0, none⟩)]] 28 (0, 0)) from by rw [hw_]; exact blk_far HY.out (p := ⟨gP, 0, none⟩) NEY_P.out _); have n1_ := Aside0.mk (show w52_.heap[LB]? = some (.cells #[.slice A4 l4.length c4] 35 (0, 0)) from by rw [hw_]; exact blk_far HL.out (p := ⟨gP, 0, none⟩) NEL_P.out _); have n2_ := Aside0.mk (show w52_.heap[gQ]? = some (.cells #[.int .i64 m] 2 (0, 0)) from by rw [hw_]; exact blk_far HQ.out (p := ⟨gP, 0, none⟩) NEQ_P.out _); have n3_ := Aside0.mk (show w52_.heap[gO]? = some (.cells #[.slice A15 0 c15] 22 (0, 0)) from by rw [hw_]; exact blk_far HO.out (p := ⟨gP, 0, none⟩) NEO_P.out _); have n4_ := Aside0.mk (show w52_.heap[gF]? = some (.cells #[.bool false] 4 (0, 0)) from by rw [hw_]; exact blk_far HF.out (p := ⟨gP, 0, none⟩) NEF_P.out _); have n5_ := Aside0.mk (show w52_.heap[gP]? = some (.cells #[.int .i64 m] 2 (0, 0)) from by rw [hw_]; exact blk_put HP.out 0 _ rfl); have n6_ := Aside0.mk (show Kd.R (Kd.int .i64) 2 w52_ w.heap.size (fun _ => True) (.slice A15 0 c15) ([] : List Int) from by rw [hw_]; exact Kd.R_mono (Kd.R_far (p := ⟨gP, 0, none⟩) (Kd.R_far1 HR15.out rfl NRR15_P.out) (fun k_ hk => hk.2) _) (fun _ _ => trivial)); have n7_ := Aside0.mk (show Below w.heap.size w w52_ from by rw [hw_]; exact HB.out.setCell GEP.out _); clear HY; clear HL; clear HQ; clear HO; clear HF; clear HP; clear HR15; clear HB; have HY := n0_; have HL := n1_; have HQ := n2_; have HO := n3_; have HF := n4_; have HP := n5_; have HR15 := n6_; have HB := n7_; clear n0_ n1_ n2_ n3_ n4_ n5_ n6_ n7_; clear hw_; (try clear hc8Y); (try clear hf8Y); (try clear hc8L); (try clear hf8L); (try clear hc8Q); (try clear hf8Q); (try clear hc8O); (try clear hf8O); (try clear hc8F); (try clear hf8F); (try clear hc8P); (try clear hf8P); have hc9Y : w52_.cell? ⟨gY, 0, none⟩ = some (.func (.func 68) #[] #[.pointer (some ⟨LB, 0, none⟩)]) := (blk_cell HY.out 0).trans rfl; have hf9Y := blk_frozen HY.out 0; have hc9L : w52_.cell? ⟨LB, 0, none⟩ = some (.slice A4 l4.length c4) := (blk_cell HL.out 0).trans rfl; have hf9L := blk_frozen HL.out 0; have hc9Q : w52_.cell? ⟨gQ, 0, none⟩ = some (.int .i64 m) := (blk_cell HQ.out 0).trans rfl; have hf9Q := blk_frozen HQ.out 0; have hc9O : w52_.cell? ⟨gO, 0, none⟩ = some (.slice A15 0 c15) := (blk_cell HO.out 0).trans rfl; have hf9O := blk_frozen HO.out 0; have hc9F : w52_.cell? ⟨gF, 0, none⟩ = some (.bool false) := (blk_cell HF.out 0).trans rfl; have hf9F := blk_frozen HF.out 0; have hc9P : w52_.cell? ⟨gP, 0, none⟩ = some (.int .i64 m) := (blk_cell HP.out 0).trans rfl; have hf9P := blk_frozen HP.out 0) | ((with_reducible refine gate_store (t := 2) (p := 7) rfl ?_); refine store_event (t := 2) (p := 7) (v := .tmp 14) (w1 := (w52_.setCell ⟨gP, 0, none⟩ (.int .i64 (wrap64 (m + 1))))) ?hg53 ?ho53 ?hn53 ?hr53 ?_; (case ho53 => rfl); (case hg53 => rfl); (case hn53 => rfl); (case hr53 => first | (go_simp; done) | (go_simp; rfl)); intro w53_ hw_; have n0_ := Aside0.mk (show w53_.heap[gY]? = some (.cells #[.func (.func 68) #[] #[.pointer (some ⟨LB, 0, none⟩)]] 28 (0, 0)) from by rw [hw_]; exact blk_far HY.out (p := ⟨gP, 0, none⟩) NEY_P.out _); have n1_ := Aside0.mk (show w53_.heap[LB]? = some (.cells #[.slice A4 l4.length c4] 35 (0, 0)) from by rw [hw_]; exact blk_far HL.out (p := ⟨gP, 0, none⟩) NEL_P.out _); have n2_ := Aside0.mk (show w53_.heap[gQ]? = some (.cells #[.int .i64 m] 2 (0, 0)) from by rw [hw_]; exact blk_far HQ.out (p := ⟨gP, 0, none⟩) NEQ_P.out _); have n3_ := Aside0.mk (show w53_.heap[gO]? = some (.cells #[.slice A15 0 c15] 22 (0, 0)) from by rw [hw_]; exact blk_far HO.out (p := ⟨gP, 0, none⟩) NEO_P.out _); have n4_ := Aside0.mk (show w53_.heap[gF]? = some (.cells #[.bool false] 4 (0, 0)) from by rw [hw_]; exact blk_far HF.out (p := ⟨gP, 0, none⟩) NEF_P.out _); have n5_ := Aside0.mk (show w53_.heap[gP]? = some (.cells #[.int .i64 (wrap64 (m + 1))] 2 (0, 0)) from by rw [hw_]; exact blk_put HP.out 0 _ rfl); have n6_ := Aside0.mk (show Kd.R (Kd.int .i64) 2 w53_ w.heap.size (fun _ => True) (.slice A15 0 c15) ([] : List Int) from by rw [hw_]; exact Kd.R_mono (Kd.R_far (p := ⟨gP, 0, none⟩) (Kd.R_far1 HR15.out rfl NRR15_P.out) (fun k_ hk => hk.2) _) (fun _ _ => trivial)); have n7_ := Aside0.mk (show Below w.heap.size w w53_ from by rw [hw_]; exact HB.out.setCell GEP.out _); clear HY; clear HL; clear HQ; clear HO; clear HF; clear HP; clear HR15; clear HB; have HY := n0_; have HL := n1_; have HQ := n2_; have HO := n3_; have HF := n4_; have HP := n5_; have HR15 := n6_; have HB := n7_; clear n0_ n1_ n2_ n3_ n4_ n5_ n6_ n7_; clear hw_; (try clear hc9Y); (try clear hf9Y); (try clear hc9L); (try clear hf9L); (try clear hc9Q); (try clear hf9Q); (try clear hc9O); (try clear hf9O); (try clear hc9F); (try clear hf9F); (try clear hc9P); (try clear hf9P); have hc10Y : w53_.cell? ⟨gY, 0, none⟩ = some (.func (.func 68) #[] #[.pointer (some ⟨LB, 0, none⟩)]) := (blk_cell HY.out 0).trans rfl; have hf10Y := blk_frozen HY.out 0; have hc10L : w53_.cell? ⟨LB, 0, none⟩ = some (.slice A4 l4.length c4) := (blk_cell HL.out 0).trans rfl; have hf10L := blk_frozen HL.out 0; have hc10Q : w53_.cell? ⟨gQ, 0, none⟩ = some (.int .i64 m) := (blk_cell HQ.out 0).trans rfl; have hf10Q := blk_frozen HQ.out 0; have hc10O : w53_.cell? ⟨gO, 0, none⟩ = some (.slice A15 0 c15) := (blk_cell HO.out 0).trans rfl; have hf10O := blk_frozen HO.out 0; have hc10F : w53_.cell? ⟨gF, 0, none⟩ = some (.bool false) := (blk_cell HF.out 0).trans rfl; have hf10F := blk_frozen HF.out 0; have hc10P : w53_.cell? ⟨gP, 0, none⟩ = some (.int .i64 (wrap64 (m + 1))) := (blk_cell HP.out 0).trans rfl; have hf10P := blk_frozen HP.out 0))
        go_roundg k1
        case measure => have := HK1.out; omega
        case rel => exact ⟨gP, wrap64 (m + 1), rfl, H', ⟨by have := HK1.out; omega⟩, ⟨(by (with_reducible repeat (first | refine blk_drewN ?_ _ | refine blk_drew ?_)); exact HP.out)⟩, ⟨(by (with_reducible repeat (first | refine blk_drewN ?_ _ | refine blk_drew ?_)); exact HY.out)⟩, ⟨(by (with_reducible repeat (first | refine blk_drewN ?_ _ | refine blk_drew ?_)); exact HL.out)⟩, GEP, NEY_P, NEL_P, ⟨by repeat (first | (with_reducible first | exact HB.out | apply below_alloc | apply pw_below_drewN | apply below_drew1) | exact HB.out)⟩⟩
      · have H1 : some (xf, m, true) = some (r1, r2, r3) := H
        clear H
        simp only [Option.some.injEq, Prod.mk.injEq] at H1
        obtain ⟨rfl, rfl, rfl⟩ := H1
        have hc1Y : wr.cell? ⟨gY, 0, none⟩ = some (.func (.func 68) #[] #[.pointer (some ⟨LB, 0, none⟩)]) := (blk_cell HY.out 0).trans rfl
        have hf1Y := blk_frozen HY.out 0
        have hc1L : wr.cell? ⟨LB, 0, none⟩ = some (.slice A4 l4.length c4) := (blk_cell HL.out 0).trans rfl
        have hf1L := blk_frozen HL.out 0
        have hc1Q : wr.cell? ⟨gQ, 0, none⟩ = some (.int .i64 m) := (blk_cell HQ.out 0).trans rfl
        have hf1Q := blk_frozen HQ.out 0
        go_wp2_with (first | ((with_reducible refine gate_dst (N := 15) rfl ?_); (try (refine gate_guard (by rfl) ?_; dsimp only)); refine Kd.R_lit (Kd.int .i64) _ 2 ?hg (N := 15) ?hd (xs := ([] : List Int)) (inner := []) (ok := fun _ => True) (okp := fun _ => True) ?hr ?hp (fun _ hk => hk) trivial (Below.refl _ _) (Nat.le_refl _) (by simp) ?_; (case hd => rfl); (case hg => rfl); (case hr => first | (go_simp; done) | (go_simp; rfl)); (case hp => exact (Reps.none _ _)); intro v15_ w15_ ho_ hb_ hg_ hnew_; clear hg_ hnew_; have n0_ := Aside0.mk (show w15_.heap[gY]? = some (.cells #[.func (.func 68) #[] #[.pointer (some ⟨LB, 0, none⟩)]] 28 (0, 0)) from blk_below (by (with_reducible repeat (first | refine blk_drewN ?_ _ | refine blk_drew ?_)); exact HY.out) hb_); have n1_ := Aside0.mk (show w15_.heap[LB]? = some (.cells #[.slice A4 l4.length c4] 35 (0, 0)) from blk_below (by (with_reducible repeat (first | refine blk_drewN ?_ _ | refine blk_drew ?_)); exact HL.out) hb_); have n2_ := Aside0.mk (show w15_.heap[gQ]? = some (.cells #[.int .i64 m] 2 (0, 0)) from blk_below (by (with_reducible repeat (first | refine blk_drewN ?_ _ | refine blk_drew ?_)); exact HQ.out) hb_); have n3_ := Aside0.mk (show Below w.heap.size w w15_ from below_step (by repeat (first | (with_reducible first | exact HB.out | apply below_alloc | apply pw_below_drewN | apply below_drew1) | exact HB.out)) hb_); have n4_ := Aside0.mk (show Kd.R (Kd.int .i64) 2 w15_ w.heap.size (fun _ => True) v15_ [] from Kd.R_lower ho_ (below_size (by repeat (first | (with_reducible first | exact HB.out | apply below_alloc | apply pw_below_drewN | apply below_drew1) | exact HB.out)))); clear HY; clear HL; clear HQ; clear HB; have HY := n0_; have HL := n1_; have HQ := n2_; have HB := n3_; have HR15 := n4_; clear n0_ n1_ n2_ n3_ n4_; clear ho_ hb_; obtain ⟨A15, c15, e15⟩ := Kd.R_slice HR15.out; subst e15; (try clear hc1Y); (try clear hf1Y); (try clear hc1L); (try clear hf1L); (try clear hc1Q); (try clear hf1Q); have hc2Y : w15_.cell? ⟨gY, 0, none⟩ = some (.func (.func 68) #[] #[.pointer (some ⟨LB, 0, none⟩)]) := (blk_cell HY.out 0).trans rfl; have hf2Y := blk_frozen HY.out 0; have hc2L : w15_.cell? ⟨LB, 0, none⟩ = some (.slice A4 l4.length c4) := (blk_cell HL.out 0).trans rfl; have hf2L := blk_frozen HL.out 0; have hc2Q : w15_.cell? ⟨gQ, 0, none⟩ = some (.int .i64 m) := (blk_cell HQ.out 0).trans rfl; have hf2Q := blk_frozen HQ.out 0) | ((with_reducible refine gate_dst (N := 8) rfl ?_); refine box_event ?hg (N := 8) ?hd (cs := #[.slice none 0 0]) (t := 22) ?hr ?_; (case hd => rfl); (case hg => rfl); (case hr => first | (go_simp; done) | (go_simp; rfl)); intro gO hg_ w21_ hblk_ hb_; have n0_ := Aside0.mk (show w21_.heap[gY]? = some (.cells #[.func (.func 68) #[] #[.pointer (some ⟨LB, 0, none⟩)]] 28 (0, 0)) from blk_below (by (with_reducible repeat (first | refine blk_drewN ?_ _ | refine blk_drew ?_)); exact HY.out) hb_); have n1_ := Aside0.mk (show w21_.heap[LB]? = some (.cells #[.slice A4 l4.length c4] 35 (0, 0)) from blk_below (by (with_reducible repeat (first | refine blk_drewN ?_ _ | refine blk_drew ?_)); exact HL.out) hb_); have n2_ := Aside0.mk (show w21_.heap[gQ]? = some (.cells #[.int .i64 m] 2 (0, 0)) from blk_below (by (with_reducible repeat (first | refine blk_drewN ?_ _ | refine blk_drew ?_)); exact HQ.out) hb_); have n3_ := Aside0.mk (show Kd.R (Kd.int .i64) 2 w21_ w.heap.size (fun _ => True) (.slice A15 0 c15) ([] : List Int) from Kd.R_below (by (with_reducible repeat (first | apply Kd.R_drewN | apply Kd.R_drew)); exact HR15.out) hb_); have n4_ := Aside0.mk (show Below w.heap.size w w21_ from below_step (by repeat (first | (with_reducible first | exact HB.out | apply below_alloc | apply pw_below_drewN | apply below_drew1) | exact HB.out)) hb_); have n5_ := Aside0.mk hblk_; have n6_ := Aside0.mk (show w.heap.size ≤ gO from by rw [hg_]; exact below_size (by repeat (first | (with_reducible first | exact HB.out | apply below_alloc | apply pw_below_drewN | apply below_drew1) | exact HB.out))); have n7_ := Aside0.mk (show gY ≠ gO from by rw [hg_]; exact Nat.ne_of_lt (blk_lt (g := gY) (o := .cells #[.func (.func 68) #[] #[.pointer (some ⟨LB, 0, none⟩)]] 28 (0, 0)) (by (with_reducible repeat (first | refine blk_drewN ?_ _ | refine blk_drew ?_)); exact HY.out))); have n8_ := Aside0.mk (show LB ≠ gO from by rw [hg_]; exact Nat.ne_of_lt (blk_lt (g := LB) (o := .cells #[.slice A4 l4.length c4] 35 (0, 0)) (by (with_reducible repeat (first | refine blk_drewN ?_ _ | refine blk_drew ?_)); exact HL.out))); have n9_ := Aside0.mk (show gQ ≠ gO from by rw [hg_]; exact Nat.ne_of_lt (blk_lt (g := gQ) (o := .cells #[.int .i64 m] 2 (0, 0)) (by (with_reducible repeat (first | refine blk_drewN ?_ _ | refine blk_drew ?_)); exact HQ.out))); have n10_ := Aside0.mk (show some gO ≠ ((.slice A15 0 c15) : Value).ownBlock from fun e_ => by have h_ := Kd.R_lt HR15.out gO e_.symm; rw [hg_] at h_; exact Nat.lt_irrefl _ h_); clear HY; clear HL; clear HQ; clear HR15; clear HB; have HY := n0_; have HL := n1_; have HQ := n2_; have HR15 := n3_; have HB := n4_; have HO := n5_; have GEO := n6_; have NEY_O := n7_; have NEL_O := n8_; have NEQ_O := n9_; have NRR15_O := n10_; clear n0_ n1_ n2_ n3_ n4_ n5_ n6_ n7_ n8_ n9_ n10_; clear hg_ hblk_ hb_; (try clear hc2Y); (try clear hf2Y); (try clear hc2L); (try clear hf2L); (try clear hc2Q); (try clear hf2Q); have hc3Y : w21_.cell? ⟨gY, 0, none⟩ = some (.func (.func 68) #[] #[.pointer (some ⟨LB, 0, none⟩)]) := (blk_cell HY.out 0).trans rfl; have hf3Y := blk_frozen HY.out 0; have hc3L : w21_.cell? ⟨LB, 0, none⟩ = some (.slice A4 l4.length c4) := (blk_cell HL.out 0).trans rfl; have hf3L := blk_frozen HL.out 0; have hc3Q : w21_.cell? ⟨gQ, 0, none⟩ = some (.int .i64 m) := (blk_cell HQ.out 0).trans rfl; have hf3Q := blk_frozen HQ.out 0; have hc3O : w21_.cell? ⟨gO, 0, none⟩ = some (.slice none 0 0) := (blk_cell HO.out 0).trans rfl; have hf3O := blk_frozen HO.out 0) | ((with_reducible refine gate_dst (N := 9) rfl ?_); refine box_event ?hg (N := 9) ?hd (cs := #[.bool false]) (t := 4) ?hr ?_; (case hd => rfl); (case hg => rfl); (case hr => first | (go_simp; done) | (go_simp; rfl)); intro gF hg_ w22_ hblk_ hb_; have n0_ := Aside0.mk (show w22_.heap[gY]? = some (.cells #[.func (.func 68) #[] #[.pointer (some ⟨LB, 0, none⟩)]] 28 (0, 0)) from blk_below (by (with_reducible repeat (first | refine blk_drewN ?_ _ | refine blk_drew ?_)); exact HY.out) hb_); have n1_ := Aside0.mk (show w22_.heap[LB]? = some (.cells #[.slice A4 l4.length c4] 35 (0, 0)) from blk_below (by (with_reducible repeat (first | refine blk_drewN ?_ _ | refine blk_drew ?_)); exact HL.out) hb_); have n2_ := Aside0.mk (show w22_.heap[gQ]? = some (.cells #[.int .i64 m] 2 (0, 0)) from blk_below (by (with_reducible repeat (first | refine blk_drewN ?_ _ | refine blk_drew ?_)); exact HQ.out) hb_); have n3_ := Aside0.mk (show w22_.heap[gO]? = some (.cells #[.slice none 0 0] 22 (0, 0)) from blk_below (by (with_reducible repeat (first | refine blk_drewN ?_ _ | refine blk_drew ?_)); exact HO.out) hb_); have n4_ := Aside0.mk (show Kd.R (Kd.int .i64) 2 w22_ w.heap.size (fun _ => True) (.slice A15 0 c15) ([] : List Int) from Kd.R_below (by (with_reducible repeat (first | apply Kd.R_drewN | apply Kd.R_drew)); exact HR15.out) hb_); have n5_ := Aside0.mk (show Below w.heap.size w w22_ from below_step (by repeat (first | (with_reducible first | exact HB.out | apply below_alloc | apply pw_below_drewN | apply below_drew1) | exact HB.out)) hb_); have n6_ := Aside0.mk hblk_; have n7_ := Aside0.mk (show w.heap.size ≤ gF from by rw [hg_]; exact below_size (by repeat (first | (with_reducible first | exact HB.out | apply below_alloc | apply pw_below_drewN | apply below_drew1) | exact HB.out))); have n8_ := Aside0.mk (show gY ≠ gF from by rw [hg_]; exact Nat.ne_of_lt (blk_lt (g := gY) (o := .cells #[.func (.func 68) #[] #[.pointer (some ⟨LB, 0, none⟩)]] 28 (0, 0)) (by (with_reducible repeat (first | refine blk_drewN ?_ _ | refine blk_drew ?_)); exact HY.out))); have n9_ := Aside0.mk (show LB ≠ gF from by rw [hg_]; exact Nat.ne_of_lt (blk_lt (g := LB) (o := .cells #[.slice A4 l4.length c4] 35 (0, 0)) (by (with_reducible repeat (first | refine blk_drewN ?_ _ | refine blk_drew ?_)); exact HL.out))); have n10_ := Aside0.mk (show gQ ≠ gF from by rw [hg_]; exact Nat.ne_of_lt (blk_lt (g := gQ) (o := .cells #[.int .i64 m] 2 (0, 0)) (by (with_reducible repeat (first | refine blk_drewN ?_ _ | refine blk_drew ?_)); exact HQ.out))); have n11_ := Aside0.mk (show gO ≠ gF from by rw [hg_]; exact Nat.ne_of_lt (blk_lt (g := gO) (o := .cells #[.slice none 0 0] 22 (0, 0)) (by (with_reducible repeat (first | refine blk_drewN ?_ _ | refine blk_drew ?_)); exact HO.out))); have n12_ := Aside0.mk (show some gF ≠ ((.slice A15 0 c15) : Value).ownBlock from fun e_ => by have h_ := Kd.R_lt HR15.out gF e_.symm; rw [hg_] at h_; exact Nat.lt_irrefl _ h_); clear HY; clear HL; clear HQ; clear HO; clear HR15; clear HB; have HY := n0_; have HL := n1_; have HQ := n2_; have HO := n3_; have HR15 := n4_; have HB := n5_; have HF := n6_; have GEF := n7_; have NEY_F := n8_; have NEL_F := n9_; have NEQ_F := n10_; have NEO_F := n11_; have NRR15_F := n12_; clear n0_ n1_ n2_ n3_ n4_ n5_ n6_ n7_ n8_ n9_ n10_ n11_ n12_; clear hg_ hblk_ hb_; (try clear hc3Y); (try clear hf3Y); (try clear hc3L); (try clear hf3L); (try clear hc3Q); (try clear hf3Q); (try clear hc3O); (try clear hf3O); have hc4Y : w22_.cell? ⟨gY, 0, none⟩ = some (.func (.func 68) #[] #[.pointer (some ⟨LB, 0, none⟩)]) := (blk_cell HY.out 0).trans rfl; have hf4Y := blk_frozen HY.out 0; have hc4L : w22_.cell? ⟨LB, 0, none⟩ = some (.slice A4 l4.length c4) := (blk_cell HL.out 0).trans rfl; have hf4L := blk_frozen HL.out 0; have hc4Q : w22_.cell? ⟨gQ, 0, none⟩ = some (.int .i64 m) := (blk_cell HQ.out 0).trans rfl; have hf4Q := blk_frozen HQ.out 0; have hc4O : w22_.cell? ⟨gO, 0, none⟩ = some (.slice none 0 0) := (blk_cell HO.out 0).trans rfl; have hf4O := blk_frozen HO.out 0; have hc4F : w22_.cell? ⟨gF, 0, none⟩ = some (.bool false) := (blk_cell HF.out 0).trans rfl; have hf4F := blk_frozen HF.out 0) | ((with_reducible refine gate_store (t := 22) (p := 8) rfl ?_); refine store_event (t := 22) (p := 8) (v := .tmp 15) (w1 := (w22_.setCell ⟨gO, 0, none⟩ (.slice A15 0 c15))) ?hg23 ?ho23 ?hn23 ?hr23 ?_; (case ho23 => rfl); (case hg23 => rfl); (case hn23 => rfl); (case hr23 => first | (go_simp; done) | (go_simp; rfl)); intro w23_ hw_; have n0_ := Aside0.mk (show w23_.heap[gY]? = some (.cells #[.func (.func 68) #[] #[.pointer (some ⟨LB, 0, none⟩)]] 28 (0, 0)) from by rw [hw_]; exact blk_far HY.out (p := ⟨gO, 0, none⟩) NEY_O.out _); have n1_ := Aside0.mk (show w23_.heap[LB]? = some (.cells #[.slice A4 l4.length c4] 35 (0, 0)) from by rw [hw_]; exact blk_far HL.out (p := ⟨gO, 0, none⟩) NEL_O.out _); have n2_ := Aside0.mk (show w23_.heap[gQ]? = some (.cells #[.int .i64 m] 2 (0, 0)) from by rw [hw_]; exact blk_far HQ.out (p := ⟨gO, 0, none⟩) NEQ_O.out _); have n3_ := Aside0.mk (show w23_.heap[gO]? = some (.cells #[.slice A15 0 c15] 22 (0, 0)) from by rw [hw_]; exact blk_put HO.out 0 _ rfl); have n4_ := Aside0.mk (show w23_.heap[gF]? = some (.cells #[.bool false] 4 (0, 0)) from by rw [hw_]; exact blk_far HF.out (p := ⟨gO, 0, none⟩) (fun e_ => NEO_F.out e_.symm) _); have n5_ := Aside0.mk (show Kd.R (Kd.int .i64) 2 w23_ w.heap.size (fun _ => True) (.slice A15 0 c15) ([] : List Int) from by rw [hw_]; exact Kd.R_mono (Kd.R_far (p := ⟨gO, 0, none⟩) (Kd.R_far1 HR15.out rfl NRR15_O.out) (fun k_ hk => hk.2) _) (fun _ _ => trivial)); have n6_ := Aside0.mk (show Below w.heap.size w w23_ from by rw [hw_]; exact HB.out.setCell GEO.out _); clear HY; clear HL; clear HQ; clear HO; clear HF; clear HR15; clear HB; have HY := n0_; have HL := n1_; have HQ := n2_; have HO := n3_; have HF := n4_; have HR15 := n5_; have HB := n6_; clear n0_ n1_ n2_ n3_ n4_ n5_ n6_; clear hw_; (try clear hc4Y); (try clear hf4Y); (try clear hc4L); (try clear hf4L); (try clear hc4Q); (try clear hf4Q); (try clear hc4O); (try clear hf4O); (try clear hc4F); (try clear hf4F); have hc5Y : w23_.cell? ⟨gY, 0, none⟩ = some (.func (.func 68) #[] #[.pointer (some ⟨LB, 0, none⟩)]) := (blk_cell HY.out 0).trans rfl; have hf5Y := blk_frozen HY.out 0; have hc5L : w23_.cell? ⟨LB, 0, none⟩ = some (.slice A4 l4.length c4) := (blk_cell HL.out 0).trans rfl; have hf5L := blk_frozen HL.out 0; have hc5Q : w23_.cell? ⟨gQ, 0, none⟩ = some (.int .i64 m) := (blk_cell HQ.out 0).trans rfl; have hf5Q := blk_frozen HQ.out 0; have hc5O : w23_.cell? ⟨gO, 0, none⟩ = some (.slice A15 0 c15) := (blk_cell HO.out 0).trans rfl; have hf5O := blk_frozen HO.out 0; have hc5F : w23_.cell? ⟨gF, 0, none⟩ = some (.bool false) := (blk_cell HF.out 0).trans rfl; have hf5F := blk_frozen HF.out 0) | ((with_reducible refine gate_store (t := 4) (p := 9) rfl ?_); refine store_event (t := 4) (p := 9) (v := .const (.bool false)) (w1 := (w23_.setCell ⟨gF, 0, none⟩ (.bool false))) ?hg24 ?ho24 ?hn24 ?hr24 ?_; (case ho24 => rfl); (case hg24 => rfl); (case hn24 => rfl); (case hr24 => first | (go_simp; done) | (go_simp; rfl)); intro w24_ hw_; have n0_ := Aside0.mk (show w24_.heap[gY]? = some (.cells #[.func (.func 68) #[] #[.pointer (some ⟨LB, 0, none⟩)]] 28 (0, 0)) from by rw [hw_]; exact blk_far HY.out (p := ⟨gF, 0, none⟩) NEY_F.out _); have n1_ := Aside0.mk (show w24_.heap[LB]? = some (.cells #[.slice A4 l4.length c4] 35 (0, 0)) from by rw [hw_]; exact blk_far HL.out (p := ⟨gF, 0, none⟩) NEL_F.out _); have n2_ := Aside0.mk (show w24_.heap[gQ]? = some (.cells #[.int .i64 m] 2 (0, 0)) from by rw [hw_]; exact blk_far HQ.out (p := ⟨gF, 0, none⟩) NEQ_F.out _); have n3_ := Aside0.mk (show w24_.heap[gO]? = some (.cells #[.slice A15 0 c15] 22 (0, 0)) from by rw [hw_]; exact blk_far HO.out (p := ⟨gF, 0, none⟩) NEO_F.out _); have n4_ := Aside0.mk (show w24_.heap[gF]? = some (.cells #[.bool false] 4 (0, 0)) from by rw [hw_]; exact blk_put HF.out 0 _ rfl); have n5_ := Aside0.mk (show Kd.R (Kd.int .i64) 2 w24_ w.heap.size (fun _ => True) (.slice A15 0 c15) ([] : List Int) from by rw [hw_]; exact Kd.R_mono (Kd.R_far (p := ⟨gF, 0, none⟩) (Kd.R_far1 HR15.out rfl NRR15_F.out) (fun k_ hk => hk.2) _) (fun _ _ => trivial)); have n6_ := Aside0.mk (show Below w.heap.size w w24_ from by rw [hw_]; exact HB.out.setCell GEF.out _); clear HY; clear HL; clear HQ; clear HO; clear HF; clear HR15; clear HB; have HY := n0_; have HL := n1_; have HQ := n2_; have HO := n3_; have HF := n4_; have HR15 := n5_; have HB := n6_; clear n0_ n1_ n2_ n3_ n4_ n5_ n6_; clear hw_; (try clear hc5Y); (try clear hf5Y); (try clear hc5L); (try clear hf5L); (try clear hc5Q); (try clear hf5Q); (try clear hc5O); (try clear hf5O); (try clear hc5F); (try clear hf5F); have hc6Y : w24_.cell? ⟨gY, 0, none⟩ = some (.func (.func 68) #[] #[.pointer (some ⟨LB, 0, none⟩)]) := (blk_cell HY.out 0).trans rfl; have hf6Y := blk_frozen HY.out 0; have hc6L : w24_.cell? ⟨LB, 0, none⟩ = some (.slice A4 l4.length c4) := (blk_cell HL.out 0).trans rfl; have hf6L := blk_frozen HL.out 0; have hc6Q : w24_.cell? ⟨gQ, 0, none⟩ = some (.int .i64 m) := (blk_cell HQ.out 0).trans rfl; have hf6Q := blk_frozen HQ.out 0; have hc6O : w24_.cell? ⟨gO, 0, none⟩ = some (.slice A15 0 c15) := (blk_cell HO.out 0).trans rfl; have hf6O := blk_frozen HO.out 0; have hc6F : w24_.cell? ⟨gF, 0, none⟩ = some (.bool false) := (blk_cell HF.out 0).trans rfl; have hf6F := blk_frozen HF.out 0) | (go_at_call 65; (refine (impl_grouped.calls gQ gY LB gO gF w k1 n m A4 c4 l4 (some xf) _ _ _ HQ.out HY.out HL.out HO.out HF.out HB.out GEO.out GEF.out (Kd.C_below HR4.out HB.out) HC4.out A1.out).mono ?_); rintro e w40_ ⟨rfl, hb⟩; have HFN := Aside0.mk hb; obtain ⟨hb1_, hk1_, vo1, ho1_, hf1_, hR1_⟩ := hb; obtain ⟨A41, c41, e41⟩ := Kd.R_slice hR1_; subst e41; have HRX := Aside0.mk hR1_; have hqq_ := KeepBut.blk hk1_ HQ.out NEQ_O.out (fun e_ => absurd (Option.some.inj e_) NEQ_F.out); have HB2 := Aside0.mk hb1_; have HCQ := Aside0.mk hqq_; have HCO := Aside0.mk ho1_; have hc40f : w40_.cell? ⟨gF, 0, none⟩ = some (.bool true) := (blk_cell hf1_ 0).trans rfl; clear hb1_ hk1_ ho1_ hf1_ hR1_ hqq_; (try clear hc6Y); (try clear hf6Y); (try clear hc6L); (try clear hf6L); (try clear hc6Q); (try clear hf6Q); (try clear hc6O); (try clear hf6O); (try clear hc6F); (try clear hf6F)))
        clear hc40f
        have hdo := Aside0.mk (below_drew1 HB2.out)
        refine start_ (n := 5) (S := fun w' => w'.cell? ⟨gO, 0, none⟩ = some (.slice A41 xf.length c41) ∧ w'.cell? ⟨gQ, 0, none⟩ = some (.int .i64 m)) (ds := []) #[false, false, false, false, false] (by kernel_rfl) rfl rfl ⟨(blk_cell HCO.out 0).trans rfl, (blk_cell HCQ.out 0).trans rfl⟩ (fun hHeld => ?_)
        refine take_ (i := 0) (N := some 21) (v := ?_) (a' := ?_) #[true, false, false, false, false] rfl rfl (by kernel_rfl) (fun _ _ _ h => h) (Or.inl ⟨by rfl, ?_⟩) hHeld ?_ ?_
        rotate_left
        · rintro w' ⟨sO, sQ⟩
          go_simp
          with_reducible rfl
        rotate_left
        · simp only [Act.put, List.setIfInBounds_toArray, List.set_cons_zero, List.set_cons_succ, i64_w, i32_w]
          rfl
        refine take_ (i := 1) (N := some 22) (v := ?_) (a' := ?_) #[true, true, false, false, false] rfl rfl (by kernel_rfl) (fun _ _ _ h => h) (Or.inl ⟨by rfl, ?_⟩) hHeld ?_ ?_
        rotate_left
        · rintro w' ⟨sO, sQ⟩
          go_simp
          with_reducible rfl
        rotate_left
        · simp only [Act.put, List.setIfInBounds_toArray, List.set_cons_zero, List.set_cons_succ, i64_w, i32_w]
          rfl
        refine pure_ (i := 2) (N := some 4) (v := ?_) (a' := ?_) #[true, true, true, false, false] rfl rfl (by kernel_rfl) (fun _ _ _ h => h) (Or.inl ⟨by rfl, ?_⟩) ?_ ?_
        rotate_left
        · intro w'
          go_simp
          with_reducible rfl
        rotate_left
        · simp only [Act.put, List.setIfInBounds_toArray, List.set_cons_zero, List.set_cons_succ, i64_w, i32_w]
          rfl
        refine pure_ (i := 3) (N := some 5) (v := ?_) (a' := ?_) #[true, true, true, true, false] rfl rfl (by kernel_rfl) (fun _ _ _ h => h) (Or.inl ⟨by rfl, ?_⟩) ?_ ?_
        rotate_left
        · intro w'
          go_simp
          with_reducible rfl
        rotate_left
        · simp only [Act.put, List.setIfInBounds_toArray, List.set_cons_zero, List.set_cons_succ, i64_w, i32_w]
          rfl
        refine pure_ (i := 4) (N := some 6) (v := ?_) (a' := ?_) #[true, true, true, true, true] rfl rfl (by kernel_rfl) (fun _ _ _ h => h) (Or.inl ⟨by rfl, ?_⟩) ?_ ?_
        rotate_left
        · intro w'
          go_simp
          with_reducible rfl
        rotate_left
        · simp only [Act.put, List.setIfInBounds_toArray, List.set_cons_zero, List.set_cons_succ, i64_w, i32_w]
          rfl
        refine done_ (by kernel_rfl) ?_
        try go_wp2
        go_ret3
        exact ⟨_, rfl, by (with_reducible repeat (first | apply Kd.R_drewN | apply Kd.R_drew)); exact Kd.R_mono HRX.out (fun _ _ => trivial), by repeat (first | (with_reducible first | exact HB2.out | apply pw_below_drewN | apply below_drew1) | exact HB2.out)⟩
end Go.Proofs.Ytipdmnibjkdpcaa.P

namespace Go.Proofs.Ytipdmnibjkdpcaa.P
open Go.RowKit Go.Proofs.YtipdmnibjkdpcaaW.PrintWords Go.Proofs.YtipdmnibjkdpcaaW.PrintLast Go.Proofs.YtipdmnibjkdpcaaW.PrintMore
attribute [local go_sem] max2_int min2_int max_two min_two max_three min_three max_four min_four
set_option linter.unusedVariables false
set_option linter.unusedSimpArgs false
def impl_FewestPiles.f (k : Nat) (l0 : List (S64)) : Option (List Int × Int × Int) := (impl_boxesCode.f k l0).bind fun t845 => (if t845 = 0 then ((impl_fewestGroups.f k (l0.length : Int) l0).bind fun t846 => (some (t846.1, t846.2.1, 0))) else (some (([] : List Int), 0, t845)))
set_option maxHeartbeats 8000000 in
set_option maxRecDepth 100000 in
theorem impl_FewestPiles.calls (k : Nat) (A0 : Option Addr) (c0 : Nat) (l0 : List (S64)) (r1 : List Int) (r2 : Int) (r3 : Int) (w : World) (hr0 : Kd.C k64 w A0 l0.length l0) (hc0 : l0.length ≤ c0) (h : impl_FewestPiles.f k l0 = some (r1, r2, r3)) :
    Calls Try.prog 26 #[.slice A0 l0.length c0] w fun e w' => ∃ v0_ : Value, e = .returned (.tuple #[v0_, .int .i64 r2, .int .i64 r3]) ∧ Kd.R (Kd.int .i64) 2 w' w.heap.size (fun _ => True) v0_ r1 ∧ Below w.heap.size w w' := by
  have HR0 := Aside0.mk hr0
  have HC0 := Aside0.mk hc0
  clear hr0 hc0
  have HB := Aside0.mk (Below.refl w.heap.size w)
  have H : ((impl_boxesCode.f k l0).bind fun t845 => (if t845 = 0 then ((impl_fewestGroups.f k (l0.length : Int) l0).bind fun t846 => (some (t846.1, t846.2.1, 0))) else (some (([] : List Int), 0, t845)))) = some (r1, r2, r3) := h
  clear h
  replace H := Option.bind_eq_some_iff.mp H
  obtain ⟨t845, A30, H⟩ := H
  replace H : (if t845 = 0 then ((impl_fewestGroups.f k (l0.length : Int) l0).bind fun t846 => (some (t846.1, t846.2.1, 0))) else (some (([] : List Int), 0, t845))) = some (r1, r2, r3) := H
  have A3 := Aside0.mk A30
  clear A30
  by_cases c4 : t845 = 0
  rotate_left
  · rw [if_neg c4] at H
    have c4b0 : (t845 == 0) = false := beq_eq_false_iff_ne.mpr c4
    have c4b1 : (t845 != 0) = true := bne_iff_ne.mpr c4
    simp only [Option.some.injEq, Prod.mk.injEq] at H
    obtain ⟨rfl, rfl, rfl⟩ := H
    go_enter Try.func26, Try.ntmps26
    go_wp2_with (first | (go_at_call 40; (refine (impl_boxesCode.calls k A0 c0 l0 t845 _ ?side1 HC0.out A3.out).mono ?_); (case side1 => repeat (first | exact HR0.out | (with_reducible refine Kd.C_alloc ?_ _) | (with_reducible refine Kd.C_drewN ?_ _) | (with_reducible refine Kd.C_drew ?_))); rintro e w8 ⟨rfl, hb⟩; have n0_ := Aside0.mk (below_step (by repeat (first | (with_reducible first | exact HB.out | apply below_alloc | apply pw_below_drewN | apply below_drew1) | exact HB.out)) hb); clear HB; have HB := n0_; clear n0_; (try clear hb)))
    go_ret3
    exact ⟨_, by first | rfl | (simp [errW_none, errW_some] <;> rfl) | (simp [*, errW_none, errW_some] <;> rfl), by first | exact Kd.R_nil _ _ _ _ _ | exact Kd.N_nil _ _ _ _ _, by repeat (first | (with_reducible first | exact HB.out | apply below_alloc | apply pw_below_drewN | apply below_drew1) | exact HB.out)⟩
  rw [if_pos c4] at H
  have c4b0 : (t845 == 0) = true := beq_iff_eq.mpr c4
  have c4b1 : (t845 != 0) = false := bne_eq_false_iff_eq.mpr c4
  clear c4
  replace H := Option.bind_eq_some_iff.mp H
  obtain ⟨⟨t1, t2, t3⟩, A50, H⟩ := H
  have A5 := Aside0.mk A50
  clear A50
  simp only [Option.some.injEq, Prod.mk.injEq] at H
  obtain ⟨rfl, rfl, rfl⟩ := H
  go_enter Try.func26, Try.ntmps26
  go_wp2_with (first | (go_at_call 40; (refine (impl_boxesCode.calls k A0 c0 l0 t845 _ ?side1 HC0.out A3.out).mono ?_); (case side1 => repeat (first | exact HR0.out | (with_reducible refine Kd.C_alloc ?_ _) | (with_reducible refine Kd.C_drewN ?_ _) | (with_reducible refine Kd.C_drew ?_))); rintro e w6 ⟨rfl, hb⟩; have n0_ := Aside0.mk (below_step (by repeat (first | (with_reducible first | exact HB.out | apply below_alloc | apply pw_below_drewN | apply below_drew1) | exact HB.out)) hb); clear HB; have HB := n0_; clear n0_; (try clear hb)) | (go_at_call 51; (refine (impl_mayPile.calls A0 c0 l0 _).mono ?_); rintro e w7 ⟨B, rfl, hB_, _, hb⟩; have HBX := Aside0.mk hB_; clear hB_; have n0_ := Aside0.mk (below_step (by repeat (first | (with_reducible first | exact HB.out | apply below_alloc | apply pw_below_drewN | apply below_drew1) | exact HB.out)) hb); clear HB; have HB := n0_; clear n0_; (try clear hb)) | (go_at_call 50; (refine (impl_fewestGroups.calls B k (l0.length : Int) A0 c0 l0 t1 t2 t3 _ ?side1 (Kd.C_below HR0.out (by repeat (first | (with_reducible first | exact HB.out | apply below_alloc | apply pw_below_drewN | apply below_drew1) | exact HB.out))) HC0.out A5.out).mono ?_); (case side1 => (with_reducible repeat (first | refine blk_drewN ?_ _ | refine blk_drew ?_)); exact HBX.out); rintro e w9 ⟨v0_, rfl, ho0, hb⟩; have n1_ := Aside0.mk (Kd.R_lower ho0 (below_size (by repeat (first | (with_reducible first | exact HB.out | apply below_alloc | apply pw_below_drewN | apply below_drew1) | exact HB.out)))); have HO848 := n1_; clear n1_ ho0; have n0_ := Aside0.mk (below_step (by repeat (first | (with_reducible first | exact HB.out | apply below_alloc | apply pw_below_drewN | apply below_drew1) | exact HB.out)) hb); clear HB; have HB := n0_; clear n0_; (try clear hb)))
  go_ret3
  exact ⟨_, by first | rfl | (simp [errW_none, errW_some] <;> rfl) | (simp [*, errW_none, errW_some] <;> rfl), by (with_reducible repeat (first | apply Kd.R_alloc | apply Kd.R_drewN | apply Kd.R_drew)); exact HO848.out, by repeat (first | (with_reducible first | exact HB.out | apply below_alloc | apply pw_below_drewN | apply below_drew1) | exact HB.out)⟩
end Go.Proofs.Ytipdmnibjkdpcaa.P

namespace Go.Proofs.Ytipdmnibjkdpcaa.P
open Go.RowKit Go.Proofs.YtipdmnibjkdpcaaW.PrintWords Go.Proofs.YtipdmnibjkdpcaaW.PrintLast Go.Proofs.YtipdmnibjkdpcaaW.PrintMore
attribute [local go_sem] max2_int min2_int max_two min_two max_three min_three max_four min_four
set_option linter.unusedVariables false
set_option linter.unusedSimpArgs false
mutual
def laws_FnExactFewestPiles.j0 : Nat → List (S66) → List Int → Int → Int → List (S64) → List Int → Int → Int → Bool → Option (Bool)
  | 0, _, _, _, _, _, _, _, _, _ => none
  | k + 1, x0, x4, x5, x6, x7, x8, x9, x10, x50 => if x50 = true then (some false) else ((laws_toBoxS.f k x0).bind fun t557 => ((laws_eqBoxS.f k x7 t557).bind fun t560 => (if t560 = true then ((laws_markBoxS.f k x7 1).bind fun bt561 => (if bt561.1 < 0 then (laws_FnExactFewestPiles.j1 k x0 x4 x5 x6 x8 true) else ((laws_eqInt64S.f k x8 x4).bind fun t563 => (if t563 = true then (if x9 = x5 then (laws_FnExactFewestPiles.j1 k x0 x4 x5 x6 x8 (x10 != x6)) else (laws_FnExactFewestPiles.j1 k x0 x4 x5 x6 x8 true)) else (laws_FnExactFewestPiles.j1 k x0 x4 x5 x6 x8 true))))) else (some false))))
def laws_FnExactFewestPiles.j1 : Nat → List (S66) → List Int → Int → Int → List Int → Bool → Option (Bool)
  | 0, _, _, _, _, _, _ => none
  | k + 1, x0, x4, x5, x6, x8, x76 => if x76 = true then (some false) else ((laws_markInt64S.f k x8 1).bind fun bt564 => ((laws_heldInt64S.f k bt564.2 1).bind fun t566 => (if t566 < 0 then (some false) else (if t566 = bt564.1 then ((laws_toBoxS.f k x0).bind fun t567 => ((impl_FewestPiles.f k t567).bind fun bt570 => ((laws_eqInt64S.f k bt570.1 x4).bind fun t575 => (if t575 = true then (if bt570.2.1 = x5 then (laws_FnExactFewestPiles.j2 k bt564.2 bt564.1 (bt570.2.2 != x6)) else (laws_FnExactFewestPiles.j2 k bt564.2 bt564.1 true)) else (laws_FnExactFewestPiles.j2 k bt564.2 bt564.1 true))))) else (some false)))))
def laws_FnExactFewestPiles.j2 : Nat → List Int → Int → Bool → Option (Bool)
  | 0, _, _, _ => none
  | k + 1, x8, x12, x108 => if x108 = true then (some false) else ((laws_heldInt64S.f k x8 1).bind fun t576 => (if t576 < 0 then (some false) else (if t576 = x12 then (some true) else (some false))))
end
def laws_FnExactFewestPiles.f (k : Nat) (l0 : List (S66)) : Option (Bool) := (laws_szBoxS.f l0 1048576).bind fun t539 => (if t539 < 0 then (some true) else ((laws_toBoxS.f k l0).bind fun t540 => ((spec_FewestPiles.f k t540).bind fun bt543 => ((laws_toBoxS.f k l0).bind fun t548 => ((impl_FewestPiles.f k t548).bind fun bt551 => ((laws_eqInt64S.f k bt551.1 bt543.1).bind fun t556 => (if t556 = true then (if bt551.2.1 = bt543.2.1 then (laws_FnExactFewestPiles.j0 k l0 bt543.1 bt543.2.1 bt543.2.2 t548 bt551.1 bt551.2.1 bt551.2.2 (bt551.2.2 != bt543.2.2)) else (laws_FnExactFewestPiles.j0 k l0 bt543.1 bt543.2.1 bt543.2.2 t548 bt551.1 bt551.2.1 bt551.2.2 true)) else (laws_FnExactFewestPiles.j0 k l0 bt543.1 bt543.2.1 bt543.2.2 t548 bt551.1 bt551.2.1 bt551.2.2 true))))))))
set_option maxHeartbeats 8000000 in
set_option maxRecDepth 100000 in
theorem laws_FnExactFewestPiles.calls (k : Nat) (A0 : Option Addr) (c0 : Nat) (l0 : List (S66)) (r : Bool) (w : World) (hr0 : Kd.C k66 w A0 l0.length l0) (hc0 : l0.length ≤ c0) (h : laws_FnExactFewestPiles.f k l0 = some r) (hlaw_ : r = true := by rfl) :
    Calls Try.prog 7 #[.slice A0 l0.length c0] w fun e w' => e = .returned (.bool r) ∧ Below w.heap.size w w' := by
  have HLAW := Aside0.mk hlaw_
  clear hlaw_
  have HR0 := Aside0.mk hr0
  have HC0 := Aside0.mk hc0
  clear hr0 hc0
  have HB := Aside0.mk (Below.refl w.heap.size w)
  have H : ((laws_szBoxS.f l0 1048576).bind fun t539 => (if t539 < 0 then (some true) else ((laws_toBoxS.f k l0).bind fun t540 => ((spec_FewestPiles.f k t540).bind fun bt543 => ((laws_toBoxS.f k l0).bind fun t548 => ((impl_FewestPiles.f k t548).bind fun bt551 => ((laws_eqInt64S.f k bt551.1 bt543.1).bind fun t556 => (if t556 = true then (if bt551.2.1 = bt543.2.1 then (laws_FnExactFewestPiles.j0 k l0 bt543.1 bt543.2.1 bt543.2.2 t548 bt551.1 bt551.2.1 bt551.2.2 (bt551.2.2 != bt543.2.2)) else (laws_FnExactFewestPiles.j0 k l0 bt543.1 bt543.2.1 bt543.2.2 t548 bt551.1 bt551.2.1 bt551.2.2 true)) else (laws_FnExactFewestPiles.j0 k l0 bt543.1 bt543.2.1 bt543.2.2 t548 bt551.1 bt551.2.1 bt551.2.2 true))))))))) = some r := h
  clear h
  replace H := Option.bind_eq_some_iff.mp H
  obtain ⟨t539, A20, H⟩ := H
  replace H : (if t539 < 0 then (some true) else ((laws_toBoxS.f k l0).bind fun t540 => ((spec_FewestPiles.f k t540).bind fun bt543 => ((laws_toBoxS.f k l0).bind fun t548 => ((impl_FewestPiles.f k t548).bind fun bt551 => ((laws_eqInt64S.f k bt551.1 bt543.1).bind fun t556 => (if t556 = true then (if bt551.2.1 = bt543.2.1 then (laws_FnExactFewestPiles.j0 k l0 bt543.1 bt543.2.1 bt543.2.2 t548 bt551.1 bt551.2.1 bt551.2.2 (bt551.2.2 != bt543.2.2)) else (laws_FnExactFewestPiles.j0 k l0 bt543.1 bt543.2.1 bt543.2.2 t548 bt551.1 bt551.2.1 bt551.2.2 true)) else (laws_FnExactFewestPiles.j0 k l0 bt543.1 bt543.2.1 bt543.2.2 t548 bt551.1 bt551.2.1 bt551.2.2 true)))))))) = some r := H
  have A2 := Aside0.mk A20
  clear A20
  by_cases c3 : t539 < 0
  rotate_left
  · rw [if_neg c3] at H
    have c3b0 : decide (t539 < 0) = false := decide_eq_false c3
    clear c3
    replace H := Option.bind_eq_some_iff.mp H
    obtain ⟨t540, A40, H⟩ := H
    replace H : ((spec_FewestPiles.f k t540).bind fun bt543 => ((laws_toBoxS.f k l0).bind fun t548 => ((impl_FewestPiles.f k t548).bind fun bt551 => ((laws_eqInt64S.f k bt551.1 bt543.1).bind fun t556 => (if t556 = true then (if bt551.2.1 = bt543.2.1 then (laws_FnExactFewestPiles.j0 k l0 bt543.1 bt543.2.1 bt543.2.2 t548 bt551.1 bt551.2.1 bt551.2.2 (bt551.2.2 != bt543.2.2)) else (laws_FnExactFewestPiles.j0 k l0 bt543.1 bt543.2.1 bt543.2.2 t548 bt551.1 bt551.2.1 bt551.2.2 true)) else (laws_FnExactFewestPiles.j0 k l0 bt543.1 bt543.2.1 bt543.2.2 t548 bt551.1 bt551.2.1 bt551.2.2 true)))))) = some r := H
    have A4 := Aside0.mk A40
    clear A40
    replace H := Option.bind_eq_some_iff.mp H
    obtain ⟨⟨t543, t544, t545⟩, A50, H⟩ := H
    replace H : ((laws_toBoxS.f k l0).bind fun t548 => ((impl_FewestPiles.f k t548).bind fun bt551 => ((laws_eqInt64S.f k bt551.1 t543).bind fun t556 => (if t556 = true then (if bt551.2.1 = t544 then (laws_FnExactFewestPiles.j0 k l0 t543 t544 t545 t548 bt551.1 bt551.2.1 bt551.2.2 (bt551.2.2 != t545)) else (laws_FnExactFewestPiles.j0 k l0 t543 t544 t545 t548 bt551.1 bt551.2.1 bt551.2.2 true)) else (laws_FnExactFewestPiles.j0 k l0 t543 t544 t545 t548 bt551.1 bt551.2.1 bt551.2.2 true))))) = some r := H
    have A5 := Aside0.mk A50
    clear A50
    replace H := Option.bind_eq_some_iff.mp H
    obtain ⟨t548, A60, H⟩ := H
    replace H : ((impl_FewestPiles.f k t548).bind fun bt551 => ((laws_eqInt64S.f k bt551.1 t543).bind fun t556 => (if t556 = true then (if bt551.2.1 = t544 then (laws_FnExactFewestPiles.j0 k l0 t543 t544 t545 t548 bt551.1 bt551.2.1 bt551.2.2 (bt551.2.2 != t545)) else (laws_FnExactFewestPiles.j0 k l0 t543 t544 t545 t548 bt551.1 bt551.2.1 bt551.2.2 true)) else (laws_FnExactFewestPiles.j0 k l0 t543 t544 t545 t548 bt551.1 bt551.2.1 bt551.2.2 true)))) = some r := H
    have A6 := Aside0.mk A60
    clear A60
    replace H := Option.bind_eq_some_iff.mp H
    obtain ⟨⟨t551, t552, t553⟩, A70, H⟩ := H
    replace H : ((laws_eqInt64S.f k t551 t543).bind fun t556 => (if t556 = true then (if t552 = t544 then (laws_FnExactFewestPiles.j0 k l0 t543 t544 t545 t548 t551 t552 t553 (t553 != t545)) else (laws_FnExactFewestPiles.j0 k l0 t543 t544 t545 t548 t551 t552 t553 true)) else (laws_FnExactFewestPiles.j0 k l0 t543 t544 t545 t548 t551 t552 t553 true))) = some r := H
    have A7 := Aside0.mk A70
    clear A70
    have HC8 := Aside0.mk H
    clear H
    go_enter Try.func7, Try.ntmps7
    go_upto_region 8 with (first | ((with_reducible refine gate_callee (f := 17) rfl ?_); refine goesL_ (some 19) rfl rfl Try.func17 (by kernel_rfl) rfl #[.slice A0 l0.length c0, .int .i64 1048576] rfl (by (try simp only [List.map_toArray, List.map_cons, List.map_nil]); first | done | rfl | (simp only [List.length_drop, List.length_take]; rfl)) ?_; (with_reducible refine (laws_szBoxS.calls _ _ l0 1048576 t539 _ ?side1 ?side2 A2.out).mono ?_); (case side1 => repeat (first | exact HR0.out | (with_reducible refine Kd.C_alloc ?_ _) | (with_reducible refine Kd.C_drewN ?_ _) | (with_reducible refine Kd.C_drew ?_))); (case side2 => exact HC0.out); rintro e w' ⟨rfl, ⟨nd, rfl⟩⟩; refine ⟨_, rfl, ?_⟩) | ((with_reducible refine gate_callee (f := 19) rfl ?_); refine goesL_ (some 24) rfl rfl Try.func19 (by kernel_rfl) rfl #[.slice A0 l0.length c0] rfl (by (try simp only [List.map_toArray, List.map_cons, List.map_nil]); first | done | rfl | (simp only [List.length_drop, List.length_take]; rfl)) ?_; (with_reducible refine (laws_toBoxS.calls k _ _ l0 t540 _ ?side1 ?side2 A4.out).mono ?_); (case side1 => repeat (first | exact HR0.out | (with_reducible refine Kd.C_alloc ?_ _) | (with_reducible refine Kd.C_drewN ?_ _) | (with_reducible refine Kd.C_drew ?_))); (case side2 => exact HC0.out); rintro e w9 ⟨v541, rfl, ho0, hb⟩; refine ⟨_, rfl, ?_⟩; have n0_ := Aside0.mk (Kd.R_lower ho0 (below_size (by repeat (first | (with_reducible first | exact HB.out | apply below_alloc | apply pw_below_drewN | apply below_drew1) | exact HB.out)))); have n1_ := Aside0.mk (below_step (by repeat (first | (with_reducible first | exact HB.out | apply below_alloc | apply pw_below_drewN | apply below_drew1) | exact HB.out)) hb); clear HB; have HO542 := n0_; have HB := n1_; clear n0_ n1_; (try clear hb); (try clear hb2); (try clear hk); (try clear hi); (try clear ho0); obtain ⟨Ao10, co10, eo10⟩ := Kd.R_slice HO542.out; subst eo10) | ((with_reducible refine gate_callee (f := 25) rfl ?_); refine goesL_ (some 25) rfl rfl Try.func25 (by kernel_rfl) rfl #[.slice Ao10 t540.length co10] rfl (by (try simp only [List.map_toArray, List.map_cons, List.map_nil]); first | done | rfl | (simp only [List.length_drop, List.length_take]; rfl)) ?_; (with_reducible refine (spec_FewestPiles.calls k _ _ t540 t543 t544 t545 _ ?side1 ?side2 A5.out).mono ?_); (case side1 => repeat (first | exact (Kd.R_reads' HO542.out).2.2 | (with_reducible refine Kd.C_alloc ?_ _) | (with_reducible refine Kd.C_drewN ?_ _) | (with_reducible refine Kd.C_drew ?_))); (case side2 => exact (Kd.R_reads' HO542.out).2.1); rintro e w11 ⟨v546, rfl, ho0, hb⟩; refine ⟨_, rfl, ?_⟩; have n0_ := Aside0.mk (Kd.R_below (by (with_reducible repeat (first | apply Kd.R_alloc | apply Kd.R_drewN | apply Kd.R_drew)); exact HO542.out) hb); have n1_ := Aside0.mk (Kd.R_lower ho0 (below_size (by repeat (first | (with_reducible first | exact HB.out | apply below_alloc | apply pw_below_drewN | apply below_drew1) | exact HB.out)))); have n2_ := Aside0.mk (below_step (by repeat (first | (with_reducible first | exact HB.out | apply below_alloc | apply pw_below_drewN | apply below_drew1) | exact HB.out)) hb); clear HO542; clear HB; have HO542 := n0_; have HO547 := n1_; have HB := n2_; clear n0_ n1_ n2_; (try clear hb); (try clear hb2); (try clear hk); (try clear hi); (try clear ho0)) | ((with_reducible refine gate_callee (f := 19) rfl ?_); refine goesL_ (some 30) rfl rfl Try.func19 (by kernel_rfl) rfl #[.slice A0 l0.length c0] rfl (by (try simp only [List.map_toArray, List.map_cons, List.map_nil]); first | done | rfl | (simp only [List.length_drop, List.length_take]; rfl)) ?_; (with_reducible refine (laws_toBoxS.calls k _ _ l0 t548 _ ?side1 ?side2 A6.out).mono ?_); (case side1 => repeat (first | exact (Kd.C_below HR0.out HB.out) | (with_reducible refine Kd.C_alloc ?_ _) | (with_reducible refine Kd.C_drewN ?_ _) | (with_reducible refine Kd.C_drew ?_))); (case side2 => exact HC0.out); rintro e w12 ⟨v549, rfl, ho0, hb⟩; refine ⟨_, rfl, ?_⟩; have n0_ := Aside0.mk (Kd.R_elder' (by (with_reducible repeat (first | apply Kd.R_alloc | apply Kd.R_drewN | apply Kd.R_drew)); exact HO542.out) (Kd.R_base ho0) hb); have n1_ := Aside0.mk (Kd.R_below (by (with_reducible repeat (first | apply Kd.R_alloc | apply Kd.R_drewN | apply Kd.R_drew)); exact HO547.out) hb); have n2_ := Aside0.mk (Kd.R_lower (Kd.R_new' ho0 (Kd.R_lt (by (with_reducible repeat (first | apply Kd.R_alloc | apply Kd.R_drewN | apply Kd.R_drew)); exact HO542.out))) (below_size (by repeat (first | (with_reducible first | exact HB.out | apply below_alloc | apply pw_below_drewN | apply below_drew1) | exact HB.out)))); have n3_ := Aside0.mk (below_step (by repeat (first | (with_reducible first | exact HB.out | apply below_alloc | apply pw_below_drewN | apply below_drew1) | exact HB.out)) hb); clear HO542; clear HO547; clear HB; have HO542 := n0_; have HO547 := n1_; have HO550 := n2_; have HB := n3_; clear n0_ n1_ n2_ n3_; (try clear hb); (try clear hb2); (try clear hk); (try clear hi); (try clear ho0); obtain ⟨Ao13, co13, eo13⟩ := Kd.R_slice HO550.out; subst eo13) | ((with_reducible refine gate_callee (f := 26) rfl ?_); refine goesL_ (some 33) rfl rfl Try.func26 (by kernel_rfl) rfl #[.slice Ao13 t548.length co13] rfl (by (try simp only [List.map_toArray, List.map_cons, List.map_nil]); first | done | rfl | (simp only [List.length_drop, List.length_take]; rfl)) ?_; (with_reducible refine (impl_FewestPiles.calls k _ _ t548 t551 t552 t553 _ ?side1 ?side2 A7.out).mono ?_); (case side1 => repeat (first | exact (Kd.R_reads' HO550.out).2.2 | (with_reducible refine Kd.C_alloc ?_ _) | (with_reducible refine Kd.C_drewN ?_ _) | (with_reducible refine Kd.C_drew ?_))); (case side2 => exact (Kd.R_reads' HO550.out).2.1); rintro e w14 ⟨v554, rfl, ho0, hb⟩; refine ⟨_, rfl, ?_⟩; have n0_ := Aside0.mk (Kd.R_below (by (with_reducible repeat (first | apply Kd.R_alloc | apply Kd.R_drewN | apply Kd.R_drew)); exact HO542.out) hb); have n1_ := Aside0.mk (Kd.R_elder' (by (with_reducible repeat (first | apply Kd.R_alloc | apply Kd.R_drewN | apply Kd.R_drew)); exact HO547.out) (Kd.R_base ho0) hb); have n2_ := Aside0.mk (Kd.R_below (by (with_reducible repeat (first | apply Kd.R_alloc | apply Kd.R_drewN | apply Kd.R_drew)); exact HO550.out) hb); have n3_ := Aside0.mk (Kd.R_lower (Kd.R_new' ho0 (Kd.R_lt (by (with_reducible repeat (first | apply Kd.R_alloc | apply Kd.R_drewN | apply Kd.R_drew)); exact HO547.out))) (below_size (by repeat (first | (with_reducible first | exact HB.out | apply below_alloc | apply pw_below_drewN | apply below_drew1) | exact HB.out)))); have n4_ := Aside0.mk (below_step (by repeat (first | (with_reducible first | exact HB.out | apply below_alloc | apply pw_below_drewN | apply below_drew1) | exact HB.out)) hb); clear HO542; clear HO547; clear HO550; clear HB; have HO542 := n0_; have HO547 := n1_; have HO550 := n2_; have HO555 := n3_; have HB := n4_; clear n0_ n1_ n2_ n3_ n4_; (try clear hb); (try clear hb2); (try clear hk); (try clear hi); (try clear ho0)))
    (try simp only [Act.put, List.setIfInBounds_toArray, List.set_cons_zero, List.set_cons_succ])
    go_cut [50] (fun v50 wc => ∃ (kq : Nat) (x50_7 : Bool), v50 = .bool x50_7 ∧ Aside0 (laws_FnExactFewestPiles.j0 kq l0 t543 t544 t545 t548 t551 t552 t553 x50_7 = some r) ∧ Aside0 (kq ≤ k) ∧ Aside0 (Kd.R (Kd.int .i64) 2 wc w.heap.size (fun k_ => some k_ ≠ (v554 : Value).ownBlock) v546 t543) ∧ Aside0 (Kd.R k64 64 wc w.heap.size (fun _ => True) (.slice Ao13 t548.length co13) t548) ∧ Aside0 (Kd.R (Kd.int .i64) 2 wc w.heap.size (fun k_ => some k_ ≠ (v546 : Value).ownBlock) v554 t551) ∧ Aside0 (Below w.heap.size w wc))
    case first =>
      have H := HC8.out
      clear HC8
      replace H := Option.bind_eq_some_iff.mp H
      obtain ⟨t556, A150, H⟩ := H
      replace H : (if t556 = true then (if t552 = t544 then (laws_FnExactFewestPiles.j0 k l0 t543 t544 t545 t548 t551 t552 t553 (t553 != t545)) else (laws_FnExactFewestPiles.j0 k l0 t543 t544 t545 t548 t551 t552 t553 true)) else (laws_FnExactFewestPiles.j0 k l0 t543 t544 t545 t548 t551 t552 t553 true)) = some r := H
      have A15 := Aside0.mk A150
      clear A150
      by_cases c16 : t556 = true
      rotate_left
      · replace c16 := Bool.eq_false_iff.mpr c16
        subst c16
        have H1 : (laws_FnExactFewestPiles.j0 k l0 t543 t544 t545 t548 t551 t552 t553 true) = some r := by rw [if_neg (show ¬ (false = true) by decide)] at H; exact H
        clear H
        have H := H1
        clear H1
        have H' := Aside0.mk H
        clear H
        obtain ⟨Ao22, co22, eo22⟩ := Kd.R_slice HO555.out
        subst eo22
        obtain ⟨Ao23, co23, eo23⟩ := Kd.R_slice HO547.out
        subst eo23
        go_wp2_with (first | ((with_reducible refine gate_callee (f := 12) rfl ?_); refine goesL_ (some 39) rfl rfl Try.func12 (by kernel_rfl) rfl #[.slice Ao22 t551.length co22, .slice Ao23 t543.length co23] rfl (by (try simp only [List.map_toArray, List.map_cons, List.map_nil]); first | done | rfl | (simp only [List.length_drop, List.length_take]; rfl)) ?_; (with_reducible refine (laws_eqInt64S.calls k _ _ t551 _ _ t543 false _ ?side1 ?side2 ?side3 ?side4 A15.out).mono ?_); (case side1 => repeat (first | exact (Kd.R_reads' HO555.out).2.2 | (with_reducible refine Kd.C_alloc ?_ _) | (with_reducible refine Kd.C_drewN ?_ _) | (with_reducible refine Kd.C_drew ?_))); (case side2 => exact (Kd.R_reads' HO555.out).2.1); (case side3 => repeat (first | exact (Kd.R_reads' HO547.out).2.2 | (with_reducible refine Kd.C_alloc ?_ _) | (with_reducible refine Kd.C_drewN ?_ _) | (with_reducible refine Kd.C_drew ?_))); (case side4 => exact (Kd.R_reads' HO547.out).2.1); rintro e w' ⟨rfl, ⟨nd, rfl⟩⟩; refine ⟨_, rfl, ?_⟩))
        go_meet
        case rel => exact ⟨_, (true), (by first | rfl | (simp; done) | (simp [*]; done)), H', ⟨by first | omega | exact Nat.le_refl _⟩, ⟨by (with_reducible repeat (first | apply Kd.R_alloc | apply Kd.R_drewN | apply Kd.R_drew)); exact Kd.R_mono HO547.out (fun _ hk => hk.2)⟩, ⟨by (with_reducible repeat (first | apply Kd.R_alloc | apply Kd.R_drewN | apply Kd.R_drew)); exact Kd.R_mono HO550.out (fun _ hk => trivial)⟩, ⟨by (with_reducible repeat (first | apply Kd.R_alloc | apply Kd.R_drewN | apply Kd.R_drew)); exact Kd.R_mono HO555.out (fun _ hk => hk.2)⟩, ⟨by repeat (first | (with_reducible first | exact HB.out | apply below_alloc | apply pw_below_drewN | apply below_drew1) | exact HB.out)⟩⟩
      subst c16
      have H1 : (if t552 = t544 then (laws_FnExactFewestPiles.j0 k l0 t543 t544 t545 t548 t551 t552 t553 (t553 != t545)) else (laws_FnExactFewestPiles.j0 k l0 t543 t544 t545 t548 t551 t552 t553 true)) = some r := by rw [if_pos rfl] at H; exact H
      clear H
      have H := H1
      clear H1
      by_cases c17 : t552 = t544
      rotate_left
      · rw [if_neg c17] at H
        have c17b0 : (t552 == t544) = false := beq_eq_false_iff_ne.mpr c17
        have c17b1 : (t552 != t544) = true := bne_iff_ne.mpr c17
        (first | rw [c17b0] | (simp only [i64_w, i32_w]; rw [c17b0]) | skip)
        have H' := Aside0.mk H
        clear H
        obtain ⟨Ao20, co20, eo20⟩ := Kd.R_slice HO555.out
        subst eo20
        obtain ⟨Ao21, co21, eo21⟩ := Kd.R_slice HO547.out
        subst eo21
        go_wp2_with (first | ((with_reducible refine gate_callee (f := 12) rfl ?_); refine goesL_ (some 39) rfl rfl Try.func12 (by kernel_rfl) rfl #[.slice Ao20 t551.length co20, .slice Ao21 t543.length co21] rfl (by (try simp only [List.map_toArray, List.map_cons, List.map_nil]); first | done | rfl | (simp only [List.length_drop, List.length_take]; rfl)) ?_; (with_reducible refine (laws_eqInt64S.calls k _ _ t551 _ _ t543 true _ ?side1 ?side2 ?side3 ?side4 A15.out).mono ?_); (case side1 => repeat (first | exact (Kd.R_reads' HO555.out).2.2 | (with_reducible refine Kd.C_alloc ?_ _) | (with_reducible refine Kd.C_drewN ?_ _) | (with_reducible refine Kd.C_drew ?_))); (case side2 => exact (Kd.R_reads' HO555.out).2.1); (case side3 => repeat (first | exact (Kd.R_reads' HO547.out).2.2 | (with_reducible refine Kd.C_alloc ?_ _) | (with_reducible refine Kd.C_drewN ?_ _) | (with_reducible refine Kd.C_drew ?_))); (case side4 => exact (Kd.R_reads' HO547.out).2.1); rintro e w' ⟨rfl, ⟨nd, rfl⟩⟩; refine ⟨_, rfl, ?_⟩))
        go_meet
        case rel => exact ⟨_, (true), (by first | rfl | (simp; done) | (simp [*]; done)), H', ⟨by first | omega | exact Nat.le_refl _⟩, ⟨by (with_reducible repeat (first | apply Kd.R_alloc | apply Kd.R_drewN | apply Kd.R_drew)); exact Kd.R_mono HO547.out (fun _ hk => hk.2)⟩, ⟨by (with_reducible repeat (first | apply Kd.R_alloc | apply Kd.R_drewN | apply Kd.R_drew)); exact Kd.R_mono HO550.out (fun _ hk => trivial)⟩, ⟨by (with_reducible repeat (first | apply Kd.R_alloc | apply Kd.R_drewN | apply Kd.R_drew)); exact Kd.R_mono HO555.out (fun _ hk => hk.2)⟩, ⟨by repeat (first | (with_reducible first | exact HB.out | apply below_alloc | apply pw_below_drewN | apply below_drew1) | exact HB.out)⟩⟩
      rw [if_pos c17] at H
      have c17b0 : (t552 == t544) = true := beq_iff_eq.mpr c17
      have c17b1 : (t552 != t544) = false := bne_eq_false_iff_eq.mpr c17
      clear c17
      (first | rw [c17b0] | (simp only [i64_w, i32_w]; rw [c17b0]) | skip)
      have H' := Aside0.mk H
      clear H
      obtain ⟨Ao18, co18, eo18⟩ := Kd.R_slice HO555.out
      subst eo18
      obtain ⟨Ao19, co19, eo19⟩ := Kd.R_slice HO547.out
      subst eo19
      go_wp2_with (first | ((with_reducible refine gate_callee (f := 12) rfl ?_); refine goesL_ (some 39) rfl rfl Try.func12 (by kernel_rfl) rfl #[.slice Ao18 t551.length co18, .slice Ao19 t543.length co19] rfl (by (try simp only [List.map_toArray, List.map_cons, List.map_nil]); first | done | rfl | (simp only [List.length_drop, List.length_take]; rfl)) ?_; (with_reducible refine (laws_eqInt64S.calls k _ _ t551 _ _ t543 true _ ?side1 ?side2 ?side3 ?side4 A15.out).mono ?_); (case side1 => repeat (first | exact (Kd.R_reads' HO555.out).2.2 | (with_reducible refine Kd.C_alloc ?_ _) | (with_reducible refine Kd.C_drewN ?_ _) | (with_reducible refine Kd.C_drew ?_))); (case side2 => exact (Kd.R_reads' HO555.out).2.1); (case side3 => repeat (first | exact (Kd.R_reads' HO547.out).2.2 | (with_reducible refine Kd.C_alloc ?_ _) | (with_reducible refine Kd.C_drewN ?_ _) | (with_reducible refine Kd.C_drew ?_))); (case side4 => exact (Kd.R_reads' HO547.out).2.1); rintro e w' ⟨rfl, ⟨nd, rfl⟩⟩; refine ⟨_, rfl, ?_⟩))
      go_meet
      case rel => exact ⟨_, ((t553 != t545)), (by first | rfl | (simp; done) | (simp [*]; done)), H', ⟨by first | omega | exact Nat.le_refl _⟩, ⟨by (with_reducible repeat (first | apply Kd.R_alloc | apply Kd.R_drewN | apply Kd.R_drew)); exact Kd.R_mono HO547.out (fun _ hk => hk.2)⟩, ⟨by (with_reducible repeat (first | apply Kd.R_alloc | apply Kd.R_drewN | apply Kd.R_drew)); exact Kd.R_mono HO550.out (fun _ hk => trivial)⟩, ⟨by (with_reducible repeat (first | apply Kd.R_alloc | apply Kd.R_drewN | apply Kd.R_drew)); exact Kd.R_mono HO555.out (fun _ hk => hk.2)⟩, ⟨by repeat (first | (with_reducible first | exact HB.out | apply below_alloc | apply pw_below_drewN | apply below_drew1) | exact HB.out)⟩⟩
    case rest =>
      clear HC8
      try clear c1
      try clear c2
      try clear p2
      try clear c3
      try clear c3b0
      try clear c7
      try clear c12
      try clear c16
      try clear c17
      try clear c17b0
      try clear c17b1
      try clear c19
      obtain ⟨kq, x50_7, rfl, HA, HJ7, HO_4, HO_7, HO_8, HB⟩ := hcut
      cases kq with
      | zero => exact absurd HA.out (by simp [laws_FnExactFewestPiles.j0])
      | succ kj7 =>
        have H := HA.out
        clear HA
        simp only [laws_FnExactFewestPiles.j0] at H
        by_cases c24 : x50_7 = true
        rotate_left
        · replace c24 := Bool.eq_false_iff.mpr c24
          subst c24
          have H1 : ((laws_toBoxS.f kj7 l0).bind fun t557 => ((laws_eqBoxS.f kj7 t548 t557).bind fun t560 => (if t560 = true then ((laws_markBoxS.f kj7 t548 1).bind fun bt561 => (if bt561.1 < 0 then (laws_FnExactFewestPiles.j1 kj7 l0 t543 t544 t545 t551 true) else ((laws_eqInt64S.f kj7 t551 t543).bind fun t563 => (if t563 = true then (if t552 = t544 then (laws_FnExactFewestPiles.j1 kj7 l0 t543 t544 t545 t551 (t553 != t545)) else (laws_FnExactFewestPiles.j1 kj7 l0 t543 t544 t545 t551 true)) else (laws_FnExactFewestPiles.j1 kj7 l0 t543 t544 t545 t551 true))))) else (some false)))) = some r := by rw [if_neg (show ¬ (false = true) by decide)] at H; exact H
          clear H
          have H := H1
          clear H1
          replace H := Option.bind_eq_some_iff.mp H
          obtain ⟨t557, A250, H⟩ := H
          replace H : ((laws_eqBoxS.f kj7 t548 t557).bind fun t560 => (if t560 = true then ((laws_markBoxS.f kj7 t548 1).bind fun bt561 => (if bt561.1 < 0 then (laws_FnExactFewestPiles.j1 kj7 l0 t543 t544 t545 t551 true) else ((laws_eqInt64S.f kj7 t551 t543).bind fun t563 => (if t563 = true then (if t552 = t544 then (laws_FnExactFewestPiles.j1 kj7 l0 t543 t544 t545 t551 (t553 != t545)) else (laws_FnExactFewestPiles.j1 kj7 l0 t543 t544 t545 t551 true)) else (laws_FnExactFewestPiles.j1 kj7 l0 t543 t544 t545 t551 true))))) else (some false))) = some r := H
          have A25 := Aside0.mk A250
          clear A250
          replace H := Option.bind_eq_some_iff.mp H
          obtain ⟨t560, A260, H⟩ := H
          replace H : (if t560 = true then ((laws_markBoxS.f kj7 t548 1).bind fun bt561 => (if bt561.1 < 0 then (laws_FnExactFewestPiles.j1 kj7 l0 t543 t544 t545 t551 true) else ((laws_eqInt64S.f kj7 t551 t543).bind fun t563 => (if t563 = true then (if t552 = t544 then (laws_FnExactFewestPiles.j1 kj7 l0 t543 t544 t545 t551 (t553 != t545)) else (laws_FnExactFewestPiles.j1 kj7 l0 t543 t544 t545 t551 true)) else (laws_FnExactFewestPiles.j1 kj7 l0 t543 t544 t545 t551 true))))) else (some false)) = some r := H
          have A26 := Aside0.mk A260
          clear A260
          by_cases c27 : t560 = true
          rotate_left
          · replace c27 := Bool.eq_false_iff.mpr c27
            subst c27
            have H1 : (some false) = some r := by rw [if_neg (show ¬ (false = true) by decide)] at H; exact H
            clear H
            have H := H1
            clear H1
            exact absurd ((Option.some.inj H).trans HLAW.out) (by decide)
          subst c27
          have H1 : ((laws_markBoxS.f kj7 t548 1).bind fun bt561 => (if bt561.1 < 0 then (laws_FnExactFewestPiles.j1 kj7 l0 t543 t544 t545 t551 true) else ((laws_eqInt64S.f kj7 t551 t543).bind fun t563 => (if t563 = true then (if t552 = t544 then (laws_FnExactFewestPiles.j1 kj7 l0 t543 t544 t545 t551 (t553 != t545)) else (laws_FnExactFewestPiles.j1 kj7 l0 t543 t544 t545 t551 true)) else (laws_FnExactFewestPiles.j1 kj7 l0 t543 t544 t545 t551 true))))) = some r := by rw [if_pos rfl] at H; exact H
          clear H
          have H := H1
          clear H1
          replace H := Option.bind_eq_some_iff.mp H
          obtain ⟨⟨t561, t562⟩, A280, H⟩ := H
          replace H : (if t561 < 0 then (laws_FnExactFewestPiles.j1 kj7 l0 t543 t544 t545 t551 true) else ((laws_eqInt64S.f kj7 t551 t543).bind fun t563 => (if t563 = true then (if t552 = t544 then (laws_FnExactFewestPiles.j1 kj7 l0 t543 t544 t545 t551 (t553 != t545)) else (laws_FnExactFewestPiles.j1 kj7 l0 t543 t544 t545 t551 true)) else (laws_FnExactFewestPiles.j1 kj7 l0 t543 t544 t545 t551 true)))) = some r := H
          have A28 := Aside0.mk A280
          clear A280
          have HC29 := Aside0.mk H
          clear H
          go_upto_region 14 with (first | ((with_reducible refine gate_callee (f := 19) rfl ?_); refine goesL_ (some 53) rfl rfl Try.func19 (by kernel_rfl) rfl #[.slice A0 l0.length c0] rfl (by (try simp only [List.map_toArray, List.map_cons, List.map_nil]); first | done | rfl | (simp only [List.length_drop, List.length_take]; rfl)) ?_; (with_reducible refine (laws_toBoxS.calls kj7 _ _ l0 t557 _ ?side1 ?side2 A25.out).mono ?_); (case side1 => repeat (first | exact (Kd.C_below HR0.out HB.out) | (with_reducible refine Kd.C_alloc ?_ _) | (with_reducible refine Kd.C_drewN ?_ _) | (with_reducible refine Kd.C_drew ?_))); (case side2 => exact HC0.out); rintro e w30 ⟨v558, rfl, ho0, hb⟩; refine ⟨_, rfl, ?_⟩; have n0_ := Aside0.mk (Kd.R_below (by (with_reducible repeat (first | apply Kd.R_alloc | apply Kd.R_drewN | apply Kd.R_drew)); exact HO_4.out) hb); have n1_ := Aside0.mk (Kd.R_elder' (by (with_reducible repeat (first | apply Kd.R_alloc | apply Kd.R_drewN | apply Kd.R_drew)); exact HO_7.out) (Kd.R_base ho0) hb); have n2_ := Aside0.mk (Kd.R_below (by (with_reducible repeat (first | apply Kd.R_alloc | apply Kd.R_drewN | apply Kd.R_drew)); exact HO_8.out) hb); have n3_ := Aside0.mk (Kd.R_lower (Kd.R_new' ho0 (Kd.R_lt (by (with_reducible repeat (first | apply Kd.R_alloc | apply Kd.R_drewN | apply Kd.R_drew)); exact HO_7.out))) (below_size (by repeat (first | (with_reducible first | exact HB.out | apply below_alloc | apply pw_below_drewN | apply below_drew1) | exact HB.out)))); have n4_ := Aside0.mk (below_step (by repeat (first | (with_reducible first | exact HB.out | apply below_alloc | apply pw_below_drewN | apply below_drew1) | exact HB.out)) hb); clear HO_4; clear HO_7; clear HO_8; clear HB; have HO_4 := n0_; have HO_7 := n1_; have HO_8 := n2_; have HO559 := n3_; have HB := n4_; clear n0_ n1_ n2_ n3_ n4_; (try clear hb); (try clear hb2); (try clear hk); (try clear hi); (try clear ho0); obtain ⟨Ao31, co31, eo31⟩ := Kd.R_slice HO559.out; subst eo31) | ((with_reducible refine gate_callee (f := 21) rfl ?_); refine goesL_ (some 54) rfl rfl Try.func21 (by kernel_rfl) rfl #[.slice Ao13 t548.length co13, .slice Ao31 t557.length co31] rfl (by (try simp only [List.map_toArray, List.map_cons, List.map_nil]); first | done | rfl | (simp only [List.length_drop, List.length_take]; rfl)) ?_; (with_reducible refine (laws_eqBoxS.calls kj7 _ _ t548 _ _ t557 true _ ?side1 ?side2 ?side3 ?side4 A26.out).mono ?_); (case side1 => repeat (first | exact (Kd.R_reads' HO_7.out).2.2 | (with_reducible refine Kd.C_alloc ?_ _) | (with_reducible refine Kd.C_drewN ?_ _) | (with_reducible refine Kd.C_drew ?_))); (case side2 => exact (Kd.R_reads' HO_7.out).2.1); (case side3 => repeat (first | exact (Kd.R_reads' HO559.out).2.2 | (with_reducible refine Kd.C_alloc ?_ _) | (with_reducible refine Kd.C_drewN ?_ _) | (with_reducible refine Kd.C_drew ?_))); (case side4 => exact (Kd.R_reads' HO559.out).2.1); rintro e w32 ⟨rfl, hb⟩; refine ⟨_, rfl, ?_⟩; have n0_ := Aside0.mk (Kd.R_below (by (with_reducible repeat (first | apply Kd.R_alloc | apply Kd.R_drewN | apply Kd.R_drew)); exact HO_4.out) hb); have n1_ := Aside0.mk (Kd.R_below (by (with_reducible repeat (first | apply Kd.R_alloc | apply Kd.R_drewN | apply Kd.R_drew)); exact HO_7.out) hb); have n2_ := Aside0.mk (Kd.R_below (by (with_reducible repeat (first | apply Kd.R_alloc | apply Kd.R_drewN | apply Kd.R_drew)); exact HO_8.out) hb); have n3_ := Aside0.mk (Kd.R_below (by (with_reducible repeat (first | apply Kd.R_alloc | apply Kd.R_drewN | apply Kd.R_drew)); exact HO559.out) hb); have n4_ := Aside0.mk (below_step (by repeat (first | (with_reducible first | exact HB.out | apply below_alloc | apply pw_below_drewN | apply below_drew1) | exact HB.out)) hb); clear HO_4; clear HO_7; clear HO_8; clear HO559; clear HB; have HO_4 := n0_; have HO_7 := n1_; have HO_8 := n2_; have HO559 := n3_; have HB := n4_; clear n0_ n1_ n2_ n3_ n4_; (try clear hb); (try clear hb2); (try clear hk); (try clear hi)) | ((with_reducible refine gate_callee (f := 22) rfl ?_); refine goesL_ (some 58) rfl rfl Try.func22 (by kernel_rfl) rfl #[.slice Ao13 t548.length co13, .int .i64 1] rfl (by (try simp only [List.map_toArray, List.map_cons, List.map_nil]); first | done | rfl | (simp only [List.length_drop, List.length_take]; rfl)) ?_; (with_reducible refine (laws_markBoxS.calls kj7 (fun k_ => some k_ = (.slice Ao13 t548.length co13 : Value).ownBlock) (.slice Ao13 t548.length co13) t548 1 t561 t562 w _ ?side1 ?side2 A28.out).mono ?_); (case side1 => repeat (first | (with_reducible first | exact HB.out | apply below_alloc | apply pw_below_drewN | apply below_drew1) | exact HB.out)); (case side2 => exact Kd.R_tight rfl HO_7.out); rintro e w33 ⟨rfl, hy0, hb, hkp⟩; refine ⟨_, rfl, ?_⟩; have n0_ := Aside0.mk (Kd.R_mono (ok' := fun k_ => some k_ ≠ (v554 : Value).ownBlock) (Kd.R_keptB ((Kd.R_apart' HO_4.out (Kd.R_typed HO_7.out) (by decide))) hkp (fun k_ hk_ hs_ => (hk_.2) hs_)) (fun k_ hk_ => hk_.1.1)); have n1_ := Aside0.mk (Kd.R_reok rfl hy0 (fun k_ e_ => HO_7.out.1 k_ e_)); have n2_ := Aside0.mk (Kd.R_mono (ok' := fun k_ => some k_ ≠ (v546 : Value).ownBlock) (Kd.R_keptB ((Kd.R_apart' HO_8.out (Kd.R_typed HO_7.out) (by decide))) hkp (fun k_ hk_ hs_ => (hk_.2) hs_)) (fun k_ hk_ => hk_.1.1)); have n3_ := Aside0.mk (Kd.R_mono (ok' := fun k_ => some k_ ≠ (.slice Ao13 t548.length co13 : Value).ownBlock) (Kd.R_keptB (HO559.out) hkp (fun k_ hk_ hs_ => (hk_.2) hs_)) (fun k_ hk_ => hk_.1.2)); have n4_ := Aside0.mk (hb); clear HO_4; clear HO_7; clear HO_8; clear HO559; clear HB; have HO_4 := n0_; have HO_7 := n1_; have HO_8 := n2_; have HO559 := n3_; have HB := n4_; clear n0_ n1_ n2_ n3_ n4_; (try clear hb); (try clear hkp); (try clear hy0)))
          (try simp only [Act.put, List.setIfInBounds_toArray, List.set_cons_zero, List.set_cons_succ])
          go_cut [76] (fun v76 wc => ∃ (kq : Nat) (x76_28 : Bool), v76 = .bool x76_28 ∧ Aside0 (laws_FnExactFewestPiles.j1 kq l0 t543 t544 t545 t551 x76_28 = some r) ∧ Aside0 (kq ≤ kj7) ∧ Aside0 (Kd.R (Kd.int .i64) 2 wc w.heap.size (fun k_ => some k_ ≠ (v554 : Value).ownBlock) v546 t543) ∧ Aside0 (Kd.R (Kd.int .i64) 2 wc w.heap.size (fun k_ => some k_ ≠ (v546 : Value).ownBlock) v554 t551) ∧ Aside0 (Below w.heap.size w wc))
          case first =>
            have H := HC29.out
            clear HC29
            by_cases c34 : t561 < 0
            rotate_left
            · rw [if_neg c34] at H
              have c34b0 : decide (t561 < 0) = false := decide_eq_false c34
              clear c34
              (first | rw [c34b0] | (simp only [i64_w, i32_w]; rw [c34b0]) | skip)
              replace H := Option.bind_eq_some_iff.mp H
              obtain ⟨t563, A350, H⟩ := H
              replace H : (if t563 = true then (if t552 = t544 then (laws_FnExactFewestPiles.j1 kj7 l0 t543 t544 t545 t551 (t553 != t545)) else (laws_FnExactFewestPiles.j1 kj7 l0 t543 t544 t545 t551 true)) else (laws_FnExactFewestPiles.j1 kj7 l0 t543 t544 t545 t551 true)) = some r := H
              have A35 := Aside0.mk A350
              clear A350
              by_cases c36 : t563 = true
              rotate_left
              · replace c36 := Bool.eq_false_iff.mpr c36
                subst c36
                have H1 : (laws_FnExactFewestPiles.j1 kj7 l0 t543 t544 t545 t551 true) = some r := by rw [if_neg (show ¬ (false = true) by decide)] at H; exact H
                clear H
                have H := H1
                clear H1
                have H' := Aside0.mk H
                clear H
                obtain ⟨Ao42, co42, eo42⟩ := Kd.R_slice HO_8.out
                subst eo42
                obtain ⟨Ao43, co43, eo43⟩ := Kd.R_slice HO_4.out
                subst eo43
                go_wp2_with (first | (go_at_call 12; (with_reducible refine (laws_eqInt64S.calls kj7 _ _ t551 _ _ t543 false _ ?side1 ?side2 ?side3 ?side4 A35.out).mono ?_); (case side1 => repeat (first | exact (Kd.R_reads' HO_8.out).2.2 | (with_reducible refine Kd.C_alloc ?_ _) | (with_reducible refine Kd.C_drewN ?_ _) | (with_reducible refine Kd.C_drew ?_))); (case side2 => exact (Kd.R_reads' HO_8.out).2.1); (case side3 => repeat (first | exact (Kd.R_reads' HO_4.out).2.2 | (with_reducible refine Kd.C_alloc ?_ _) | (with_reducible refine Kd.C_drewN ?_ _) | (with_reducible refine Kd.C_drew ?_))); (case side4 => exact (Kd.R_reads' HO_4.out).2.1); rintro e w' ⟨rfl, ⟨nd, rfl⟩⟩))
                go_meet
                case rel => exact ⟨_, (true), (by first | rfl | (simp; done) | (simp [*]; done)), H', ⟨by have := HJ7.out; first | omega | exact Nat.le_refl _⟩, ⟨by (with_reducible repeat (first | apply Kd.R_alloc | apply Kd.R_drewN | apply Kd.R_drew)); exact HO_4.out⟩, ⟨by (with_reducible repeat (first | apply Kd.R_alloc | apply Kd.R_drewN | apply Kd.R_drew)); exact HO_8.out⟩, ⟨by repeat (first | (with_reducible first | exact HB.out | apply below_alloc | apply pw_below_drewN | apply below_drew1) | exact HB.out)⟩⟩
              subst c36
              have H1 : (if t552 = t544 then (laws_FnExactFewestPiles.j1 kj7 l0 t543 t544 t545 t551 (t553 != t545)) else (laws_FnExactFewestPiles.j1 kj7 l0 t543 t544 t545 t551 true)) = some r := by rw [if_pos rfl] at H; exact H
              clear H
              have H := H1
              clear H1
              by_cases c37 : t552 = t544
              rotate_left
              · rw [if_neg c37] at H
                have c37b0 : (t552 == t544) = false := beq_eq_false_iff_ne.mpr c37
                have c37b1 : (t552 != t544) = true := bne_iff_ne.mpr c37
                have H' := Aside0.mk H
                clear H
                obtain ⟨Ao40, co40, eo40⟩ := Kd.R_slice HO_8.out
                subst eo40
                obtain ⟨Ao41, co41, eo41⟩ := Kd.R_slice HO_4.out
                subst eo41
                go_wp2_with (first | (go_at_call 12; (with_reducible refine (laws_eqInt64S.calls kj7 _ _ t551 _ _ t543 true _ ?side1 ?side2 ?side3 ?side4 A35.out).mono ?_); (case side1 => repeat (first | exact (Kd.R_reads' HO_8.out).2.2 | (with_reducible refine Kd.C_alloc ?_ _) | (with_reducible refine Kd.C_drewN ?_ _) | (with_reducible refine Kd.C_drew ?_))); (case side2 => exact (Kd.R_reads' HO_8.out).2.1); (case side3 => repeat (first | exact (Kd.R_reads' HO_4.out).2.2 | (with_reducible refine Kd.C_alloc ?_ _) | (with_reducible refine Kd.C_drewN ?_ _) | (with_reducible refine Kd.C_drew ?_))); (case side4 => exact (Kd.R_reads' HO_4.out).2.1); rintro e w' ⟨rfl, ⟨nd, rfl⟩⟩))
                go_meet
                case rel => exact ⟨_, (true), (by first | rfl | (simp; done) | (simp [*]; done)), H', ⟨by have := HJ7.out; first | omega | exact Nat.le_refl _⟩, ⟨by (with_reducible repeat (first | apply Kd.R_alloc | apply Kd.R_drewN | apply Kd.R_drew)); exact HO_4.out⟩, ⟨by (with_reducible repeat (first | apply Kd.R_alloc | apply Kd.R_drewN | apply Kd.R_drew)); exact HO_8.out⟩, ⟨by repeat (first | (with_reducible first | exact HB.out | apply below_alloc | apply pw_below_drewN | apply below_drew1) | exact HB.out)⟩⟩
              rw [if_pos c37] at H
              have c37b0 : (t552 == t544) = true := beq_iff_eq.mpr c37
              have c37b1 : (t552 != t544) = false := bne_eq_false_iff_eq.mpr c37
              clear c37
              have H' := Aside0.mk H
              clear H
              obtain ⟨Ao38, co38, eo38⟩ := Kd.R_slice HO_8.out
              subst eo38
              obtain ⟨Ao39, co39, eo39⟩ := Kd.R_slice HO_4.out
              subst eo39
              go_wp2_with (first | (go_at_call 12; (with_reducible refine (laws_eqInt64S.calls kj7 _ _ t551 _ _ t543 true _ ?side1 ?side2 ?side3 ?side4 A35.out).mono ?_); (case side1 => repeat (first | exact (Kd.R_reads' HO_8.out).2.2 | (with_reducible refine Kd.C_alloc ?_ _) | (with_reducible refine Kd.C_drewN ?_ _) | (with_reducible refine Kd.C_drew ?_))); (case side2 => exact (Kd.R_reads' HO_8.out).2.1); (case side3 => repeat (first | exact (Kd.R_reads' HO_4.out).2.2 | (with_reducible refine Kd.C_alloc ?_ _) | (with_reducible refine Kd.C_drewN ?_ _) | (with_reducible refine Kd.C_drew ?_))); (case side4 => exact (Kd.R_reads' HO_4.out).2.1); rintro e w' ⟨rfl, ⟨nd, rfl⟩⟩))
              go_meet
              case rel => exact ⟨_, ((t553 != t545)), (by first | rfl | (simp; done) | (simp [*]; done)), H', ⟨by have := HJ7.out; first | omega | exact Nat.le_refl _⟩, ⟨by (with_reducible repeat (first | apply Kd.R_alloc | apply Kd.R_drewN | apply Kd.R_drew)); exact HO_4.out⟩, ⟨by (with_reducible repeat (first | apply Kd.R_alloc | apply Kd.R_drewN | apply Kd.R_drew)); exact HO_8.out⟩, ⟨by repeat (first | (with_reducible first | exact HB.out | apply below_alloc | apply pw_below_drewN | apply below_drew1) | exact HB.out)⟩⟩
            rw [if_pos c34] at H
            have c34b0 : decide (t561 < 0) = true := decide_eq_true c34
            clear c34
            (first | rw [c34b0] | (simp only [i64_w, i32_w]; rw [c34b0]) | skip)
            have H' := Aside0.mk H
            clear H
            go_wp2
            go_meet
            case rel => exact ⟨_, (true), (by first | rfl | (simp; done) | (simp [*]; done)), H', ⟨by have := HJ7.out; first | omega | exact Nat.le_refl _⟩, ⟨by (with_reducible repeat (first | apply Kd.R_alloc | apply Kd.R_drewN | apply Kd.R_drew)); exact HO_4.out⟩, ⟨by (with_reducible repeat (first | apply Kd.R_alloc | apply Kd.R_drewN | apply Kd.R_drew)); exact HO_8.out⟩, ⟨by repeat (first | (with_reducible first | exact HB.out | apply below_alloc | apply pw_below_drewN | apply below_drew1) | exact HB.out)⟩⟩
          case rest =>
            clear HC29
            try clear c1
            try clear c2
            try clear p2
            try clear c3
            try clear c3b0
            try clear c7
            try clear c12
            try clear c16
            try clear c17
            try clear c17b0
            try clear c17b1
            try clear c19
            try clear c21
            try clear c22
            try clear c24
            try clear c25
            try clear c26
            try clear c27
            try clear c34
            try clear c34b0
            try clear c36
            try clear c37
            try clear c37b0
            try clear c37b1
            try clear p2
            obtain ⟨kq, x76_28, rfl, HA, HJ28, HO_4, HO_8, HB⟩ := hcut
            cases kq with
            | zero => exact absurd HA.out (by simp [laws_FnExactFewestPiles.j1])
            | succ kj28 =>
              have H := HA.out
              clear HA
              simp only [laws_FnExactFewestPiles.j1] at H
              by_cases c44 : x76_28 = true
              rotate_left
              · replace c44 := Bool.eq_false_iff.mpr c44
                subst c44
                have H1 : ((laws_markInt64S.f kj28 t551 1).bind fun bt564 => ((laws_heldInt64S.f kj28 bt564.2 1).bind fun t566 => (if t566 < 0 then (some false) else (if t566 = bt564.1 then ((laws_toBoxS.f kj28 l0).bind fun t567 => ((impl_FewestPiles.f kj28 t567).bind fun bt570 => ((laws_eqInt64S.f kj28 bt570.1 t543).bind fun t575 => (if t575 = true then (if bt570.2.1 = t544 then (laws_FnExactFewestPiles.j2 kj28 bt564.2 bt564.1 (bt570.2.2 != t545)) else (laws_FnExactFewestPiles.j2 kj28 bt564.2 bt564.1 true)) else (laws_FnExactFewestPiles.j2 kj28 bt564.2 bt564.1 true))))) else (some false))))) = some r := by rw [if_neg (show ¬ (false = true) by decide)] at H; exact H
                clear H
                have H := H1
                clear H1
                replace H := Option.bind_eq_some_iff.mp H
                obtain ⟨⟨t564, t565⟩, A450, H⟩ := H
                replace H : ((laws_heldInt64S.f kj28 t565 1).bind fun t566 => (if t566 < 0 then (some false) else (if t566 = t564 then ((laws_toBoxS.f kj28 l0).bind fun t567 => ((impl_FewestPiles.f kj28 t567).bind fun bt570 => ((laws_eqInt64S.f kj28 bt570.1 t543).bind fun t575 => (if t575 = true then (if bt570.2.1 = t544 then (laws_FnExactFewestPiles.j2 kj28 t565 t564 (bt570.2.2 != t545)) else (laws_FnExactFewestPiles.j2 kj28 t565 t564 true)) else (laws_FnExactFewestPiles.j2 kj28 t565 t564 true))))) else (some false)))) = some r := H
                have A45 := Aside0.mk A450
                clear A450
                replace H := Option.bind_eq_some_iff.mp H
                obtain ⟨t566, A460, H⟩ := H
                replace H : (if t566 < 0 then (some false) else (if t566 = t564 then ((laws_toBoxS.f kj28 l0).bind fun t567 => ((impl_FewestPiles.f kj28 t567).bind fun bt570 => ((laws_eqInt64S.f kj28 bt570.1 t543).bind fun t575 => (if t575 = true then (if bt570.2.1 = t544 then (laws_FnExactFewestPiles.j2 kj28 t565 t564 (bt570.2.2 != t545)) else (laws_FnExactFewestPiles.j2 kj28 t565 t564 true)) else (laws_FnExactFewestPiles.j2 kj28 t565 t564 true))))) else (some false))) = some r := H
                have A46 := Aside0.mk A460
                clear A460
                by_cases c47 : t566 < 0
                rotate_left
                · rw [if_neg c47] at H
                  have c47b0 : decide (t566 < 0) = false := decide_eq_false c47
                  clear c47
                  by_cases c48 : t566 = t564
                  rotate_left
                  · rw [if_neg c48] at H
                    have c48b0 : (t566 == t564) = false := beq_eq_false_iff_ne.mpr c48
                    have c48b1 : (t566 != t564) = true := bne_iff_ne.mpr c48
                    exact absurd ((Option.some.inj H).trans HLAW.out) (by decide)
                  rw [if_pos c48] at H
                  have c48b0 : (t566 == t564) = true := beq_iff_eq.mpr c48
                  have c48b1 : (t566 != t564) = false := bne_eq_false_iff_eq.mpr c48
                  clear c48
                  replace H := Option.bind_eq_some_iff.mp H
                  obtain ⟨t567, A490, H⟩ := H
                  replace H : ((impl_FewestPiles.f kj28 t567).bind fun bt570 => ((laws_eqInt64S.f kj28 bt570.1 t543).bind fun t575 => (if t575 = true then (if bt570.2.1 = t544 then (laws_FnExactFewestPiles.j2 kj28 t565 t564 (bt570.2.2 != t545)) else (laws_FnExactFewestPiles.j2 kj28 t565 t564 true)) else (laws_FnExactFewestPiles.j2 kj28 t565 t564 true)))) = some r := H
                  have A49 := Aside0.mk A490
                  clear A490
                  replace H := Option.bind_eq_some_iff.mp H
                  obtain ⟨⟨t570, t571, t572⟩, A500, H⟩ := H
                  replace H : ((laws_eqInt64S.f kj28 t570 t543).bind fun t575 => (if t575 = true then (if t571 = t544 then (laws_FnExactFewestPiles.j2 kj28 t565 t564 (t572 != t545)) else (laws_FnExactFewestPiles.j2 kj28 t565 t564 true)) else (laws_FnExactFewestPiles.j2 kj28 t565 t564 true))) = some r := H
                  have A50 := Aside0.mk A500
                  clear A500
                  have HC51 := Aside0.mk H
                  clear H
                  obtain ⟨Ao52, co52, eo52⟩ := Kd.R_slice HO_8.out
                  subst eo52
                  go_upto_region 25 with (first | ((with_reducible refine gate_callee (f := 13) rfl ?_); refine goesL_ (some 79) rfl rfl Try.func13 (by kernel_rfl) rfl #[.slice Ao52 t551.length co52, .int .i64 1] rfl (by (try simp only [List.map_toArray, List.map_cons, List.map_nil]); first | done | rfl | (simp only [List.length_drop, List.length_take]; rfl)) ?_; (with_reducible refine (laws_markInt64S.calls kj28 (fun k_ => some k_ = (.slice Ao52 t551.length co52 : Value).ownBlock) (.slice Ao52 t551.length co52) t551 1 t564 t565 w _ ?side1 ?side2 A45.out).mono ?_); (case side1 => repeat (first | (with_reducible first | exact HB.out | apply below_alloc | apply pw_below_drewN | apply below_drew1) | exact HB.out)); (case side2 => exact Kd.R_tight rfl HO_8.out); rintro e w53 ⟨rfl, hy0, hb, hkp⟩; refine ⟨_, rfl, ?_⟩; have n0_ := Aside0.mk (Kd.R_mono (ok' := fun k_ => some k_ ≠ (.slice Ao52 t551.length co52 : Value).ownBlock) (Kd.R_keptB (HO_4.out) hkp (fun k_ hk_ hs_ => (hk_) hs_)) (fun k_ hk_ => hk_.1)); have n1_ := Aside0.mk (Kd.R_reok rfl hy0 (fun k_ e_ => HO_8.out.1 k_ e_)); have n2_ := Aside0.mk (hb); clear HO_4; clear HO_8; clear HB; have HO_4 := n0_; have HO_8 := n1_; have HB := n2_; clear n0_ n1_ n2_; (try clear hb); (try clear hkp); (try clear hy0)) | ((with_reducible refine gate_callee (f := 14) rfl ?_); refine goesL_ (some 82) rfl rfl Try.func14 (by kernel_rfl) rfl #[.slice Ao52 t565.length co52, .int .i64 1] rfl (by (try simp only [List.map_toArray, List.map_cons, List.map_nil]); first | done | (rw [show t565.length = t551.length from (Kd.R_reads' HO_8.out).1.symm] <;> rfl) | rfl | (simp only [List.length_drop, List.length_take]; rfl)) ?_; (with_reducible refine (laws_heldInt64S.calls kj28 _ _ t565 1 t566 _ ?side1 ?side2 A46.out).mono ?_); (case side1 => repeat (first | exact (Kd.R_reads' HO_8.out).2.2 | (with_reducible refine Kd.C_alloc ?_ _) | (with_reducible refine Kd.C_drewN ?_ _) | (with_reducible refine Kd.C_drew ?_))); (case side2 => rw [show t565.length = t551.length from (Kd.R_reads' HO_8.out).1.symm]; exact (Kd.R_reads' HO_8.out).2.1); rintro e w' ⟨rfl, ⟨nd, rfl⟩⟩; refine ⟨_, rfl, ?_⟩) | ((with_reducible refine gate_callee (f := 19) rfl ?_); refine goesL_ (some 90) rfl rfl Try.func19 (by kernel_rfl) rfl #[.slice A0 l0.length c0] rfl (by (try simp only [List.map_toArray, List.map_cons, List.map_nil]); first | done | rfl | (simp only [List.length_drop, List.length_take]; rfl)) ?_; (with_reducible refine (laws_toBoxS.calls kj28 _ _ l0 t567 _ ?side1 ?side2 A49.out).mono ?_); (case side1 => repeat (first | exact (Kd.C_below HR0.out (by repeat (first | (with_reducible first | exact HB.out | apply below_alloc | apply pw_below_drewN | apply below_drew1) | exact HB.out))) | (with_reducible refine Kd.C_alloc ?_ _) | (with_reducible refine Kd.C_drewN ?_ _) | (with_reducible refine Kd.C_drew ?_))); (case side2 => exact HC0.out); rintro e w54 ⟨v568, rfl, ho0, hb⟩; refine ⟨_, rfl, ?_⟩; have n0_ := Aside0.mk (Kd.R_below (by (with_reducible repeat (first | apply Kd.R_alloc | apply Kd.R_drewN | apply Kd.R_drew)); exact HO_4.out) hb); have n1_ := Aside0.mk (Kd.R_below (by (with_reducible repeat (first | apply Kd.R_alloc | apply Kd.R_drewN | apply Kd.R_drew)); exact HO_8.out) hb); have n2_ := Aside0.mk (Kd.R_lower ho0 (below_size (by repeat (first | (with_reducible first | exact HB.out | apply below_alloc | apply pw_below_drewN | apply below_drew1) | exact HB.out)))); have n3_ := Aside0.mk (below_step (by repeat (first | (with_reducible first | exact HB.out | apply below_alloc | apply pw_below_drewN | apply below_drew1) | exact HB.out)) hb); clear HO_4; clear HO_8; clear HB; have HO_4 := n0_; have HO_8 := n1_; have HO569 := n2_; have HB := n3_; clear n0_ n1_ n2_ n3_; (try clear hb); (try clear hb2); (try clear hk); (try clear hi); (try clear ho0); obtain ⟨Ao55, co55, eo55⟩ := Kd.R_slice HO569.out; subst eo55) | ((with_reducible refine gate_callee (f := 26) rfl ?_); refine goesL_ (some 91) rfl rfl Try.func26 (by kernel_rfl) rfl #[.slice Ao55 t567.length co55] rfl (by (try simp only [List.map_toArray, List.map_cons, List.map_nil]); first | done | rfl | (simp only [List.length_drop, List.length_take]; rfl)) ?_; (with_reducible refine (impl_FewestPiles.calls kj28 _ _ t567 t570 t571 t572 _ ?side1 ?side2 A50.out).mono ?_); (case side1 => repeat (first | exact (Kd.R_reads' HO569.out).2.2 | (with_reducible refine Kd.C_alloc ?_ _) | (with_reducible refine Kd.C_drewN ?_ _) | (with_reducible refine Kd.C_drew ?_))); (case side2 => exact (Kd.R_reads' HO569.out).2.1); rintro e w56 ⟨v573, rfl, ho0, hb⟩; refine ⟨_, rfl, ?_⟩; have n0_ := Aside0.mk (Kd.R_elder' (by (with_reducible repeat (first | apply Kd.R_alloc | apply Kd.R_drewN | apply Kd.R_drew)); exact HO_4.out) (Kd.R_base ho0) hb); have n1_ := Aside0.mk (Kd.R_elder' (by (with_reducible repeat (first | apply Kd.R_alloc | apply Kd.R_drewN | apply Kd.R_drew)); exact HO_8.out) (Kd.R_base ho0) hb); have n2_ := Aside0.mk (Kd.R_below (by (with_reducible repeat (first | apply Kd.R_alloc | apply Kd.R_drewN | apply Kd.R_drew)); exact HO569.out) hb); have n3_ := Aside0.mk (Kd.R_lower (Kd.R_new' (Kd.R_new' ho0 (Kd.R_lt (by (with_reducible repeat (first | apply Kd.R_alloc | apply Kd.R_drewN | apply Kd.R_drew)); exact HO_4.out))) (Kd.R_lt (by (with_reducible repeat (first | apply Kd.R_alloc | apply Kd.R_drewN | apply Kd.R_drew)); exact HO_8.out))) (below_size (by repeat (first | (with_reducible first | exact HB.out | apply below_alloc | apply pw_below_drewN | apply below_drew1) | exact HB.out)))); have n4_ := Aside0.mk (below_step (by repeat (first | (with_reducible first | exact HB.out | apply below_alloc | apply pw_below_drewN | apply below_drew1) | exact HB.out)) hb); clear HO_4; clear HO_8; clear HO569; clear HB; have HO_4 := n0_; have HO_8 := n1_; have HO569 := n2_; have HO574 := n3_; have HB := n4_; clear n0_ n1_ n2_ n3_ n4_; (try clear hb); (try clear hb2); (try clear hk); (try clear hi); (try clear ho0)))
                  (try simp only [Act.put, List.setIfInBounds_toArray, List.set_cons_zero, List.set_cons_succ])
                  go_cut [108] (fun v108 wc => ∃ (kq : Nat) (x108_50 : Bool), v108 = .bool x108_50 ∧ Aside0 (laws_FnExactFewestPiles.j2 kq t565 t564 x108_50 = some r) ∧ Aside0 (kq ≤ kj28) ∧ Aside0 (Kd.R (Kd.int .i64) 2 wc w.heap.size (fun _ => True) (.slice Ao52 t551.length co52) t565) ∧ Aside0 (Below w.heap.size w wc))
                  case first =>
                    have H := HC51.out
                    clear HC51
                    replace H := Option.bind_eq_some_iff.mp H
                    obtain ⟨t575, A570, H⟩ := H
                    replace H : (if t575 = true then (if t571 = t544 then (laws_FnExactFewestPiles.j2 kj28 t565 t564 (t572 != t545)) else (laws_FnExactFewestPiles.j2 kj28 t565 t564 true)) else (laws_FnExactFewestPiles.j2 kj28 t565 t564 true)) = some r := H
                    have A57 := Aside0.mk A570
                    clear A570
                    by_cases c58 : t575 = true
                    rotate_left
                    · replace c58 := Bool.eq_false_iff.mpr c58
                      subst c58
                      have H1 : (laws_FnExactFewestPiles.j2 kj28 t565 t564 true) = some r := by rw [if_neg (show ¬ (false = true) by decide)] at H; exact H
                      clear H
                      have H := H1
                      clear H1
                      have H' := Aside0.mk H
                      clear H
                      obtain ⟨Ao64, co64, eo64⟩ := Kd.R_slice HO574.out
                      subst eo64
                      obtain ⟨Ao65, co65, eo65⟩ := Kd.R_slice HO_4.out
                      subst eo65
                      go_wp2_with (first | ((with_reducible refine gate_callee (f := 12) rfl ?_); refine goesL_ (some 97) rfl rfl Try.func12 (by kernel_rfl) rfl #[.slice Ao64 t570.length co64, .slice Ao65 t543.length co65] rfl (by (try simp only [List.map_toArray, List.map_cons, List.map_nil]); first | done | rfl | (simp only [List.length_drop, List.length_take]; rfl)) ?_; (with_reducible refine (laws_eqInt64S.calls kj28 _ _ t570 _ _ t543 false _ ?side1 ?side2 ?side3 ?side4 A57.out).mono ?_); (case side1 => repeat (first | exact (Kd.R_reads' HO574.out).2.2 | (with_reducible refine Kd.C_alloc ?_ _) | (with_reducible refine Kd.C_drewN ?_ _) | (with_reducible refine Kd.C_drew ?_))); (case side2 => exact (Kd.R_reads' HO574.out).2.1); (case side3 => repeat (first | exact (Kd.R_reads' HO_4.out).2.2 | (with_reducible refine Kd.C_alloc ?_ _) | (with_reducible refine Kd.C_drewN ?_ _) | (with_reducible refine Kd.C_drew ?_))); (case side4 => exact (Kd.R_reads' HO_4.out).2.1); rintro e w' ⟨rfl, ⟨nd, rfl⟩⟩; refine ⟨_, rfl, ?_⟩))
                      go_meet
                      case rel => exact ⟨_, (true), (by first | rfl | (simp; done) | (simp [*]; done)), H', ⟨by have := HJ7.out; have := HJ28.out; first | omega | exact Nat.le_refl _⟩, ⟨by (with_reducible repeat (first | apply Kd.R_alloc | apply Kd.R_drewN | apply Kd.R_drew)); exact Kd.R_mono HO_8.out (fun _ hk => trivial)⟩, ⟨by repeat (first | (with_reducible first | exact HB.out | apply below_alloc | apply pw_below_drewN | apply below_drew1) | exact HB.out)⟩⟩
                    subst c58
                    have H1 : (if t571 = t544 then (laws_FnExactFewestPiles.j2 kj28 t565 t564 (t572 != t545)) else (laws_FnExactFewestPiles.j2 kj28 t565 t564 true)) = some r := by rw [if_pos rfl] at H; exact H
                    clear H
                    have H := H1
                    clear H1
                    by_cases c59 : t571 = t544
                    rotate_left
                    · rw [if_neg c59] at H
                      have c59b0 : (t571 == t544) = false := beq_eq_false_iff_ne.mpr c59
                      have c59b1 : (t571 != t544) = true := bne_iff_ne.mpr c59
                      (first | rw [c59b0] | (simp only [i64_w, i32_w]; rw [c59b0]) | skip)
                      have H' := Aside0.mk H
                      clear H
                      obtain ⟨Ao62, co62, eo62⟩ := Kd.R_slice HO574.out
                      subst eo62
                      obtain ⟨Ao63, co63, eo63⟩ := Kd.R_slice HO_4.out
                      subst eo63
                      go_wp2_with (first | ((with_reducible refine gate_callee (f := 12) rfl ?_); refine goesL_ (some 97) rfl rfl Try.func12 (by kernel_rfl) rfl #[.slice Ao62 t570.length co62, .slice Ao63 t543.length co63] rfl (by (try simp only [List.map_toArray, List.map_cons, List.map_nil]); first | done | rfl | (simp only [List.length_drop, List.length_take]; rfl)) ?_; (with_reducible refine (laws_eqInt64S.calls kj28 _ _ t570 _ _ t543 true _ ?side1 ?side2 ?side3 ?side4 A57.out).mono ?_); (case side1 => repeat (first | exact (Kd.R_reads' HO574.out).2.2 | (with_reducible refine Kd.C_alloc ?_ _) | (with_reducible refine Kd.C_drewN ?_ _) | (with_reducible refine Kd.C_drew ?_))); (case side2 => exact (Kd.R_reads' HO574.out).2.1); (case side3 => repeat (first | exact (Kd.R_reads' HO_4.out).2.2 | (with_reducible refine Kd.C_alloc ?_ _) | (with_reducible refine Kd.C_drewN ?_ _) | (with_reducible refine Kd.C_drew ?_))); (case side4 => exact (Kd.R_reads' HO_4.out).2.1); rintro e w' ⟨rfl, ⟨nd, rfl⟩⟩; refine ⟨_, rfl, ?_⟩))
                      go_meet
                      case rel => exact ⟨_, (true), (by first | rfl | (simp; done) | (simp [*]; done)), H', ⟨by have := HJ7.out; have := HJ28.out; first | omega | exact Nat.le_refl _⟩, ⟨by (with_reducible repeat (first | apply Kd.R_alloc | apply Kd.R_drewN | apply Kd.R_drew)); exact Kd.R_mono HO_8.out (fun _ hk => trivial)⟩, ⟨by repeat (first | (with_reducible first | exact HB.out | apply below_alloc | apply pw_below_drewN | apply below_drew1) | exact HB.out)⟩⟩
                    rw [if_pos c59] at H
                    have c59b0 : (t571 == t544) = true := beq_iff_eq.mpr c59
                    have c59b1 : (t571 != t544) = false := bne_eq_false_iff_eq.mpr c59
                    clear c59
                    (first | rw [c59b0] | (simp only [i64_w, i32_w]; rw [c59b0]) | skip)
                    have H' := Aside0.mk H
                    clear H
                    obtain ⟨Ao60, co60, eo60⟩ := Kd.R_slice HO574.out
                    subst eo60
                    obtain ⟨Ao61, co61, eo61⟩ := Kd.R_slice HO_4.out
                    subst eo61
                    go_wp2_with (first | ((with_reducible refine gate_callee (f := 12) rfl ?_); refine goesL_ (some 97) rfl rfl Try.func12 (by kernel_rfl) rfl #[.slice Ao60 t570.length co60, .slice Ao61 t543.length co61] rfl (by (try simp only [List.map_toArray, List.map_cons, List.map_nil]); first | done | rfl | (simp only [List.length_drop, List.length_take]; rfl)) ?_; (with_reducible refine (laws_eqInt64S.calls kj28 _ _ t570 _ _ t543 true _ ?side1 ?side2 ?side3 ?side4 A57.out).mono ?_); (case side1 => repeat (first | exact (Kd.R_reads' HO574.out).2.2 | (with_reducible refine Kd.C_alloc ?_ _) | (with_reducible refine Kd.C_drewN ?_ _) | (with_reducible refine Kd.C_drew ?_))); (case side2 => exact (Kd.R_reads' HO574.out).2.1); (case side3 => repeat (first | exact (Kd.R_reads' HO_4.out).2.2 | (with_reducible refine Kd.C_alloc ?_ _) | (with_reducible refine Kd.C_drewN ?_ _) | (with_reducible refine Kd.C_drew ?_))); (case side4 => exact (Kd.R_reads' HO_4.out).2.1); rintro e w' ⟨rfl, ⟨nd, rfl⟩⟩; refine ⟨_, rfl, ?_⟩))
                    go_meet
                    case rel => exact ⟨_, ((t572 != t545)), (by first | rfl | (simp; done) | (simp [*]; done)), H', ⟨by have := HJ7.out; have := HJ28.out; first | omega | exact Nat.le_refl _⟩, ⟨by (with_reducible repeat (first | apply Kd.R_alloc | apply Kd.R_drewN | apply Kd.R_drew)); exact Kd.R_mono HO_8.out (fun _ hk => trivial)⟩, ⟨by repeat (first | (with_reducible first | exact HB.out | apply below_alloc | apply pw_below_drewN | apply below_drew1) | exact HB.out)⟩⟩
                  case rest =>
                    clear HC51
                    try clear c1
                    try clear c2
                    try clear p2
                    try clear c3
                    try clear c3b0
                    try clear c4
                    try clear c5
                    try clear c7
                    try clear c12
                    try clear c13
                    try clear c14
                    try clear c16
                    try clear c17
                    try clear c17b0
                    try clear c17b1
                    try clear c19
                    try clear c21
                    try clear c22
                    try clear c24
                    try clear c25
                    try clear c26
                    try clear c27
                    try clear c34
                    try clear c34b0
                    try clear c36
                    try clear c37
                    try clear c37b0
                    try clear c37b1
                    try clear c44
                    try clear c47
                    try clear c47b0
                    try clear c48
                    try clear c48b0
                    try clear c48b1
                    try clear c58
                    try clear c59
                    try clear c59b0
                    try clear c59b1
                    try clear p2
                    obtain ⟨kq, x108_50, rfl, HA, HJ50, HO_8, HB⟩ := hcut
                    have hl8_50 := (Kd.R_reads' HO_8.out).1
                    rw [hl8_50] at HO_8
                    (try simp only [hl8_50])
                    cases kq with
                    | zero => exact absurd HA.out (by simp [laws_FnExactFewestPiles.j2])
                    | succ kj50 =>
                      have H := HA.out
                      clear HA
                      simp only [laws_FnExactFewestPiles.j2] at H
                      by_cases c66 : x108_50 = true
                      rotate_left
                      · replace c66 := Bool.eq_false_iff.mpr c66
                        subst c66
                        have H1 : ((laws_heldInt64S.f kj50 t565 1).bind fun t576 => (if t576 < 0 then (some false) else (if t576 = t564 then (some true) else (some false)))) = some r := by rw [if_neg (show ¬ (false = true) by decide)] at H; exact H
                        clear H
                        have H := H1
                        clear H1
                        replace H := Option.bind_eq_some_iff.mp H
                        obtain ⟨t576, A670, H⟩ := H
                        replace H : (if t576 < 0 then (some false) else (if t576 = t564 then (some true) else (some false))) = some r := H
                        have A67 := Aside0.mk A670
                        clear A670
                        by_cases c68 : t576 < 0
                        rotate_left
                        · rw [if_neg c68] at H
                          have c68b0 : decide (t576 < 0) = false := decide_eq_false c68
                          clear c68
                          by_cases c69 : t576 = t564
                          rotate_left
                          · rw [if_neg c69] at H
                            have c69b0 : (t576 == t564) = false := beq_eq_false_iff_ne.mpr c69
                            have c69b1 : (t576 != t564) = true := bne_iff_ne.mpr c69
                            exact absurd ((Option.some.inj H).trans HLAW.out) (by decide)
                          rw [if_pos c69] at H
                          have c69b0 : (t576 == t564) = true := beq_iff_eq.mpr c69
                          have c69b1 : (t576 != t564) = false := bne_eq_false_iff_eq.mpr c69
                          clear c69
                          obtain rfl := Option.some.inj H
                          go_wp2_with (first | ((with_reducible refine gate_callee (f := 14) rfl ?_); refine goesL_ (some 111) rfl rfl Try.func14 (by kernel_rfl) rfl #[.slice Ao52 t565.length co52, .int .i64 1] rfl (by (try simp only [List.map_toArray, List.map_cons, List.map_nil]); first | done | rfl | (simp only [List.length_drop, List.length_take]; rfl)) ?_; (with_reducible refine (laws_heldInt64S.calls kj50 _ _ t565 1 t576 _ ?side1 ?side2 A67.out).mono ?_); (case side1 => repeat (first | exact (Kd.R_reads' HO_8.out).2.2 | (with_reducible refine Kd.C_alloc ?_ _) | (with_reducible refine Kd.C_drewN ?_ _) | (with_reducible refine Kd.C_drew ?_))); (case side2 => exact (Kd.R_reads' HO_8.out).2.1); rintro e w' ⟨rfl, ⟨nd, rfl⟩⟩; refine ⟨_, rfl, ?_⟩))
                          go_ret
                          exact ⟨by first | rfl | (simp [errW_none, errW_some] <;> rfl) | (simp [*, errW_none, errW_some] <;> rfl), by repeat (first | (with_reducible first | exact HB.out | apply below_alloc | apply pw_below_drewN | apply below_drew1) | exact HB.out)⟩
                        rw [if_pos c68] at H
                        have c68b0 : decide (t576 < 0) = true := decide_eq_true c68
                        clear c68
                        exact absurd ((Option.some.inj H).trans HLAW.out) (by decide)
                      subst c66
                      have H1 : (some false) = some r := by rw [if_pos rfl] at H; exact H
                      clear H
                      have H := H1
                      clear H1
                      exact absurd ((Option.some.inj H).trans HLAW.out) (by decide)
                rw [if_pos c47] at H
                have c47b0 : decide (t566 < 0) = true := decide_eq_true c47
                clear c47
                exact absurd ((Option.some.inj H).trans HLAW.out) (by decide)
              subst c44
              have H1 : (some false) = some r := by rw [if_pos rfl] at H; exact H
              clear H
              have H := H1
              clear H1
              exact absurd ((Option.some.inj H).trans HLAW.out) (by decide)
        subst c24
        have H1 : (some false) = some r := by rw [if_pos rfl] at H; exact H
        clear H
        have H := H1
        clear H1
        exact absurd ((Option.some.inj H).trans HLAW.out) (by decide)
  rw [if_pos c3] at H
  have c3b0 : decide (t539 < 0) = true := decide_eq_true c3
  clear c3
  obtain rfl := Option.some.inj H
  go_enter Try.func7, Try.ntmps7
  go_wp2_with (first | ((with_reducible refine gate_callee (f := 17) rfl ?_); refine goesL_ (some 19) rfl rfl Try.func17 (by kernel_rfl) rfl #[.slice A0 l0.length c0, .int .i64 1048576] rfl (by (try simp only [List.map_toArray, List.map_cons, List.map_nil]); first | done | rfl | (simp only [List.length_drop, List.length_take]; rfl)) ?_; (with_reducible refine (laws_szBoxS.calls _ _ l0 1048576 t539 _ ?side1 ?side2 A2.out).mono ?_); (case side1 => repeat (first | exact HR0.out | (with_reducible refine Kd.C_alloc ?_ _) | (with_reducible refine Kd.C_drewN ?_ _) | (with_reducible refine Kd.C_drew ?_))); (case side2 => exact HC0.out); rintro e w' ⟨rfl, ⟨nd, rfl⟩⟩; refine ⟨_, rfl, ?_⟩))
  go_ret
  exact ⟨by first | rfl | (simp [errW_none, errW_some] <;> rfl) | (simp [*, errW_none, errW_some] <;> rfl), by repeat (first | (with_reducible first | exact HB.out | apply below_alloc | apply pw_below_drewN | apply below_drew1) | exact HB.out)⟩
end Go.Proofs.Ytipdmnibjkdpcaa.P

namespace Go.Proofs.Ytipdmnibjkdpcaa.P
open Go.RowKit Go.Proofs.YtipdmnibjkdpcaaW.PrintWords
def laws_FnExactFewestPiles.Pure : Prop := ∀ (x0 : List (S66)), (x0.length ≤ 9223372036854775807 ∧ ∀ x0_ ∈ x0, ((Lit.int .i8 x0_.f0).wf = true ∧ (Lit.int .i8 x0_.f1).wf = true ∧ (Lit.int .i8 x0_.f2).wf = true)) → ∃ k, laws_FnExactFewestPiles.f k x0 = some true
end Go.Proofs.Ytipdmnibjkdpcaa.P
