/- The Go functions that the law FnExactReadStock comes to, as plain Lean functions, the proofs that calls of them return what those tell, and the plain lemmas on them; no condition but those that each theorem states. -/
import Derived.Test.YtnhcdfikjfjkoaaDoorMReadStock1
import Derived.Test.YtnhcdfikjfjkoaaDoorMReadStock2
import Derived.Lib.ItoaNum
import Derived.Lib.ItoaMem
import Derived.Lib.Join
import Derived.Lib.ParseIntBCases
import Derived.Lib.SplitLaws
import Derived.Lib.Strings
import Derived.Lib.ParseIntBTie
import Derived.Test.YtnhcdfikjfjkoaaDoorCards
import Derived.Lib.LaidTab
import Derived.LaidLaws
import Derived.LaidMore
import Derived.SevenTiedAt
namespace Go.Proofs.YtnhcdfikjfjkoaaDoor.P
open Go.RowKit Go.Proofs.YtnhcdfikjfjkoaaDoorW.PrintWords Go.Proofs.YtnhcdfikjfjkoaaDoorW.PrintLast Go.Proofs.YtnhcdfikjfjkoaaDoorW.PrintMore
attribute [local go_sem] max2_int min2_int max_two min_two max_three min_three max_four min_four   -- for this text's walks alone
set_option linter.unusedVariables false
set_option linter.unusedSimpArgs false

/-! ### spec_Decimal: function 26 -/
def spec_Decimal.f : Nat → Int → Option (ByteArray)
  | 0, _ => none
  | k + 1, a0 => if a0 < 10 then (some (strOfNums (([(wrap64 (48 + (Int.tmod a0 10))) % 256] : List Int)))) else ((spec_Decimal.f k (wrap64 (Int.tdiv a0 10))).bind fun t110 => ((some (([(wrap64 (48 + (Int.tmod a0 10))) % 256] : List Int) : List Int)).bind fun y111 => (if t110.size + (strOfNums y111).size ≤ 9223372036854775807 then (some (t110 ++ (strOfNums y111))) else (none))))
theorem spec_Decimal.mono_l : ∀ k, (∀ y0, LeO (spec_Decimal.f k y0) (spec_Decimal.f (k + 1) y0))
  | 0 => fun _ r h => by simp [spec_Decimal.f] at h
  | k + 1 => by
    have ih0 := spec_Decimal.mono_l k
    · intro y0
      unfold spec_Decimal.f
      repeat' first
      | (with_reducible exact ih0 _)
      | (with_reducible exact LeO.refl _)
      | (with_reducible exact LeO.none _)
      | (with_reducible refine LeO.ite ?_ ?_)
      | (with_reducible refine LeO.bind ?_ (fun _ => ?_))
      | exact ih0 _
      | exact LeO.none _
      | refine LeO.ite ?_ ?_
      | refine LeO.bind ?_ (fun _ => ?_)
theorem spec_Decimal.mono : ∀ a0 k, LeO (spec_Decimal.f k a0) (spec_Decimal.f (k + 1) a0) := by
  intro a0 k
  have ih0 := spec_Decimal.mono_l k
  exact ih0 a0
def spec_Decimal.T3 : Bool × List (List Nat × List Nat) := (true, [([], []), ([0], [0]), ([1], [1]), ([], []), ([3], [3]), ([4], [4]), ([5], [5]), ([6], [6]), ([7], [7]), ([2, 8], [2, 8]), ([9, 2, 0, 1, 2, 3, 4, 5, 6, 7, 8, 9], [9])])
def spec_Decimal.B3 : List Nat := [0, 1, 3, 0, 8, 24, 56, 120, 248, 511, 1023]
theorem spec_Decimal.tab3 : rtab .any (opsOf Tryd.f26 3) = spec_Decimal.T3 := by kernel_rfl
theorem spec_Decimal.bits3 : waitsOk spec_Decimal.T3.2 spec_Decimal.B3 = true := by kernel_rfl
set_option maxHeartbeats 8000000 in
set_option maxRecDepth 100000 in
theorem spec_Decimal.calls (k : Nat) : ∀ (a0 : Int) (r : ByteArray) (w : World) (h : spec_Decimal.f k a0 = some r),
    Calls Tryd.prog 26 #[.int .i64 a0] w fun e w' => e = .returned (.string r) ∧ Below w.heap.size w w' := by
  induction k using Nat.strongRecOn with
  | _ k ih =>
  intro a0 r w h
  cases k with
  | zero => exact absurd h (by simp [spec_Decimal.f])
  | succ k =>
  simp only [spec_Decimal.f] at h
  have HB := Aside0.mk (Below.refl w.heap.size w)
  have H : (if a0 < 10 then (some (strOfNums (([(wrap64 (48 + (Int.tmod a0 10))) % 256] : List Int)))) else ((spec_Decimal.f k (wrap64 (Int.tdiv a0 10))).bind fun t110 => ((some (([(wrap64 (48 + (Int.tmod a0 10))) % 256] : List Int) : List Int)).bind fun y111 => (if t110.size + (strOfNums y111).size ≤ 9223372036854775807 then (some (t110 ++ (strOfNums y111))) else (none))))) = some r := h
  clear h
  by_cases c2 : a0 < 10
  · rw [if_pos c2] at H
    have c2b0 : decide (a0 < 10) = true := decide_eq_true c2
    clear c2
    obtain ⟨y107, hy107⟩ : ∃ y_ : List Int, y_ = (([(wrap64 (48 + (Int.tmod a0 10))) % 256] : List Int)) := ⟨_, rfl⟩
    replace H : (some (strOfNums y107)) = some r := by first | (rw [hy107]; with_reducible exact H) | (have H2_ := (Option.bind_some _ _).symm.trans H; rw [hy107]; with_reducible exact H2_) | (have H2_ := (Option.bind_some _ _).symm.trans H; with_reducible exact H2_) | with_reducible exact H | (rw [hy107]; exact H) | exact H
    have Ny107 := Aside0.mk hy107
    clear hy107
    obtain rfl := Option.some.inj H
    go_enter Tryd.func26, Tryd.ntmps26
    go_wp2_with (first | ((with_reducible refine gate_dst (N := 9) rfl ?_); refine Kd.R_lit (Kd.int .u8) _ 5 ?hg (N := 9) ?hd (xs := ([(wrap64 (48 + (Int.tmod a0 10))) % 256] : List Int)) (inner := [.int .u8 ((wrap64 (48 + (Int.tmod a0 10))) % 256)]) (ok := fun _ => True) (okp := fun _ => True) ?hr ?hp (fun _ hk => hk) trivial (Below.refl _ _) (Nat.le_refl _) (by simp) ?_; (case hd => rfl); (case hg => rfl); (case hr => first | (go_simp; done) | (go_simp; rfl)); (case hp => exact (Reps.one (show Kd.M (Kd.int .u8) _ _ _ ((wrap64 (48 + (Int.tmod a0 10))) % 256) [.int .u8 ((wrap64 (48 + (Int.tmod a0 10))) % 256)] from rfl) (Reps.none _ _))); intro v108 w3 ho4 hb hg_ hnew_; clear hg_ hnew_; (first | rw [← Ny107.out] at ho4 | (simp only [Int.reduceToNat] at ho4; rw [← Ny107.out] at ho4)); have n0_ := Aside0.mk (Kd.R_lower ho4 (below_size (by repeat (first | (with_reducible first | exact HB.out | apply below_alloc | apply pw_below_drewN | apply below_drew1) | exact HB.out)))); have n1_ := Aside0.mk (below_step (by repeat (first | (with_reducible first | exact HB.out | apply below_alloc | apply pw_below_drewN | apply below_drew1) | exact HB.out)) hb); clear HB; have HO109 := n0_; have HB := n1_; clear n0_ n1_; clear hb ho4; have hcv5 := own_string (P := Tryd.prog) Tryd.underlying58 Tryd.underlying5 Tryd.underlying9 (Kd.own_of_R HO109.out)))
    go_ret
    exact ⟨by first | rfl | (simp [errW_none, errW_some] <;> rfl) | (simp [*, errW_none, errW_some] <;> rfl), by repeat (first | (with_reducible first | exact HB.out | apply below_alloc | apply pw_below_drewN | apply below_drew1) | exact HB.out)⟩
  · rw [if_neg c2] at H
    have c2b0 : decide (a0 < 10) = false := decide_eq_false c2
    clear c2
    replace H := Option.bind_eq_some_iff.mp H
    obtain ⟨t110, A60, H⟩ := H
    replace H : ((some (([(wrap64 (48 + (Int.tmod a0 10))) % 256] : List Int) : List Int)).bind fun y111 => (if t110.size + (strOfNums y111).size ≤ 9223372036854775807 then (some (t110 ++ (strOfNums y111))) else (none))) = some r := H
    have A6 := Aside0.mk A60
    clear A60
    obtain ⟨y111, hy111⟩ : ∃ y_ : List Int, y_ = (([(wrap64 (48 + (Int.tmod a0 10))) % 256] : List Int)) := ⟨_, rfl⟩
    replace H : (if t110.size + (strOfNums y111).size ≤ 9223372036854775807 then (some (t110 ++ (strOfNums y111))) else (none)) = some r := by first | (rw [hy111]; with_reducible exact H) | (have H2_ := (Option.bind_some _ _).symm.trans H; rw [hy111]; with_reducible exact H2_) | (have H2_ := (Option.bind_some _ _).symm.trans H; with_reducible exact H2_) | with_reducible exact H | (rw [hy111]; exact H) | exact H
    have Ny111 := Aside0.mk hy111
    clear hy111
    by_cases c7 : t110.size + (strOfNums y111).size ≤ 9223372036854775807
    · rw [if_pos c7] at H
      have c7b0 := eq_true c7
      have c7b1 : decide (t110.size + (strOfNums y111).size ≤ 9223372036854775807) = true := decide_eq_true c7
      try have c7b2 : (9223372036854775807 < t110.size + (strOfNums y111).size) = False := eq_false (Nat.not_lt.2 c7)
      obtain rfl := Option.some.inj H
      go_enter Tryd.func26, Tryd.ntmps26
      try go_wp2
      have n0_ := Aside0.mk (below_drew1 HB.out)
      clear HB
      have HB := n0_
      clear n0_
      refine start_ (n := 11) (S := fun w' => True) (ds := []) #[false, false, false, false, false, false, false, false, false, false, false] (by kernel_rfl) rfl rfl trivial (fun hHeld => ?_); refine with_tabW spec_Decimal.tab3 spec_Decimal.bits3 (fun HT_ HW_ => ?_)
      generalize w.drew = w8 at HB hHeld ⊢
      refine pure_ (i := 0) (N := some 11) (v := ?_) (a' := ?_) #[true, false, false, false, false, false, false, false, false, false, false] rfl rfl (any_of HT_.out (by kernel_rfl)) (fun _ _ _ h => h) (Or.inl ⟨by rfl, ?_⟩) ?_ ?_
      rotate_left
      · intro w'
        go_simp
        with_reducible rfl
      rotate_left
      · simp only [Act.put, List.setIfInBounds_toArray, List.set_cons_zero, List.set_cons_succ, i64_w, i32_w]
        rfl
      refine pure_ (i := 1) (N := some 12) (v := ?_) (a' := ?_) #[true, true, false, false, false, false, false, false, false, false, false] rfl rfl (any_of HT_.out (by kernel_rfl)) (fun _ _ _ h => h) (Or.inl ⟨by rfl, ?_⟩) ?_ ?_
      rotate_left
      · intro w'
        go_simp
        with_reducible rfl
      rotate_left
      · simp only [Act.put, List.setIfInBounds_toArray, List.set_cons_zero, List.set_cons_succ, i64_w, i32_w]
        rfl
      refine pure_ (i := 3) (N := some 14) (v := ?_) (a' := ?_) #[true, true, false, true, false, false, false, false, false, false, false] rfl rfl (any_of HT_.out (by kernel_rfl)) (fun _ _ _ h => h) (Or.inl ⟨by rfl, ?_⟩) ?_ ?_
      rotate_left
      · intro w'
        go_simp
        with_reducible rfl
      rotate_left
      · simp only [Act.put, List.setIfInBounds_toArray, List.set_cons_zero, List.set_cons_succ, i64_w, i32_w]
        rfl
      refine pure_ (i := 4) (N := some 15) (v := ?_) (a' := ?_) #[true, true, false, true, true, false, false, false, false, false, false] rfl rfl (any_of HT_.out (by kernel_rfl)) (fun _ _ _ h => h) (Or.inl ⟨by rfl, ?_⟩) ?_ ?_
      rotate_left
      · intro w'
        go_simp
        with_reducible rfl
      rotate_left
      · simp only [Act.put, List.setIfInBounds_toArray, List.set_cons_zero, List.set_cons_succ, i64_w, i32_w]
        rfl
      refine pure_ (i := 5) (N := some 16) (v := ?_) (a' := ?_) #[true, true, false, true, true, true, false, false, false, false, false] rfl rfl (any_of HT_.out (by kernel_rfl)) (fun _ _ _ h => h) (Or.inl ⟨by rfl, ?_⟩) ?_ ?_
      rotate_left
      · intro w'
        go_simp
        with_reducible rfl
      rotate_left
      · simp only [Act.put, List.setIfInBounds_toArray, List.set_cons_zero, List.set_cons_succ, i64_w, i32_w]
        rfl
      refine pure_ (i := 6) (N := some 17) (v := ?_) (a' := ?_) #[true, true, false, true, true, true, true, false, false, false, false] rfl rfl (any_of HT_.out (by kernel_rfl)) (fun _ _ _ h => h) (Or.inl ⟨by rfl, ?_⟩) ?_ ?_
      rotate_left
      · intro w'
        go_simp
        with_reducible rfl
      rotate_left
      · simp only [Act.put, List.setIfInBounds_toArray, List.set_cons_zero, List.set_cons_succ, i64_w, i32_w]
        rfl
      refine join_ (σ := Value) 2 #[true, true, true, true, true, true, true, true, true, false, false] (fun s_ => [(13, .string t110), (18, s_), (19, .string (strOfNums y111))]) (fun s_ w' => (Kd.R (Kd.int .u8) 5 w' w.heap.size (fun _ => True) s_ y111) ∧ (Below w.heap.size w w')) ?_ ?_
      rotate_left
      · intro hCont
        refine two_ (i := 2) (j := 7) (Ni := some 13) (Nj := some 18) #[true, true, true, true, true, true, true, false, false, false, false] #[true, true, false, true, true, true, true, true, false, false, false] rfl rfl rfl rfl (two_of HT_.out (by kernel_rfl)) (by decide) (by decide) (fun K hK => ?_) (fun K hK => ?_)
        · skip
          refine goes_ Tryd.func26 (by kernel_rfl) rfl #[.int .i64 (wrap64 (Int.tdiv a0 10))] (by rfl) rfl rfl (by (try simp only [List.map_toArray, List.map_cons, List.map_nil]); first | done | rfl | (simp only [List.length_drop, List.length_take]; rfl)) ?_
          with_reducible refine (ih k (by omega) (wrap64 (Int.tdiv a0 10)) t110 _ A6.out).mono ?_
          rintro e w9 ⟨rfl, hb⟩
          refine ⟨_, rfl, ?_⟩
          have n0_ := Aside0.mk (below_step (by repeat (first | (with_reducible first | exact HB.out | apply below_alloc | apply pw_below_drewN | apply below_drew1) | exact HB.out)) hb)
          clear HB
          have HB := n0_
          clear n0_
          (try clear hb)
          (try clear hb2)
          (try clear hk)
          (try clear hi)
          refine hK.out _ _ trivial (fun hHeld => ?_)
          clear hK K
          refine norm_ (a' := ?_) ?_ ?_
          rotate_left
          · show Act.put _ (some 13) _ = _
            simp only [Act.put, List.setIfInBounds_toArray, List.set_cons_zero, List.set_cons_succ, i64_w, i32_w]
            rfl
          refine one_ (i := 7) (N := some 18) #[true, true, true, true, true, true, true, true, false, false, false] rfl rfl (one_of HT_.out (by kernel_rfl)) (by decide) (fun K hK => ?_)
          refine Kd.R_lit_step (Kd.int .u8) _ 5 ?hg (N := 18) ?hd (xs := ([(wrap64 (48 + (Int.tmod a0 10))) % 256] : List Int)) (inner := [.int .u8 ((wrap64 (48 + (Int.tmod a0 10))) % 256)]) (ok := fun _ => True) (okp := fun _ => True) ?hr ?hp (fun _ hk => hk) trivial (Below.refl _ _) (Nat.le_refl _) (by simp) ?_; (case hd => rfl); (case hg => rfl); (case hr => first | (go_simp; done) | (go_simp; rfl)); (case hp => exact (Reps.one (show Kd.M (Kd.int .u8) _ _ _ ((wrap64 (48 + (Int.tmod a0 10))) % 256) [.int .u8 ((wrap64 (48 + (Int.tmod a0 10))) % 256)] from rfl) (Reps.none _ _)))
          intro v112 w10 ho11 hb hg_ hnew_
          clear hg_ hnew_
          (first | rw [← Ny111.out] at ho11 | (simp only [Int.reduceToNat] at ho11; rw [← Ny111.out] at ho11))
          have n0_ := Aside0.mk (Kd.R_lower ho11 (below_size (by repeat (first | (with_reducible first | exact HB.out | apply below_alloc | apply pw_below_drewN | apply below_drew1) | exact HB.out))))
          have n1_ := Aside0.mk (below_step (by repeat (first | (with_reducible first | exact HB.out | apply below_alloc | apply pw_below_drewN | apply below_drew1) | exact HB.out)) hb)
          clear HB
          have HO113 := n0_
          have HB := n1_
          clear n0_ n1_
          clear hb ho11
          refine hK.out _ _ trivial (fun hHeld => ?_)
          clear hK K
          refine norm_ (a' := ?_) ?_ ?_
          rotate_left
          · show Act.put _ (some 18) _ = _
            simp only [Act.put, List.setIfInBounds_toArray, List.set_cons_zero, List.set_cons_succ, i64_w, i32_w]
            rfl
          refine one_ (i := 8) (N := some 19) #[true, true, true, true, true, true, true, true, true, false, false] rfl rfl (one_of HT_.out (by kernel_rfl)) (by decide) (fun K hK => ?_)
          have hcv12 := own_string (P := Tryd.prog) Tryd.underlying58 Tryd.underlying5 Tryd.underlying9 (Kd.own_of_R HO113.out)
          refine value_ (w1 := ?_) (v := ?_) (by rfl) rfl ?_ ?_
          rotate_left 2
          · go_simp
            constructor
            · rfl
            · rfl
          clear hcv12
          refine hK.out _ _ trivial (fun hHeld => ?_)
          clear hK K
          refine norm_ (a' := ?_) ?_ ?_
          rotate_left
          · show Act.put _ (some 19) _ = _
            simp only [Act.put, List.setIfInBounds_toArray, List.set_cons_zero, List.set_cons_succ, i64_w, i32_w]
            rfl
          exact norm_ (by simp only [putAll, Act.put, List.setIfInBounds_toArray, List.set_cons_zero, List.set_cons_succ]) (hCont (v112) _ ⟨(by (with_reducible repeat (first | apply Kd.R_alloc | apply Kd.R_drewN | apply Kd.R_drew)); exact HO113.out), (by repeat (first | (with_reducible first | exact HB.out | apply below_alloc | apply pw_below_drewN | apply below_drew1) | exact HB.out))⟩)
        · skip
          refine Kd.R_lit_step (Kd.int .u8) _ 5 ?hg (N := 18) ?hd (xs := ([(wrap64 (48 + (Int.tmod a0 10))) % 256] : List Int)) (inner := [.int .u8 ((wrap64 (48 + (Int.tmod a0 10))) % 256)]) (ok := fun _ => True) (okp := fun _ => True) ?hr ?hp (fun _ hk => hk) trivial (Below.refl _ _) (Nat.le_refl _) (by simp) ?_; (case hd => rfl); (case hg => rfl); (case hr => first | (go_simp; done) | (go_simp; rfl)); (case hp => exact (Reps.one (show Kd.M (Kd.int .u8) _ _ _ ((wrap64 (48 + (Int.tmod a0 10))) % 256) [.int .u8 ((wrap64 (48 + (Int.tmod a0 10))) % 256)] from rfl) (Reps.none _ _)))
          intro v112 w9 ho10 hb hg_ hnew_
          clear hg_ hnew_
          (first | rw [← Ny111.out] at ho10 | (simp only [Int.reduceToNat] at ho10; rw [← Ny111.out] at ho10))
          have n0_ := Aside0.mk (Kd.R_lower ho10 (below_size (by repeat (first | (with_reducible first | exact HB.out | apply below_alloc | apply pw_below_drewN | apply below_drew1) | exact HB.out))))
          have n1_ := Aside0.mk (below_step (by repeat (first | (with_reducible first | exact HB.out | apply below_alloc | apply pw_below_drewN | apply below_drew1) | exact HB.out)) hb)
          clear HB
          have HO113 := n0_
          have HB := n1_
          clear n0_ n1_
          clear hb ho10
          refine hK.out _ _ trivial (fun hHeld => ?_)
          clear hK K
          refine norm_ (a' := ?_) ?_ ?_
          rotate_left
          · show Act.put _ (some 18) _ = _
            simp only [Act.put, List.setIfInBounds_toArray, List.set_cons_zero, List.set_cons_succ, i64_w, i32_w]
            rfl
          refine two_ (i := 2) (j := 8) (Ni := some 13) (Nj := some 19) #[true, true, true, true, true, true, true, true, false, false, false] #[true, true, false, true, true, true, true, true, true, false, false] rfl rfl rfl rfl (two_of HT_.out (by kernel_rfl)) (by decide) (by decide) (fun K hK => ?_) (fun K hK => ?_)
          · skip
            refine goes_ Tryd.func26 (by kernel_rfl) rfl #[.int .i64 (wrap64 (Int.tdiv a0 10))] (by rfl) rfl rfl (by (try simp only [List.map_toArray, List.map_cons, List.map_nil]); first | done | rfl | (simp only [List.length_drop, List.length_take]; rfl)) ?_
            with_reducible refine (ih k (by omega) (wrap64 (Int.tdiv a0 10)) t110 _ A6.out).mono ?_
            rintro e w11 ⟨rfl, hb⟩
            refine ⟨_, rfl, ?_⟩
            have n0_ := Aside0.mk (Kd.R_below (by (with_reducible repeat (first | apply Kd.R_alloc | apply Kd.R_drewN | apply Kd.R_drew)); exact HO113.out) hb)
            have n1_ := Aside0.mk (below_step (by repeat (first | (with_reducible first | exact HB.out | apply below_alloc | apply pw_below_drewN | apply below_drew1) | exact HB.out)) hb)
            clear HO113
            clear HB
            have HO113 := n0_
            have HB := n1_
            clear n0_ n1_
            (try clear hb)
            (try clear hb2)
            (try clear hk)
            (try clear hi)
            refine hK.out _ _ trivial (fun hHeld => ?_)
            clear hK K
            refine norm_ (a' := ?_) ?_ ?_
            rotate_left
            · show Act.put _ (some 13) _ = _
              simp only [Act.put, List.setIfInBounds_toArray, List.set_cons_zero, List.set_cons_succ, i64_w, i32_w]
              rfl
            refine one_ (i := 8) (N := some 19) #[true, true, true, true, true, true, true, true, true, false, false] rfl rfl (one_of HT_.out (by kernel_rfl)) (by decide) (fun K hK => ?_)
            have hcv12 := own_string (P := Tryd.prog) Tryd.underlying58 Tryd.underlying5 Tryd.underlying9 (Kd.own_of_R HO113.out)
            refine value_ (w1 := ?_) (v := ?_) (by rfl) rfl ?_ ?_
            rotate_left 2
            · go_simp
              constructor
              · rfl
              · rfl
            clear hcv12
            refine hK.out _ _ trivial (fun hHeld => ?_)
            clear hK K
            refine norm_ (a' := ?_) ?_ ?_
            rotate_left
            · show Act.put _ (some 19) _ = _
              simp only [Act.put, List.setIfInBounds_toArray, List.set_cons_zero, List.set_cons_succ, i64_w, i32_w]
              rfl
            exact norm_ (by simp only [putAll, Act.put, List.setIfInBounds_toArray, List.set_cons_zero, List.set_cons_succ]) (hCont (v112) _ ⟨(by (with_reducible repeat (first | apply Kd.R_alloc | apply Kd.R_drewN | apply Kd.R_drew)); exact HO113.out), (by repeat (first | (with_reducible first | exact HB.out | apply below_alloc | apply pw_below_drewN | apply below_drew1) | exact HB.out))⟩)
          · skip
            have hcv11 := own_string (P := Tryd.prog) Tryd.underlying58 Tryd.underlying5 Tryd.underlying9 (Kd.own_of_R HO113.out)
            refine value_ (w1 := ?_) (v := ?_) (by rfl) rfl ?_ ?_
            rotate_left 2
            · go_simp
              constructor
              · rfl
              · rfl
            clear hcv11
            refine hK.out _ _ trivial (fun hHeld => ?_)
            clear hK K
            refine norm_ (a' := ?_) ?_ ?_
            rotate_left
            · show Act.put _ (some 19) _ = _
              simp only [Act.put, List.setIfInBounds_toArray, List.set_cons_zero, List.set_cons_succ, i64_w, i32_w]
              rfl
            refine one_ (i := 2) (N := some 13) #[true, true, true, true, true, true, true, true, true, false, false] rfl rfl (one_of HT_.out (by kernel_rfl)) (by decide) (fun K hK => ?_)
            refine goes_ Tryd.func26 (by kernel_rfl) rfl #[.int .i64 (wrap64 (Int.tdiv a0 10))] (by rfl) rfl rfl (by (try simp only [List.map_toArray, List.map_cons, List.map_nil]); first | done | rfl | (simp only [List.length_drop, List.length_take]; rfl)) ?_
            with_reducible refine (ih k (by omega) (wrap64 (Int.tdiv a0 10)) t110 _ A6.out).mono ?_
            rintro e w12 ⟨rfl, hb⟩
            refine ⟨_, rfl, ?_⟩
            have n0_ := Aside0.mk (Kd.R_below (by (with_reducible repeat (first | apply Kd.R_alloc | apply Kd.R_drewN | apply Kd.R_drew)); exact HO113.out) hb)
            have n1_ := Aside0.mk (below_step (by repeat (first | (with_reducible first | exact HB.out | apply below_alloc | apply pw_below_drewN | apply below_drew1) | exact HB.out)) hb)
            clear HO113
            clear HB
            have HO113 := n0_
            have HB := n1_
            clear n0_ n1_
            (try clear hb)
            (try clear hb2)
            (try clear hk)
            (try clear hi)
            refine hK.out _ _ trivial (fun hHeld => ?_)
            clear hK K
            refine norm_ (a' := ?_) ?_ ?_
            rotate_left
            · show Act.put _ (some 13) _ = _
              simp only [Act.put, List.setIfInBounds_toArray, List.set_cons_zero, List.set_cons_succ, i64_w, i32_w]
              rfl
            exact norm_ (by simp only [putAll, Act.put, List.setIfInBounds_toArray, List.set_cons_zero, List.set_cons_succ]) (hCont (v112) _ ⟨(by (with_reducible repeat (first | apply Kd.R_alloc | apply Kd.R_drewN | apply Kd.R_drew)); exact HO113.out), (by repeat (first | (with_reducible first | exact HB.out | apply below_alloc | apply pw_below_drewN | apply below_drew1) | exact HB.out))⟩)
      rintro v112 w13 ⟨h0_, h1_⟩
      have n0_ : Aside0 (Kd.R (Kd.int .u8) 5 w13 w.heap.size (fun _ => True) v112 y111) := ⟨h0_⟩
      have n1_ : Aside0 (Below w.heap.size w w13) := ⟨h1_⟩
      clear HB
      clear h0_ h1_
      have HO113 := n0_
      have HB := n1_
      clear n0_ n1_
      have hHeld := trivial
      refine norm_ (a' := ?_) ?_ ?_
      rotate_left
      · simp only [putAll, Act.put, List.setIfInBounds_toArray, List.set_cons_zero, List.set_cons_succ]
        rfl
      refine pure_ (i := 9) (N := some 20) (v := ?_) (a' := ?_) #[true, true, true, true, true, true, true, true, true, true, false] rfl rfl (any_of HT_.out (by kernel_rfl)) (fun _ _ _ h => h) (Or.inl ⟨by rfl, ?_⟩) ?_ ?_
      rotate_left
      · intro w'
        go_simp
        with_reducible rfl
      rotate_left
      · simp only [Act.put, List.setIfInBounds_toArray, List.set_cons_zero, List.set_cons_succ, i64_w, i32_w]
        rfl
      refine pure_ (i := 10) (N := some 2) (v := ?_) (a' := ?_) #[true, true, true, true, true, true, true, true, true, true, true] rfl rfl (any_of HT_.out (by kernel_rfl)) (fun _ _ _ h => h) (Or.inl ⟨by rfl, ?_⟩) ?_ ?_
      rotate_left
      · intro w'
        go_simp
        with_reducible rfl
      rotate_left
      · simp only [Act.put, List.setIfInBounds_toArray, List.set_cons_zero, List.set_cons_succ, i64_w, i32_w]
        rfl
      refine done_ (done_of HT_.out (by kernel_rfl)) ?_
      try go_wp2
      go_ret
      exact ⟨by first | rfl | (simp [errW_none, errW_some] <;> rfl) | (simp [*, errW_none, errW_some] <;> rfl), by repeat (first | (with_reducible first | exact HB.out | apply below_alloc | apply pw_below_drewN | apply below_drew1) | exact HB.out)⟩
    · rw [if_neg c7] at H
      exact absurd H (by simp)

end Go.Proofs.YtnhcdfikjfjkoaaDoor.P

namespace Go.Proofs.YtnhcdfikjfjkoaaDoor.Pure
open Go.RowKit Go.Proofs.YtnhcdfikjfjkoaaDoor.P Go.Proofs.YtnhcdfikjfjkoaaDoorW.PrintWords Go.Proofs.YtnhcdfikjfjkoaaDoorW.PrintLast
set_option linter.unusedVariables false
set_option linter.unusedSimpArgs false

/-- A list of bytes as a string. -/
def bsT (l : List UInt8) : ByteArray := ⟨l.toArray⟩
theorem bs_size (l : List UInt8) : (bsT l).size = l.length := by simp [bsT, ByteArray.size]
theorem bs_app (a b : List UInt8) : bsT a ++ bsT b = bsT (a ++ b) := by
  apply ByteArray.ext
  simp [bsT, ByteArray.data_append]
theorem bs_list (a : List UInt8) : (bsT a).data.toList = a := by simp [bsT]
theorem bs_x : (⟨#[120]⟩ : ByteArray) = bsT [120] := rfl
theorem bs_sp : (⟨#[32]⟩ : ByteArray) = bsT [32] := rfl
theorem bs_nil : (⟨#[]⟩ : ByteArray) = bsT [] := rfl
theorem dec_len : ∀ n : Nat, (Lib.decDigits n).length ≤ n + 1 := by
  intro n
  induction n using Nat.strongRecOn with
  | _ n ih =>
    by_cases h : n < 10
    · rw [Lib.decDigits_one h]; simp
    · have := ih (n / 10) (by omega)
      rw [Lib.decDigits, dif_neg h, List.length_append, List.length_singleton]
      omega
theorem one_dig (i : Nat) (h : i < 10) : strOfNums [(wrap64 (48 + (Int.tmod (i : Int) 10))) % 256] = bsT [UInt8.ofNat (48 + i)] := by
  have : (Int.tmod (i : Int) 10) = (i : Int) := by rw [Int.tmod_eq_emod_of_nonneg (by omega)]; omega
  rw [this, w64 (by omega) (by omega), strOfNums, bsT]
  simp only [List.map_cons, List.map_nil]
  congr 4
  omega
theorem decS : ∀ n : Nat, n < 4611686018427387904 → Ev (fun k => spec_Decimal.f k (n : Int)) (bsT (Lib.decDigits n)) := by
  intro n
  induction n using Nat.strongRecOn with
  | _ n ih =>
    intro hn
    by_cases h : n < 10
    · exact Ev.step (f := fun _ => some (bsT (Lib.decDigits n))) (fun k => by
        rw [spec_Decimal.f, if_pos (by omega), one_dig n h, Lib.decDigits_one h]) (Ev.now _)
    · obtain ⟨K, hK⟩ := EvG (ih (n / 10) (by omega) (by omega))
      refine EvI (K + 1) fun k hk => ?_
      obtain ⟨m, rfl⟩ : ∃ m, k = m + 1 := ⟨k - 1, by omega⟩
      have e1 : wrap64 (Int.tdiv (n : Int) 10) = ((n / 10 : Nat) : Int) := by
        rw [Int.tdiv_eq_ediv_of_nonneg (by omega), w64 (by omega) (by omega)]; omega
      have e2 : strOfNums [(wrap64 (48 + (Int.tmod (n : Int) 10))) % 256] = bsT [UInt8.ofNat (48 + n % 10)] := by
        have := one_dig (n % 10) (by omega)
        rw [← this]
        congr 5
        rw [Int.tmod_eq_emod_of_nonneg (by omega), Int.tmod_eq_emod_of_nonneg (by omega)]; omega
      have hd := dec_len (n / 10)
      rw [spec_Decimal.f, if_neg (by omega), e1, hK m (by omega), Option.bind_some, Option.bind_some, e2, if_pos (by rw [bs_size, bs_size, List.length_singleton]; omega), bs_app]
      rw [show Lib.decDigits n = Lib.decDigits (n / 10) ++ [UInt8.ofNat (48 + n % 10)] by rw [Lib.decDigits, dif_neg h]]
theorem decI (n : Nat) (h : n < 4611686018427387904) : impl_decimal.f (n : Int) = some (bsT (Lib.decDigits n)) := by
  rw [impl_decimal.f, if_pos (by omega), if_pos (by omega), Lib.itoa_nonneg]; rfl
/-- A numeral of at most three signs. -/
theorem dd3 {n : Nat} (h : n < 1000) : (Lib.decDigits n).length ≤ 3 := by
  by_cases h1 : n < 10
  · rw [Lib.decDigits_one h1]; simp
  · rw [Lib.decDigits, dif_neg h1, List.length_append, List.length_singleton]
    by_cases h2 : n / 10 < 10
    · rw [Lib.decDigits_one h2]; simp
    · rw [Lib.decDigits_two h2 (by omega)]; simp
theorem join_snoc (sep y : List UInt8) : ∀ xs : List (List UInt8), xs ≠ [] → Lib.join (xs ++ [y]) sep = (Lib.join xs sep ++ sep) ++ y
  | [], h => absurd rfl h
  | x :: r, _ => by
    rw [List.cons_append, Lib.join_cons, Lib.join_cons, Lib.joinTail, Lib.joinTail, List.map_append, List.flatten_append]
    simp

end Go.Proofs.YtnhcdfikjfjkoaaDoor.Pure

namespace Go.Proofs.YtnhcdfikjfjkoaaDoor.Pure
def isDig (c : UInt8) : Prop := 48 ≤ c.toNat ∧ c.toNat ≤ 57
/-- The value of digits behind those that spell acc. -/
def valD (acc : Nat) (l : List UInt8) : Nat := l.foldl (fun a c => a * 10 + (c.toNat - 48)) acc
theorem valD_cons (acc : Nat) (l : List UInt8) (c : UInt8) : valD acc (c :: l) = valD (acc * 10 + (c.toNat - 48)) l := by unfold valD; rw [List.foldl_cons]
theorem valD_nil (acc : Nat) : valD acc [] = acc := by unfold valD; rw [List.foldl_nil]
theorem valD_snoc (c : UInt8) (l : List UInt8) (acc : Nat) : valD acc (l ++ [c]) = valD acc l * 10 + (c.toNat - 48) := by
  unfold valD; rw [List.foldl_append, List.foldl_cons, List.foldl_nil]
theorem valD_ge : ∀ (l : List UInt8) (acc : Nat), acc ≤ valD acc l
  | [], acc => by rw [valD_nil]; exact Nat.le_refl _
  | c :: r, acc => by rw [valD_cons]; exact Nat.le_trans (by omega) (valD_ge r (acc * 10 + (c.toNat - 48)))
theorem dig_byte (c : UInt8) (h : isDig c) : UInt8.ofNat (48 + (c.toNat - 48)) = c := by
  obtain ⟨h0, h1⟩ := h
  rw [show 48 + (c.toNat - 48) = c.toNat by omega, UInt8.ofNat_toNat]
theorem byte_dig {n : Nat} (h : n < 10) : (UInt8.ofNat (48 + n)).toNat = 48 + n := by
  rw [UInt8.toNat_ofNat']; omega
/-- Digits that no zero leads, or one alone. -/
def plainD (l : List UInt8) : Prop := l ≠ [] ∧ (∀ c ∈ l, isDig c) ∧ (1 < l.length → l.head? ≠ some 48)
theorem val_pos {l : List UInt8} (h : l ≠ []) (hd : ∀ c ∈ l, isDig c) (h0 : l.head? ≠ some 48) : 1 ≤ valD 0 l := by
  cases l with
  | nil => exact absurd rfl h
  | cons c r =>
    have hc := hd c List.mem_cons_self
    have hne : c.toNat ≠ 48 := fun e => h0 (by rw [List.head?_cons]; congr 1; exact UInt8.toNat_inj.1 (by rw [e]; rfl))
    rw [valD_cons]
    exact Nat.le_trans (by obtain ⟨a, b⟩ := hc; omega) (valD_ge r _)
theorem dec_val : ∀ (n : Nat) (l : List UInt8), l.length = n → plainD l → Lib.decDigits (valD 0 l) = l := by
  intro n
  induction n with
  | zero => intro l hl h; exact absurd (List.eq_nil_of_length_eq_zero hl) h.1
  | succ n ih =>
    intro l hl ⟨hne, hd, h0⟩
    obtain ⟨r, c, rfl⟩ : ∃ r c, l = r ++ [c] := ⟨l.dropLast, l.getLast hne, (List.dropLast_concat_getLast hne).symm⟩
    have hc := hd c (by simp)
    rw [valD_snoc]
    by_cases hr : r = []
    · subst hr
      rw [valD_nil, Nat.zero_mul, Nat.zero_add, Lib.decDigits_one (by obtain ⟨a, b⟩ := hc; omega), dig_byte c hc, List.nil_append]
    · have hlr : 0 < r.length := List.length_pos_iff.2 hr
      have hh : r.head? ≠ some 48 := by
        have := h0 (by rw [List.length_append, List.length_singleton]; omega)
        cases r with
        | nil => exact absurd rfl hr
        | cons x xs => exact this
      have hdr : ∀ x ∈ r, isDig x := fun x hx => hd x (List.mem_append_left _ hx)
      have hp := val_pos hr hdr hh
      have hcc : c.toNat - 48 < 10 := by obtain ⟨a, b⟩ := hc; omega
      rw [Lib.decDigits, dif_neg (by omega), show (valD 0 r * 10 + (c.toNat - 48)) / 10 = valD 0 r by omega, show (valD 0 r * 10 + (c.toNat - 48)) % 10 = c.toNat - 48 by omega,
        ih r (by rw [List.length_append, List.length_singleton] at hl; omega) ⟨hr, hdr, fun _ => hh⟩, dig_byte c hc]
theorem dec_ne (n : Nat) : Lib.decDigits n ≠ [] := by
  rw [Lib.decDigits]; split
  · exact List.cons_ne_nil _ _
  · exact fun h => by simp at h
theorem dec_dig (n : Nat) : ∀ c ∈ Lib.decDigits n, isDig c := by
  induction n using Nat.strongRecOn with
  | _ n ih =>
    by_cases h : n < 10
    · rw [Lib.decDigits_one h]; intro c hc
      obtain rfl := List.mem_singleton.1 hc
      unfold isDig; rw [byte_dig h]; omega
    · rw [Lib.decDigits, dif_neg h]; intro c hc
      rcases List.mem_append.1 hc with hc | hc
      · exact ih (n / 10) (by omega) c hc
      · obtain rfl := List.mem_singleton.1 hc
        unfold isDig; rw [byte_dig (by omega)]; omega
theorem dec_head (n : Nat) : 1 ≤ n → (Lib.decDigits n).head? ≠ some 48 := by
  induction n using Nat.strongRecOn with
  | _ n ih =>
    intro h1
    by_cases h : n < 10
    · rw [Lib.decDigits_one h, List.head?_cons]; intro e
      have e := congrArg UInt8.toNat (Option.some.inj e)
      rw [byte_dig h] at e
      have : (48 : UInt8).toNat = 48 := rfl
      omega
    · rw [Lib.decDigits, dif_neg h]
      have hi := ih (n / 10) (by omega) (by omega)
      have hn := dec_ne (n / 10)
      cases hq : Lib.decDigits (n / 10) with
      | nil => exact absurd hq hn
      | cons x xs => rw [hq] at hi; exact hi
theorem val_dec (n : Nat) : valD 0 (Lib.decDigits n) = n := by
  induction n using Nat.strongRecOn with
  | _ n ih =>
    by_cases h : n < 10
    · rw [Lib.decDigits_one h, valD_cons, valD_nil, byte_dig h]; omega
    · rw [Lib.decDigits, dif_neg h, valD_snoc, ih (n / 10) (by omega), byte_dig (by omega)]; omega
theorem plain_dec (n : Nat) : plainD (Lib.decDigits n) := by
  refine ⟨dec_ne n, dec_dig n, fun hl => ?_⟩
  by_cases h : n < 10
  · rw [Lib.decDigits_one h] at hl; exact absurd hl (by simp)
  · exact dec_head n (by omega)
theorem val_pow : ∀ (l : List UInt8) (acc : Nat), acc * 10 ^ l.length ≤ valD acc l
  | [], acc => by rw [valD_nil]; simp
  | c :: r, acc => by
    rw [valD_cons, List.length_cons]
    refine Nat.le_trans ?_ (val_pow r (acc * 10 + (c.toNat - 48)))
    rw [Nat.pow_succ', ← Nat.mul_assoc]
    exact Nat.mul_le_mul_right _ (by omega)
/-- A numeral below 1000000000 has at most nine digits. -/
theorem plain_len {l : List UInt8} (h : plainD l) (hv : valD 0 l < 1000000000) : l.length ≤ 9 := by
  obtain ⟨hne, hd, h0⟩ := h
  rcases Nat.lt_or_ge 9 l.length with hl | hl
  · exfalso
    cases l with
    | nil => exact hne rfl
    | cons c r =>
      have hc := hd c List.mem_cons_self
      have hz := h0 (by omega)
      have hn : c.toNat ≠ 48 := fun e => hz (by rw [List.head?_cons]; congr 1; exact UInt8.toNat_inj.1 (by rw [e]; rfl))
      rw [valD_cons] at hv
      have hp := val_pow r (0 * 10 + (c.toNat - 48))
      rw [List.length_cons] at hl
      have h9 : 10 ^ 9 ≤ 10 ^ r.length := Nat.pow_le_pow_right (by decide) (by omega)
      have h1 : 1 ≤ 0 * 10 + (c.toNat - 48) := by obtain ⟨a, b⟩ := hc; omega
      have h2 := Nat.mul_le_mul h1 h9
      omega
  · exact hl
/-- What is read of digits. -/
theorem parse_dig : ∀ (l : List UInt8) (acc : Nat), (∀ c ∈ l, isDig c) → valD acc l < 1000000000000000000 → Lib.parseUintM 18446744073709551615 acc l = .ok (valD acc l)
  | [], acc, _, _ => by rw [valD_nil]; rfl
  | c :: r, acc, hd, hv => by
    have hc := hd c List.mem_cons_self
    rw [valD_cons] at hv ⊢
    have hg := valD_ge r (acc * 10 + (c.toNat - 48))
    rw [Lib.parseUintM, if_pos (show 48 ≤ c.toNat ∧ c.toNat ≤ 57 from hc), if_neg (by omega), if_neg (by omega)]
    exact parse_dig r _ (fun x hx => hd x (List.mem_cons_of_mem _ hx)) hv
theorem parse_plain {l : List UInt8} (h : plainD l) (hv : valD 0 l < 1000000000000000000) : Lib.parseIntB 64 l = .ok (valD 0 l : Int) := by
  obtain ⟨hne, hd, h0⟩ := h
  cases l with
  | nil => exact absurd rfl hne
  | cons c r =>
    have hc := hd c List.mem_cons_self
    rw [Lib.parseIntB_plain 64 c r (by obtain ⟨a, b⟩ := hc; omega) (by obtain ⟨a, b⟩ := hc; omega), Lib.parseUintB, if_neg (by simp), show 2 ^ 64 - 1 = 18446744073709551615 by decide,
      parse_dig _ 0 hd hv]
    show (if 2 ^ (64 - 1) ≤ valD 0 (c :: r) then _ else _) = _
    rw [if_neg (by omega)]
/-- The numeral of a number from 0 on. -/
theorem itoa_nat (n : Nat) : Lib.itoa (n : Int) = Lib.decDigits n := by
  unfold Lib.itoa; rw [if_neg (by omega), Int.toNat_natCast]
/-- A text whose numeral gives the text back, from 0 to a bound. -/
theorem parse_back {l : List UInt8} {v : Int} (h0 : 0 ≤ v) (hi : Lib.itoa v = l) : plainD l ∧ v = (valD 0 l : Nat) := by
  obtain ⟨n, rfl⟩ : ∃ n : Nat, v = n := ⟨v.toNat, by omega⟩
  rw [itoa_nat] at hi; subst hi
  exact ⟨plain_dec n, by rw [val_dec]⟩
end Go.Proofs.YtnhcdfikjfjkoaaDoor.Pure

namespace Go.Proofs.YtnhcdfikjfjkoaaDoor.Pure

/-- The parts of a text between the places where a sign stands. -/
def spl (c : UInt8) : List UInt8 → List (List UInt8)
  | [] => [[]]
  | b :: r => if b = c then [] :: spl c r else (b :: (spl c r).headD []) :: (spl c r).tail
theorem spl_ne (c : UInt8) : ∀ s, spl c s ≠ []
  | [] => by simp [spl]
  | b :: r => by
    unfold spl; split
    · exact List.cons_ne_nil _ _
    · exact List.cons_ne_nil _ _
theorem spl_form (c : UInt8) (s : List UInt8) : ∃ p ps, spl c s = p :: ps := by
  cases h : spl c s with
  | nil => exact absurd h (spl_ne c s)
  | cons p ps => exact ⟨p, ps, rfl⟩
theorem spl_free (c : UInt8) : ∀ (p : List UInt8), c ∉ p → spl c p = [p]
  | [], _ => rfl
  | b :: r, h => by
    rw [spl, if_neg (fun e => h (by rw [e]; exact List.mem_cons_self)), spl_free c r (fun m => h (List.mem_cons_of_mem _ m))]
    rfl
theorem spl_hit (c : UInt8) (s : List UInt8) : ∀ (p : List UInt8), c ∉ p → spl c (p ++ c :: s) = p :: spl c s
  | [], _ => by rw [List.nil_append, spl, if_pos rfl]
  | b :: r, h => by
    rw [List.cons_append, spl, if_neg (fun e => h (by rw [e]; exact List.mem_cons_self)), spl_hit c s r (fun m => h (List.mem_cons_of_mem _ m))]
    rfl
/-- A part is no longer than the whole. -/
theorem spl_len (c : UInt8) : ∀ (s : List UInt8), ∀ p ∈ spl c s, p.length ≤ s.length
  | [], p, h => by
    rw [spl, List.mem_singleton] at h; subst h; exact Nat.le_refl _
  | b :: r, p, h => by
    obtain ⟨q, qs, hq⟩ := spl_form c r
    have ih := spl_len c r
    rw [hq] at ih
    rw [List.length_cons]
    rw [spl] at h
    split at h
    · rcases List.mem_cons.1 h with rfl | h
      · exact Nat.zero_le _
      · rw [hq] at h; exact Nat.le_succ_of_le (ih p h)
    · rw [hq] at h
      rcases List.mem_cons.1 h with rfl | h
      · rw [List.length_cons]; exact Nat.succ_le_succ (ih q List.mem_cons_self)
      · exact Nat.le_succ_of_le (ih p (List.mem_cons_of_mem _ h))
/-- There are at most as many parts as bytes, and one. -/
theorem spl_many (c : UInt8) : ∀ (s : List UInt8), (spl c s).length ≤ s.length + 1
  | [] => by simp [spl]
  | b :: r => by
    have ih := spl_many c r
    obtain ⟨q, qs, hq⟩ := spl_form c r
    rw [spl]
    rw [hq] at ih ⊢
    simp only [List.length_cons] at ih
    split
    · simp only [List.length_cons]; omega
    · simp only [List.length_cons, List.tail_cons]; omega
theorem index_cons (b c : UInt8) (l : List UInt8) (h : b ≠ c) : Lib.index (b :: l) [c] = if Lib.index l [c] == -1 then -1 else Lib.index l [c] + 1 := by
  rw [Lib.index, if_neg]
  simp [List.isPrefixOf, Ne.symm h]
theorem index_here (c : UInt8) (l : List UInt8) : Lib.index (c :: l) [c] = 0 := by
  rw [Lib.index, if_pos]
  simp [List.isPrefixOf]
/-- The library's parts. -/
theorem splitK_eq (c : UInt8) : ∀ s : List UInt8, Lib.splitK [c] 0 (Lib.count s [c]) s = spl c s
  | [] => by
    cases Lib.count [] [c] with
    | zero => rfl
    | succ k => rfl
  | b :: l => by
    have ih := splitK_eq c l
    by_cases h : b = c
    · subst h
      rw [Lib.count_cons_eq, Nat.add_comm, Lib.splitK, index_here, if_neg (by decide), spl, if_pos rfl]
      show _ :: Lib.splitK [b] 0 (Lib.count l [b]) l = _
      rw [ih]
      rfl
    · rw [Lib.count_cons_ne b c l h, spl, if_neg h]
      rw [← ih]
      cases Lib.count l [c] with
      | zero => rfl
      | succ k =>
        rw [Lib.splitK, Lib.splitK, index_cons b c l h]
        have hge := Lib.index_ge l [c]
        by_cases hm : Lib.index l [c] = -1
        · rw [hm]; rfl
        · obtain ⟨j, hj⟩ : ∃ j : Nat, Lib.index l [c] = j := ⟨(Lib.index l [c]).toNat, by omega⟩
          have e1 : (Lib.index l [c] == -1) = false := beq_eq_false_iff_ne.2 hm
          rw [e1, hj]
          have e2 : (((j : Int) + 1) == -1) = false := beq_eq_false_iff_ne.2 (by omega)
          simp only [if_neg Bool.false_ne_true, e2, show ((j : Int) + 1).toNat = j + 1 by omega, Int.toNat_natCast]
          rfl
end Go.Proofs.YtnhcdfikjfjkoaaDoor.Pure

namespace Go.Proofs.YtnhcdfikjfjkoaaDoor.Pure
open Go.RowKit Go.Proofs.YtnhcdfikjfjkoaaDoor.P Go.Proofs.YtnhcdfikjfjkoaaDoorW.PrintWords Go.Proofs.YtnhcdfikjfjkoaaDoorW.PrintLast
set_option linter.unusedVariables false
set_option linter.unusedSimpArgs false

theorem bs_nil_iff (l : List UInt8) : (bsT l).toList = ([] : List UInt8) ↔ l = [] := by
  rw [Lib.toList_data, bs_list]
theorem bt_bs (l : List UInt8) (i : Nat) (h : i < l.length) : bt (bsT l) (i : Int) = ((l.getD i 0).toNat : Int) := by
  have hs : (i : Int).toNat < (bsT l).size := by rw [bs_size, Int.toNat_natCast]; exact h
  unfold bt
  rw [dif_pos hs]
  have : (bsT l)[(i : Int).toNat]'hs = l.getD i 0 := by
    rw [List.getD_eq_getElem?_getD, List.getElem?_eq_getElem h]
    show l.toArray[(i : Int).toNat]'_ = l[i]
    simp only [Int.toNat_natCast, List.getElem_toArray]
    rfl
  rw [this]
theorem drop_at (l : List UInt8) (i : Nat) (h : i < l.length) : l.drop i = l.getD i 0 :: l.drop (i + 1) := by
  rw [List.getD_eq_getElem?_getD, List.getElem?_eq_getElem h]
  exact List.drop_eq_getElem_cons h
theorem getD_bs (l : List (List UInt8)) (i : Nat) (h : i < l.length) : rdOf ByteArray.empty (l.map bsT) (i : Int) = bsT (l.getD i []) := by
  unfold rdOf
  rw [Int.toNat_natCast, List.getD_eq_getElem?_getD, List.getElem?_map, List.getD_eq_getElem?_getD, List.getElem?_eq_getElem h]; rfl
theorem getD_mem' (l : List (List UInt8)) (i : Nat) (h : i < l.length) : l.getD i [] ∈ l := by
  rw [List.getD_eq_getElem?_getD, List.getElem?_eq_getElem h]; exact List.getElem_mem h

/-! ### the reference's number -/
theorem numS_l0 (l : List UInt8) (hl : l.length ≤ 9) : ∀ d i (acc : Nat), l.length - i = d → i ≤ l.length → acc < 10 ^ i →
    ((∀ c ∈ l.drop i, isDig c) → Ev (fun k => spec_l01Number.l0 k (bsT l) (acc : Int) (i : Int)) ((valD acc (l.drop i) : Nat), true)) ∧
    (¬ (∀ c ∈ l.drop i, isDig c) → Ev (fun k => spec_l01Number.l0 k (bsT l) (acc : Int) (i : Int)) (0, false)) := by
  intro d
  induction d with
  | zero =>
    intro i acc hd hi ha
    obtain rfl : i = l.length := by omega
    have e : l.drop l.length = [] := List.drop_length
    rw [e, valD_nil]
    refine ⟨fun _ => Ev.step (f := fun _ => some ((acc : Int), true)) (fun k => ?_) (Ev.now _), fun h => absurd (fun c hc => by cases hc) h⟩
    rw [spec_l01Number.l0, bs_size, if_neg (by omega)]
  | succ d ih =>
    intro i acc hd hi ha
    have hlt : i < l.length := by omega
    rw [drop_at l i hlt, valD_cons]
    have hb := bt_bs l i hlt
    generalize l.getD i 0 = c at hb
    by_cases hc : isDig c
    · obtain ⟨h0, h1⟩ := hc
      have hp : 10 ^ (i + 1) ≤ 10 ^ 9 := Nat.pow_le_pow_right (by decide) (by omega)
      have hs : 10 ^ (i + 1) = 10 ^ i * 10 := Nat.pow_succ 10 i
      have hx : acc * 10 + (c.toNat - 48) < 10 ^ (i + 1) := by omega
      obtain ⟨ih1, ih2⟩ := ih (i + 1) (acc * 10 + (c.toNat - 48)) (by omega) (by omega) hx
      have est : ∀ k, spec_l01Number.l0 (k + 1) (bsT l) (acc : Int) (i : Int) = spec_l01Number.l0 k (bsT l) ((acc * 10 + (c.toNat - 48) : Nat) : Int) ((i + 1 : Nat) : Int) := fun k => by
        rw [spec_l01Number.l0, bs_size, if_pos (by omega), if_pos (by omega), hb, if_neg (by omega), if_neg (by omega), wN i (by omega), w64 (x := 10 * (acc : Int)) (by omega) (by omega), w64 (by omega) (by omega)]
        congr 1; omega
      exact ⟨fun h => Ev.step est (ih1 fun x hx => h x (List.mem_cons_of_mem _ hx)), fun h => Ev.step est (ih2 fun h' => h fun x hx => by
        rcases List.mem_cons.1 hx with rfl | hx
        · exact ⟨h0, h1⟩
        · exact h' x hx)⟩
    · refine ⟨fun h => absurd (h c List.mem_cons_self) hc, fun _ => Ev.step (f := fun _ => some ((0 : Int), false)) (fun k => ?_) (Ev.now _)⟩
      have hc' : ¬ (48 ≤ c.toNat ∧ c.toNat ≤ 57) := hc
      rw [spec_l01Number.l0, bs_size, if_pos (by omega), if_pos (by omega), hb]
      by_cases h0 : (c.toNat : Int) < 48
      · rw [if_pos h0]
      · rw [if_neg h0, if_pos (by omega)]
theorem numS_j (l : List UInt8) (b : Bool) : (b = true → Ev (fun k => spec_l01Number.j0 k (bsT l) b) (0, false)) ∧ (b = false → ∀ r, Ev (fun k => spec_l01Number.l0 k (bsT l) 0 0) r → Ev (fun k => spec_l01Number.j0 k (bsT l) b) r) := by
  refine ⟨fun h => ?_, fun h r hr => ?_⟩
  · subst h
    exact Ev.step (f := fun _ => some ((0 : Int), false)) (fun k => by rw [spec_l01Number.j0, if_pos rfl]) (Ev.now _)
  · subst h
    exact Ev.step (fun k => by rw [spec_l01Number.j0, if_neg (by decide)]) hr
/-- The reference takes numerals of at most nine digits. -/
theorem numS (l : List UInt8) (hb : l.length ≤ 1048576) : (plainD l ∧ l.length ≤ 9 → Ev (fun k => spec_l01Number.f k (bsT l)) ((valD 0 l : Nat), true)) ∧ (¬ (plainD l ∧ l.length ≤ 9) → Ev (fun k => spec_l01Number.f k (bsT l)) (0, false)) := by
  by_cases h0 : l = []
  · refine ⟨fun h => absurd h0 h.1.1, fun _ => Ev.congr (fun k => ?_) ((numS_j l true).1 rfl)⟩
    rw [spec_l01Number.f, if_pos ((bs_nil_iff l).2 h0)]
  have e1 : ∀ k, spec_l01Number.f k (bsT l) = if (l.length : Int) > 9 then (spec_l01Number.j0 k (bsT l) true) else (if 0 < (l.length : Int) then (if (bt (bsT l) 0) = 48 then (spec_l01Number.j0 k (bsT l) (decide ((l.length : Int) > 1))) else (spec_l01Number.j0 k (bsT l) false)) else none) := fun k => by
    rw [spec_l01Number.f, if_neg (fun h => h0 ((bs_nil_iff l).1 h)), bs_size]
  by_cases h9 : l.length ≤ 9
  · have hp : 0 < l.length := List.length_pos_iff.2 h0
    have e2 : bt (bsT l) 0 = ((l.getD 0 0).toNat : Int) := bt_bs l 0 hp
    have hh : l.head? = some (l.getD 0 0) := by cases l with
      | nil => exact absurd rfl h0
      | cons c r => rfl
    have e3 : ∀ k, spec_l01Number.f k (bsT l) = spec_l01Number.j0 k (bsT l) (decide (l.head? = some 48 ∧ 1 < l.length)) := fun k => by
      rw [e1, if_neg (by omega), if_pos (by omega), e2, hh]
      by_cases hz : l.getD 0 0 = 48
      · rw [hz, if_pos (by rfl)]
        congr 1
        by_cases h1 : 1 < l.length
        · rw [decide_eq_true (show (l.length : Int) > 1 by omega), decide_eq_true ⟨rfl, h1⟩]
        · rw [decide_eq_false (show ¬ (l.length : Int) > 1 by omega), decide_eq_false (fun h => h1 h.2)]
      · rw [if_neg (fun e => hz (UInt8.toNat_inj.1 (by have e' : ((l.getD 0 0).toNat : Int) = 48 := e; show (l.getD 0 0).toNat = 48; omega))), decide_eq_false (fun h => hz (Option.some.inj h.1))]
    obtain ⟨s1, s2⟩ := numS_l0 l h9 _ 0 0 rfl (Nat.zero_le _) (by simp)
    rw [List.drop_zero] at s1 s2
    by_cases hz : l.head? = some 48 ∧ 1 < l.length
    · rw [show decide (l.head? = some 48 ∧ 1 < l.length) = true from decide_eq_true hz] at e3
      exact ⟨fun h => absurd hz.1 (h.1.2.2 hz.2), fun _ => Ev.congr e3 ((numS_j l true).1 rfl)⟩
    · rw [show decide (l.head? = some 48 ∧ 1 < l.length) = false from decide_eq_false hz] at e3
      exact ⟨fun h => Ev.congr e3 ((numS_j l false).2 rfl _ (s1 h.1.2.1)), fun h => Ev.congr e3 ((numS_j l false).2 rfl _ (s2 fun hd => h ⟨⟨h0, hd, fun h1 e => hz ⟨e, h1⟩⟩, h9⟩))⟩
  · refine ⟨fun h => absurd h.2 h9, fun _ => Ev.congr (fun k => ?_) ((numS_j l true).1 rfl)⟩
    rw [e1, if_pos (by omega)]

/-! ### the program's number -/
def okN (b : Nat) (l : List UInt8) : Prop := plainD l ∧ valD 0 l ≤ b
theorem numI (b : Nat) (hb : b < 1000000000) (l : List UInt8) (hl : l.length ≤ 1048576) : (okN b l → impl_number.f (bsT l) (b : Int) = some (((valD 0 l : Nat) : Int), true)) ∧ (¬ okN b l → impl_number.f (bsT l) (b : Int) = some (0, false)) := by
  have e0 : ∀ v : Int, impl_within.f v 0 (b : Int) = some (decide (0 ≤ v) && decide (v ≤ (b : Int))) := fun v => by
    unfold impl_within.f; by_cases h : 0 ≤ v <;> simp [h]
  refine ⟨fun h => ?_, fun h => ?_⟩
  · have hd : impl_decimal.f ((valD 0 l : Nat) : Int) = some (bsT l) := by
      rw [decI _ (by have := h.2; omega), dec_val _ l rfl h.1]
    unfold impl_number.f
    rw [if_pos (by rw [bs_size]; exact hl), bs_list, parse_plain h.1 (by have := h.2; omega)]
    simp only [hd, Option.bind_some, if_pos, e0]
    have h2 := h.2
    rw [decide_eq_true (show (0 : Int) ≤ (valD 0 l : Nat) by omega), decide_eq_true (show ((valD 0 l : Nat) : Int) ≤ (b : Int) by omega)]
    rfl
  · unfold impl_number.f
    rw [if_pos (by rw [bs_size]; exact hl), bs_list]
    rcases hp : Lib.parseIntB 64 l with v | _ | _
    rotate_left
    · rfl
    · rfl
    · skip
      have hbd := Lib.parseIntB_bounds hp
      have hd : impl_decimal.f v = some (bsT (Lib.itoa v)) := by
        rw [impl_decimal.f, if_pos (by omega), if_pos (by omega)]; rfl
      simp only [hd, Option.bind_some, e0]
      by_cases hi : Lib.itoa v = l
      · rw [if_pos (by rw [hi])]
        have : ¬ (0 ≤ v ∧ v ≤ (b : Int)) := fun q => h (by
          obtain ⟨p1, p2⟩ := parse_back q.1 hi
          exact ⟨p1, by have := q.2; omega⟩)
        by_cases q0 : 0 ≤ v
        · rw [decide_eq_true q0, decide_eq_false (fun q => this ⟨q0, q⟩)]; rfl
        · rw [decide_eq_false q0]; rfl
      · rw [if_neg (fun e => hi (by rw [Lib.toList_data, Lib.toList_data, bs_list, bs_list] at e; exact e))]

/-! ### the parts -/
theorem splitI (c : UInt8) (s : List UInt8) (hs : s.length ≤ 1048576) : strings_Split.f (bsT s) (bsT [c]) = some ((spl c s).map bsT) := by
  have e : (Lib.splitB (bsT [c]) 0 (Lib.countB (bsT s) (bsT [c])) (bsT s)) = (spl c s).map bsT := by
    have h := Lib.splitB_data (bsT [c]) 0 (Lib.countB (bsT s) (bsT [c])) (bsT s)
    have hc : Lib.countB (bsT s) (bsT [c]) = Lib.count s [c] := by
      show Lib.count (bsT s).data.toList (bsT [c]).data.toList = _
      rw [bs_list, bs_list]
    rw [hc, bs_list, bs_list, splitK_eq] at h
    rw [hc, ← h, List.map_map]
    have : (bsT ∘ fun x : ByteArray => x.data.toList) = id := by
      funext x; simp [bsT]
    rw [this, List.map_id]
  have hle : Lib.countB (bsT s) (bsT [c]) ≤ (bsT s).size := Lib.countB_le (bsT [c]) (by rw [bs_size]; exact Nat.le_refl _) _ (bsT s) (Nat.le_refl _)
  rw [bs_size] at hle
  rw [strings_Split.f, if_pos (by rw [bs_size]; exact hs), if_pos (by rw [bs_size]; exact Nat.le_refl _), if_pos (by omega), e]
theorem bs_extract (s : List UInt8) (a b : Nat) : (bsT s).extract a b = bsT ((s.take b).drop a) := by
  rw [Lib.extract_eq, bs_list, List.drop_take]
  rfl
theorem splitS_l0 (c : UInt8) (s : List UInt8) (hs : s.length ≤ 1048576) : ∀ d i p (out : List (List UInt8)), s.length - i = d → p ≤ i → i ≤ s.length → c ∉ (s.take i).drop p → out.length ≤ i →
    Ev (fun k => spec_l01Split.l0 k (bsT s) (c.toNat : Int) (out.map bsT) (p : Int) (i : Int)) ((out ++ spl c (s.drop p)).map bsT) := by
  intro d
  induction d with
  | zero =>
    intro i p out hd hp hi hc ho
    obtain rfl : i = s.length := by omega
    rw [List.take_length] at hc
    refine Ev.step (f := fun _ => some ((out ++ spl c (s.drop p)).map bsT)) (fun k => ?_) (Ev.now _)
    rw [spec_l01Split.l0, bs_size, if_neg (by omega), if_pos (by omega), if_pos (by omega), if_pos (by rw [List.length_map]; omega), Int.toNat_natCast, bs_extract, List.take_length, spl_free c _ hc, List.map_append]
    rfl
  | succ d ih =>
    intro i p out hd hp hi hc ho
    have hlt : i < s.length := by omega
    have ht : (s.take (i + 1)).drop p = (s.take i).drop p ++ [s.getD i 0] := by
      rw [List.take_add_one, List.getElem?_eq_getElem hlt, List.getD_eq_getElem?_getD, List.getElem?_eq_getElem hlt, List.drop_append_of_le_length (by rw [List.length_take]; omega)]
      rfl
    by_cases hq : s.getD i 0 = c
    · have hsp : spl c (s.drop p) = (s.take i).drop p :: spl c (s.drop (i + 1)) := by
        have : s.drop p = (s.take i).drop p ++ c :: s.drop (i + 1) := by
          conv => lhs; rw [← List.take_append_drop i s]
          rw [List.drop_append_of_le_length (by rw [List.length_take]; omega), drop_at s i hlt, hq]
        rw [this, spl_hit c _ _ hc]
      refine Ev.step (fun k => ?_) (show Ev (fun k => spec_l01Split.l0 k (bsT s) (c.toNat : Int) ((out ++ [(s.take i).drop p]).map bsT) ((i + 1 : Nat) : Int) ((i + 1 : Nat) : Int)) ((out ++ spl c (s.drop p)).map bsT) from by
        have := ih (i + 1) (i + 1) (out ++ [(s.take i).drop p]) (by omega) (Nat.le_refl _) (by omega) (by rw [List.drop_eq_nil_of_le (by rw [List.length_take]; omega)]; exact List.not_mem_nil) (by rw [List.length_append, List.length_singleton]; omega)
        rw [hsp]
        rwa [List.append_assoc] at this)
      rw [spec_l01Split.l0, bs_size, if_pos (by omega), if_pos (by omega), bt_bs s i hlt, hq, if_pos rfl, if_pos (by omega), if_pos (by omega), if_pos (by omega), if_pos (by rw [List.length_map]; omega), Int.toNat_natCast, Int.toNat_natCast, bs_extract, wN i (by omega), List.map_append]
      rfl
    · refine Ev.step (fun k => ?_) (ih (i + 1) p out (by omega) (by omega) (by omega) (by rw [ht]; exact fun h => (List.mem_append.1 h).elim hc fun h => hq (List.mem_singleton.1 h).symm) (by omega))
      rw [spec_l01Split.l0, bs_size, if_pos (by omega), if_pos (by omega), bt_bs s i hlt, if_neg (fun e => hq (UInt8.toNat_inj.1 (by omega))), wN i (by omega)]
theorem splitS (c : UInt8) (s : List UInt8) (hs : s.length ≤ 1048576) : Ev (fun k => spec_l01Split.f k (bsT s) (c.toNat : Int)) ((spl c s).map bsT) := by
  have := splitS_l0 c s hs _ 0 0 [] rfl (Nat.le_refl _) (Nat.zero_le _) (by simp) (Nat.le_refl _)
  rwa [List.drop_zero, List.nil_append] at this

/-! ### the fields -/
theorem fields_l0 (b : Nat) (hb : b < 1000000000) (ps : List (List UInt8)) (hl : ps.length ≤ 1048577) (hp : ∀ p ∈ ps, p.length ≤ 1048576) : ∀ d i (out : List Int), ps.length - i = d → i ≤ ps.length → out = (ps.take i).map (fun p => ((valD 0 p : Nat) : Int)) →
    ((∀ p ∈ ps.drop i, okN b p) → Ev (fun k => impl_fields.l0 k (b : Int) out (ps.map bsT) ((ps.map bsT).length : Int) (i : Int)) (ps.map (fun p => ((valD 0 p : Nat) : Int)), true)) ∧
    (¬ (∀ p ∈ ps.drop i, okN b p) → Ev (fun k => impl_fields.l0 k (b : Int) out (ps.map bsT) ((ps.map bsT).length : Int) (i : Int)) ([], false)) := by
  rw [List.length_map]
  intro d
  induction d with
  | zero =>
    intro i out hd hi ho
    obtain rfl : i = ps.length := by omega
    rw [List.take_length] at ho
    subst ho
    rw [List.drop_length]
    refine ⟨fun _ => Ev.step (f := fun _ => some (ps.map (fun p => ((valD 0 p : Nat) : Int)), true)) (fun k => ?_) (Ev.now _), fun h => absurd (fun c hc => by cases hc) h⟩
    rw [impl_fields.l0, if_neg (by omega)]
  | succ d ih =>
    intro i out hd hi ho
    have hlt : i < ps.length := by omega
    have hdr : ps.drop i = ps.getD i [] :: ps.drop (i + 1) := by
      rw [List.getD_eq_getElem?_getD, List.getElem?_eq_getElem hlt]; exact List.drop_eq_getElem_cons hlt
    have htk : ps.take (i + 1) = ps.take i ++ [ps.getD i []] := by
      rw [List.take_add_one, List.getElem?_eq_getElem hlt, List.getD_eq_getElem?_getD, List.getElem?_eq_getElem hlt]; rfl
    have hq := hp _ (getD_mem' ps i hlt)
    obtain ⟨n1, n2⟩ := numI b hb (ps.getD i []) hq
    have hol : out.length = i := by rw [ho, List.length_map, List.length_take]; omega
    rw [hdr]
    by_cases hk : okN b (ps.getD i [])
    · obtain ⟨i1, i2⟩ := ih (i + 1) (out ++ [((valD 0 (ps.getD i []) : Nat) : Int)]) (by omega) (by omega) (by rw [htk, List.map_append, ← ho]; rfl)
      have est : ∀ k, impl_fields.l0 (k + 1) (b : Int) out (ps.map bsT) (ps.length : Int) (i : Int) = impl_fields.l0 k (b : Int) (out ++ [((valD 0 (ps.getD i []) : Nat) : Int)]) (ps.map bsT) (ps.length : Int) ((i + 1 : Nat) : Int) := fun k => by
        rw [impl_fields.l0, if_pos (by omega), if_pos (by omega), if_pos (by rw [List.length_map]; omega), getD_bs ps i hlt, n1 hk, Option.bind_some, if_pos rfl, if_pos (by omega), wN i (by omega)]
      exact ⟨fun h => Ev.step est (i1 fun p hp' => h p (List.mem_cons_of_mem _ hp')), fun h => Ev.step est (i2 fun h' => h fun p hp' => by
        rcases List.mem_cons.1 hp' with rfl | hp'
        · exact hk
        · exact h' p hp')⟩
    · refine ⟨fun h => absurd (h _ List.mem_cons_self) hk, fun _ => Ev.step (f := fun _ => some (([] : List Int), false)) (fun k => ?_) (Ev.now _)⟩
      rw [impl_fields.l0, if_pos (by omega), if_pos (by omega), if_pos (by rw [List.length_map]; omega), getD_bs ps i hlt, n2 hk, Option.bind_some, if_neg (by decide)]
theorem fieldsI (b : Nat) (hb : b < 1000000000) (s : List UInt8) (hs : s.length ≤ 1048576) :
    ((∀ p ∈ spl 120 s, okN b p) → Ev (fun k => impl_fields.f k (bsT s) (⟨#[120]⟩ : ByteArray) (b : Int)) ((spl 120 s).map (fun p => ((valD 0 p : Nat) : Int)), true)) ∧
    (¬ (∀ p ∈ spl 120 s, okN b p) → Ev (fun k => impl_fields.f k (bsT s) (⟨#[120]⟩ : ByteArray) (b : Int)) ([], false)) := by
  have hl := spl_many 120 s
  obtain ⟨h1, h2⟩ := fields_l0 b hb (spl 120 s) (by omega) (fun p hp => Nat.le_trans (spl_len 120 s p hp) hs) _ 0 [] rfl (Nat.zero_le _) rfl
  rw [List.drop_zero] at h1 h2
  have e : ∀ k, impl_fields.f k (bsT s) (⟨#[120]⟩ : ByteArray) (b : Int) = impl_fields.l0 k (b : Int) ([] : List Int) ((spl 120 s).map bsT) (((spl 120 s).map bsT).length : Int) ((0 : Nat) : Int) := fun k => by
    rw [impl_fields.f, bs_x, splitI 120 s hs, Option.bind_some]; rfl
  exact ⟨fun h => Ev.congr e (h1 h), fun h => Ev.congr e (h2 h)⟩

end Go.Proofs.YtnhcdfikjfjkoaaDoor.Pure

namespace Go.Proofs.YtnhcdfikjfjkoaaDoor.Pure
open Go.RowKit Go.Proofs.YtnhcdfikjfjkoaaDoor.P Go.Proofs.YtnhcdfikjfjkoaaDoorW.PrintWords Go.Proofs.YtnhcdfikjfjkoaaDoorW.PrintLast
set_option linter.unusedVariables false
set_option linter.unusedSimpArgs false

theorem w16 {x : Int} (h0 : 0 ≤ x) (h1 : x ≤ 500) : IntKind.i16.wrap x = x := by
  simp [IntKind.wrap, IntKind.bits, IntKind.signed]; omega
/-- What a word tells: a value and how many. -/
def v0 (p : List UInt8) : Nat := valD 0 ((spl 120 p).getD 0 [])
def v1 (p : List UInt8) : Nat := valD 0 ((spl 120 p).getD 1 [])
/-- The program takes a word. -/
def okP (p : List UInt8) : Prop := (spl 120 p).length = 2 ∧ ∀ q ∈ spl 120 p, okN 500 q
def stP (p : List UInt8) : S36 := ⟨(v0 p : Int), (v1 p : Int)⟩
theorem okP.two {p : List UInt8} (h : okP p) : okN 500 ((spl 120 p).getD 0 []) ∧ okN 500 ((spl 120 p).getD 1 []) :=
  ⟨h.2 _ (getD_mem' _ 0 (by rw [h.1]; decide)), h.2 _ (getD_mem' _ 1 (by rw [h.1]; decide))⟩
theorem two_all {p : List UInt8} (hl : (spl 120 p).length = 2) (h0 : okN 500 ((spl 120 p).getD 0 [])) (h1 : okN 500 ((spl 120 p).getD 1 [])) : okP p := by
  refine ⟨hl, fun q hq => ?_⟩
  obtain ⟨i, hi, rfl⟩ := List.getElem_of_mem hq
  rw [List.getD_eq_getElem?_getD, List.getElem?_eq_getElem (show 0 < (spl 120 p).length by omega)] at h0
  rw [List.getD_eq_getElem?_getD, List.getElem?_eq_getElem (show 1 < (spl 120 p).length by omega)] at h1
  rcases i with _ | _ | i
  · exact h0
  · exact h1
  · omega
/-- A round of the program. -/
theorem rsI_round (out : List S36) (ws : List (List UInt8)) (i : Nat) (hi : i < ws.length) (hw : ∀ p ∈ ws, p.length ≤ 1048576) (hl : ws.length ≤ 1048577) (ho : out.length = i) :
    (okP (ws.getD i []) → ∀ r, Ev (fun k => impl_ReadStock.l0 k (out ++ [stP (ws.getD i [])]) (ws.map bsT) (ws.length : Int) ((i + 1 : Nat) : Int)) r → Ev (fun k => impl_ReadStock.l0 k out (ws.map bsT) (ws.length : Int) (i : Int)) r) ∧
    (¬ okP (ws.getD i []) → Ev (fun k => impl_ReadStock.l0 k out (ws.map bsT) (ws.length : Int) (i : Int)) ([], 5)) := by
  have hp := hw _ (getD_mem' ws i hi)
  generalize hP : ws.getD i [] = p at hp ⊢
  obtain ⟨f1, f2⟩ := fieldsI 500 (by decide) p hp
  have e0 : ∀ k, impl_ReadStock.l0 (k + 1) out (ws.map bsT) (ws.length : Int) (i : Int) = (impl_fields.f k (bsT p) (⟨#[120]⟩ : ByteArray) 500).bind fun bt294 => (if bt294.2 = true then (if (bt294.1.length : Int) = 2 then (if 0 < (bt294.1.length : Int) then (if 1 < (bt294.1.length : Int) then (if out.length < 35184372088832 then (impl_ReadStock.l0 k (out ++ [(⟨IntKind.i16.wrap (rd bt294.1 0), IntKind.i16.wrap (rd bt294.1 1)⟩ : S36)]) (ws.map bsT) (ws.length : Int) (wrap64 ((i : Int) + 1))) else (none)) else (none)) else (none)) else (some (([] : List (S36)), 5))) else (some (([] : List (S36)), 5))) := fun k => by
    rw [impl_ReadStock.l0, if_pos (by omega), if_pos (by omega), if_pos (by rw [List.length_map]; omega), getD_bs ws i hi, hP]
  by_cases ha : ∀ q ∈ spl 120 p, okN 500 q
  · obtain ⟨K, hK⟩ := EvG (f1 ha)
    by_cases h2 : (spl 120 p).length = 2
    · refine ⟨fun hk r hr => ?_, fun h => absurd ⟨h2, ha⟩ h⟩
      obtain ⟨a1, a2⟩ := okP.two hk
      obtain ⟨K2, hr⟩ := EvG hr
      refine EvI (K + K2 + 1) fun k hk' => ?_
      obtain ⟨m, rfl⟩ : ∃ m, k = m + 1 := ⟨k - 1, by omega⟩
      have r0 : rd ((spl 120 p).map (fun p => ((valD 0 p : Nat) : Int))) 0 = (v0 p : Int) := by
        show ((spl 120 p).map (fun p => ((valD 0 p : Nat) : Int))).getD 0 0 = _
        unfold v0
        rw [List.getD_eq_getElem?_getD, List.getElem?_map, List.getD_eq_getElem?_getD, List.getElem?_eq_getElem (by omega)]; rfl
      have r1 : rd ((spl 120 p).map (fun p => ((valD 0 p : Nat) : Int))) 1 = (v1 p : Int) := by
        show ((spl 120 p).map (fun p => ((valD 0 p : Nat) : Int))).getD 1 0 = _
        unfold v1
        rw [List.getD_eq_getElem?_getD, List.getElem?_map, List.getD_eq_getElem?_getD, List.getElem?_eq_getElem (by omega)]; rfl
      have q0 : v0 p ≤ 500 := a1.2
      have q1 : v1 p ≤ 500 := a2.2
      rw [e0, show (500 : Int) = ((500 : Nat) : Int) from rfl, hK m (by omega), Option.bind_some]
      simp only [List.length_map, h2]
      rw [if_pos trivial, if_pos (by decide), if_pos (by decide), if_pos (by decide), if_pos (by omega), r0, r1, w16 (by omega) (by omega), w16 (by omega) (by omega), wN i (by omega)]
      exact hr m (by omega)
    · refine ⟨fun hk => absurd hk.1 h2, fun _ => EvI (K + 1) fun k hk' => ?_⟩
      obtain ⟨m, rfl⟩ : ∃ m, k = m + 1 := ⟨k - 1, by omega⟩
      rw [e0, show (500 : Int) = ((500 : Nat) : Int) from rfl, hK m (by omega), Option.bind_some]
      simp only [List.length_map]
      rw [if_pos trivial, if_neg (by omega)]
  · obtain ⟨K, hK⟩ := EvG (f2 ha)
    refine ⟨fun hk => absurd hk.2 ha, fun _ => EvI (K + 1) fun k hk' => ?_⟩
    obtain ⟨m, rfl⟩ : ∃ m, k = m + 1 := ⟨k - 1, by omega⟩
    rw [e0, show (500 : Int) = ((500 : Nat) : Int) from rfl, hK m (by omega), Option.bind_some]
    rw [if_neg (by decide)]
/-- The reference takes a word. -/
def okR (p : List UInt8) : Prop := okP p ∧ v1 p ≤ 50
theorem rsS_round (out : List S36) (ws : List (List UInt8)) (i : Nat) (hi : i < ws.length) (hw : ∀ p ∈ ws, p.length ≤ 1048576) (hl : ws.length ≤ 1048577) (ho : out.length = i) :
    (okR (ws.getD i []) → ∀ r, Ev (fun k => spec_ReadStock.l0 k (out ++ [stP (ws.getD i [])]) (ws.map bsT) ((i + 1 : Nat) : Int)) r → Ev (fun k => spec_ReadStock.l0 k out (ws.map bsT) (i : Int)) r) ∧
    (¬ okR (ws.getD i []) → Ev (fun k => spec_ReadStock.l0 k out (ws.map bsT) (i : Int)) ([], 5)) := by
  have hp := hw _ (getD_mem' ws i hi)
  generalize hP : ws.getD i [] = p at hp ⊢
  obtain ⟨K0, s0⟩ := EvG (splitS 120 p hp)
  have hpl := spl_len 120 p
  have e0 : ∀ k, K0 ≤ k → spec_ReadStock.l0 (k + 1) out (ws.map bsT) (i : Int) = (if (((spl 120 p).map bsT).length : Int) = 2 then (if 0 < (((spl 120 p).map bsT).length : Int) then ((spec_l01Number.f k (rdOf ByteArray.empty ((spl 120 p).map bsT) 0)).bind fun bt238 => (if 1 < (((spl 120 p).map bsT).length : Int) then ((spec_l01Number.f k (rdOf ByteArray.empty ((spl 120 p).map bsT) 1)).bind fun bt241 => (if bt238.2 = true then (if bt241.2 = true then (if bt238.1 > 500 then (some ((([] : List (S36))), 5)) else (if bt241.1 > 50 then (some ((([] : List (S36))), 5)) else (if out.length < 35184372088832 then (spec_ReadStock.l0 k (out ++ [(⟨IntKind.i16.wrap (bt238.1), IntKind.i16.wrap (bt241.1)⟩ : S36)]) (ws.map bsT) (wrap64 ((i : Int) + 1))) else (none)))) else (some ((([] : List (S36))), 5))) else (some ((([] : List (S36))), 5)))) else (none))) else (none)) else (some ((([] : List (S36))), 5))) := fun k hk => by
    rw [spec_ReadStock.l0, if_pos (by rw [List.length_map]; omega), if_pos (by omega), getD_bs ws i hi, hP]
    have := s0 k hk
    rw [show ((120 : UInt8).toNat : Int) = 120 from rfl] at this
    rw [this, Option.bind_some]
  by_cases h2 : (spl 120 p).length = 2
  · have m0 := getD_mem' (spl 120 p) 0 (by omega)
    have m1 := getD_mem' (spl 120 p) 1 (by omega)
    obtain ⟨na, nb⟩ := numS ((spl 120 p).getD 0 []) (Nat.le_trans (hpl _ m0) hp)
    obtain ⟨nc, nd⟩ := numS ((spl 120 p).getD 1 []) (Nat.le_trans (hpl _ m1) hp)
    have g0 : rdOf ByteArray.empty ((spl 120 p).map bsT) 0 = bsT ((spl 120 p).getD 0 []) := getD_bs (spl 120 p) 0 (by omega)
    have g1 : rdOf ByteArray.empty ((spl 120 p).map bsT) 1 = bsT ((spl 120 p).getD 1 []) := getD_bs (spl 120 p) 1 (by omega)
    have e1 : ∀ k, K0 ≤ k → spec_ReadStock.l0 (k + 1) out (ws.map bsT) (i : Int) = (spec_l01Number.f k (bsT ((spl 120 p).getD 0 []))).bind fun bt238 => (spec_l01Number.f k (bsT ((spl 120 p).getD 1 []))).bind fun bt241 => (if bt238.2 = true then (if bt241.2 = true then (if bt238.1 > 500 then (some ((([] : List (S36))), 5)) else (if bt241.1 > 50 then (some ((([] : List (S36))), 5)) else (spec_ReadStock.l0 k (out ++ [(⟨IntKind.i16.wrap (bt238.1), IntKind.i16.wrap (bt241.1)⟩ : S36)]) (ws.map bsT) ((i + 1 : Nat) : Int)))) else (some ((([] : List (S36))), 5))) else (some ((([] : List (S36))), 5))) := fun k hk => by
      rw [e0 k hk]
      simp only [List.length_map, h2]
      rw [if_pos (by decide), if_pos (by decide), g0, g1, wN i (by omega)]
      simp only [show ((1 : Int) < ((2 : Nat) : Int)) = True from eq_true (by decide), if_true, if_pos (show out.length < 35184372088832 by omega)]
    by_cases c0 : plainD ((spl 120 p).getD 0 []) ∧ ((spl 120 p).getD 0 []).length ≤ 9
    · obtain ⟨K1, na⟩ := EvG (na c0)
      by_cases c1 : plainD ((spl 120 p).getD 1 []) ∧ ((spl 120 p).getD 1 []).length ≤ 9
      · obtain ⟨K2, nc⟩ := EvG (nc c1)
        have e2 : ∀ k, K0 + K1 + K2 ≤ k → spec_ReadStock.l0 (k + 1) out (ws.map bsT) (i : Int) = (if ((v0 p : Nat) : Int) > 500 then (some ((([] : List (S36))), 5)) else (if ((v1 p : Nat) : Int) > 50 then (some ((([] : List (S36))), 5)) else (spec_ReadStock.l0 k (out ++ [(⟨IntKind.i16.wrap ((v0 p : Nat) : Int), IntKind.i16.wrap ((v1 p : Nat) : Int)⟩ : S36)]) (ws.map bsT) ((i + 1 : Nat) : Int)))) := fun k hk => by
          rw [e1 k (by omega), na k (by omega), Option.bind_some, nc k (by omega), Option.bind_some, if_pos rfl, if_pos rfl]; rfl
        by_cases b0 : v0 p ≤ 500
        · by_cases b1 : v1 p ≤ 50
          · refine ⟨fun _ r hr => ?_, fun h => absurd ⟨two_all h2 ⟨c0.1, b0⟩ ⟨c1.1, by unfold v1 at b1; omega⟩, b1⟩ h⟩
            obtain ⟨K3, hr⟩ := EvG hr
            refine EvI (K0 + K1 + K2 + K3 + 1) fun k hk' => ?_
            obtain ⟨m, rfl⟩ : ∃ m, k = m + 1 := ⟨k - 1, by omega⟩
            rw [e2 m (by omega), if_neg (by omega), if_neg (by omega), w16 (by omega) (by omega), w16 (by omega) (by omega)]
            exact hr m (by omega)
          · refine ⟨fun h => absurd h.2 b1, fun _ => EvI (K0 + K1 + K2 + 1) fun k hk' => ?_⟩
            obtain ⟨m, rfl⟩ : ∃ m, k = m + 1 := ⟨k - 1, by omega⟩
            rw [e2 m (by omega), if_neg (by omega), if_pos (by omega)]
        · refine ⟨fun h => absurd (okP.two h.1).1.2 b0, fun _ => EvI (K0 + K1 + K2 + 1) fun k hk' => ?_⟩
          obtain ⟨m, rfl⟩ : ∃ m, k = m + 1 := ⟨k - 1, by omega⟩
          rw [e2 m (by omega), if_pos (by omega)]
      · obtain ⟨K2, nd⟩ := EvG (nd c1)
        refine ⟨fun h => absurd ⟨(okP.two h.1).2.1, plain_len (okP.two h.1).2.1 (by have := (okP.two h.1).2.2; omega)⟩ c1, fun _ => EvI (K0 + K1 + K2 + 1) fun k hk' => ?_⟩
        obtain ⟨m, rfl⟩ : ∃ m, k = m + 1 := ⟨k - 1, by omega⟩
        rw [e1 m (by omega), na m (by omega), Option.bind_some, nd m (by omega), Option.bind_some, if_pos rfl, if_neg (by decide)]
    · obtain ⟨K1, nb⟩ := EvG (nb c0)
      obtain ⟨q, K2, hq⟩ : ∃ q, Ev (fun k => spec_l01Number.f k (bsT ((spl 120 p).getD 1 []))) q := by
        by_cases c1 : plainD ((spl 120 p).getD 1 []) ∧ ((spl 120 p).getD 1 []).length ≤ 9
        · exact ⟨_, nc c1⟩
        · exact ⟨_, nd c1⟩
      refine ⟨fun h => absurd ⟨(okP.two h.1).1.1, plain_len (okP.two h.1).1.1 (by have := (okP.two h.1).1.2; omega)⟩ c0, fun _ => EvI (K0 + K1 + K2 + 1) fun k hk' => ?_⟩
      obtain ⟨m, rfl⟩ : ∃ m, k = m + 1 := ⟨k - 1, by omega⟩
      have hq' : spec_l01Number.f m (bsT ((spl 120 p).getD 1 [])) = some q := hq m (by omega)
      rw [e1 m (by omega), nb m (by omega), Option.bind_some, hq', Option.bind_some, if_neg (by decide)]
  · refine ⟨fun h => absurd h.1.1 h2, fun _ => EvI (K0 + 1) fun k hk' => ?_⟩
    obtain ⟨m, rfl⟩ : ∃ m, k = m + 1 := ⟨k - 1, by omega⟩
    rw [e0 m (by omega), List.length_map, if_neg (by omega)]
theorem Wf.snoc {out : List S36} (h : Wf out) {p : List UInt8} (hp : okP p) : Wf (out ++ [stP p]) := by
  intro x hx
  rcases List.mem_append.1 hx with hx | hx
  · exact h x hx
  · obtain rfl := List.mem_singleton.1 hx
    have a0 : v0 p ≤ 500 := (okP.two hp).1.2
    have a1 : v1 p ≤ 500 := (okP.two hp).2.2
    show (-32768 ≤ (v0 p : Int) ∧ (v0 p : Int) ≤ 32767) ∧ (-32768 ≤ (v1 p : Int) ∧ (v1 p : Int) ≤ 32767)
    omega
/-- A stock with too many of a kind is turned away in the end. -/
theorem rsI_bad (ws : List (List UInt8)) (hw : ∀ p ∈ ws, p.length ≤ 1048576) (hl : ws.length ≤ 1048577) : ∀ d i (out : List S36), ws.length - i = d → i ≤ ws.length → out.length = i → Wf out → (∃ x ∈ out, 50 < x.f1) →
    Ev (fun k => impl_ReadStock.l0 k out (ws.map bsT) (ws.length : Int) (i : Int)) ([], 5) := by
  intro d
  induction d with
  | zero =>
    intro i out hd hi ho hW ⟨x, hx, hb⟩
    obtain rfl : i = ws.length := by omega
    obtain ⟨r, hr0, hs⟩ := implStock out hW (by omega)
    obtain ⟨K, hr⟩ := EvG hr0
    have : r = false := by
      cases r with
      | false => rfl
      | true =>
        obtain ⟨j, hj, rfl⟩ := List.getElem_of_mem hx
        have := ((hs.1 rfl).2.1 j hj).2.2
        rw [getD_eqG z36 out j hj] at this
        omega
    subst this
    refine EvI (K + 1) fun k hk' => ?_
    obtain ⟨m, rfl⟩ : ∃ m, k = m + 1 := ⟨k - 1, by omega⟩
    rw [impl_ReadStock.l0, if_neg (by omega), hr m (by omega), Option.bind_some, if_neg (by decide)]
  | succ d ih =>
    intro i out hd hi ho hW ⟨x, hx, hb⟩
    obtain ⟨h1, h2⟩ := rsI_round out ws i (by omega) hw hl ho
    by_cases hk : okP (ws.getD i [])
    · exact h1 hk _ (ih (i + 1) _ (by omega) (by omega) (by rw [List.length_append, List.length_singleton, ho]) (hW.snoc hk) ⟨x, List.mem_append_left _ hx, hb⟩)
    · exact h2 hk
theorem rsBoth (ws : List (List UInt8)) (hw : ∀ p ∈ ws, p.length ≤ 1048576) (hl : ws.length ≤ 1048577) : ∀ d i (out : List S36), ws.length - i = d → i ≤ ws.length → out.length = i → Wf out →
    ∃ r : List S36 × Int, Ev (fun k => spec_ReadStock.l0 k out (ws.map bsT) (i : Int)) r ∧ Ev (fun k => impl_ReadStock.l0 k out (ws.map bsT) (ws.length : Int) (i : Int)) r ∧ r.1.length ≤ 1048577 := by
  intro d
  induction d with
  | zero =>
    intro i out hd hi ho hW
    obtain rfl : i = ws.length := by omega
    obtain ⟨r, h10, h20, _⟩ := bothStock out hW (by omega)
    obtain ⟨K1, h1⟩ := EvG h10
    obtain ⟨K2, h2⟩ := EvG h20
    have s1 : ∀ k, K1 ≤ k → spec_ReadStock.l0 (k + 1) out (ws.map bsT) ((ws.length : Nat) : Int) = if r = true then some (out, 0) else some ([], 5) := fun k hk => by
      rw [spec_ReadStock.l0, if_neg (by rw [List.length_map]; omega), h1 k hk, Option.bind_some]
    have s2 : ∀ k, K2 ≤ k → impl_ReadStock.l0 (k + 1) out (ws.map bsT) ((ws.length : Nat) : Int) ((ws.length : Nat) : Int) = if r = true then some (out, 0) else some ([], 5) := fun k hk => by
      rw [impl_ReadStock.l0, if_neg (by omega), h2 k hk, Option.bind_some]
    cases r with
    | true =>
      refine ⟨(out, 0), EvI (K1 + 1) fun k hk => ?_, EvI (K2 + 1) fun k hk => ?_, (by show out.length ≤ 1048577; omega)⟩
      · obtain ⟨m, rfl⟩ : ∃ m, k = m + 1 := ⟨k - 1, by omega⟩
        rw [s1 m (by omega), if_pos rfl]
      · obtain ⟨m, rfl⟩ : ∃ m, k = m + 1 := ⟨k - 1, by omega⟩
        rw [s2 m (by omega), if_pos rfl]
    | false =>
      refine ⟨([], 5), EvI (K1 + 1) fun k hk => ?_, EvI (K2 + 1) fun k hk => ?_, Nat.zero_le _⟩
      · obtain ⟨m, rfl⟩ : ∃ m, k = m + 1 := ⟨k - 1, by omega⟩
        rw [s1 m (by omega), if_neg (by decide)]
      · obtain ⟨m, rfl⟩ : ∃ m, k = m + 1 := ⟨k - 1, by omega⟩
        rw [s2 m (by omega), if_neg (by decide)]
  | succ d ih =>
    intro i out hd hi ho hW
    obtain ⟨h1, h2⟩ := rsI_round out ws i (by omega) hw hl ho
    obtain ⟨h3, h4⟩ := rsS_round out ws i (by omega) hw hl ho
    by_cases hk : okP (ws.getD i [])
    · by_cases hv : v1 (ws.getD i []) ≤ 50
      · obtain ⟨r, a, b, c⟩ := ih (i + 1) _ (by omega) (by omega) (by rw [List.length_append, List.length_singleton, ho]) (hW.snoc hk)
        exact ⟨r, h3 ⟨hk, hv⟩ r a, h1 hk r b, c⟩
      · refine ⟨([], 5), h4 (fun h => hv h.2), h1 hk _ (rsI_bad ws hw hl d (i + 1) _ (by omega) (by omega) (by rw [List.length_append, List.length_singleton, ho]) (hW.snoc hk) ⟨stP (ws.getD i []), List.mem_append_right _ (List.mem_singleton.2 rfl), ?_⟩), Nat.zero_le _⟩
        show (50 : Int) < (v1 (ws.getD i []) : Nat)
        omega
    · exact ⟨([], 5), h4 (fun h => hk h.1), h2 hk, Nat.zero_le _⟩
theorem readBoth (s : List UInt8) (hs : s.length ≤ 1048576) : ∃ r : List S36 × Int, Ev (fun k => spec_ReadStock.f k (bsT s)) r ∧ Ev (fun k => impl_ReadStock.f k (bsT s)) r ∧ r.1.length ≤ 1048577 := by
  by_cases h0 : s = []
  · refine ⟨([], 0), EvI 0 fun k _ => ?_, EvI 0 fun k _ => ?_, Nat.zero_le _⟩
    · rw [spec_ReadStock.f, Option.bind_some, if_pos ((bs_nil_iff s).2 h0)]
    · rw [impl_ReadStock.f, Option.bind_some, if_pos ((bs_nil_iff s).2 h0)]
  · have hm := spl_many 32 s
    obtain ⟨r, a, b, c⟩ := rsBoth (spl 32 s) (fun p hp => Nat.le_trans (spl_len 32 s p hp) hs) (by omega) _ 0 [] rfl (Nat.zero_le _) rfl (fun x hx => by cases hx)
    obtain ⟨K1, a⟩ := EvG a
    obtain ⟨K0, h0'⟩ := EvG (splitS 32 s hs)
    refine ⟨r, EvI (K0 + K1) fun k hk => ?_, Ev.congr (fun k => ?_) b, c⟩
    · have := h0' k (by omega)
      rw [show ((32 : UInt8).toNat : Int) = 32 from rfl] at this
      rw [spec_ReadStock.f, Option.bind_some, if_neg (fun h => h0 ((bs_nil_iff s).1 h)), this, Option.bind_some]
      exact a k (by omega)
    · rw [impl_ReadStock.f, Option.bind_some, if_neg (fun h => h0 ((bs_nil_iff s).1 h)), bs_sp, splitI 32 s hs, Option.bind_some, List.length_map]; rfl
theorem FnExactReadStock : laws_FnExactReadStock.Pure := by
  intro a0 ha
  by_cases hs : a0.size ≤ 1048576
  · obtain ⟨s, rfl⟩ : ∃ s, a0 = bsT s := ⟨a0.data.toList, by simp [bsT]⟩
    rw [bs_size] at hs
    obtain ⟨⟨g, c⟩, h10, h20, h3⟩ := readBoth s hs
    obtain ⟨K1, h1⟩ := EvG h10
    obtain ⟨K2, h2⟩ := EvG h20
    simp only at h3
    obtain ⟨K3, h4⟩ := EvG (eqS g (by omega))
    obtain ⟨K4, h5⟩ := EvG (markS g (by omega))
    obtain ⟨K5, h6⟩ := EvG (heldS g.length (by omega))
    refine ⟨K1 + K2 + K3 + K4 + K5 + 3, ?_⟩
    rw [laws_FnExactReadStock.f, bs_size, if_neg (by omega), h1 _ (by omega), Option.bind_some, h2 _ (by omega), Option.bind_some, h4 _ (by omega), Option.bind_some, if_pos rfl]
    simp only [bne_self_eq_false]
    rw [show K1 + K2 + K3 + K4 + K5 + 3 = (K1 + K2 + K3 + K4 + K5 + 2) + 1 from rfl, laws_FnExactReadStock.j0, if_neg (by decide), h5 _ (by omega), Option.bind_some, h6 _ (by omega), Option.bind_some, if_neg (by omega), if_pos rfl, h2 _ (by omega), Option.bind_some, h4 _ (by omega), Option.bind_some, if_pos rfl]
    simp only [bne_self_eq_false]
    rw [show K1 + K2 + K3 + K4 + K5 + 2 = (K1 + K2 + K3 + K4 + K5 + 1) + 1 from rfl, laws_FnExactReadStock.j1, if_neg (by decide), h6 _ (by omega), Option.bind_some, if_neg (by omega), if_pos rfl]
  · exact ⟨0, by rw [laws_FnExactReadStock.f, if_pos (by omega)]⟩

end Go.Proofs.YtnhcdfikjfjkoaaDoor.Pure

namespace Go.Proofs.YtnhcdfikjfjkoaaDoor.P
open Go
theorem laid_tail {P : Program} {W : World} {x : String × DataW Unit} {r : List (String × DataW Unit)} (h : laidMet P (x :: r) W) : laidMet P r W := by
  obtain ⟨ps, ⟨g, t, cs, fuel, p, q, h1, h2, h3, h4, h5, rfl⟩, hn, hc⟩ := h
  exact ⟨q, h5, (List.nodup_append.1 hn).2.1, fun b off hb => hc b off (List.mem_append_right _ hb)⟩
theorem iface_of_head {P : Program} {W : World} {name nm : String} {d : DataW Unit} {r : List (String × DataW Unit)} {g : Nat} {t : TypeId} {ms : Array (String × TypeId)}
    (hg : P.globalNamed name = some g) (hty : (P.globals[g]?).map (·.type) = some t) (ht : P.underlying t = some (.interface ms)) (h : laidMet P ((name, .iface nm d) :: r) W) : ∃ tp p, W.var? P name = some #[.iface tp p] := by
  obtain ⟨ps, ⟨g', t', cs, fuel, p, q, hg', ht', hvar, hd, _, _⟩, _⟩ := h
  obtain rfl := Option.some.inj (hg.symm.trans hg')
  obtain rfl := Option.some.inj (hty.symm.trans ht')
  obtain ⟨_, u, v, hc, _⟩ := iface_of_trod ht hd
  exact ⟨u, v, by rw [hvar]; congr 1; first | exact hc | (apply Array.ext'; exact hc) | (subst hc; rfl)⟩
theorem pow_tab : (Rows.laid_internal_strconv_uint64pow10 : DataW Unit) = Lib.tabData .u64 Lib.pow10Tab := by kernel_rfl
theorem pow_name : Tryd.prog.globalNamed "internal/strconv.uint64pow10" = some 0 := by kernel_rfl
theorem pow_type : (Tryd.prog.globals[0]?).map (·.type) = some 94 := by kernel_rfl
theorem pow_under : Tryd.prog.underlying 94 = some (.array 20 79) := by kernel_rfl
theorem pow_elem : Tryd.prog.underlying 79 = some (.int .u64) := by kernel_rfl
theorem pow_ce : Tryd.prog.cellsOf 79 = 1 := by kernel_rfl
theorem pow_ct : Tryd.prog.cellsOf 94 = 20 := by kernel_rfl
theorem rng_name : Tryd.prog.globalNamed "strconv.ErrRange" = some 5 := by kernel_rfl
theorem rng_type : (Tryd.prog.globals[5]?).map (·.type) = some 63 := by kernel_rfl
theorem syn_name : Tryd.prog.globalNamed "strconv.ErrSyntax" = some 4 := by kernel_rfl
theorem syn_type : (Tryd.prog.globals[4]?).map (·.type) = some 63 := by kernel_rfl
theorem err_under : ∃ ms, Tryd.prog.underlying 63 = some (.interface ms) := ⟨_, Tryd.underlying63⟩
theorem glob_of_laid {W : World} (h : laidMetH Tryd.prog Rows.fnExactReadStockRow.laid W) (hs : W.ShapedOpen Tryd.prog) : GlobOk W := by
  rw [MakeChecks.laidMetH_plain _ _ _ (by kernel_rfl)] at h
  have h2 := laid_tail (laid_tail (show laidMet Tryd.prog [("math/bits.deBruijn32tab", Rows.laid_math_bits_deBruijn32tab), ("math/bits.deBruijn64tab", Rows.laid_math_bits_deBruijn64tab), ("internal/strconv.uint64pow10", Rows.laid_internal_strconv_uint64pow10), ("unicode/utf8.acceptRanges", Rows.laid_unicode_utf8_acceptRanges), ("strconv.ErrRange", Rows.laid_strconv_ErrRange), ("strconv.ErrSyntax", Rows.laid_strconv_ErrSyntax), ("unicode/utf8.first", Rows.laid_unicode_utf8_first)] W from h))
  have h3 := laid_tail (laid_tail h2)
  have h4 := laid_tail h3
  obtain ⟨ms, he⟩ := err_under
  refine ⟨?_, iface_of_head syn_name syn_type he h4, iface_of_head rng_name rng_type he h3, Tryd.laysM146.s1_3 W hs⟩
  rw [pow_tab] at h2
  exact Lib.tabIs_of_head pow_name pow_type pow_under pow_elem pow_ce pow_ct h2
end Go.Proofs.YtnhcdfikjfjkoaaDoor.P
