/- The Go functions that the law FnExactReadBoxes comes to, as plain Lean functions, the proofs that calls of them return what those tell, and the plain lemmas on them; no condition but those that each theorem states. -/
import Derived.Test.YtipdmnibjkdpcaaDoorMReadBoxes1
import Derived.OpenShut
import Derived.Lib.ItoaNum
import Derived.Lib.ItoaMem
import Derived.Lib.Join
import Derived.Lib.ParseIntBCases
import Derived.Lib.SplitLaws
import Derived.Lib.Strings
import Derived.Lib.ParseIntBTie
import Derived.Test.YtipdmnibjkdpcaaDoorCards
import Derived.Lib.LaidTab
import Derived.LaidLaws
import Derived.LaidMore
import Derived.SevenTiedAt
namespace Go.Proofs.YtipdmnibjkdpcaaDoor.P
open Go.RowKit Go.Proofs.YtipdmnibjkdpcaaDoorW.PrintWords Go.Proofs.YtipdmnibjkdpcaaDoorW.PrintLast Go.Proofs.YtipdmnibjkdpcaaDoorW.PrintMore
attribute [local go_sem] max2_int min2_int max_two min_two max_three min_three max_four min_four   -- for this text's walks alone
set_option linter.unusedVariables false
set_option linter.unusedSimpArgs false

/-! ### impl_fields: function 24 -/
def impl_fields.l0 : Nat → Int → List Int → List ByteArray → Int → Int → Option (List Int × Bool)
  | 0, _, _, _, _, _ => none
  | k + 1, x2, x8, x16, x17, x18 => if x18 < x17 then (if 0 ≤ x18 then (if x18 < (x16.length : Int) then ((impl_number.f (rdOf ByteArray.empty x16 x18) x2).bind fun bt239 => (if bt239.2 = true then (if x8.length < 17592186044416 then (impl_fields.l0 k x2 (x8 ++ [bt239.1]) x16 x17 (wrap64 (x18 + 1))) else (none)) else (some (([] : List Int), false)))) else (none)) else (none)) else (some (x8, true))
def impl_fields.f (k : Nat) (a0 : ByteArray) (a1 : ByteArray) (a2 : Int) : Option (List Int × Bool) := (strings_Split.f a0 a1).bind fun t235 => (impl_fields.l0 k a2 (([] : List Int)) t235 (t235.length : Int) 0)
theorem impl_fields.mono_l : ∀ k, (∀ y0 y1 y2 y3 y4, LeO (impl_fields.l0 k y0 y1 y2 y3 y4) (impl_fields.l0 (k + 1) y0 y1 y2 y3 y4))
  | 0 => fun _ _ _ _ _ r h => by simp [impl_fields.l0] at h
  | k + 1 => by
    have ih0 := impl_fields.mono_l k
    · intro y0 y1 y2 y3 y4
      unfold impl_fields.l0
      repeat' first
      | (with_reducible exact ih0 _ _ _ _ _)
      | (with_reducible exact LeO.refl _)
      | (with_reducible exact LeO.none _)
      | (with_reducible refine LeO.ite ?_ ?_)
      | (with_reducible refine LeO.bind ?_ (fun _ => ?_))
      | exact ih0 _ _ _ _ _
      | exact LeO.none _
      | refine LeO.ite ?_ ?_
      | refine LeO.bind ?_ (fun _ => ?_)
theorem impl_fields.mono : ∀ a0 a1 a2 k, LeO (impl_fields.f k a0 a1 a2) (impl_fields.f (k + 1) a0 a1 a2) := by
  intro a0 a1 a2 k
  have ih0 := impl_fields.mono_l k
  unfold impl_fields.f
  repeat' first
      | (with_reducible exact ih0 _ _ _ _ _)
      | (with_reducible exact LeO.refl _)
      | (with_reducible exact LeO.none _)
      | (with_reducible refine LeO.ite ?_ ?_)
      | (with_reducible refine LeO.bind ?_ (fun _ => ?_))
      | exact ih0 _ _ _ _ _
      | exact LeO.none _
      | refine LeO.ite ?_ ?_
      | refine LeO.bind ?_ (fun _ => ?_)
set_option maxHeartbeats 8000000 in
set_option maxRecDepth 100000 in
theorem impl_fields.calls (k : Nat) (a0 : ByteArray) (a1 : ByteArray) (a2 : Int) (r1 : List Int) (r2 : Bool) (w : World) (h : impl_fields.f k a0 a1 a2 = some (r1, r2)) (hG_ : GlobOk w) :
    Calls Tryd.prog 24 #[.string a0, .string a1, .int .i64 a2] w fun e w' => ∃ v0_ : Value, e = .returned (.tuple #[v0_, .bool r2]) ∧ Kd.R (Kd.int .i64) 2 w' w.heap.size (fun _ => True) v0_ r1 ∧ Below w.heap.size w w' := by
  have HG_ := Aside0.mk hG_
  clear hG_
  have HB := Aside0.mk (Below.refl w.heap.size w)
  have H : ((strings_Split.f a0 a1).bind fun t235 => (impl_fields.l0 k a2 (([] : List Int)) t235 (t235.length : Int) 0)) = some (r1, r2) := h
  clear h
  obtain ⟨y232, hy232⟩ : ∃ y_ : List Int, y_ = (([] : List Int)) := ⟨_, rfl⟩
  replace H : ((strings_Split.f a0 a1).bind fun t235 => (impl_fields.l0 k a2 y232 t235 (t235.length : Int) 0)) = some (r1, r2) := by first | (rw [hy232]; with_reducible exact H) | (have H2_ := (Option.bind_some _ _).symm.trans H; rw [hy232]; with_reducible exact H2_) | (have H2_ := (Option.bind_some _ _).symm.trans H; with_reducible exact H2_) | with_reducible exact H | (rw [hy232]; exact H) | exact H
  have Ny232 := Aside0.mk hy232
  clear hy232
  replace H := Option.bind_eq_some_iff.mp H
  obtain ⟨t235, A40, H⟩ := H
  replace H : (impl_fields.l0 k a2 y232 t235 (t235.length : Int) 0) = some (r1, r2) := H
  have A4 := Aside0.mk A40
  clear A40
  have H' := Aside0.mk H
  clear H
  go_enter Tryd.func24, Tryd.ntmps24
  go_wp2_with (first | ((with_reducible refine gate_dst (N := 13) rfl ?_); refine Kd.R_lit (Kd.int .i64) _ 2 ?hg (N := 13) ?hd (xs := ([] : List Int)) (inner := []) (ok := fun _ => True) (okp := fun _ => True) ?hr ?hp (fun _ hk => hk) trivial (Below.refl _ _) (Nat.le_refl _) (by simp) ?_; (case hd => rfl); (case hg => rfl); (case hr => first | (go_simp; done) | (go_simp; rfl)); (case hp => exact (Reps.none _ _)); intro v233 w5 ho6 hb hg_ hnew_; clear hg_ hnew_; (first | rw [← Ny232.out] at ho6 | (simp only [Int.reduceToNat] at ho6; rw [← Ny232.out] at ho6)); have n0_ := Aside0.mk (Kd.R_lower ho6 (below_size (by repeat (first | (with_reducible first | exact HB.out | apply below_alloc | apply pw_below_drewN | apply below_drew1) | exact HB.out)))); have n1_ := Aside0.mk (below_step (by repeat (first | (with_reducible first | exact HB.out | apply below_alloc | apply pw_below_drewN | apply below_drew1) | exact HB.out)) hb); clear HB; have HO234 := n0_; have HB := n1_; clear n0_ n1_; clear hb ho6) | ((with_reducible refine gate_callee (f := 23) rfl ?_); refine goesL_ (some 16) rfl rfl Tryd.func23 (by kernel_rfl) rfl #[.string a0, .string a1] rfl (by (try simp only [List.map_toArray, List.map_cons, List.map_nil]); first | done | rfl | (simp only [List.length_drop, List.length_take]; rfl)) ?_; (with_reducible refine (strings_Split.calls a0 a1 t235 _ A4.out (GlobOk.below HG_.out (by repeat (first | (with_reducible first | exact HB.out | apply below_alloc | apply pw_below_drewN | apply below_drew1) | exact HB.out)))).mono ?_); rintro e w7 ⟨v236, rfl, ho0, hb⟩; refine ⟨_, rfl, ?_⟩; have n0_ := Aside0.mk (Kd.R_below (by (with_reducible repeat (first | apply Kd.R_alloc | apply Kd.R_drewN | apply Kd.R_drew)); exact HO234.out) hb); have n1_ := Aside0.mk (Kd.R_lower ho0 (below_size (by repeat (first | (with_reducible first | exact HB.out | apply below_alloc | apply pw_below_drewN | apply below_drew1) | exact HB.out)))); have n2_ := Aside0.mk (below_step (by repeat (first | (with_reducible first | exact HB.out | apply below_alloc | apply pw_below_drewN | apply below_drew1) | exact HB.out)) hb); clear HO234; clear HB; have HO234 := n0_; have HO237 := n1_; have HB := n2_; clear n0_ n1_ n2_; (try clear hb); (try clear hb2); (try clear hk); (try clear hi); (try clear ho0); obtain ⟨Ao8, co8, eo8⟩ := Kd.R_slice HO237.out; subst eo8))
  go_loopg [8, 18] k (fun kq v8 v18 w' => ∃ (x8_1 : List Int) (x18_1 : Int), v18 = .int .i64 x18_1 ∧ Aside0 (impl_fields.l0 kq a2 x8_1 t235 (t235.length : Int) x18_1 = some (r1, r2)) ∧ Aside0 (kq ≤ k) ∧ Aside0 (Kd.R (Kd.int .i64) 2 w' w.heap.size (fun _ => True) v8 x8_1) ∧ Aside0 (Kd.R Kd.string 9 w' w.heap.size (fun _ => True) (.slice Ao8 t235.length co8) t235) ∧ Aside0 (Below w.heap.size w w'))
  case atStart => exact ⟨(y232), (0), (by first | rfl | (simp; done) | (simp [*]; done)), H', ⟨Nat.le_refl _⟩, ⟨by (with_reducible repeat (first | apply Kd.R_alloc | apply Kd.R_drewN | apply Kd.R_drew)); exact HO234.out⟩, ⟨by (with_reducible repeat (first | apply Kd.R_alloc | apply Kd.R_drewN | apply Kd.R_drew)); exact HO237.out⟩, ⟨by repeat (first | (with_reducible first | exact HB.out | apply below_alloc | apply pw_below_drewN | apply below_drew1) | exact HB.out)⟩⟩
  case round =>
    clear H'
    try clear c2
    try clear p2
    obtain ⟨x8_1, x18_1, rfl, HA, HK1, HO_8, HO_16, HB⟩ := hrel
    cases gk with
    | zero => exact absurd HA.out (by simp [impl_fields.l0])
    | succ k1 =>
      have H := HA.out
      clear HA
      simp only [impl_fields.l0] at H
      by_cases c9 : x18_1 < (t235.length : Int)
      · rw [if_pos c9] at H
        have c9b0 : decide (x18_1 < (t235.length : Int)) = true := decide_eq_true c9
        clear c9
        by_cases c10 : 0 ≤ x18_1
        · rw [if_pos c10] at H
          have c10b0 : decide (0 ≤ x18_1) = true := decide_eq_true c10
          clear c10
          by_cases c11 : x18_1 < (t235.length : Int)
          · rw [if_pos c11] at H
            have c11b0 : decide (x18_1 < (t235.length : Int)) = true := decide_eq_true c11
            clear c11
            replace H := Option.bind_eq_some_iff.mp H
            obtain ⟨⟨t239, t240⟩, A120, H⟩ := H
            replace H : (if t240 = true then (if x8_1.length < 17592186044416 then (impl_fields.l0 k1 a2 (x8_1 ++ [t239]) t235 (t235.length : Int) (wrap64 (x18_1 + 1))) else (none)) else (some (([] : List Int), false))) = some (r1, r2) := H
            have A12 := Aside0.mk A120
            clear A120
            by_cases c13 : t240 = true
            · subst c13
              have H1 : (if x8_1.length < 17592186044416 then (impl_fields.l0 k1 a2 (x8_1 ++ [t239]) t235 (t235.length : Int) (wrap64 (x18_1 + 1))) else (none)) = some (r1, r2) := by rw [if_pos rfl] at H; exact H
              clear H
              have H := H1
              clear H1
              by_cases c14 : x8_1.length < 17592186044416
              · rw [if_pos c14] at H
                have LMc14 := Aside0.mk c14
                clear c14
                obtain ⟨y241, hy241⟩ : ∃ y_ : List Int, y_ = (x8_1 ++ [t239]) := ⟨_, rfl⟩
                replace H : (impl_fields.l0 k1 a2 y241 t235 (t235.length : Int) (wrap64 (x18_1 + 1))) = some (r1, r2) := by first | (rw [hy241]; with_reducible exact H) | (have H2_ := (Option.bind_some _ _).symm.trans H; rw [hy241]; with_reducible exact H2_) | (have H2_ := (Option.bind_some _ _).symm.trans H; with_reducible exact H2_) | with_reducible exact H | (rw [hy241]; exact H) | exact H
                have Ny241 := Aside0.mk hy241
                clear hy241
                have H' := Aside0.mk H
                clear H
                have p238 : 0 ≤ (x18_1 : Int) := of_decide_eq_true (by first | (with_reducible assumption) | assumption)
                have q238 : x18_1 < (t235.length : Int) := of_decide_eq_true (by first | (with_reducible assumption) | assumption)
                obtain ⟨ad238, e238, hx238_0⟩ := Kd.at_string (Kd.R_reads' HO_16.out).2.2 x18_1 p238 q238
                cases e238
                replace p238 := eq_true p238
                replace q238 := eq_true q238
                go_wp2_with (first | ((with_reducible refine gate_callee (f := 36) rfl ?_); refine goesL_ (some 25) rfl rfl Tryd.func36 (by kernel_rfl) rfl #[.string (rdOf ByteArray.empty t235 x18_1), .int .i64 a2] rfl (by (try simp only [List.map_toArray, List.map_cons, List.map_nil]); first | done | rfl | (simp only [List.length_drop, List.length_take]; rfl)) ?_; (with_reducible refine (impl_number.calls (rdOf ByteArray.empty t235 x18_1) a2 t239 true _ A12.out (GlobOk.below HG_.out (by repeat (first | (with_reducible first | exact HB.out | apply below_alloc | apply pw_below_drewN | apply below_drew1) | exact HB.out)))).mono ?_); rintro e w15 ⟨rfl, hb⟩; refine ⟨_, rfl, ?_⟩; have n0_ := Aside0.mk (Kd.R_below (by (with_reducible repeat (first | apply Kd.R_alloc | apply Kd.R_drewN | apply Kd.R_drew)); exact HO_8.out) hb); have n1_ := Aside0.mk (Kd.R_below (by (with_reducible repeat (first | apply Kd.R_alloc | apply Kd.R_drewN | apply Kd.R_drew)); exact HO_16.out) hb); have n2_ := Aside0.mk (below_step (by repeat (first | (with_reducible first | exact HB.out | apply below_alloc | apply pw_below_drewN | apply below_drew1) | exact HB.out)) hb); clear HO_8; clear HO_16; clear HB; have HO_8 := n0_; have HO_16 := n1_; have HB := n2_; clear n0_ n1_ n2_; (try clear hb); (try clear hb2); (try clear hk); (try clear hi)) | ((with_reducible refine gate_builtin (b := .append) (xs := #[.tmp 30, .tmp 32]) rfl ?_); at_builtin; refine Kd.R_append (Kd.int .i64) (w0 := w) w.heap.size rfl (.tmp 30) (.tmp 32) 49 2 (.int .i64 0) 8 rfl Tryd.underlying49 info2 rfl (by decide) (by omega) u8 x8_1 t239 [.int .i64 t239] (fun _ => True) (fun _ => False) rfl rfl ?aP (fun _ hk => hk.elim) ?aF ?aO ?aB ?aS ?aL ?_; (case aP => exact rfl); (case aB => exact (by repeat (first | (with_reducible first | exact HB.out | apply below_alloc | apply pw_below_drewN | apply below_drew1) | exact HB.out))); (case aF => exact (fun _ _ => trivial)); (case aO => exact (by (with_reducible repeat (first | apply Kd.R_alloc | apply Kd.R_drewN | apply Kd.R_drew)); exact HO_8.out)); (case aS => exact (below_size (by repeat (first | (with_reducible first | exact HB.out | apply below_alloc | apply pw_below_drewN | apply below_drew1) | exact HB.out)))); (case aL => have := LMc14.out; omega); intro v242 w16 ho hb hg hat; rw [← Ny241.out] at ho; have n0_ := Aside0.mk (Kd.R_over' (by (with_reducible repeat (first | apply Kd.R_alloc | apply Kd.R_drewN | apply Kd.R_drew)); exact HO_16.out) (Kd.R_typed (by (with_reducible repeat (first | apply Kd.R_alloc | apply Kd.R_drewN | apply Kd.R_drew)); exact HO_8.out)) (by decide) hg); have n1_ := Aside0.mk (hb); have n2_ := Aside0.mk (ho); clear HO_16; clear HB; clear HO_8; have HO_16 := n0_; have HB := n1_; have HO243 := n2_; clear n0_ n1_ n2_; clear ho hb hg hat))
                go_roundg k1
                case measure => have := HK1.out; omega
                case rel => exact ⟨(y241), (wrap64 (x18_1 + 1)), (by first | rfl | (simp; done) | (simp [*]; done)), H', ⟨by have := HK1.out; omega⟩, ⟨by (with_reducible repeat (first | apply Kd.R_alloc | apply Kd.R_drewN | apply Kd.R_drew)); exact HO243.out⟩, ⟨by (with_reducible repeat (first | apply Kd.R_alloc | apply Kd.R_drewN | apply Kd.R_drew)); exact HO_16.out⟩, ⟨by repeat (first | (with_reducible first | exact HB.out | apply below_alloc | apply pw_below_drewN | apply below_drew1) | exact HB.out)⟩⟩
              · rw [if_neg c14] at H
                exact absurd H (by simp)
            · replace c13 := Bool.eq_false_iff.mpr c13
              subst c13
              have H1 : (some (([] : List Int), false)) = some (r1, r2) := by rw [if_neg (show ¬ (false = true) by decide)] at H; exact H
              clear H
              have H := H1
              clear H1
              simp only [Option.some.injEq, Prod.mk.injEq] at H
              obtain ⟨rfl, rfl⟩ := H
              have p238 : 0 ≤ (x18_1 : Int) := of_decide_eq_true (by first | (with_reducible assumption) | assumption)
              have q238 : x18_1 < (t235.length : Int) := of_decide_eq_true (by first | (with_reducible assumption) | assumption)
              obtain ⟨ad238, e238, hx238_0⟩ := Kd.at_string (Kd.R_reads' HO_16.out).2.2 x18_1 p238 q238
              cases e238
              replace p238 := eq_true p238
              replace q238 := eq_true q238
              go_wp2_with (first | ((with_reducible refine gate_callee (f := 36) rfl ?_); refine goesL_ (some 25) rfl rfl Tryd.func36 (by kernel_rfl) rfl #[.string (rdOf ByteArray.empty t235 x18_1), .int .i64 a2] rfl (by (try simp only [List.map_toArray, List.map_cons, List.map_nil]); first | done | rfl | (simp only [List.length_drop, List.length_take]; rfl)) ?_; (with_reducible refine (impl_number.calls (rdOf ByteArray.empty t235 x18_1) a2 t239 false _ A12.out (GlobOk.below HG_.out (by repeat (first | (with_reducible first | exact HB.out | apply below_alloc | apply pw_below_drewN | apply below_drew1) | exact HB.out)))).mono ?_); rintro e w17 ⟨rfl, hb⟩; refine ⟨_, rfl, ?_⟩; have n0_ := Aside0.mk (Kd.R_below (by (with_reducible repeat (first | apply Kd.R_alloc | apply Kd.R_drewN | apply Kd.R_drew)); exact HO_8.out) hb); have n1_ := Aside0.mk (Kd.R_below (by (with_reducible repeat (first | apply Kd.R_alloc | apply Kd.R_drewN | apply Kd.R_drew)); exact HO_16.out) hb); have n2_ := Aside0.mk (below_step (by repeat (first | (with_reducible first | exact HB.out | apply below_alloc | apply pw_below_drewN | apply below_drew1) | exact HB.out)) hb); clear HO_8; clear HO_16; clear HB; have HO_8 := n0_; have HO_16 := n1_; have HB := n2_; clear n0_ n1_ n2_; (try clear hb); (try clear hb2); (try clear hk); (try clear hi)))
              go_ret2
              exact ⟨_, by first | rfl | (simp [errW_none, errW_some] <;> rfl) | (simp [*, errW_none, errW_some] <;> rfl), by first | exact Kd.R_nil _ _ _ _ _ | exact Kd.N_nil _ _ _ _ _ | exact Kd.V_nil _ _ _ _ _ | exact Kd.Q_nil _ _ _ _ _ | exact Kd.S_nil _ _ _ _ _, by repeat (first | (with_reducible first | exact HB.out | apply below_alloc | apply pw_below_drewN | apply below_drew1) | exact HB.out)⟩
          · rw [if_neg c11] at H
            exact absurd H (by simp)
        · rw [if_neg c10] at H
          exact absurd H (by simp)
      · rw [if_neg c9] at H
        have c9b0 : decide (x18_1 < (t235.length : Int)) = false := decide_eq_false c9
        clear c9
        simp only [Option.some.injEq, Prod.mk.injEq] at H
        obtain ⟨rfl, rfl⟩ := H
        go_wp2
        go_ret2
        exact ⟨_, by first | rfl | (simp [errW_none, errW_some] <;> rfl) | (simp [*, errW_none, errW_some] <;> rfl), by (with_reducible repeat (first | apply Kd.R_alloc | apply Kd.R_drewN | apply Kd.R_drew)); exact HO_8.out, by repeat (first | (with_reducible first | exact HB.out | apply below_alloc | apply pw_below_drewN | apply below_drew1) | exact HB.out)⟩

end Go.Proofs.YtipdmnibjkdpcaaDoor.P

namespace Go.Proofs.YtipdmnibjkdpcaaDoor.P
open Go.RowKit Go.Proofs.YtipdmnibjkdpcaaDoorW.PrintWords Go.Proofs.YtipdmnibjkdpcaaDoorW.PrintLast Go.Proofs.YtipdmnibjkdpcaaDoorW.PrintMore
attribute [local go_sem] max2_int min2_int max_two min_two max_three min_three max_four min_four   -- for this text's walks alone
set_option linter.unusedVariables false
set_option linter.unusedSimpArgs false

/-! ### impl_ReadBoxes: function 11 -/
def impl_ReadBoxes.l0 : Nat → List (S36) → List ByteArray → Int → Int → Option ((List (S36)) × Int)
  | 0, _, _, _, _ => none
  | k + 1, x4, x14, x15, x16 => if x16 < x15 then (if 0 ≤ x16 then (if x16 < (x14.length : Int) then ((impl_fields.f k (rdOf ByteArray.empty x14 x16) (⟨#[120]⟩ : ByteArray) 60).bind fun bt251 => (if bt251.2 = true then (if (bt251.1.length : Int) = 3 then (if 0 < (bt251.1.length : Int) then (if 1 < (bt251.1.length : Int) then (if 2 < (bt251.1.length : Int) then (if x4.length < 46912496118442 then (impl_ReadBoxes.l0 k (x4 ++ [(⟨IntKind.i8.wrap (rd bt251.1 0), IntKind.i8.wrap (rd bt251.1 1), IntKind.i8.wrap (rd bt251.1 2)⟩ : S36)]) x14 x15 (wrap64 (x16 + 1))) else (none)) else (none)) else (none)) else (none)) else (some (([] : List (S36)), 5))) else (some (([] : List (S36)), 5)))) else (none)) else (none)) else ((impl_boxesCode.f k x4).bind fun t261 => (if t261 = 0 then (some (x4, 0)) else (some (([] : List (S36)), 5))))
def impl_ReadBoxes.f (k : Nat) (a0 : ByteArray) : Option ((List (S36)) × Int) := (some (([] : List (S36)) : List (S36))).bind fun y244 => (if a0.toList = ([] : List UInt8) then (some (y244, 0)) else ((strings_Split.f a0 (⟨#[32]⟩ : ByteArray)).bind fun t247 => (impl_ReadBoxes.l0 k y244 t247 (t247.length : Int) 0)))
theorem impl_ReadBoxes.mono_l : ∀ k, (∀ y0 y1 y2 y3, LeO (impl_ReadBoxes.l0 k y0 y1 y2 y3) (impl_ReadBoxes.l0 (k + 1) y0 y1 y2 y3))
  | 0 => fun _ _ _ _ r h => by simp [impl_ReadBoxes.l0] at h
  | k + 1 => by
    have ih0 := impl_ReadBoxes.mono_l k
    · intro y0 y1 y2 y3
      unfold impl_ReadBoxes.l0
      repeat' first
      | (with_reducible exact ih0 _ _ _ _)
      | (with_reducible exact impl_boxesCode.mono _ _)
      | (with_reducible exact impl_fields.mono _ _ _ _)
      | (with_reducible exact LeO.refl _)
      | (with_reducible exact LeO.none _)
      | (with_reducible refine LeO.ite ?_ ?_)
      | (with_reducible refine LeO.bind ?_ (fun _ => ?_))
      | exact ih0 _ _ _ _
      | exact impl_boxesCode.mono _ _
      | exact impl_fields.mono _ _ _ _
      | exact LeO.none _
      | refine LeO.ite ?_ ?_
      | refine LeO.bind ?_ (fun _ => ?_)
theorem impl_ReadBoxes.mono : ∀ a0 k, LeO (impl_ReadBoxes.f k a0) (impl_ReadBoxes.f (k + 1) a0) := by
  intro a0 k
  have ih0 := impl_ReadBoxes.mono_l k
  unfold impl_ReadBoxes.f
  repeat' first
      | (with_reducible exact ih0 _ _ _ _)
      | (with_reducible exact impl_boxesCode.mono _ _)
      | (with_reducible exact impl_fields.mono _ _ _ _)
      | (with_reducible exact LeO.refl _)
      | (with_reducible exact LeO.none _)
      | (with_reducible refine LeO.ite ?_ ?_)
      | (with_reducible refine LeO.bind ?_ (fun _ => ?_))
      | exact ih0 _ _ _ _
      | exact impl_boxesCode.mono _ _
      | exact impl_fields.mono _ _ _ _
      | exact LeO.none _
      | refine LeO.ite ?_ ?_
      | refine LeO.bind ?_ (fun _ => ?_)
def impl_ReadBoxes.T10 : Bool × List (List Nat × List Nat) := (true, [([], []), ([], []), ([1], [1]), ([2], [2]), ([3], [3]), ([], []), ([5], [5]), ([6], [6]), ([7], [7]), ([], []), ([9], [9]), ([10], [10]), ([11], [11]), ([4, 8, 12], [4, 8, 12]), ([13], [13]), ([0, 14], [0, 14]), ([15, 15, 0, 1, 2, 3, 4, 5, 6, 7, 8, 9, 10, 11, 12, 13, 14, 15], [0, 15])])
def impl_ReadBoxes.B10 : List Nat := [0, 0, 2, 6, 14, 0, 32, 96, 224, 0, 512, 1536, 3584, 8190, 16382, 32767, 65535]
theorem impl_ReadBoxes.tab10 : rtab .any (opsOf Tryd.f11 10) = impl_ReadBoxes.T10 := by kernel_rfl
theorem impl_ReadBoxes.bits10 : waitsOk impl_ReadBoxes.T10.2 impl_ReadBoxes.B10 = true := by kernel_rfl
set_option maxHeartbeats 8000000 in
set_option maxRecDepth 100000 in
theorem impl_ReadBoxes.calls (k : Nat) (a0 : ByteArray) (r1 : List (S36)) (r2 : Int) (w : World) (h : impl_ReadBoxes.f k a0 = some (r1, r2)) (hG_ : GlobOk w) :
    Calls Tryd.prog 11 #[.string a0] w fun e w' => ∃ v0_ : Value, e = .returned (.tuple #[v0_, .int .i64 r2]) ∧ Kd.R k36 36 w' w.heap.size (fun _ => True) v0_ r1 ∧ Below w.heap.size w w' := by
  have HG_ := Aside0.mk hG_
  clear hG_
  have hu36 := Tryd.underlying36
  have HB := Aside0.mk (Below.refl w.heap.size w)
  have H : ((some (([] : List (S36)) : List (S36))).bind fun y244 => (if a0.toList = ([] : List UInt8) then (some (y244, 0)) else ((strings_Split.f a0 (⟨#[32]⟩ : ByteArray)).bind fun t247 => (impl_ReadBoxes.l0 k y244 t247 (t247.length : Int) 0)))) = some (r1, r2) := h
  clear h
  obtain ⟨y244, hy244⟩ : ∃ y_ : List (S36), y_ = (([] : List (S36))) := ⟨_, rfl⟩
  replace H : (if a0.toList = ([] : List UInt8) then (some (y244, 0)) else ((strings_Split.f a0 (⟨#[32]⟩ : ByteArray)).bind fun t247 => (impl_ReadBoxes.l0 k y244 t247 (t247.length : Int) 0))) = some (r1, r2) := by first | (rw [hy244]; with_reducible exact H) | (have H2_ := (Option.bind_some _ _).symm.trans H; rw [hy244]; with_reducible exact H2_) | (have H2_ := (Option.bind_some _ _).symm.trans H; with_reducible exact H2_) | with_reducible exact H | (rw [hy244]; exact H) | exact H
  have Ny244 := Aside0.mk hy244
  clear hy244
  by_cases c2 : a0.toList = ([] : List UInt8)
  · rw [if_pos c2] at H
    have c2b0 : (a0.toList == ([] : List UInt8)) = true := beq_iff_eq.mpr c2
    have c2b1 : (a0.toList != ([] : List UInt8)) = false := bne_eq_false_iff_eq.mpr c2
    clear c2
    simp only [Option.some.injEq, Prod.mk.injEq] at H
    obtain ⟨rfl, rfl⟩ := H
    go_enter Tryd.func11, Tryd.ntmps11
    go_wp2_with (first | ((with_reducible refine gate_dst (N := 9) rfl ?_); (try (refine gate_guard (by rfl) ?_; dsimp only)); refine Kd.R_lit k36 _ 36 ?hg (N := 9) ?hd (xs := ([] : List (S36))) (inner := []) (ok := fun _ => True) (okp := fun _ => True) ?hr ?hp (fun _ hk => hk) trivial (Below.refl _ _) (Nat.le_refl _) (by simp) ?_; (case hd => rfl); (case hg => rfl); (case hr => first | (go_simp; done) | (go_simp; rfl)); (case hp => exact (Reps.none _ _)); intro v245 w3 ho4 hb hg_ hnew_; clear hg_ hnew_; (first | rw [← Ny244.out] at ho4 | (simp only [Int.reduceToNat] at ho4; rw [← Ny244.out] at ho4)); have n0_ := Aside0.mk (Kd.R_lower ho4 (below_size (by repeat (first | (with_reducible first | exact HB.out | apply below_alloc | apply pw_below_drewN | apply below_drew1) | exact HB.out)))); have n1_ := Aside0.mk (below_step (by repeat (first | (with_reducible first | exact HB.out | apply below_alloc | apply pw_below_drewN | apply below_drew1) | exact HB.out)) hb); clear HB; have HO246 := n0_; have HB := n1_; clear n0_ n1_; clear hb ho4))
    go_ret2
    exact ⟨_, by first | rfl | (simp [errW_none, errW_some] <;> rfl) | (simp [*, errW_none, errW_some] <;> rfl), by (with_reducible repeat (first | apply Kd.R_alloc | apply Kd.R_drewN | apply Kd.R_drew)); exact HO246.out, by repeat (first | (with_reducible first | exact HB.out | apply below_alloc | apply pw_below_drewN | apply below_drew1) | exact HB.out)⟩
  · rw [if_neg c2] at H
    have c2b0 : (a0.toList == ([] : List UInt8)) = false := beq_eq_false_iff_ne.mpr c2
    have c2b1 : (a0.toList != ([] : List UInt8)) = true := bne_iff_ne.mpr c2
    replace H := Option.bind_eq_some_iff.mp H
    obtain ⟨t247, A50, H⟩ := H
    replace H : (impl_ReadBoxes.l0 k y244 t247 (t247.length : Int) 0) = some (r1, r2) := H
    have A5 := Aside0.mk A50
    clear A50
    have H' := Aside0.mk H
    clear H
    go_enter Tryd.func11, Tryd.ntmps11
    go_wp2_with (first | ((with_reducible refine gate_dst (N := 9) rfl ?_); (try (refine gate_guard (by rfl) ?_; dsimp only)); refine Kd.R_lit k36 _ 36 ?hg (N := 9) ?hd (xs := ([] : List (S36))) (inner := []) (ok := fun _ => True) (okp := fun _ => True) ?hr ?hp (fun _ hk => hk) trivial (Below.refl _ _) (Nat.le_refl _) (by simp) ?_; (case hd => rfl); (case hg => rfl); (case hr => first | (go_simp; done) | (go_simp; rfl)); (case hp => exact (Reps.none _ _)); intro v245 w6 ho7 hb hg_ hnew_; clear hg_ hnew_; (first | rw [← Ny244.out] at ho7 | (simp only [Int.reduceToNat] at ho7; rw [← Ny244.out] at ho7)); have n0_ := Aside0.mk (Kd.R_lower ho7 (below_size (by repeat (first | (with_reducible first | exact HB.out | apply below_alloc | apply pw_below_drewN | apply below_drew1) | exact HB.out)))); have n1_ := Aside0.mk (below_step (by repeat (first | (with_reducible first | exact HB.out | apply below_alloc | apply pw_below_drewN | apply below_drew1) | exact HB.out)) hb); clear HB; have HO246 := n0_; have HB := n1_; clear n0_ n1_; clear hb ho7) | ((with_reducible refine gate_callee (f := 23) rfl ?_); refine goesL_ (some 14) rfl rfl Tryd.func23 (by kernel_rfl) rfl #[.string a0, .string (⟨#[32]⟩ : ByteArray)] rfl (by (try simp only [List.map_toArray, List.map_cons, List.map_nil]); first | done | rfl | (simp only [List.length_drop, List.length_take]; rfl)) ?_; (with_reducible refine (strings_Split.calls a0 (⟨#[32]⟩ : ByteArray) t247 _ A5.out (GlobOk.below HG_.out (by repeat (first | (with_reducible first | exact HB.out | apply below_alloc | apply pw_below_drewN | apply below_drew1) | exact HB.out)))).mono ?_); rintro e w8 ⟨v248, rfl, ho0, hb⟩; refine ⟨_, rfl, ?_⟩; have n0_ := Aside0.mk (Kd.R_below (by (with_reducible repeat (first | apply Kd.R_alloc | apply Kd.R_drewN | apply Kd.R_drew)); exact HO246.out) hb); have n1_ := Aside0.mk (Kd.R_lower ho0 (below_size (by repeat (first | (with_reducible first | exact HB.out | apply below_alloc | apply pw_below_drewN | apply below_drew1) | exact HB.out)))); have n2_ := Aside0.mk (below_step (by repeat (first | (with_reducible first | exact HB.out | apply below_alloc | apply pw_below_drewN | apply below_drew1) | exact HB.out)) hb); clear HO246; clear HB; have HO246 := n0_; have HO249 := n1_; have HB := n2_; clear n0_ n1_ n2_; (try clear hb); (try clear hb2); (try clear hk); (try clear hi); (try clear ho0); obtain ⟨Ao9, co9, eo9⟩ := Kd.R_slice HO249.out; subst eo9))
    go_loopg [4, 16] k (fun kq v4 v16 w' => ∃ (x4_1 : List (S36)) (x16_1 : Int), v16 = .int .i64 x16_1 ∧ Aside0 (impl_ReadBoxes.l0 kq x4_1 t247 (t247.length : Int) x16_1 = some (r1, r2)) ∧ Aside0 (kq ≤ k) ∧ Aside0 (Kd.R k36 36 w' w.heap.size (fun _ => True) v4 x4_1) ∧ Aside0 (Kd.R Kd.string 9 w' w.heap.size (fun _ => True) (.slice Ao9 t247.length co9) t247) ∧ Aside0 (Below w.heap.size w w'))
    case atStart => exact ⟨(y244), (0), (by first | rfl | (simp; done) | (simp [*]; done)), H', ⟨Nat.le_refl _⟩, ⟨by (with_reducible repeat (first | apply Kd.R_alloc | apply Kd.R_drewN | apply Kd.R_drew)); exact HO246.out⟩, ⟨by (with_reducible repeat (first | apply Kd.R_alloc | apply Kd.R_drewN | apply Kd.R_drew)); exact HO249.out⟩, ⟨by repeat (first | (with_reducible first | exact HB.out | apply below_alloc | apply pw_below_drewN | apply below_drew1) | exact HB.out)⟩⟩
    case round =>
      clear H'
      try clear c1
      try clear c2
      try clear c2b0
      try clear c2b1
      try clear p2
      obtain ⟨x4_1, x16_1, rfl, HA, HK1, HO_4, HO_14, HB⟩ := hrel
      cases gk with
      | zero => exact absurd HA.out (by simp [impl_ReadBoxes.l0])
      | succ k1 =>
        have H := HA.out
        clear HA
        simp only [impl_ReadBoxes.l0] at H
        by_cases c10 : x16_1 < (t247.length : Int)
        · rw [if_pos c10] at H
          have c10b0 : decide (x16_1 < (t247.length : Int)) = true := decide_eq_true c10
          clear c10
          by_cases c11 : 0 ≤ x16_1
          · rw [if_pos c11] at H
            have c11b0 : decide (0 ≤ x16_1) = true := decide_eq_true c11
            clear c11
            by_cases c12 : x16_1 < (t247.length : Int)
            · rw [if_pos c12] at H
              have c12b0 : decide (x16_1 < (t247.length : Int)) = true := decide_eq_true c12
              clear c12
              replace H := Option.bind_eq_some_iff.mp H
              obtain ⟨⟨t251, t252⟩, A130, H⟩ := H
              replace H : (if t252 = true then (if (t251.length : Int) = 3 then (if 0 < (t251.length : Int) then (if 1 < (t251.length : Int) then (if 2 < (t251.length : Int) then (if x4_1.length < 46912496118442 then (impl_ReadBoxes.l0 k1 (x4_1 ++ [(⟨IntKind.i8.wrap (rd t251 0), IntKind.i8.wrap (rd t251 1), IntKind.i8.wrap (rd t251 2)⟩ : S36)]) t247 (t247.length : Int) (wrap64 (x16_1 + 1))) else (none)) else (none)) else (none)) else (none)) else (some (([] : List (S36)), 5))) else (some (([] : List (S36)), 5))) = some (r1, r2) := H
              have A13 := Aside0.mk A130
              clear A130
              by_cases c14 : t252 = true
              · subst c14
                have H1 : (if (t251.length : Int) = 3 then (if 0 < (t251.length : Int) then (if 1 < (t251.length : Int) then (if 2 < (t251.length : Int) then (if x4_1.length < 46912496118442 then (impl_ReadBoxes.l0 k1 (x4_1 ++ [(⟨IntKind.i8.wrap (rd t251 0), IntKind.i8.wrap (rd t251 1), IntKind.i8.wrap (rd t251 2)⟩ : S36)]) t247 (t247.length : Int) (wrap64 (x16_1 + 1))) else (none)) else (none)) else (none)) else (none)) else (some (([] : List (S36)), 5))) = some (r1, r2) := by rw [if_pos rfl] at H; exact H
                clear H
                have H := H1
                clear H1
                by_cases c15 : (t251.length : Int) = 3
                · rw [if_pos c15] at H
                  have c15b0 : ((t251.length : Int) == 3) = true := beq_iff_eq.mpr c15
                  have c15b1 : ((t251.length : Int) != 3) = false := bne_eq_false_iff_eq.mpr c15
                  clear c15
                  by_cases c16 : 0 < (t251.length : Int)
                  · rw [if_pos c16] at H
                    have c16b0 : decide (0 < (t251.length : Int)) = true := decide_eq_true c16
                    have c16b1 : decide (0 < t251.length) = true := decide_eq_true (by omega)
                    clear c16
                    by_cases c17 : 1 < (t251.length : Int)
                    · rw [if_pos c17] at H
                      have c17b0 : decide (1 < (t251.length : Int)) = true := decide_eq_true c17
                      have c17b1 : decide (1 < t251.length) = true := decide_eq_true (by omega)
                      clear c17
                      by_cases c18 : 2 < (t251.length : Int)
                      · rw [if_pos c18] at H
                        have c18b0 : decide (2 < (t251.length : Int)) = true := decide_eq_true c18
                        have c18b1 : decide (2 < t251.length) = true := decide_eq_true (by omega)
                        clear c18
                        by_cases c19 : x4_1.length < 46912496118442
                        · rw [if_pos c19] at H
                          have LMc19 := Aside0.mk c19
                          clear c19
                          obtain ⟨y258, hy258⟩ : ∃ y_ : List (S36), y_ = (x4_1 ++ [(⟨IntKind.i8.wrap (rd t251 0), IntKind.i8.wrap (rd t251 1), IntKind.i8.wrap (rd t251 2)⟩ : S36)]) := ⟨_, rfl⟩
                          replace H : (impl_ReadBoxes.l0 k1 y258 t247 (t247.length : Int) (wrap64 (x16_1 + 1))) = some (r1, r2) := by first | (rw [hy258]; with_reducible exact H) | (have H2_ := (Option.bind_some _ _).symm.trans H; rw [hy258]; with_reducible exact H2_) | (have H2_ := (Option.bind_some _ _).symm.trans H; with_reducible exact H2_) | with_reducible exact H | (rw [hy258]; exact H) | exact H
                          have Ny258 := Aside0.mk hy258
                          clear hy258
                          have H' := Aside0.mk H
                          clear H
                          have p250 : 0 ≤ (x16_1 : Int) := of_decide_eq_true (by first | (with_reducible assumption) | assumption)
                          have q250 : x16_1 < (t247.length : Int) := of_decide_eq_true (by first | (with_reducible assumption) | assumption)
                          obtain ⟨ad250, e250, hx250_0⟩ := Kd.at_string (Kd.R_reads' HO_14.out).2.2 x16_1 p250 q250
                          cases e250
                          replace p250 := eq_true p250
                          replace q250 := eq_true q250
                          try go_wp2_with (first | ((with_reducible refine gate_callee (f := 24) rfl ?_); refine goesL_ (some 22) rfl rfl Tryd.func24 (by kernel_rfl) rfl #[.string (rdOf ByteArray.empty t247 x16_1), .string (⟨#[120]⟩ : ByteArray), .int .i64 60] rfl (by (try simp only [List.map_toArray, List.map_cons, List.map_nil]); first | done | rfl | (simp only [List.length_drop, List.length_take]; rfl)) ?_; (with_reducible refine (impl_fields.calls k1 (rdOf ByteArray.empty t247 x16_1) (⟨#[120]⟩ : ByteArray) 60 t251 true _ A13.out (GlobOk.below HG_.out (by repeat (first | (with_reducible first | exact HB.out | apply below_alloc | apply pw_below_drewN | apply below_drew1) | exact HB.out)))).mono ?_); rintro e w20 ⟨v253, rfl, ho0, hb⟩; refine ⟨_, rfl, ?_⟩; have n0_ := Aside0.mk (Kd.R_below (by (with_reducible repeat (first | apply Kd.R_alloc | apply Kd.R_drewN | apply Kd.R_drew)); exact HO_4.out) hb); have n1_ := Aside0.mk (Kd.R_below (by (with_reducible repeat (first | apply Kd.R_alloc | apply Kd.R_drewN | apply Kd.R_drew)); exact HO_14.out) hb); have n2_ := Aside0.mk (Kd.R_lower ho0 (below_size (by repeat (first | (with_reducible first | exact HB.out | apply below_alloc | apply pw_below_drewN | apply below_drew1) | exact HB.out)))); have n3_ := Aside0.mk (below_step (by repeat (first | (with_reducible first | exact HB.out | apply below_alloc | apply pw_below_drewN | apply below_drew1) | exact HB.out)) hb); clear HO_4; clear HO_14; clear HB; have HO_4 := n0_; have HO_14 := n1_; have HO254 := n2_; have HB := n3_; clear n0_ n1_ n2_ n3_; (try clear hb); (try clear hb2); (try clear hk); (try clear hi); (try clear ho0); obtain ⟨Ao21, co21, eo21⟩ := Kd.R_slice HO254.out; subst eo21))
                          have n0_ := Aside0.mk (Kd.R_drew HO_4.out)
                          have n1_ := Aside0.mk (Kd.R_drew HO_14.out)
                          have n2_ := Aside0.mk (Kd.R_drew HO254.out)
                          have n3_ := Aside0.mk (below_drew1 HB.out)
                          clear HO_4
                          clear HO_14
                          clear HO254
                          clear HB
                          have HO_4 := n0_
                          have HO_14 := n1_
                          have HO254 := n2_
                          have HB := n3_
                          clear n0_ n1_ n2_ n3_
                          have p255 : 0 ≤ (0 : Int) := (by omega)
                          have q255 : 0 < (t251.length : Int) := of_decide_eq_true (by first | (with_reducible assumption) | assumption)
                          obtain ⟨ad255, e255, hx255_0⟩ := Kd.at_int (Kd.R_reads' HO254.out).2.2 0 p255 q255
                          cases e255
                          have qi255 : (0 < t251.length) = True := eq_true (by omega)
                          (try rw [show ((0 : Int)).toNat = 0 from rfl] at hx255_0)
                          (try rw [Addr.add_zero'] at hx255_0)
                          replace p255 := eq_true p255
                          replace q255 := eq_true q255
                          have p256 : 0 ≤ (1 : Int) := (by omega)
                          have q256 : 1 < (t251.length : Int) := of_decide_eq_true (by first | (with_reducible assumption) | assumption)
                          obtain ⟨ad256, e256, hx256_0⟩ := Kd.at_int (Kd.R_reads' HO254.out).2.2 1 p256 q256
                          obtain rfl : ad255 = ad256 := (by injection e256)
                          (try simp only [show (1 : Int).toNat = 1 from rfl, Nat.reduceMul, Nat.reduceEqDiff, Go.Addr.add, ↓reduceIte] at hx256_0)
                          have qi256 : (1 < t251.length) = True := eq_true (by omega)
                          (try rw [show ((1 : Int)).toNat = 1 from rfl] at hx256_0)
                          replace p256 := eq_true p256
                          replace q256 := eq_true q256
                          have p257 : 0 ≤ (2 : Int) := (by omega)
                          have q257 : 2 < (t251.length : Int) := of_decide_eq_true (by first | (with_reducible assumption) | assumption)
                          obtain ⟨ad257, e257, hx257_0⟩ := Kd.at_int (Kd.R_reads' HO254.out).2.2 2 p257 q257
                          obtain rfl : ad255 = ad257 := (by injection e257)
                          (try simp only [show (2 : Int).toNat = 2 from rfl, Nat.reduceMul, Nat.reduceEqDiff, Go.Addr.add, ↓reduceIte] at hx257_0)
                          have qi257 : (2 < t251.length) = True := eq_true (by omega)
                          (try rw [show ((2 : Int)).toNat = 2 from rfl] at hx257_0)
                          replace p257 := eq_true p257
                          replace q257 := eq_true q257
                          refine start_ (n := 17) (S := fun w' => w'.cell? ad255 = some (.int .i64 (rd t251 0)) ∧ w'.cell? ⟨ad255.block, ad255.off + 1, none⟩ = some (.int .i64 (rd t251 1)) ∧ w'.cell? ⟨ad255.block, ad255.off + 2, none⟩ = some (.int .i64 (rd t251 2))) (ds := [14, 15]) #[false, false, false, false, false, false, false, false, false, false, false, false, false, false, false, false, false] (by kernel_rfl) rfl rfl ⟨hx255_0, hx256_0, hx257_0⟩ (fun hHeld => ?_); refine with_tabW impl_ReadBoxes.tab10 impl_ReadBoxes.bits10 (fun HT_ HW_ => ?_)
                          generalize w20.drew = w22 at HO_4 HO_14 HO254 HB hx255_0 hx256_0 hx257_0 hHeld ⊢
                          refine pure_ (i := 0) (N := some 32) (v := ?_) (a' := ?_) #[true, false, false, false, false, false, false, false, false, false, false, false, false, false, false, false, false] rfl rfl (any_of HT_.out (by kernel_rfl)) (fun _ _ _ h => h) (Or.inl ⟨by rfl, ?_⟩) ?_ ?_
                          rotate_left
                          · intro w'
                            go_simp
                            with_reducible rfl
                          rotate_left
                          · simp only [Act.put, List.setIfInBounds_toArray, List.set_cons_zero, List.set_cons_succ, i64_w, i32_w]
                            rfl
                          refine pure_ (i := 1) (N := some 33) (v := ?_) (a' := ?_) #[true, true, false, false, false, false, false, false, false, false, false, false, false, false, false, false, false] rfl rfl (any_of HT_.out (by kernel_rfl)) (fun _ _ _ h => h) (Or.inl ⟨by rfl, ?_⟩) ?_ ?_
                          rotate_left
                          · intro w'
                            go_simp
                            with_reducible rfl
                          rotate_left
                          · simp only [Act.put, List.setIfInBounds_toArray, List.set_cons_zero, List.set_cons_succ, i64_w, i32_w]
                            rfl
                          refine pure_ (i := 2) (N := some 34) (v := ?_) (a' := ?_) #[true, true, true, false, false, false, false, false, false, false, false, false, false, false, false, false, false] rfl rfl (any_of HT_.out (by kernel_rfl)) (fun _ _ _ h => h) (Or.inl ⟨by rfl, ?_⟩) ?_ ?_
                          rotate_left
                          · intro w'
                            go_simp
                            with_reducible rfl
                          rotate_left
                          · simp only [Act.put, List.setIfInBounds_toArray, List.set_cons_zero, List.set_cons_succ, i64_w, i32_w]
                            rfl
                          refine pure_ (i := 5) (N := some 37) (v := ?_) (a' := ?_) #[true, true, true, false, false, true, false, false, false, false, false, false, false, false, false, false, false] rfl rfl (any_of HT_.out (by kernel_rfl)) (fun _ _ _ h => h) (Or.inl ⟨by rfl, ?_⟩) ?_ ?_
                          rotate_left
                          · intro w'
                            go_simp
                            with_reducible rfl
                          rotate_left
                          · simp only [Act.put, List.setIfInBounds_toArray, List.set_cons_zero, List.set_cons_succ, i64_w, i32_w]
                            rfl
                          refine pure_ (i := 6) (N := some 38) (v := ?_) (a' := ?_) #[true, true, true, false, false, true, true, false, false, false, false, false, false, false, false, false, false] rfl rfl (any_of HT_.out (by kernel_rfl)) (fun _ _ _ h => h) (Or.inl ⟨by rfl, ?_⟩) ?_ ?_
                          rotate_left
                          · intro w'
                            go_simp
                            with_reducible rfl
                          rotate_left
                          · simp only [Act.put, List.setIfInBounds_toArray, List.set_cons_zero, List.set_cons_succ, i64_w, i32_w]
                            rfl
                          refine pure_ (i := 9) (N := some 41) (v := ?_) (a' := ?_) #[true, true, true, false, false, true, true, false, false, true, false, false, false, false, false, false, false] rfl rfl (any_of HT_.out (by kernel_rfl)) (fun _ _ _ h => h) (Or.inl ⟨by rfl, ?_⟩) ?_ ?_
                          rotate_left
                          · intro w'
                            go_simp
                            with_reducible rfl
                          rotate_left
                          · simp only [Act.put, List.setIfInBounds_toArray, List.set_cons_zero, List.set_cons_succ, i64_w, i32_w]
                            rfl
                          refine pure_ (i := 10) (N := some 42) (v := ?_) (a' := ?_) #[true, true, true, false, false, true, true, false, false, true, true, false, false, false, false, false, false] rfl rfl (any_of HT_.out (by kernel_rfl)) (fun _ _ _ h => h) (Or.inl ⟨by rfl, ?_⟩) ?_ ?_
                          rotate_left
                          · intro w'
                            go_simp
                            with_reducible rfl
                          rotate_left
                          · simp only [Act.put, List.setIfInBounds_toArray, List.set_cons_zero, List.set_cons_succ, i64_w, i32_w]
                            rfl
                          refine take_ (i := 3) (N := some 35) (v := ?_) (a' := ?_) #[true, true, true, true, false, true, true, false, false, true, true, false, false, false, false, false, false] rfl rfl (take_ofW HT_.out HW_.out (by kernel_rfl)) (fun _ _ _ h => h) (Or.inl ⟨by rfl, ?_⟩) hHeld ?_ ?_
                          rotate_left
                          · rintro w' ⟨s0, s1, s2⟩
                            go_simp
                            with_reducible rfl
                          rotate_left
                          · simp only [Act.put, List.setIfInBounds_toArray, List.set_cons_zero, List.set_cons_succ, i64_w, i32_w]
                            rfl
                          refine pure_ (i := 4) (N := some 36) (v := ?_) (a' := ?_) #[true, true, true, true, true, true, true, false, false, true, true, false, false, false, false, false, false] rfl rfl (any_of HT_.out (by kernel_rfl)) (fun _ _ _ h => h) (Or.inl ⟨by rfl, ?_⟩) ?_ ?_
                          rotate_left
                          · intro w'
                            go_simp
                            with_reducible rfl
                          rotate_left
                          · simp only [Act.put, List.setIfInBounds_toArray, List.set_cons_zero, List.set_cons_succ, i64_w, i32_w]
                            rfl
                          refine take_ (i := 7) (N := some 39) (v := ?_) (a' := ?_) #[true, true, true, true, true, true, true, true, false, true, true, false, false, false, false, false, false] rfl rfl (take_ofW HT_.out HW_.out (by kernel_rfl)) (fun _ _ _ h => h) (Or.inl ⟨by rfl, ?_⟩) hHeld ?_ ?_
                          rotate_left
                          · rintro w' ⟨s0, s1, s2⟩
                            go_simp
                            with_reducible rfl
                          rotate_left
                          · simp only [Act.put, List.setIfInBounds_toArray, List.set_cons_zero, List.set_cons_succ, i64_w, i32_w]
                            rfl
                          refine pure_ (i := 8) (N := some 40) (v := ?_) (a' := ?_) #[true, true, true, true, true, true, true, true, true, true, true, false, false, false, false, false, false] rfl rfl (any_of HT_.out (by kernel_rfl)) (fun _ _ _ h => h) (Or.inl ⟨by rfl, ?_⟩) ?_ ?_
                          rotate_left
                          · intro w'
                            go_simp
                            with_reducible rfl
                          rotate_left
                          · simp only [Act.put, List.setIfInBounds_toArray, List.set_cons_zero, List.set_cons_succ, i64_w, i32_w]
                            rfl
                          refine take_ (i := 11) (N := some 43) (v := ?_) (a' := ?_) #[true, true, true, true, true, true, true, true, true, true, true, true, false, false, false, false, false] rfl rfl (take_ofW HT_.out HW_.out (by kernel_rfl)) (fun _ _ _ h => h) (Or.inl ⟨by rfl, ?_⟩) hHeld ?_ ?_
                          rotate_left
                          · rintro w' ⟨s0, s1, s2⟩
                            go_simp
                            with_reducible rfl
                          rotate_left
                          · simp only [Act.put, List.setIfInBounds_toArray, List.set_cons_zero, List.set_cons_succ, i64_w, i32_w]
                            rfl
                          refine pure_ (i := 12) (N := some 44) (v := ?_) (a' := ?_) #[true, true, true, true, true, true, true, true, true, true, true, true, true, false, false, false, false] rfl rfl (any_of HT_.out (by kernel_rfl)) (fun _ _ _ h => h) (Or.inl ⟨by rfl, ?_⟩) ?_ ?_
                          rotate_left
                          · intro w'
                            go_simp
                            with_reducible rfl
                          rotate_left
                          · simp only [Act.put, List.setIfInBounds_toArray, List.set_cons_zero, List.set_cons_succ, i64_w, i32_w]
                            rfl
                          refine pure_ (i := 13) (N := some 45) (v := ?_) (a' := ?_) #[true, true, true, true, true, true, true, true, true, true, true, true, true, true, false, false, false] rfl rfl (any_of HT_.out (by kernel_rfl)) (fun _ _ _ h => h) (Or.inl ⟨by rfl, ?_⟩) ?_ ?_
                          rotate_left
                          · intro w'
                            go_simp
                            with_reducible rfl
                          rotate_left
                          · simp only [Act.put, List.setIfInBounds_toArray, List.set_cons_zero, List.set_cons_succ, i64_w, i32_w]
                            rfl
                          refine last_ (i := 14) (N := some 46) #[true, true, true, true, true, true, true, true, true, true, true, true, true, true, true, false, false] rfl rfl (one_of HT_.out (by kernel_rfl)) (by decide) (fun K hK => ?_)
                          refine value_ (w1 := ?_) (v := ?_) (by rfl) rfl ?_ ?_
                          rotate_left 2
                          · go_simp
                            constructor
                            · rfl
                            · rfl
                          refine hK.out _ _ ?_
                          clear hK K
                          refine norm_ (a' := ?_) ?_ ?_
                          rotate_left
                          · show Act.put _ (some 46) _ = _
                            simp only [Act.put, List.setIfInBounds_toArray, List.set_cons_zero, List.set_cons_succ, i64_w, i32_w]
                            rfl
                          refine last_ (i := 15) (N := some 47) #[true, true, true, true, true, true, true, true, true, true, true, true, true, true, true, true, false] rfl rfl (one_of HT_.out (by kernel_rfl)) (by decide) (fun K hK => ?_)
                          refine Kd.R_append_step k36 (w0 := w) w.heap.size (by rfl) (.tmp 32) (.tmp 46) 25 36 (.agg #[(.int .i8 0), (.int .i8 0), (.int .i8 0)]) 3 rfl Tryd.underlying25 info36 rfl (by decide) (by omega) u4 x4_1 (⟨IntKind.i8.wrap (rd t251 0), IntKind.i8.wrap (rd t251 1), IntKind.i8.wrap (rd t251 2)⟩ : S36) [.int .i8 (IntKind.i8.wrap (rd t251 0)), .int .i8 (IntKind.i8.wrap (rd t251 1)), .int .i8 (IntKind.i8.wrap (rd t251 2))] (fun _ => True) (fun _ => False) rfl rfl ?aP (fun _ hk => hk.elim) ?aF ?aO ?aB ?aS ?aL ?_
                          (case aP => exact k36_mkM _ _ _ (⟨IntKind.i8.wrap (rd t251 0), IntKind.i8.wrap (rd t251 1), IntKind.i8.wrap (rd t251 2)⟩ : S36))
                          (case aB => exact (by repeat (first | (with_reducible first | exact HB.out | apply below_alloc | apply pw_below_drewN | apply below_drew1) | exact HB.out)))
                          (case aF => exact (fun _ _ => trivial))
                          (case aO => exact (by (with_reducible repeat (first | apply Kd.R_alloc | apply Kd.R_drewN | apply Kd.R_drew)); exact HO_4.out))
                          (case aS => exact (below_size (by repeat (first | (with_reducible first | exact HB.out | apply below_alloc | apply pw_below_drewN | apply below_drew1) | exact HB.out))))
                          (case aL => have := LMc19.out; omega)
                          intro v259 w23 ho hb hg hat
                          rw [← Ny258.out] at ho
                          have n0_ := Aside0.mk (Kd.R_over' (by (with_reducible repeat (first | apply Kd.R_alloc | apply Kd.R_drewN | apply Kd.R_drew)); exact HO_14.out) (Kd.R_typed (by (with_reducible repeat (first | apply Kd.R_alloc | apply Kd.R_drewN | apply Kd.R_drew)); exact HO_4.out)) (by decide) hg)
                          have n1_ := Aside0.mk (Kd.R_over' (by (with_reducible repeat (first | apply Kd.R_alloc | apply Kd.R_drewN | apply Kd.R_drew)); exact HO254.out) (Kd.R_typed (by (with_reducible repeat (first | apply Kd.R_alloc | apply Kd.R_drewN | apply Kd.R_drew)); exact HO_4.out)) (by decide) hg)
                          have n2_ := Aside0.mk (hb)
                          have n3_ := Aside0.mk (ho)
                          clear HO_14
                          clear HO254
                          clear HB
                          clear HO_4
                          have HO_14 := n0_
                          have HO254 := n1_
                          have HB := n2_
                          have HO260 := n3_
                          clear n0_ n1_ n2_ n3_
                          clear ho hb hg hat
                          refine hK.out _ _ ?_
                          clear hK K
                          refine norm_ (a' := ?_) ?_ ?_
                          rotate_left
                          · show Act.put _ (some 47) _ = _
                            simp only [Act.put, List.setIfInBounds_toArray, List.set_cons_zero, List.set_cons_succ, i64_w, i32_w]
                            rfl
                          refine pure_ (i := 16) (N := some 4) (v := ?_) (a' := ?_) #[true, true, true, true, true, true, true, true, true, true, true, true, true, true, true, true, true] rfl rfl (any_of HT_.out (by kernel_rfl)) (fun _ _ _ h => h) (Or.inl ⟨by rfl, ?_⟩) ?_ ?_
                          rotate_left
                          · intro w'
                            go_simp
                            with_reducible rfl
                          rotate_left
                          · simp only [Act.put, List.setIfInBounds_toArray, List.set_cons_zero, List.set_cons_succ, i64_w, i32_w]
                            rfl
                          refine done_ (done_of HT_.out (by kernel_rfl)) ?_
                          try go_wp2
                          go_roundg k1
                          case measure => have := HK1.out; omega
                          case rel => exact ⟨(y258), (wrap64 (x16_1 + 1)), (by first | rfl | (simp; done) | (simp [*]; done)), H', ⟨by have := HK1.out; omega⟩, ⟨by (with_reducible repeat (first | apply Kd.R_alloc | apply Kd.R_drewN | apply Kd.R_drew)); exact HO260.out⟩, ⟨by (with_reducible repeat (first | apply Kd.R_alloc | apply Kd.R_drewN | apply Kd.R_drew)); exact HO_14.out⟩, ⟨by repeat (first | (with_reducible first | exact HB.out | apply below_alloc | apply pw_below_drewN | apply below_drew1) | exact HB.out)⟩⟩
                        · rw [if_neg c19] at H
                          exact absurd H (by simp)
                      · rw [if_neg c18] at H
                        exact absurd H (by simp)
                    · rw [if_neg c17] at H
                      exact absurd H (by simp)
                  · rw [if_neg c16] at H
                    exact absurd H (by simp)
                · rw [if_neg c15] at H
                  have c15b0 : ((t251.length : Int) == 3) = false := beq_eq_false_iff_ne.mpr c15
                  have c15b1 : ((t251.length : Int) != 3) = true := bne_iff_ne.mpr c15
                  simp only [Option.some.injEq, Prod.mk.injEq] at H
                  obtain ⟨rfl, rfl⟩ := H
                  have p250 : 0 ≤ (x16_1 : Int) := of_decide_eq_true (by first | (with_reducible assumption) | assumption)
                  have q250 : x16_1 < (t247.length : Int) := of_decide_eq_true (by first | (with_reducible assumption) | assumption)
                  obtain ⟨ad250, e250, hx250_0⟩ := Kd.at_string (Kd.R_reads' HO_14.out).2.2 x16_1 p250 q250
                  cases e250
                  replace p250 := eq_true p250
                  replace q250 := eq_true q250
                  go_wp2_with (first | ((with_reducible refine gate_callee (f := 24) rfl ?_); refine goesL_ (some 22) rfl rfl Tryd.func24 (by kernel_rfl) rfl #[.string (rdOf ByteArray.empty t247 x16_1), .string (⟨#[120]⟩ : ByteArray), .int .i64 60] rfl (by (try simp only [List.map_toArray, List.map_cons, List.map_nil]); first | done | rfl | (simp only [List.length_drop, List.length_take]; rfl)) ?_; (with_reducible refine (impl_fields.calls k1 (rdOf ByteArray.empty t247 x16_1) (⟨#[120]⟩ : ByteArray) 60 t251 true _ A13.out (GlobOk.below HG_.out (by repeat (first | (with_reducible first | exact HB.out | apply below_alloc | apply pw_below_drewN | apply below_drew1) | exact HB.out)))).mono ?_); rintro e w24 ⟨v253, rfl, ho0, hb⟩; refine ⟨_, rfl, ?_⟩; have n0_ := Aside0.mk (Kd.R_below (by (with_reducible repeat (first | apply Kd.R_alloc | apply Kd.R_drewN | apply Kd.R_drew)); exact HO_4.out) hb); have n1_ := Aside0.mk (Kd.R_below (by (with_reducible repeat (first | apply Kd.R_alloc | apply Kd.R_drewN | apply Kd.R_drew)); exact HO_14.out) hb); have n2_ := Aside0.mk (Kd.R_lower ho0 (below_size (by repeat (first | (with_reducible first | exact HB.out | apply below_alloc | apply pw_below_drewN | apply below_drew1) | exact HB.out)))); have n3_ := Aside0.mk (below_step (by repeat (first | (with_reducible first | exact HB.out | apply below_alloc | apply pw_below_drewN | apply below_drew1) | exact HB.out)) hb); clear HO_4; clear HO_14; clear HB; have HO_4 := n0_; have HO_14 := n1_; have HO254 := n2_; have HB := n3_; clear n0_ n1_ n2_ n3_; (try clear hb); (try clear hb2); (try clear hk); (try clear hi); (try clear ho0); obtain ⟨Ao25, co25, eo25⟩ := Kd.R_slice HO254.out; subst eo25))
                  go_ret2
                  exact ⟨_, by first | rfl | (simp [errW_none, errW_some] <;> rfl) | (simp [*, errW_none, errW_some] <;> rfl), by first | exact Kd.R_nil _ _ _ _ _ | exact Kd.N_nil _ _ _ _ _ | exact Kd.V_nil _ _ _ _ _ | exact Kd.Q_nil _ _ _ _ _ | exact Kd.S_nil _ _ _ _ _, by repeat (first | (with_reducible first | exact HB.out | apply below_alloc | apply pw_below_drewN | apply below_drew1) | exact HB.out)⟩
              · replace c14 := Bool.eq_false_iff.mpr c14
                subst c14
                have H1 : (some (([] : List (S36)), 5)) = some (r1, r2) := by rw [if_neg (show ¬ (false = true) by decide)] at H; exact H
                clear H
                have H := H1
                clear H1
                simp only [Option.some.injEq, Prod.mk.injEq] at H
                obtain ⟨rfl, rfl⟩ := H
                have p250 : 0 ≤ (x16_1 : Int) := of_decide_eq_true (by first | (with_reducible assumption) | assumption)
                have q250 : x16_1 < (t247.length : Int) := of_decide_eq_true (by first | (with_reducible assumption) | assumption)
                obtain ⟨ad250, e250, hx250_0⟩ := Kd.at_string (Kd.R_reads' HO_14.out).2.2 x16_1 p250 q250
                cases e250
                replace p250 := eq_true p250
                replace q250 := eq_true q250
                go_wp2_with (first | ((with_reducible refine gate_callee (f := 24) rfl ?_); refine goesL_ (some 22) rfl rfl Tryd.func24 (by kernel_rfl) rfl #[.string (rdOf ByteArray.empty t247 x16_1), .string (⟨#[120]⟩ : ByteArray), .int .i64 60] rfl (by (try simp only [List.map_toArray, List.map_cons, List.map_nil]); first | done | rfl | (simp only [List.length_drop, List.length_take]; rfl)) ?_; (with_reducible refine (impl_fields.calls k1 (rdOf ByteArray.empty t247 x16_1) (⟨#[120]⟩ : ByteArray) 60 t251 false _ A13.out (GlobOk.below HG_.out (by repeat (first | (with_reducible first | exact HB.out | apply below_alloc | apply pw_below_drewN | apply below_drew1) | exact HB.out)))).mono ?_); rintro e w26 ⟨v253, rfl, ho0, hb⟩; refine ⟨_, rfl, ?_⟩; have n0_ := Aside0.mk (Kd.R_below (by (with_reducible repeat (first | apply Kd.R_alloc | apply Kd.R_drewN | apply Kd.R_drew)); exact HO_4.out) hb); have n1_ := Aside0.mk (Kd.R_below (by (with_reducible repeat (first | apply Kd.R_alloc | apply Kd.R_drewN | apply Kd.R_drew)); exact HO_14.out) hb); have n2_ := Aside0.mk (Kd.R_lower ho0 (below_size (by repeat (first | (with_reducible first | exact HB.out | apply below_alloc | apply pw_below_drewN | apply below_drew1) | exact HB.out)))); have n3_ := Aside0.mk (below_step (by repeat (first | (with_reducible first | exact HB.out | apply below_alloc | apply pw_below_drewN | apply below_drew1) | exact HB.out)) hb); clear HO_4; clear HO_14; clear HB; have HO_4 := n0_; have HO_14 := n1_; have HO254 := n2_; have HB := n3_; clear n0_ n1_ n2_ n3_; (try clear hb); (try clear hb2); (try clear hk); (try clear hi); (try clear ho0)))
                go_ret2
                exact ⟨_, by first | rfl | (simp [errW_none, errW_some] <;> rfl) | (simp [*, errW_none, errW_some] <;> rfl), by first | exact Kd.R_nil _ _ _ _ _ | exact Kd.N_nil _ _ _ _ _ | exact Kd.V_nil _ _ _ _ _ | exact Kd.Q_nil _ _ _ _ _ | exact Kd.S_nil _ _ _ _ _, by repeat (first | (with_reducible first | exact HB.out | apply below_alloc | apply pw_below_drewN | apply below_drew1) | exact HB.out)⟩
            · rw [if_neg c12] at H
              exact absurd H (by simp)
          · rw [if_neg c11] at H
            exact absurd H (by simp)
        · rw [if_neg c10] at H
          have c10b0 : decide (x16_1 < (t247.length : Int)) = false := decide_eq_false c10
          clear c10
          replace H := Option.bind_eq_some_iff.mp H
          obtain ⟨t261, A270, H⟩ := H
          replace H : (if t261 = 0 then (some (x4_1, 0)) else (some (([] : List (S36)), 5))) = some (r1, r2) := H
          have A27 := Aside0.mk A270
          clear A270
          by_cases c28 : t261 = 0
          · rw [if_pos c28] at H
            have c28b0 : (t261 == 0) = true := beq_iff_eq.mpr c28
            have c28b1 : (t261 != 0) = false := bne_eq_false_iff_eq.mpr c28
            clear c28
            simp only [Option.some.injEq, Prod.mk.injEq] at H
            obtain ⟨rfl, rfl⟩ := H
            obtain ⟨Ao29, co29, eo29⟩ := Kd.R_slice HO_4.out
            subst eo29
            go_wp2_with (first | ((with_reducible refine gate_callee (f := 17) rfl ?_); refine goesL_ (some 50) rfl rfl Tryd.func17 (by kernel_rfl) rfl #[.slice Ao29 x4_1.length co29] rfl (by (try simp only [List.map_toArray, List.map_cons, List.map_nil]); first | done | rfl | (simp only [List.length_drop, List.length_take]; rfl)) ?_; (with_reducible refine (impl_boxesCode.calls k1 _ _ x4_1 t261 _ ?side1 ?side2 A27.out).mono ?_); (case side1 => repeat (first | exact (Kd.R_reads' HO_4.out).2.2 | (with_reducible refine Kd.C_alloc ?_ _) | (with_reducible refine Kd.C_drewN ?_ _) | (with_reducible refine Kd.C_drew ?_))); (case side2 => exact (Kd.R_reads' HO_4.out).2.1); rintro e w30 ⟨rfl, hb⟩; refine ⟨_, rfl, ?_⟩; have n0_ := Aside0.mk (Kd.R_below (by (with_reducible repeat (first | apply Kd.R_alloc | apply Kd.R_drewN | apply Kd.R_drew)); exact HO_4.out) hb); have n1_ := Aside0.mk (Kd.R_below (by (with_reducible repeat (first | apply Kd.R_alloc | apply Kd.R_drewN | apply Kd.R_drew)); exact HO_14.out) hb); have n2_ := Aside0.mk (below_step (by repeat (first | (with_reducible first | exact HB.out | apply below_alloc | apply pw_below_drewN | apply below_drew1) | exact HB.out)) hb); clear HO_4; clear HO_14; clear HB; have HO_4 := n0_; have HO_14 := n1_; have HB := n2_; clear n0_ n1_ n2_; (try clear hb); (try clear hb2); (try clear hk); (try clear hi)))
            go_ret2
            exact ⟨_, by first | rfl | (simp [errW_none, errW_some] <;> rfl) | (simp [*, errW_none, errW_some] <;> rfl), by (with_reducible repeat (first | apply Kd.R_alloc | apply Kd.R_drewN | apply Kd.R_drew)); exact HO_4.out, by repeat (first | (with_reducible first | exact HB.out | apply below_alloc | apply pw_below_drewN | apply below_drew1) | exact HB.out)⟩
          · rw [if_neg c28] at H
            have c28b0 : (t261 == 0) = false := beq_eq_false_iff_ne.mpr c28
            have c28b1 : (t261 != 0) = true := bne_iff_ne.mpr c28
            simp only [Option.some.injEq, Prod.mk.injEq] at H
            obtain ⟨rfl, rfl⟩ := H
            obtain ⟨Ao31, co31, eo31⟩ := Kd.R_slice HO_4.out
            subst eo31
            go_wp2_with (first | ((with_reducible refine gate_callee (f := 17) rfl ?_); refine goesL_ (some 50) rfl rfl Tryd.func17 (by kernel_rfl) rfl #[.slice Ao31 x4_1.length co31] rfl (by (try simp only [List.map_toArray, List.map_cons, List.map_nil]); first | done | rfl | (simp only [List.length_drop, List.length_take]; rfl)) ?_; (with_reducible refine (impl_boxesCode.calls k1 _ _ x4_1 t261 _ ?side1 ?side2 A27.out).mono ?_); (case side1 => repeat (first | exact (Kd.R_reads' HO_4.out).2.2 | (with_reducible refine Kd.C_alloc ?_ _) | (with_reducible refine Kd.C_drewN ?_ _) | (with_reducible refine Kd.C_drew ?_))); (case side2 => exact (Kd.R_reads' HO_4.out).2.1); rintro e w32 ⟨rfl, hb⟩; refine ⟨_, rfl, ?_⟩; have n0_ := Aside0.mk (Kd.R_below (by (with_reducible repeat (first | apply Kd.R_alloc | apply Kd.R_drewN | apply Kd.R_drew)); exact HO_4.out) hb); have n1_ := Aside0.mk (Kd.R_below (by (with_reducible repeat (first | apply Kd.R_alloc | apply Kd.R_drewN | apply Kd.R_drew)); exact HO_14.out) hb); have n2_ := Aside0.mk (below_step (by repeat (first | (with_reducible first | exact HB.out | apply below_alloc | apply pw_below_drewN | apply below_drew1) | exact HB.out)) hb); clear HO_4; clear HO_14; clear HB; have HO_4 := n0_; have HO_14 := n1_; have HB := n2_; clear n0_ n1_ n2_; (try clear hb); (try clear hb2); (try clear hk); (try clear hi)))
            go_ret2
            exact ⟨_, by first | rfl | (simp [errW_none, errW_some] <;> rfl) | (simp [*, errW_none, errW_some] <;> rfl), by first | exact Kd.R_nil _ _ _ _ _ | exact Kd.N_nil _ _ _ _ _ | exact Kd.V_nil _ _ _ _ _ | exact Kd.Q_nil _ _ _ _ _ | exact Kd.S_nil _ _ _ _ _, by repeat (first | (with_reducible first | exact HB.out | apply below_alloc | apply pw_below_drewN | apply below_drew1) | exact HB.out)⟩

end Go.Proofs.YtipdmnibjkdpcaaDoor.P

namespace Go.Proofs.YtipdmnibjkdpcaaDoor.P
open Go.RowKit Go.Proofs.YtipdmnibjkdpcaaDoorW.PrintWords Go.Proofs.YtipdmnibjkdpcaaDoorW.PrintLast Go.Proofs.YtipdmnibjkdpcaaDoorW.PrintMore
attribute [local go_sem] max2_int min2_int max_two min_two max_three min_three max_four min_four   -- for this text's walks alone
set_option linter.unusedVariables false
set_option linter.unusedSimpArgs false

/-! ### laws_markBoxS: function 12 -/
def laws_markBoxS.l0 : Nat → List (S36) → Int → Int → Option (Int × (List (S36)))
  | 0, _, _, _ => none
  | k + 1, x0, x1, x5 => if x5 < (x0.length : Int) then (if 0 ≤ x5 then ((some (x0.set (x5 : Int).toNat (⟨IntKind.i8.wrap (x1), (rd_T36 x0 x5).f1, (rd_T36 x0 x5).f2⟩ : S36) : List (S36))).bind fun y262 => ((some (y262.set (x5 : Int).toNat (⟨(rd_T36 y262 x5).f0, IntKind.i8.wrap (wrap64 (x1 + 1)), (rd_T36 y262 x5).f2⟩ : S36) : List (S36))).bind fun y263 => (laws_markBoxS.l0 k (y263.set (x5 : Int).toNat (⟨(rd_T36 y263 x5).f0, (rd_T36 y263 x5).f1, IntKind.i8.wrap (wrap64 ((wrap64 (x1 + 1)) + 1))⟩ : S36)) (wrap64 ((wrap64 ((wrap64 (x1 + 1)) + 1)) + 1)) (wrap64 (x5 + 1))))) else (none)) else (some (x1, x0))
def laws_markBoxS.f (k : Nat) (l0 : List (S36)) (a1 : Int) : Option (Int × (List (S36))) := laws_markBoxS.l0 k l0 a1 0
theorem laws_markBoxS.mono_l : ∀ k, (∀ y0 y1 y2, LeO (laws_markBoxS.l0 k y0 y1 y2) (laws_markBoxS.l0 (k + 1) y0 y1 y2))
  | 0 => fun _ _ _ r h => by simp [laws_markBoxS.l0] at h
  | k + 1 => by
    have ih0 := laws_markBoxS.mono_l k
    · intro y0 y1 y2
      unfold laws_markBoxS.l0
      repeat' first
      | (with_reducible exact ih0 _ _ _)
      | (with_reducible exact LeO.refl _)
      | (with_reducible exact LeO.none _)
      | (with_reducible refine LeO.ite ?_ ?_)
      | (with_reducible refine LeO.bind ?_ (fun _ => ?_))
      | exact ih0 _ _ _
      | exact LeO.none _
      | refine LeO.ite ?_ ?_
      | refine LeO.bind ?_ (fun _ => ?_)
theorem laws_markBoxS.mono : ∀ a0 a1 k, LeO (laws_markBoxS.f k a0 a1) (laws_markBoxS.f (k + 1) a0 a1) := by
  intro a0 a1 k
  have ih0 := laws_markBoxS.mono_l k
  unfold laws_markBoxS.f
  repeat' first
      | (with_reducible exact ih0 _ _ _)
      | (with_reducible exact LeO.refl _)
      | (with_reducible exact LeO.none _)
      | (with_reducible refine LeO.ite ?_ ?_)
      | (with_reducible refine LeO.bind ?_ (fun _ => ?_))
      | exact ih0 _ _ _
      | exact LeO.none _
      | refine LeO.ite ?_ ?_
      | refine LeO.bind ?_ (fun _ => ?_)
set_option maxHeartbeats 8000000 in
set_option maxRecDepth 100000 in
theorem laws_markBoxS.calls (k : Nat) (P0_ : Nat → Prop) (u9000_ : Value) (l0 : List (S36)) (a1 : Int) (r1 : Int) (r2 : List (S36)) (w0 w : World) (hB : Below w0.heap.size w0 w) (ho0 : Kd.R k36 36 w w0.heap.size P0_ u9000_ l0) (h : laws_markBoxS.f k l0 a1 = some (r1, r2)) :
    Calls Tryd.prog 12 #[u9000_, .int .i64 a1] w fun e w' => e = .returned (.int .i64 r1) ∧ Kd.R k36 36 w' w0.heap.size (fun k_ => (P0_ k_ ∨ w.heap.size ≤ k_)) u9000_ r2 ∧ Below w0.heap.size w0 w' ∧ Kept w w' (fun k_ => P0_ k_) := by
  have HO0 := Aside0.mk (show Kd.R k36 36 w w0.heap.size (fun k_ => (P0_ k_ ∨ w.heap.size ≤ k_)) u9000_ l0 from Kd.R_mono ho0 (fun k_ hk => (.inl hk)))
  have HK := Aside0.mk (Kept.refl w (fun k_ => P0_ k_))
  have HW0 := Aside0.mk hB.size
  have HB := Aside0.mk hB
  clear hB
  have H : (laws_markBoxS.l0 k l0 a1 0) = some (r1, r2) := h
  clear h
  have H' := Aside0.mk H
  clear H
  go_enter Tryd.func12, Tryd.ntmps12
  go_wp2
  go_loopg [1, 5] k (fun kq v1 v5 w' => ∃ (x0_1 : List (S36)) (x1_1 : Int) (x5_1 : Int), v1 = .int .i64 x1_1 ∧ v5 = .int .i64 x5_1 ∧ Aside0 (laws_markBoxS.l0 kq x0_1 x1_1 x5_1 = some (r1, r2)) ∧ Aside0 (kq ≤ k) ∧ Aside0 (Kd.R k36 36 w' w0.heap.size (fun k_ => (P0_ k_ ∨ w.heap.size ≤ k_)) u9000_ x0_1) ∧ Aside0 (Kept w w' (fun k_ => P0_ k_)) ∧ Aside0 (Below w0.heap.size w0 w'))
  case atStart => exact ⟨(l0), (a1), (0), (by first | rfl | (simp; done) | (simp [*]; done)), (by first | rfl | (simp; done) | (simp [*]; done)), H', ⟨Nat.le_refl _⟩, ⟨by (with_reducible repeat (first | apply Kd.R_alloc | apply Kd.R_drewN | apply Kd.R_drew)); exact HO0.out⟩, ⟨by repeat (first | (with_reducible first | exact HK.out | apply Kept.alloc | apply Kept.drewN | apply Kept.drew) | exact HK.out)⟩, ⟨by repeat (first | (with_reducible first | exact HB.out | apply below_alloc | apply pw_below_drewN | apply below_drew1) | exact HB.out)⟩⟩
  case round =>
    clear H'
    try clear c1
    try clear p2
    obtain ⟨x0_1, x1_1, x5_1, rfl, rfl, HA, HK1, HO_0, HK, HB⟩ := hrel
    cases gk with
    | zero => exact absurd HA.out (by simp [laws_markBoxS.l0])
    | succ k1 =>
      have H := HA.out
      clear HA
      simp only [laws_markBoxS.l0] at H
      by_cases c3 : x5_1 < (x0_1.length : Int)
      · rw [if_pos c3] at H
        have c3b0 : decide (x5_1 < (x0_1.length : Int)) = true := decide_eq_true c3
        clear c3
        by_cases c4 : 0 ≤ x5_1
        · rw [if_pos c4] at H
          have c4b0 : decide (0 ≤ x5_1) = true := decide_eq_true c4
          clear c4
          obtain ⟨y262, hy262⟩ : ∃ y_ : List (S36), y_ = (x0_1.set (x5_1 : Int).toNat (⟨IntKind.i8.wrap (x1_1), (rd_T36 x0_1 x5_1).f1, (rd_T36 x0_1 x5_1).f2⟩ : S36)) := ⟨_, rfl⟩
          replace H : ((some (y262.set (x5_1 : Int).toNat (⟨(rd_T36 y262 x5_1).f0, IntKind.i8.wrap (wrap64 (x1_1 + 1)), (rd_T36 y262 x5_1).f2⟩ : S36) : List (S36))).bind fun y263 => (laws_markBoxS.l0 k1 (y263.set (x5_1 : Int).toNat (⟨(rd_T36 y263 x5_1).f0, (rd_T36 y263 x5_1).f1, IntKind.i8.wrap (wrap64 ((wrap64 (x1_1 + 1)) + 1))⟩ : S36)) (wrap64 ((wrap64 ((wrap64 (x1_1 + 1)) + 1)) + 1)) (wrap64 (x5_1 + 1)))) = some (r1, r2) := by first | (rw [hy262]; with_reducible exact H) | (have H2_ := (Option.bind_some _ _).symm.trans H; rw [hy262]; with_reducible exact H2_) | (have H2_ := (Option.bind_some _ _).symm.trans H; with_reducible exact H2_) | with_reducible exact H | (rw [hy262]; exact H) | exact H
          have Ny262 := Aside0.mk hy262
          clear hy262
          obtain ⟨y263, hy263⟩ : ∃ y_ : List (S36), y_ = (y262.set (x5_1 : Int).toNat (⟨(rd_T36 y262 x5_1).f0, IntKind.i8.wrap (wrap64 (x1_1 + 1)), (rd_T36 y262 x5_1).f2⟩ : S36)) := ⟨_, rfl⟩
          replace H : (laws_markBoxS.l0 k1 (y263.set (x5_1 : Int).toNat (⟨(rd_T36 y263 x5_1).f0, (rd_T36 y263 x5_1).f1, IntKind.i8.wrap (wrap64 ((wrap64 (x1_1 + 1)) + 1))⟩ : S36)) (wrap64 ((wrap64 ((wrap64 (x1_1 + 1)) + 1)) + 1)) (wrap64 (x5_1 + 1))) = some (r1, r2) := by first | (rw [hy263]; with_reducible exact H) | (have H2_ := (Option.bind_some _ _).symm.trans H; rw [hy263]; with_reducible exact H2_) | (have H2_ := (Option.bind_some _ _).symm.trans H; with_reducible exact H2_) | with_reducible exact H | (rw [hy263]; exact H) | exact H
          have Ny263 := Aside0.mk hy263
          clear hy263
          obtain ⟨y264, hy264⟩ : ∃ y_ : List (S36), y_ = (y263.set (x5_1 : Int).toNat (⟨(rd_T36 y263 x5_1).f0, (rd_T36 y263 x5_1).f1, IntKind.i8.wrap (wrap64 ((wrap64 (x1_1 + 1)) + 1))⟩ : S36)) := ⟨_, rfl⟩
          replace H : (laws_markBoxS.l0 k1 y264 (wrap64 ((wrap64 ((wrap64 (x1_1 + 1)) + 1)) + 1)) (wrap64 (x5_1 + 1))) = some (r1, r2) := by first | (rw [hy264]; with_reducible exact H) | (have H2_ := (Option.bind_some _ _).symm.trans H; rw [hy264]; with_reducible exact H2_) | (have H2_ := (Option.bind_some _ _).symm.trans H; with_reducible exact H2_) | with_reducible exact H | (rw [hy264]; exact H) | exact H
          have Ny264 := Aside0.mk hy264
          clear hy264
          have H' := Aside0.mk H
          clear H
          obtain ⟨Ao8, co8, eo8⟩ := Kd.R_slice HO_0.out
          subst eo8
          have p5 : 0 ≤ (x5_1 : Int) := of_decide_eq_true (by first | (with_reducible assumption) | assumption)
          have q5 : (x5_1 : Int) < ((x0_1.length : Int) : Int) := of_decide_eq_true (by first | (with_reducible assumption) | assumption)
          obtain ⟨go5, co5, eo5, gb5, gl5, cl5, HG5⟩ := Kd.R_form HO_0.out (by omega)
          (first | cases eo5 | (injection eo5 with ea_ en_ ec_; (first | subst ea_ | (injection ea_ with ea_; subst ea_)); subst ec_; clear en_))
          have GB5 := Aside0.mk gb5
          have GG5 := Aside0.mk HG5
          clear gb5 gl5 HG5
          have HMgo5 := Aside0.mk (show (P0_ go5 ∨ w.heap.size ≤ go5) from (HO_0.out.1 _ rfl))
          obtain ⟨ce5, hcl5, hM5, hcc5, hfr5⟩ := Kd.R_elem HO_0.out z36 (x5_1 : Int) p5 q5
          obtain rfl := k36_openM hM5
          have hx5_0 : wr.cell? ⟨go5, (x5_1 : Int).toNat * 3, none⟩ = some (.int .i8 ((rd_T36 x0_1 x5_1).f0)) := hcc5 0 _ rfl
          have hx5_1 : wr.cell? ⟨go5, (x5_1 : Int).toNat * 3 + 1, none⟩ = some (.int .i8 ((rd_T36 x0_1 x5_1).f1)) := hcc5 1 _ rfl
          have hx5_2 : wr.cell? ⟨go5, (x5_1 : Int).toNat * 3 + 2, none⟩ = some (.int .i8 ((rd_T36 x0_1 x5_1).f2)) := hcc5 2 _ rfl
          have hf5_0 : wr.frozen? ⟨go5, (x5_1 : Int).toNat * 3, none⟩ = false := hfr5 0
          have hf5_1 : wr.frozen? ⟨go5, (x5_1 : Int).toNat * 3 + 1, none⟩ = false := hfr5 1
          have hf5_2 : wr.frozen? ⟨go5, (x5_1 : Int).toNat * 3 + 2, none⟩ = false := hfr5 2
          clear hcl5 hcc5 hfr5 hM5
          replace p5 := eq_true p5
          replace q5 := eq_true q5
          have HX9 := Aside0.mk (show Kd.R k36 36 wr w0.heap.size (fun k_ => (P0_ k_ ∨ w.heap.size ≤ k_)) (.slice (some ⟨go5, 0, none⟩) x0_1.length co8) x0_1 from (by (with_reducible repeat (first | apply Kd.R_alloc | apply Kd.R_drewN | apply Kd.R_drew)); exact HO_0.out))
          obtain ⟨ce9, hcl9, hM9, hcc9, hfr9⟩ := Kd.R_elem HX9.out z36 (x5_1 : Int) (of_decide_eq_true (by first | (with_reducible assumption) | assumption)) (by have h_ : (x5_1 : Int) < ((x0_1.length : Int) : Int) := of_decide_eq_true (by first | (with_reducible assumption) | assumption); first | exact h_ | (have e_ := (Kd.R_reads' HO_0.out).1; omega) | simpa using h_)
          obtain rfl := k36_openM hM9
          have HP9 := Kd.R_seg HX9.out (x5_1 : Int) (of_decide_eq_true (by first | (with_reducible assumption) | assumption)) (by have h_ : (x5_1 : Int) < ((x0_1.length : Int) : Int) := of_decide_eq_true (by first | (with_reducible assumption) | assumption); first | exact h_ | (have e_ := (Kd.R_reads' HO_0.out).1; omega) | simpa using h_) (seg := [.int .i8 (IntKind.i8.wrap (x1_1))]) (j := 0) hcl9 hcc9 (show 1 ≤ 3 from by decide) (x' := (⟨IntKind.i8.wrap (x1_1), (rd_T36 x0_1 x5_1).f1, (rd_T36 x0_1 x5_1).f2⟩ : S36)) (k36_mkM _ _ _ (⟨IntKind.i8.wrap (x1_1), (rd_T36 x0_1 x5_1).f1, (rd_T36 x0_1 x5_1).f2⟩ : S36) ) (fun _ hk => hk)
          have hx9_0 := hcc9 0 _ rfl
          (try simp only [show (k36).sz = 3 from rfl, Nat.mul_one, Nat.add_zero] at hx9_0)
          have hf9_0 := hfr9 0
          (try simp only [show (k36).sz = 3 from rfl, Nat.mul_one, Nat.add_zero] at hf9_0)
          clear hcl9 hcc9 hfr9 hM9
          go_wp2_with (first | ((with_reducible refine gate_store (t := 34) (p := 17) rfl ?_); refine store_event (t := 34) (p := 17) (v := ?vo_w10) (w1 := (wr.setCell ⟨go5, (x5_1 : Int).toNat * 3, none⟩ (.int .i8 (IntKind.i8.wrap (x1_1))))) ?hg ?ho ?hn ?hr ?_; (case ho => rfl); (case hg => rfl); (case hn => rfl); (case hr => first | (go_simp; done) | (go_simp; rfl)); intro w10 hw; have hg : wr.grownBy w10 (some go5) := (by rw [hw]; exact HP9.2); have hp_ : Kd.R k36 36 w10 w0.heap.size (fun k_ => (P0_ k_ ∨ w.heap.size ≤ k_)) (.slice (some ⟨go5, 0, none⟩) x0_1.length co8) y262 := (by rw [hw, Ny262.out]; exact HP9.1); clear HP9; have n0_ := Aside0.mk (hp_); have n1_ := Aside0.mk ((by rw [hw]; exact below_set (HB.out) GB5.out : Below w0.heap.size w0 w10)); have n2_ := Aside0.mk (Kept.of_grown (S := (fun k_ => P0_ k_)) hg (by repeat (first | (with_reducible first | exact HK.out | apply Kept.alloc | apply Kept.drewN | apply Kept.drew) | exact HK.out)) (fun k_ e_ => (HO_0.out.1 k_ e_))); clear HO_0; clear HB; clear HK; have HO_0 := n0_; have HB := n1_; have HK := n2_; clear n0_ n1_ n2_; clear hg hw hp_; have p6 : 0 ≤ (x5_1 : Int) := of_decide_eq_true (by first | (with_reducible assumption) | assumption); have q6 : (x5_1 : Int) < ((x0_1.length : Int) : Int) := of_decide_eq_true (by first | (with_reducible assumption) | assumption); obtain ⟨ce6, hcl6, hM6, hcc6, hfr6⟩ := Kd.R_elem HO_0.out z36 (x5_1 : Int) p6 q6; obtain rfl := k36_openM hM6; have hx6_0 : w10.cell? ⟨go5, (x5_1 : Int).toNat * 3, none⟩ = some (.int .i8 ((rd_T36 y262 x5_1).f0)) := hcc6 0 _ rfl; have hx6_1 : w10.cell? ⟨go5, (x5_1 : Int).toNat * 3 + 1, none⟩ = some (.int .i8 ((rd_T36 y262 x5_1).f1)) := hcc6 1 _ rfl; have hx6_2 : w10.cell? ⟨go5, (x5_1 : Int).toNat * 3 + 2, none⟩ = some (.int .i8 ((rd_T36 y262 x5_1).f2)) := hcc6 2 _ rfl; have hf6_0 : w10.frozen? ⟨go5, (x5_1 : Int).toNat * 3, none⟩ = false := hfr6 0; have hf6_1 : w10.frozen? ⟨go5, (x5_1 : Int).toNat * 3 + 1, none⟩ = false := hfr6 1; have hf6_2 : w10.frozen? ⟨go5, (x5_1 : Int).toNat * 3 + 2, none⟩ = false := hfr6 2; clear hcl6 hcc6 hfr6 hM6; replace p6 := eq_true p6; replace q6 := eq_true q6; have HX11 := Aside0.mk (show Kd.R k36 36 w10 w0.heap.size (fun k_ => (P0_ k_ ∨ w.heap.size ≤ k_)) (.slice (some ⟨go5, 0, none⟩) x0_1.length co8) y262 from (by (with_reducible repeat (first | apply Kd.R_alloc | apply Kd.R_drewN | apply Kd.R_drew)); exact HO_0.out)); obtain ⟨ce11, hcl11, hM11, hcc11, hfr11⟩ := Kd.R_elem HX11.out z36 (x5_1 : Int) (of_decide_eq_true (by first | (with_reducible assumption) | assumption)) (by have h_ : (x5_1 : Int) < ((x0_1.length : Int) : Int) := of_decide_eq_true (by first | (with_reducible assumption) | assumption); first | exact h_ | (have e_ := (Kd.R_reads' HO_0.out).1; omega) | simpa using h_); obtain rfl := k36_openM hM11; have HP11 := Kd.R_seg HX11.out (x5_1 : Int) (of_decide_eq_true (by first | (with_reducible assumption) | assumption)) (by have h_ : (x5_1 : Int) < ((x0_1.length : Int) : Int) := of_decide_eq_true (by first | (with_reducible assumption) | assumption); first | exact h_ | (have e_ := (Kd.R_reads' HO_0.out).1; omega) | simpa using h_) (seg := [.int .i8 (IntKind.i8.wrap (wrap64 (x1_1 + 1)))]) (j := 1) hcl11 hcc11 (show 2 ≤ 3 from by decide) (x' := (⟨(rd_T36 y262 x5_1).f0, IntKind.i8.wrap (wrap64 (x1_1 + 1)), (rd_T36 y262 x5_1).f2⟩ : S36)) (k36_mkM _ _ _ (⟨(rd_T36 y262 x5_1).f0, IntKind.i8.wrap (wrap64 (x1_1 + 1)), (rd_T36 y262 x5_1).f2⟩ : S36) ) (fun _ hk => hk); have hx11_1 := hcc11 1 _ rfl; (try simp only [show (k36).sz = 3 from rfl, Nat.mul_one, Nat.add_zero] at hx11_1); have hf11_1 := hfr11 1; (try simp only [show (k36).sz = 3 from rfl, Nat.mul_one, Nat.add_zero] at hf11_1); clear hcl11 hcc11 hfr11 hM11) | ((with_reducible refine gate_store (t := 34) (p := 25) rfl ?_); refine store_event (t := 34) (p := 25) (v := ?vo_w12) (w1 := (w10.setCell ⟨go5, (x5_1 : Int).toNat * 3 + 1, none⟩ (.int .i8 (IntKind.i8.wrap (wrap64 (x1_1 + 1)))))) ?hg ?ho ?hn ?hr ?_; (case ho => rfl); (case hg => rfl); (case hn => rfl); (case hr => first | (go_simp; done) | (go_simp; rfl)); intro w12 hw; have hg : w10.grownBy w12 (some go5) := (by rw [hw]; exact HP11.2); have hp_ : Kd.R k36 36 w12 w0.heap.size (fun k_ => (P0_ k_ ∨ w.heap.size ≤ k_)) (.slice (some ⟨go5, 0, none⟩) x0_1.length co8) y263 := (by rw [hw, Ny263.out]; exact HP11.1); clear HP11; have n0_ := Aside0.mk (hp_); have n1_ := Aside0.mk ((by rw [hw]; exact below_set (HB.out) GB5.out : Below w0.heap.size w0 w12)); have n2_ := Aside0.mk (Kept.of_grown (S := (fun k_ => P0_ k_)) hg (by repeat (first | (with_reducible first | exact HK.out | apply Kept.alloc | apply Kept.drewN | apply Kept.drew) | exact HK.out)) (fun k_ e_ => (HO_0.out.1 k_ e_))); clear HO_0; clear HB; clear HK; have HO_0 := n0_; have HB := n1_; have HK := n2_; clear n0_ n1_ n2_; clear hg hw hp_; have p7 : 0 ≤ (x5_1 : Int) := of_decide_eq_true (by first | (with_reducible assumption) | assumption); have q7 : (x5_1 : Int) < ((x0_1.length : Int) : Int) := of_decide_eq_true (by first | (with_reducible assumption) | assumption); obtain ⟨ce7, hcl7, hM7, hcc7, hfr7⟩ := Kd.R_elem HO_0.out z36 (x5_1 : Int) p7 q7; obtain rfl := k36_openM hM7; have hx7_0 : w12.cell? ⟨go5, (x5_1 : Int).toNat * 3, none⟩ = some (.int .i8 ((rd_T36 y263 x5_1).f0)) := hcc7 0 _ rfl; have hx7_1 : w12.cell? ⟨go5, (x5_1 : Int).toNat * 3 + 1, none⟩ = some (.int .i8 ((rd_T36 y263 x5_1).f1)) := hcc7 1 _ rfl; have hx7_2 : w12.cell? ⟨go5, (x5_1 : Int).toNat * 3 + 2, none⟩ = some (.int .i8 ((rd_T36 y263 x5_1).f2)) := hcc7 2 _ rfl; have hf7_0 : w12.frozen? ⟨go5, (x5_1 : Int).toNat * 3, none⟩ = false := hfr7 0; have hf7_1 : w12.frozen? ⟨go5, (x5_1 : Int).toNat * 3 + 1, none⟩ = false := hfr7 1; have hf7_2 : w12.frozen? ⟨go5, (x5_1 : Int).toNat * 3 + 2, none⟩ = false := hfr7 2; clear hcl7 hcc7 hfr7 hM7; replace p7 := eq_true p7; replace q7 := eq_true q7; have HX13 := Aside0.mk (show Kd.R k36 36 w12 w0.heap.size (fun k_ => (P0_ k_ ∨ w.heap.size ≤ k_)) (.slice (some ⟨go5, 0, none⟩) x0_1.length co8) y263 from (by (with_reducible repeat (first | apply Kd.R_alloc | apply Kd.R_drewN | apply Kd.R_drew)); exact HO_0.out)); obtain ⟨ce13, hcl13, hM13, hcc13, hfr13⟩ := Kd.R_elem HX13.out z36 (x5_1 : Int) (of_decide_eq_true (by first | (with_reducible assumption) | assumption)) (by have h_ : (x5_1 : Int) < ((x0_1.length : Int) : Int) := of_decide_eq_true (by first | (with_reducible assumption) | assumption); first | exact h_ | (have e_ := (Kd.R_reads' HO_0.out).1; omega) | simpa using h_); obtain rfl := k36_openM hM13; have HP13 := Kd.R_seg HX13.out (x5_1 : Int) (of_decide_eq_true (by first | (with_reducible assumption) | assumption)) (by have h_ : (x5_1 : Int) < ((x0_1.length : Int) : Int) := of_decide_eq_true (by first | (with_reducible assumption) | assumption); first | exact h_ | (have e_ := (Kd.R_reads' HO_0.out).1; omega) | simpa using h_) (seg := [.int .i8 (IntKind.i8.wrap (wrap64 ((wrap64 (x1_1 + 1)) + 1)))]) (j := 2) hcl13 hcc13 (show 3 ≤ 3 from by decide) (x' := (⟨(rd_T36 y263 x5_1).f0, (rd_T36 y263 x5_1).f1, IntKind.i8.wrap (wrap64 ((wrap64 (x1_1 + 1)) + 1))⟩ : S36)) (k36_mkM _ _ _ (⟨(rd_T36 y263 x5_1).f0, (rd_T36 y263 x5_1).f1, IntKind.i8.wrap (wrap64 ((wrap64 (x1_1 + 1)) + 1))⟩ : S36) ) (fun _ hk => hk); have hx13_2 := hcc13 2 _ rfl; (try simp only [show (k36).sz = 3 from rfl, Nat.mul_one, Nat.add_zero] at hx13_2); have hf13_2 := hfr13 2; (try simp only [show (k36).sz = 3 from rfl, Nat.mul_one, Nat.add_zero] at hf13_2); clear hcl13 hcc13 hfr13 hM13) | ((with_reducible refine gate_store (t := 34) (p := 33) rfl ?_); refine store_event (t := 34) (p := 33) (v := ?vo_w14) (w1 := (w12.setCell ⟨go5, (x5_1 : Int).toNat * 3 + 2, none⟩ (.int .i8 (IntKind.i8.wrap (wrap64 ((wrap64 (x1_1 + 1)) + 1)))))) ?hg ?ho ?hn ?hr ?_; (case ho => rfl); (case hg => rfl); (case hn => rfl); (case hr => first | (go_simp; done) | (go_simp; rfl)); intro w14 hw; have hg : w12.grownBy w14 (some go5) := (by rw [hw]; exact HP13.2); have hp_ : Kd.R k36 36 w14 w0.heap.size (fun k_ => (P0_ k_ ∨ w.heap.size ≤ k_)) (.slice (some ⟨go5, 0, none⟩) x0_1.length co8) y264 := (by rw [hw, Ny264.out]; exact HP13.1); clear HP13; have n0_ := Aside0.mk (hp_); have n1_ := Aside0.mk ((by rw [hw]; exact below_set (HB.out) GB5.out : Below w0.heap.size w0 w14)); have n2_ := Aside0.mk (Kept.of_grown (S := (fun k_ => P0_ k_)) hg (by repeat (first | (with_reducible first | exact HK.out | apply Kept.alloc | apply Kept.drewN | apply Kept.drew) | exact HK.out)) (fun k_ e_ => (HO_0.out.1 k_ e_))); clear HO_0; clear HB; clear HK; have HO_0 := n0_; have HB := n1_; have HK := n2_; clear n0_ n1_ n2_; clear hg hw hp_))
          go_roundg k1
          case measure => have := HK1.out; omega
          case rel => exact ⟨(y264), (wrap64 ((wrap64 ((wrap64 (x1_1 + 1)) + 1)) + 1)), (wrap64 (x5_1 + 1)), (by first | rfl | (simp; done) | (simp [*]; done)), (by first | rfl | (simp; done) | (simp [*]; done)), H', ⟨by have := HK1.out; omega⟩, ⟨by (with_reducible repeat (first | apply Kd.R_alloc | apply Kd.R_drewN | apply Kd.R_drew)); exact HO_0.out⟩, ⟨by repeat (first | (with_reducible first | exact HK.out | apply Kept.alloc | apply Kept.drewN | apply Kept.drew) | exact HK.out)⟩, ⟨by repeat (first | (with_reducible first | exact HB.out | apply below_alloc | apply pw_below_drewN | apply below_drew1) | exact HB.out)⟩⟩
        · rw [if_neg c4] at H
          exact absurd H (by simp)
      · rw [if_neg c3] at H
        have c3b0 : decide (x5_1 < (x0_1.length : Int)) = false := decide_eq_false c3
        clear c3
        simp only [Option.some.injEq, Prod.mk.injEq] at H
        obtain ⟨rfl, rfl⟩ := H
        obtain ⟨Ao15, co15, eo15⟩ := Kd.R_slice HO_0.out
        subst eo15
        go_wp2
        go_ret
        exact ⟨by first | rfl | (simp [errW_none, errW_some] <;> rfl) | (simp [*, errW_none, errW_some] <;> rfl), by (with_reducible repeat (first | apply Kd.R_alloc | apply Kd.R_drewN | apply Kd.R_drew)); exact HO_0.out, by repeat (first | (with_reducible first | exact HB.out | apply below_alloc | apply pw_below_drewN | apply below_drew1) | exact HB.out), by repeat (first | (with_reducible first | exact HK.out | apply Kept.alloc | apply Kept.drewN | apply Kept.drew) | exact HK.out)⟩

end Go.Proofs.YtipdmnibjkdpcaaDoor.P

namespace Go.Proofs.YtipdmnibjkdpcaaDoor.P
open Go.RowKit Go.Proofs.YtipdmnibjkdpcaaDoorW.PrintWords Go.Proofs.YtipdmnibjkdpcaaDoorW.PrintLast Go.Proofs.YtipdmnibjkdpcaaDoorW.PrintMore
attribute [local go_sem] max2_int min2_int max_two min_two max_three min_three max_four min_four   -- for this text's walks alone
set_option linter.unusedVariables false
set_option linter.unusedSimpArgs false

/-! ### laws_heldBoxS: function 13 -/
def laws_heldBoxS.l0 : Nat → List (S36) → Int → Int → Option (Int)
  | 0, _, _, _ => none
  | k + 1, x0, x1, x5 => if x5 < (x0.length : Int) then (if 0 ≤ x5 then (if ((rd_T36 x0 x5).f0) = (IntKind.i8.wrap (x1)) then (if ((rd_T36 x0 x5).f1) = (IntKind.i8.wrap (wrap64 (x1 + 1))) then (if ((rd_T36 x0 x5).f2) = (IntKind.i8.wrap (wrap64 ((wrap64 (x1 + 1)) + 1))) then (laws_heldBoxS.l0 k x0 (wrap64 ((wrap64 ((wrap64 (x1 + 1)) + 1)) + 1)) (wrap64 (x5 + 1))) else (some (-1))) else (some (-1))) else (some (-1))) else (none)) else (some x1)
def laws_heldBoxS.f (k : Nat) (l0 : List (S36)) (a1 : Int) : Option (Int) := laws_heldBoxS.l0 k l0 a1 0
theorem laws_heldBoxS.mono_l : ∀ k, (∀ y0 y1 y2, LeO (laws_heldBoxS.l0 k y0 y1 y2) (laws_heldBoxS.l0 (k + 1) y0 y1 y2))
  | 0 => fun _ _ _ r h => by simp [laws_heldBoxS.l0] at h
  | k + 1 => by
    have ih0 := laws_heldBoxS.mono_l k
    · intro y0 y1 y2
      unfold laws_heldBoxS.l0
      repeat' first
      | (with_reducible exact ih0 _ _ _)
      | (with_reducible exact LeO.refl _)
      | (with_reducible exact LeO.none _)
      | (with_reducible refine LeO.ite ?_ ?_)
      | (with_reducible refine LeO.bind ?_ (fun _ => ?_))
      | exact ih0 _ _ _
      | exact LeO.none _
      | refine LeO.ite ?_ ?_
      | refine LeO.bind ?_ (fun _ => ?_)
theorem laws_heldBoxS.mono : ∀ a0 a1 k, LeO (laws_heldBoxS.f k a0 a1) (laws_heldBoxS.f (k + 1) a0 a1) := by
  intro a0 a1 k
  have ih0 := laws_heldBoxS.mono_l k
  unfold laws_heldBoxS.f
  repeat' first
      | (with_reducible exact ih0 _ _ _)
      | (with_reducible exact LeO.refl _)
      | (with_reducible exact LeO.none _)
      | (with_reducible refine LeO.ite ?_ ?_)
      | (with_reducible refine LeO.bind ?_ (fun _ => ?_))
      | exact ih0 _ _ _
      | exact LeO.none _
      | refine LeO.ite ?_ ?_
      | refine LeO.bind ?_ (fun _ => ?_)
set_option maxHeartbeats 8000000 in
set_option maxRecDepth 100000 in
theorem laws_heldBoxS.calls (k : Nat) (A0 : Option Addr) (c0 : Nat) (l0 : List (S36)) (a1 : Int) (r : Int) (w : World) (hr0 : Kd.C k36 w A0 l0.length l0) (hc0 : l0.length ≤ c0) (h : laws_heldBoxS.f k l0 a1 = some r) :
    Calls Tryd.prog 13 #[.slice A0 l0.length c0, .int .i64 a1] w fun e w' => e = .returned (.int .i64 r) ∧ Drawn0 w w' := by
  have HR0 := Aside0.mk hr0
  have HC0 := Aside0.mk hc0
  clear hr0 hc0
  have H : (laws_heldBoxS.l0 k l0 a1 0) = some r := h
  clear h
  have H' := Aside0.mk H
  clear H
  go_enter Tryd.func13, Tryd.ntmps13
  go_wp2
  go_loopg [1, 5] k (fun kq v1 v5 w' => ∃ (x1_1 : Int) (x5_1 : Int), v1 = .int .i64 x1_1 ∧ v5 = .int .i64 x5_1 ∧ Aside0 (laws_heldBoxS.l0 kq l0 x1_1 x5_1 = some r) ∧ Aside0 (kq ≤ k) ∧ Drawn0 w w')
  case atStart => exact ⟨(a1), (0), (by first | rfl | (simp; done) | (simp [*]; done)), (by first | rfl | (simp; done) | (simp [*]; done)), H', ⟨Nat.le_refl _⟩, by repeat (first | exact Drawn0.refl _ | apply Drawn0.step)⟩
  case round =>
    clear H'
    try clear c1
    try clear p2
    obtain ⟨x1_1, x5_1, rfl, rfl, HA, HK1, ⟨m1, rfl⟩⟩ := hrel
    cases gk with
    | zero => exact absurd HA.out (by simp [laws_heldBoxS.l0])
    | succ k1 =>
      have H := HA.out
      clear HA
      simp only [laws_heldBoxS.l0] at H
      by_cases c3 : x5_1 < (l0.length : Int)
      · rw [if_pos c3] at H
        have c3b0 : decide (x5_1 < (l0.length : Int)) = true := decide_eq_true c3
        clear c3
        by_cases c4 : 0 ≤ x5_1
        · rw [if_pos c4] at H
          have c4b0 : decide (0 ≤ x5_1) = true := decide_eq_true c4
          clear c4
          by_cases c5 : ((rd_T36 l0 x5_1).f0) = (IntKind.i8.wrap (x1_1))
          · rw [if_pos c5] at H
            have c5b0 : (((rd_T36 l0 x5_1).f0) == (IntKind.i8.wrap (x1_1))) = true := beq_iff_eq.mpr c5
            have c5b1 : (((rd_T36 l0 x5_1).f0) != (IntKind.i8.wrap (x1_1))) = false := bne_eq_false_iff_eq.mpr c5
            clear c5
            by_cases c6 : ((rd_T36 l0 x5_1).f1) = (IntKind.i8.wrap (wrap64 (x1_1 + 1)))
            · rw [if_pos c6] at H
              have c6b0 : (((rd_T36 l0 x5_1).f1) == (IntKind.i8.wrap (wrap64 (x1_1 + 1)))) = true := beq_iff_eq.mpr c6
              have c6b1 : (((rd_T36 l0 x5_1).f1) != (IntKind.i8.wrap (wrap64 (x1_1 + 1)))) = false := bne_eq_false_iff_eq.mpr c6
              clear c6
              by_cases c7 : ((rd_T36 l0 x5_1).f2) = (IntKind.i8.wrap (wrap64 ((wrap64 (x1_1 + 1)) + 1)))
              · rw [if_pos c7] at H
                have c7b0 : (((rd_T36 l0 x5_1).f2) == (IntKind.i8.wrap (wrap64 ((wrap64 (x1_1 + 1)) + 1)))) = true := beq_iff_eq.mpr c7
                have c7b1 : (((rd_T36 l0 x5_1).f2) != (IntKind.i8.wrap (wrap64 ((wrap64 (x1_1 + 1)) + 1)))) = false := bne_eq_false_iff_eq.mpr c7
                clear c7
                have H' := Aside0.mk H
                clear H
                have p265 : 0 ≤ (x5_1 : Int) := of_decide_eq_true (by first | (with_reducible assumption) | assumption)
                have q265 : x5_1 < (l0.length : Int) := of_decide_eq_true (by first | (with_reducible assumption) | assumption)
                obtain ⟨ad265, e265, hx265_0, hx265_1, hx265_2⟩ := at_T36 HR0.out x5_1 p265 q265
                cases e265
                replace p265 := eq_true p265
                replace q265 := eq_true q265
                have p266 : 0 ≤ (x5_1 : Int) := of_decide_eq_true (by first | (with_reducible assumption) | assumption)
                have q266 : x5_1 < (l0.length : Int) := of_decide_eq_true (by first | (with_reducible assumption) | assumption)
                obtain ⟨ad266, e266, hx266_0, hx266_1, hx266_2⟩ := at_T36 HR0.out x5_1 p266 q266
                obtain rfl : ad265 = ad266 := (by injection e266)
                replace p266 := eq_true p266
                replace q266 := eq_true q266
                have p267 : 0 ≤ (x5_1 : Int) := of_decide_eq_true (by first | (with_reducible assumption) | assumption)
                have q267 : x5_1 < (l0.length : Int) := of_decide_eq_true (by first | (with_reducible assumption) | assumption)
                obtain ⟨ad267, e267, hx267_0, hx267_1, hx267_2⟩ := at_T36 HR0.out x5_1 p267 q267
                obtain rfl : ad265 = ad267 := (by injection e267)
                replace p267 := eq_true p267
                replace q267 := eq_true q267
                go_wp2
                go_roundg k1
                case measure => have := HK1.out; omega
                case rel => exact ⟨(wrap64 ((wrap64 ((wrap64 (x1_1 + 1)) + 1)) + 1)), (wrap64 (x5_1 + 1)), (by first | rfl | (simp; done) | (simp [*]; done)), (by first | rfl | (simp; done) | (simp [*]; done)), H', ⟨by have := HK1.out; omega⟩, by repeat (first | exact Drawn0.refl _ | apply Drawn0.step)⟩
              · rw [if_neg c7] at H
                have c7b0 : (((rd_T36 l0 x5_1).f2) == (IntKind.i8.wrap (wrap64 ((wrap64 (x1_1 + 1)) + 1)))) = false := beq_eq_false_iff_ne.mpr c7
                have c7b1 : (((rd_T36 l0 x5_1).f2) != (IntKind.i8.wrap (wrap64 ((wrap64 (x1_1 + 1)) + 1)))) = true := bne_iff_ne.mpr c7
                obtain rfl := Option.some.inj H
                have p265 : 0 ≤ (x5_1 : Int) := of_decide_eq_true (by first | (with_reducible assumption) | assumption)
                have q265 : x5_1 < (l0.length : Int) := of_decide_eq_true (by first | (with_reducible assumption) | assumption)
                obtain ⟨ad265, e265, hx265_0, hx265_1, hx265_2⟩ := at_T36 HR0.out x5_1 p265 q265
                cases e265
                replace p265 := eq_true p265
                replace q265 := eq_true q265
                have p266 : 0 ≤ (x5_1 : Int) := of_decide_eq_true (by first | (with_reducible assumption) | assumption)
                have q266 : x5_1 < (l0.length : Int) := of_decide_eq_true (by first | (with_reducible assumption) | assumption)
                obtain ⟨ad266, e266, hx266_0, hx266_1, hx266_2⟩ := at_T36 HR0.out x5_1 p266 q266
                obtain rfl : ad265 = ad266 := (by injection e266)
                replace p266 := eq_true p266
                replace q266 := eq_true q266
                have p267 : 0 ≤ (x5_1 : Int) := of_decide_eq_true (by first | (with_reducible assumption) | assumption)
                have q267 : x5_1 < (l0.length : Int) := of_decide_eq_true (by first | (with_reducible assumption) | assumption)
                obtain ⟨ad267, e267, hx267_0, hx267_1, hx267_2⟩ := at_T36 HR0.out x5_1 p267 q267
                obtain rfl : ad265 = ad267 := (by injection e267)
                replace p267 := eq_true p267
                replace q267 := eq_true q267
                go_wp2
                go_ret
                exact ⟨by first | rfl | (simp; done) | (simp [*]; done), by repeat (first | exact Drawn0.refl _ | apply Drawn0.step)⟩
            · rw [if_neg c6] at H
              have c6b0 : (((rd_T36 l0 x5_1).f1) == (IntKind.i8.wrap (wrap64 (x1_1 + 1)))) = false := beq_eq_false_iff_ne.mpr c6
              have c6b1 : (((rd_T36 l0 x5_1).f1) != (IntKind.i8.wrap (wrap64 (x1_1 + 1)))) = true := bne_iff_ne.mpr c6
              obtain rfl := Option.some.inj H
              have p265 : 0 ≤ (x5_1 : Int) := of_decide_eq_true (by first | (with_reducible assumption) | assumption)
              have q265 : x5_1 < (l0.length : Int) := of_decide_eq_true (by first | (with_reducible assumption) | assumption)
              obtain ⟨ad265, e265, hx265_0, hx265_1, hx265_2⟩ := at_T36 HR0.out x5_1 p265 q265
              cases e265
              replace p265 := eq_true p265
              replace q265 := eq_true q265
              have p266 : 0 ≤ (x5_1 : Int) := of_decide_eq_true (by first | (with_reducible assumption) | assumption)
              have q266 : x5_1 < (l0.length : Int) := of_decide_eq_true (by first | (with_reducible assumption) | assumption)
              obtain ⟨ad266, e266, hx266_0, hx266_1, hx266_2⟩ := at_T36 HR0.out x5_1 p266 q266
              obtain rfl : ad265 = ad266 := (by injection e266)
              replace p266 := eq_true p266
              replace q266 := eq_true q266
              go_wp2
              go_ret
              exact ⟨by first | rfl | (simp; done) | (simp [*]; done), by repeat (first | exact Drawn0.refl _ | apply Drawn0.step)⟩
          · rw [if_neg c5] at H
            have c5b0 : (((rd_T36 l0 x5_1).f0) == (IntKind.i8.wrap (x1_1))) = false := beq_eq_false_iff_ne.mpr c5
            have c5b1 : (((rd_T36 l0 x5_1).f0) != (IntKind.i8.wrap (x1_1))) = true := bne_iff_ne.mpr c5
            obtain rfl := Option.some.inj H
            have p265 : 0 ≤ (x5_1 : Int) := of_decide_eq_true (by first | (with_reducible assumption) | assumption)
            have q265 : x5_1 < (l0.length : Int) := of_decide_eq_true (by first | (with_reducible assumption) | assumption)
            obtain ⟨ad265, e265, hx265_0, hx265_1, hx265_2⟩ := at_T36 HR0.out x5_1 p265 q265
            cases e265
            replace p265 := eq_true p265
            replace q265 := eq_true q265
            go_wp2
            go_ret
            exact ⟨by first | rfl | (simp; done) | (simp [*]; done), by repeat (first | exact Drawn0.refl _ | apply Drawn0.step)⟩
        · rw [if_neg c4] at H
          exact absurd H (by simp)
      · rw [if_neg c3] at H
        have c3b0 : decide (x5_1 < (l0.length : Int)) = false := decide_eq_false c3
        clear c3
        obtain rfl := Option.some.inj H
        go_wp2
        go_ret
        exact ⟨by first | rfl | (simp; done) | (simp [*]; done), by repeat (first | exact Drawn0.refl _ | apply Drawn0.step)⟩

end Go.Proofs.YtipdmnibjkdpcaaDoor.P

namespace Go.Proofs.YtipdmnibjkdpcaaDoor.P
open Go.RowKit Go.Proofs.YtipdmnibjkdpcaaDoorW.PrintWords Go.Proofs.YtipdmnibjkdpcaaDoorW.PrintLast Go.Proofs.YtipdmnibjkdpcaaDoorW.PrintMore
attribute [local go_sem] max2_int min2_int max_two min_two max_three min_three max_four min_four   -- for this text's walks alone
set_option linter.unusedVariables false
set_option linter.unusedSimpArgs false

/-! ### laws_FnExactReadBoxes: function 4 -/
mutual
def laws_FnExactReadBoxes.j0 : Nat → ByteArray → List (S36) → Int → List (S36) → Bool → Option (Bool)
  | 0, _, _, _, _, _ => none
  | k + 1, x0, x3, x4, x5, x32 => if x32 = true then (some false) else ((laws_markBoxS.f k x5 1).bind fun bt277 => ((laws_heldBoxS.f k bt277.2 1).bind fun t279 => (if t279 < 0 then (some false) else (if t279 = bt277.1 then ((impl_ReadBoxes.f k x0).bind fun bt280 => ((laws_eqBoxS.f k bt280.1 x3).bind fun t284 => (if t284 = true then (laws_FnExactReadBoxes.j1 k bt277.2 bt277.1 (bt280.2 != x4)) else (laws_FnExactReadBoxes.j1 k bt277.2 bt277.1 true)))) else (some false)))))
def laws_FnExactReadBoxes.j1 : Nat → List (S36) → Int → Bool → Option (Bool)
  | 0, _, _, _ => none
  | k + 1, x5, x7, x57 => if x57 = true then (some false) else ((laws_heldBoxS.f k x5 1).bind fun t285 => (if t285 < 0 then (some false) else (if t285 = x7 then (some true) else (some false))))
end
def laws_FnExactReadBoxes.f (k : Nat) (a0 : ByteArray) : Option (Bool) := if (a0.size : Int) > 1048576 then (some true) else ((spec_ReadBoxes.f k a0).bind fun bt268 => ((impl_ReadBoxes.f k a0).bind fun bt272 => ((laws_eqBoxS.f k bt272.1 bt268.1).bind fun t276 => (if t276 = true then (laws_FnExactReadBoxes.j0 k a0 bt268.1 bt268.2 bt272.1 (bt272.2 != bt268.2)) else (laws_FnExactReadBoxes.j0 k a0 bt268.1 bt268.2 bt272.1 true)))))
theorem laws_FnExactReadBoxes.mono_l : ∀ k, (∀ y0 y1 y2 y3 y4, LeO (laws_FnExactReadBoxes.j0 k y0 y1 y2 y3 y4) (laws_FnExactReadBoxes.j0 (k + 1) y0 y1 y2 y3 y4)) ∧ (∀ y0 y1 y2, LeO (laws_FnExactReadBoxes.j1 k y0 y1 y2) (laws_FnExactReadBoxes.j1 (k + 1) y0 y1 y2))
  | 0 => ⟨fun _ _ _ _ _ r h => by simp [laws_FnExactReadBoxes.j0] at h, fun _ _ _ r h => by simp [laws_FnExactReadBoxes.j1] at h⟩
  | k + 1 => by
    obtain ⟨ih0, ih1⟩ := laws_FnExactReadBoxes.mono_l k
    refine ⟨?_, ?_⟩
    · intro y0 y1 y2 y3 y4
      unfold laws_FnExactReadBoxes.j0
      repeat' first
      | (with_reducible exact ih0 _ _ _ _ _)
      | (with_reducible exact ih1 _ _ _)
      | (with_reducible exact impl_ReadBoxes.mono _ _)
      | (with_reducible exact laws_eqBoxS.mono _ _ _)
      | (with_reducible exact laws_heldBoxS.mono _ _ _)
      | (with_reducible exact laws_markBoxS.mono _ _ _)
      | (with_reducible exact spec_ReadBoxes.mono _ _)
      | (with_reducible exact LeO.refl _)
      | (with_reducible exact LeO.none _)
      | (with_reducible refine LeO.ite ?_ ?_)
      | (with_reducible refine LeO.bind ?_ (fun _ => ?_))
      | exact ih0 _ _ _ _ _
      | exact ih1 _ _ _
      | exact impl_ReadBoxes.mono _ _
      | exact laws_eqBoxS.mono _ _ _
      | exact laws_heldBoxS.mono _ _ _
      | exact laws_markBoxS.mono _ _ _
      | exact spec_ReadBoxes.mono _ _
      | exact LeO.none _
      | refine LeO.ite ?_ ?_
      | refine LeO.bind ?_ (fun _ => ?_)
    · intro y0 y1 y2
      unfold laws_FnExactReadBoxes.j1
      repeat' first
      | (with_reducible exact ih0 _ _ _ _ _)
      | (with_reducible exact ih1 _ _ _)
      | (with_reducible exact impl_ReadBoxes.mono _ _)
      | (with_reducible exact laws_eqBoxS.mono _ _ _)
      | (with_reducible exact laws_heldBoxS.mono _ _ _)
      | (with_reducible exact laws_markBoxS.mono _ _ _)
      | (with_reducible exact spec_ReadBoxes.mono _ _)
      | (with_reducible exact LeO.refl _)
      | (with_reducible exact LeO.none _)
      | (with_reducible refine LeO.ite ?_ ?_)
      | (with_reducible refine LeO.bind ?_ (fun _ => ?_))
      | exact ih0 _ _ _ _ _
      | exact ih1 _ _ _
      | exact impl_ReadBoxes.mono _ _
      | exact laws_eqBoxS.mono _ _ _
      | exact laws_heldBoxS.mono _ _ _
      | exact laws_markBoxS.mono _ _ _
      | exact spec_ReadBoxes.mono _ _
      | exact LeO.none _
      | refine LeO.ite ?_ ?_
      | refine LeO.bind ?_ (fun _ => ?_)
theorem laws_FnExactReadBoxes.mono : ∀ a0 k, LeO (laws_FnExactReadBoxes.f k a0) (laws_FnExactReadBoxes.f (k + 1) a0) := by
  intro a0 k
  obtain ⟨ih0, ih1⟩ := laws_FnExactReadBoxes.mono_l k
  unfold laws_FnExactReadBoxes.f
  repeat' first
      | (with_reducible exact ih0 _ _ _ _ _)
      | (with_reducible exact ih1 _ _ _)
      | (with_reducible exact impl_ReadBoxes.mono _ _)
      | (with_reducible exact laws_eqBoxS.mono _ _ _)
      | (with_reducible exact laws_heldBoxS.mono _ _ _)
      | (with_reducible exact laws_markBoxS.mono _ _ _)
      | (with_reducible exact spec_ReadBoxes.mono _ _)
      | (with_reducible exact LeO.refl _)
      | (with_reducible exact LeO.none _)
      | (with_reducible refine LeO.ite ?_ ?_)
      | (with_reducible refine LeO.bind ?_ (fun _ => ?_))
      | exact ih0 _ _ _ _ _
      | exact ih1 _ _ _
      | exact impl_ReadBoxes.mono _ _
      | exact laws_eqBoxS.mono _ _ _
      | exact laws_heldBoxS.mono _ _ _
      | exact laws_markBoxS.mono _ _ _
      | exact spec_ReadBoxes.mono _ _
      | exact LeO.none _
      | refine LeO.ite ?_ ?_
      | refine LeO.bind ?_ (fun _ => ?_)
set_option maxHeartbeats 8000000 in
set_option maxRecDepth 100000 in
theorem laws_FnExactReadBoxes.calls (k : Nat) (a0 : ByteArray) (r : Bool) (w : World) (h : laws_FnExactReadBoxes.f k a0 = some r) (hlaw_ : r = true := by rfl) (hG_ : GlobOk w) :
    Calls Tryd.prog 4 #[.string a0] w fun e w' => e = .returned (.bool r) ∧ Below w.heap.size w w' := by
  have HG_ := Aside0.mk hG_
  clear hG_
  have HLAW := Aside0.mk hlaw_
  clear hlaw_
  have HB := Aside0.mk (Below.refl w.heap.size w)
  have H : (if (a0.size : Int) > 1048576 then (some true) else ((spec_ReadBoxes.f k a0).bind fun bt268 => ((impl_ReadBoxes.f k a0).bind fun bt272 => ((laws_eqBoxS.f k bt272.1 bt268.1).bind fun t276 => (if t276 = true then (laws_FnExactReadBoxes.j0 k a0 bt268.1 bt268.2 bt272.1 (bt272.2 != bt268.2)) else (laws_FnExactReadBoxes.j0 k a0 bt268.1 bt268.2 bt272.1 true)))))) = some r := h
  clear h
  by_cases c2 : (a0.size : Int) > 1048576
  · rw [if_pos c2] at H
    have c2b0 : decide (1048576 < (a0.size : Int)) = true := decide_eq_true c2
    have c2b1 : decide (1048576 < a0.size) = true := decide_eq_true (by omega)
    clear c2
    obtain rfl := Option.some.inj H
    go_enter Tryd.func4, Tryd.ntmps4
    go_wp2
    go_ret
    exact ⟨by first | rfl | (simp [errW_none, errW_some] <;> rfl) | (simp [*, errW_none, errW_some] <;> rfl), by repeat (first | (with_reducible first | exact HB.out | apply below_alloc | apply pw_below_drewN | apply below_drew1) | exact HB.out)⟩
  · rw [if_neg c2] at H
    have c2b0 : decide (1048576 < (a0.size : Int)) = false := decide_eq_false c2
    have c2b1 : decide (1048576 < a0.size) = false := decide_eq_false (by omega)
    clear c2
    replace H := Option.bind_eq_some_iff.mp H
    obtain ⟨⟨t268, t269⟩, A30, H⟩ := H
    replace H : ((impl_ReadBoxes.f k a0).bind fun bt272 => ((laws_eqBoxS.f k bt272.1 t268).bind fun t276 => (if t276 = true then (laws_FnExactReadBoxes.j0 k a0 t268 t269 bt272.1 (bt272.2 != t269)) else (laws_FnExactReadBoxes.j0 k a0 t268 t269 bt272.1 true)))) = some r := H
    have A3 := Aside0.mk A30
    clear A30
    replace H := Option.bind_eq_some_iff.mp H
    obtain ⟨⟨t272, t273⟩, A40, H⟩ := H
    replace H : ((laws_eqBoxS.f k t272 t268).bind fun t276 => (if t276 = true then (laws_FnExactReadBoxes.j0 k a0 t268 t269 t272 (t273 != t269)) else (laws_FnExactReadBoxes.j0 k a0 t268 t269 t272 true))) = some r := H
    have A4 := Aside0.mk A40
    clear A40
    have HC5 := Aside0.mk H
    clear H
    go_enter Tryd.func4, Tryd.ntmps4
    go_upto_region 5 with (first | ((with_reducible refine gate_callee (f := 10) rfl ?_); refine goesL_ (some 16) rfl rfl Tryd.func10 (by kernel_rfl) rfl #[.string a0] rfl (by (try simp only [List.map_toArray, List.map_cons, List.map_nil]); first | done | rfl | (simp only [List.length_drop, List.length_take]; rfl)) ?_; (with_reducible refine (spec_ReadBoxes.calls k a0 t268 t269 _ A3.out).mono ?_); rintro e w6 ⟨v270, rfl, ho0, hb⟩; refine ⟨_, rfl, ?_⟩; have n0_ := Aside0.mk (Kd.R_lower ho0 (below_size (by repeat (first | (with_reducible first | exact HB.out | apply below_alloc | apply pw_below_drewN | apply below_drew1) | exact HB.out)))); have n1_ := Aside0.mk (below_step (by repeat (first | (with_reducible first | exact HB.out | apply below_alloc | apply pw_below_drewN | apply below_drew1) | exact HB.out)) hb); clear HB; have HO271 := n0_; have HB := n1_; clear n0_ n1_; (try clear hb); (try clear hb2); (try clear hk); (try clear hi); (try clear ho0)) | ((with_reducible refine gate_callee (f := 11) rfl ?_); refine goesL_ (some 21) rfl rfl Tryd.func11 (by kernel_rfl) rfl #[.string a0] rfl (by (try simp only [List.map_toArray, List.map_cons, List.map_nil]); first | done | rfl | (simp only [List.length_drop, List.length_take]; rfl)) ?_; (with_reducible refine (impl_ReadBoxes.calls k a0 t272 t273 _ A4.out (GlobOk.below HG_.out (by repeat (first | (with_reducible first | exact HB.out | apply below_alloc | apply pw_below_drewN | apply below_drew1) | exact HB.out)))).mono ?_); rintro e w7 ⟨v274, rfl, ho0, hb⟩; refine ⟨_, rfl, ?_⟩; have n0_ := Aside0.mk (Kd.R_elder' (by (with_reducible repeat (first | apply Kd.R_alloc | apply Kd.R_drewN | apply Kd.R_drew)); exact HO271.out) (Kd.R_base ho0) hb); have n1_ := Aside0.mk (Kd.R_lower (Kd.R_new' ho0 (Kd.R_lt (by (with_reducible repeat (first | apply Kd.R_alloc | apply Kd.R_drewN | apply Kd.R_drew)); exact HO271.out))) (below_size (by repeat (first | (with_reducible first | exact HB.out | apply below_alloc | apply pw_below_drewN | apply below_drew1) | exact HB.out)))); have n2_ := Aside0.mk (below_step (by repeat (first | (with_reducible first | exact HB.out | apply below_alloc | apply pw_below_drewN | apply below_drew1) | exact HB.out)) hb); clear HO271; clear HB; have HO271 := n0_; have HO275 := n1_; have HB := n2_; clear n0_ n1_ n2_; (try clear hb); (try clear hb2); (try clear hk); (try clear hi); (try clear ho0)))
    (try simp only [Act.put, List.setIfInBounds_toArray, List.set_cons_zero, List.set_cons_succ])
    go_cut [32] (fun v32 wc => ∃ (kq : Nat) (x32_4 : Bool), v32 = .bool x32_4 ∧ Aside0 (laws_FnExactReadBoxes.j0 kq a0 t268 t269 t272 x32_4 = some r) ∧ Aside0 (kq ≤ k) ∧ Aside0 (Kd.R k36 36 wc w.heap.size (fun k_ => some k_ ≠ (v274 : Value).ownBlock) v270 t268) ∧ Aside0 (Kd.R k36 36 wc w.heap.size (fun k_ => some k_ ≠ (v270 : Value).ownBlock) v274 t272) ∧ Aside0 (Below w.heap.size w wc))
    case first =>
      have H := HC5.out
      clear HC5
      replace H := Option.bind_eq_some_iff.mp H
      obtain ⟨t276, A80, H⟩ := H
      replace H : (if t276 = true then (laws_FnExactReadBoxes.j0 k a0 t268 t269 t272 (t273 != t269)) else (laws_FnExactReadBoxes.j0 k a0 t268 t269 t272 true)) = some r := H
      have A8 := Aside0.mk A80
      clear A80
      by_cases c9 : t276 = true
      · subst c9
        have H1 : (laws_FnExactReadBoxes.j0 k a0 t268 t269 t272 (t273 != t269)) = some r := by rw [if_pos rfl] at H; exact H
        clear H
        have H := H1
        clear H1
        have H' := Aside0.mk H
        clear H
        obtain ⟨Ao10, co10, eo10⟩ := Kd.R_slice HO275.out
        subst eo10
        obtain ⟨Ao11, co11, eo11⟩ := Kd.R_slice HO271.out
        subst eo11
        go_wp2_with (first | ((with_reducible refine gate_callee (f := 9) rfl ?_); refine goesL_ (some 26) rfl rfl Tryd.func9 (by kernel_rfl) rfl #[.slice Ao10 t272.length co10, .slice Ao11 t268.length co11] rfl (by (try simp only [List.map_toArray, List.map_cons, List.map_nil]); first | done | rfl | (simp only [List.length_drop, List.length_take]; rfl)) ?_; (with_reducible refine (laws_eqBoxS.calls k _ _ t272 _ _ t268 true _ ?side1 ?side2 ?side3 ?side4 A8.out).mono ?_); (case side1 => repeat (first | exact (Kd.R_reads' HO275.out).2.2 | (with_reducible refine Kd.C_alloc ?_ _) | (with_reducible refine Kd.C_drewN ?_ _) | (with_reducible refine Kd.C_drew ?_))); (case side2 => exact (Kd.R_reads' HO275.out).2.1); (case side3 => repeat (first | exact (Kd.R_reads' HO271.out).2.2 | (with_reducible refine Kd.C_alloc ?_ _) | (with_reducible refine Kd.C_drewN ?_ _) | (with_reducible refine Kd.C_drew ?_))); (case side4 => exact (Kd.R_reads' HO271.out).2.1); rintro e w12 ⟨rfl, hb⟩; refine ⟨_, rfl, ?_⟩; have n0_ := Aside0.mk (Kd.R_below (by (with_reducible repeat (first | apply Kd.R_alloc | apply Kd.R_drewN | apply Kd.R_drew)); exact HO271.out) hb); have n1_ := Aside0.mk (Kd.R_below (by (with_reducible repeat (first | apply Kd.R_alloc | apply Kd.R_drewN | apply Kd.R_drew)); exact HO275.out) hb); have n2_ := Aside0.mk (below_step (by repeat (first | (with_reducible first | exact HB.out | apply below_alloc | apply pw_below_drewN | apply below_drew1) | exact HB.out)) hb); clear HO271; clear HO275; clear HB; have HO271 := n0_; have HO275 := n1_; have HB := n2_; clear n0_ n1_ n2_; (try clear hb); (try clear hb2); (try clear hk); (try clear hi)))
        go_meet
        case rel => exact ⟨_, ((t273 != t269)), (by first | rfl | (simp; done) | (simp [*]; done)), H', ⟨by first | omega | exact Nat.le_refl _⟩, ⟨by (with_reducible repeat (first | apply Kd.R_alloc | apply Kd.R_drewN | apply Kd.R_drew)); exact Kd.R_mono HO271.out (fun _ hk => hk.2)⟩, ⟨by (with_reducible repeat (first | apply Kd.R_alloc | apply Kd.R_drewN | apply Kd.R_drew)); exact Kd.R_mono HO275.out (fun _ hk => hk.2)⟩, ⟨by repeat (first | (with_reducible first | exact HB.out | apply below_alloc | apply pw_below_drewN | apply below_drew1) | exact HB.out)⟩⟩
      · replace c9 := Bool.eq_false_iff.mpr c9
        subst c9
        have H1 : (laws_FnExactReadBoxes.j0 k a0 t268 t269 t272 true) = some r := by rw [if_neg (show ¬ (false = true) by decide)] at H; exact H
        clear H
        have H := H1
        clear H1
        have H' := Aside0.mk H
        clear H
        obtain ⟨Ao13, co13, eo13⟩ := Kd.R_slice HO275.out
        subst eo13
        obtain ⟨Ao14, co14, eo14⟩ := Kd.R_slice HO271.out
        subst eo14
        go_wp2_with (first | ((with_reducible refine gate_callee (f := 9) rfl ?_); refine goesL_ (some 26) rfl rfl Tryd.func9 (by kernel_rfl) rfl #[.slice Ao13 t272.length co13, .slice Ao14 t268.length co14] rfl (by (try simp only [List.map_toArray, List.map_cons, List.map_nil]); first | done | rfl | (simp only [List.length_drop, List.length_take]; rfl)) ?_; (with_reducible refine (laws_eqBoxS.calls k _ _ t272 _ _ t268 false _ ?side1 ?side2 ?side3 ?side4 A8.out).mono ?_); (case side1 => repeat (first | exact (Kd.R_reads' HO275.out).2.2 | (with_reducible refine Kd.C_alloc ?_ _) | (with_reducible refine Kd.C_drewN ?_ _) | (with_reducible refine Kd.C_drew ?_))); (case side2 => exact (Kd.R_reads' HO275.out).2.1); (case side3 => repeat (first | exact (Kd.R_reads' HO271.out).2.2 | (with_reducible refine Kd.C_alloc ?_ _) | (with_reducible refine Kd.C_drewN ?_ _) | (with_reducible refine Kd.C_drew ?_))); (case side4 => exact (Kd.R_reads' HO271.out).2.1); rintro e w15 ⟨rfl, hb⟩; refine ⟨_, rfl, ?_⟩; have n0_ := Aside0.mk (Kd.R_below (by (with_reducible repeat (first | apply Kd.R_alloc | apply Kd.R_drewN | apply Kd.R_drew)); exact HO271.out) hb); have n1_ := Aside0.mk (Kd.R_below (by (with_reducible repeat (first | apply Kd.R_alloc | apply Kd.R_drewN | apply Kd.R_drew)); exact HO275.out) hb); have n2_ := Aside0.mk (below_step (by repeat (first | (with_reducible first | exact HB.out | apply below_alloc | apply pw_below_drewN | apply below_drew1) | exact HB.out)) hb); clear HO271; clear HO275; clear HB; have HO271 := n0_; have HO275 := n1_; have HB := n2_; clear n0_ n1_ n2_; (try clear hb); (try clear hb2); (try clear hk); (try clear hi)))
        go_meet
        case rel => exact ⟨_, (true), (by first | rfl | (simp; done) | (simp [*]; done)), H', ⟨by first | omega | exact Nat.le_refl _⟩, ⟨by (with_reducible repeat (first | apply Kd.R_alloc | apply Kd.R_drewN | apply Kd.R_drew)); exact Kd.R_mono HO271.out (fun _ hk => hk.2)⟩, ⟨by (with_reducible repeat (first | apply Kd.R_alloc | apply Kd.R_drewN | apply Kd.R_drew)); exact Kd.R_mono HO275.out (fun _ hk => hk.2)⟩, ⟨by repeat (first | (with_reducible first | exact HB.out | apply below_alloc | apply pw_below_drewN | apply below_drew1) | exact HB.out)⟩⟩
    case rest =>
      clear HC5
      try clear c1
      try clear c2
      try clear c2b0
      try clear c2b1
      try clear p2
      try clear c4
      try clear c9
      try clear c10
      try clear c11
      obtain ⟨kq, x32_4, rfl, HA, HJ4, HO_3, HO_5, HB⟩ := hcut
      cases kq with
      | zero => exact absurd HA.out (by simp [laws_FnExactReadBoxes.j0])
      | succ kj4 =>
        have H := HA.out
        clear HA
        simp only [laws_FnExactReadBoxes.j0] at H
        by_cases c16 : x32_4 = true
        · subst c16
          have H1 : (some false) = some r := by rw [if_pos rfl] at H; exact H
          clear H
          have H := H1
          clear H1
          exact absurd ((Option.some.inj H).trans HLAW.out) (by decide)
        · replace c16 := Bool.eq_false_iff.mpr c16
          subst c16
          have H1 : ((laws_markBoxS.f kj4 t272 1).bind fun bt277 => ((laws_heldBoxS.f kj4 bt277.2 1).bind fun t279 => (if t279 < 0 then (some false) else (if t279 = bt277.1 then ((impl_ReadBoxes.f kj4 a0).bind fun bt280 => ((laws_eqBoxS.f kj4 bt280.1 t268).bind fun t284 => (if t284 = true then (laws_FnExactReadBoxes.j1 kj4 bt277.2 bt277.1 (bt280.2 != t269)) else (laws_FnExactReadBoxes.j1 kj4 bt277.2 bt277.1 true)))) else (some false))))) = some r := by rw [if_neg (show ¬ (false = true) by decide)] at H; exact H
          clear H
          have H := H1
          clear H1
          replace H := Option.bind_eq_some_iff.mp H
          obtain ⟨⟨t277, t278⟩, A170, H⟩ := H
          replace H : ((laws_heldBoxS.f kj4 t278 1).bind fun t279 => (if t279 < 0 then (some false) else (if t279 = t277 then ((impl_ReadBoxes.f kj4 a0).bind fun bt280 => ((laws_eqBoxS.f kj4 bt280.1 t268).bind fun t284 => (if t284 = true then (laws_FnExactReadBoxes.j1 kj4 t278 t277 (bt280.2 != t269)) else (laws_FnExactReadBoxes.j1 kj4 t278 t277 true)))) else (some false)))) = some r := H
          have A17 := Aside0.mk A170
          clear A170
          replace H := Option.bind_eq_some_iff.mp H
          obtain ⟨t279, A180, H⟩ := H
          replace H : (if t279 < 0 then (some false) else (if t279 = t277 then ((impl_ReadBoxes.f kj4 a0).bind fun bt280 => ((laws_eqBoxS.f kj4 bt280.1 t268).bind fun t284 => (if t284 = true then (laws_FnExactReadBoxes.j1 kj4 t278 t277 (bt280.2 != t269)) else (laws_FnExactReadBoxes.j1 kj4 t278 t277 true)))) else (some false))) = some r := H
          have A18 := Aside0.mk A180
          clear A180
          by_cases c19 : t279 < 0
          · rw [if_pos c19] at H
            have c19b0 : decide (t279 < 0) = true := decide_eq_true c19
            clear c19
            exact absurd ((Option.some.inj H).trans HLAW.out) (by decide)
          · rw [if_neg c19] at H
            have c19b0 : decide (t279 < 0) = false := decide_eq_false c19
            clear c19
            by_cases c20 : t279 = t277
            · rw [if_pos c20] at H
              have c20b0 : (t279 == t277) = true := beq_iff_eq.mpr c20
              have c20b1 : (t279 != t277) = false := bne_eq_false_iff_eq.mpr c20
              clear c20
              replace H := Option.bind_eq_some_iff.mp H
              obtain ⟨⟨t280, t281⟩, A210, H⟩ := H
              replace H : ((laws_eqBoxS.f kj4 t280 t268).bind fun t284 => (if t284 = true then (laws_FnExactReadBoxes.j1 kj4 t278 t277 (t281 != t269)) else (laws_FnExactReadBoxes.j1 kj4 t278 t277 true))) = some r := H
              have A21 := Aside0.mk A210
              clear A210
              have HC22 := Aside0.mk H
              clear H
              obtain ⟨Ao23, co23, eo23⟩ := Kd.R_slice HO_5.out
              subst eo23
              go_upto_region 16 with (first | ((with_reducible refine gate_callee (f := 12) rfl ?_); refine goesL_ (some 35) rfl rfl Tryd.func12 (by kernel_rfl) rfl #[.slice Ao23 t272.length co23, .int .i64 1] rfl (by (try simp only [List.map_toArray, List.map_cons, List.map_nil]); first | done | rfl | (simp only [List.length_drop, List.length_take]; rfl)) ?_; (with_reducible refine (laws_markBoxS.calls kj4 (fun k_ => some k_ = (.slice Ao23 t272.length co23 : Value).ownBlock) (.slice Ao23 t272.length co23) t272 1 t277 t278 w _ ?side1 ?side2 A17.out).mono ?_); (case side1 => repeat (first | (with_reducible first | exact HB.out | apply below_alloc | apply pw_below_drewN | apply below_drew1) | exact HB.out)); (case side2 => exact Kd.R_tight rfl HO_5.out); rintro e w24 ⟨rfl, hy0, hb, hkp⟩; refine ⟨_, rfl, ?_⟩; have n0_ := Aside0.mk (Kd.R_mono (ok' := fun k_ => some k_ ≠ (.slice Ao23 t272.length co23 : Value).ownBlock) (Kd.R_keptB (HO_3.out) hkp (fun k_ hk_ hs_ => (hk_) hs_)) (fun k_ hk_ => hk_.1)); have n1_ := Aside0.mk (Kd.R_reok rfl hy0 (fun k_ e_ => HO_5.out.1 k_ e_)); have n2_ := Aside0.mk (hb); clear HO_3; clear HO_5; clear HB; have HO_3 := n0_; have HO_5 := n1_; have HB := n2_; clear n0_ n1_ n2_; (try clear hb); (try clear hkp); (try clear hy0)) | ((with_reducible refine gate_callee (f := 13) rfl ?_); refine goesL_ (some 38) rfl rfl Tryd.func13 (by kernel_rfl) rfl #[.slice Ao23 t278.length co23, .int .i64 1] rfl (by (try simp only [List.map_toArray, List.map_cons, List.map_nil]); first | done | (rw [show t278.length = t272.length from (Kd.R_reads' HO_5.out).1.symm] <;> rfl) | rfl | (simp only [List.length_drop, List.length_take]; rfl)) ?_; (with_reducible refine (laws_heldBoxS.calls kj4 _ _ t278 1 t279 _ ?side1 ?side2 A18.out).mono ?_); (case side1 => repeat (first | exact (Kd.R_reads' HO_5.out).2.2 | (with_reducible refine Kd.C_alloc ?_ _) | (with_reducible refine Kd.C_drewN ?_ _) | (with_reducible refine Kd.C_drew ?_))); (case side2 => rw [show t278.length = t272.length from (Kd.R_reads' HO_5.out).1.symm]; exact (Kd.R_reads' HO_5.out).2.1); rintro e w' ⟨rfl, ⟨nd, rfl⟩⟩; refine ⟨_, rfl, ?_⟩) | ((with_reducible refine gate_callee (f := 11) rfl ?_); refine goesL_ (some 46) rfl rfl Tryd.func11 (by kernel_rfl) rfl #[.string a0] rfl (by (try simp only [List.map_toArray, List.map_cons, List.map_nil]); first | done | rfl | (simp only [List.length_drop, List.length_take]; rfl)) ?_; (with_reducible refine (impl_ReadBoxes.calls kj4 a0 t280 t281 _ A21.out (GlobOk.below HG_.out (by repeat (first | (with_reducible first | exact HB.out | apply below_alloc | apply pw_below_drewN | apply below_drew1) | exact HB.out)))).mono ?_); rintro e w25 ⟨v282, rfl, ho0, hb⟩; refine ⟨_, rfl, ?_⟩; have n0_ := Aside0.mk (Kd.R_elder' (by (with_reducible repeat (first | apply Kd.R_alloc | apply Kd.R_drewN | apply Kd.R_drew)); exact HO_3.out) (Kd.R_base ho0) hb); have n1_ := Aside0.mk (Kd.R_elder' (by (with_reducible repeat (first | apply Kd.R_alloc | apply Kd.R_drewN | apply Kd.R_drew)); exact HO_5.out) (Kd.R_base ho0) hb); have n2_ := Aside0.mk (Kd.R_lower (Kd.R_new' (Kd.R_new' ho0 (Kd.R_lt (by (with_reducible repeat (first | apply Kd.R_alloc | apply Kd.R_drewN | apply Kd.R_drew)); exact HO_3.out))) (Kd.R_lt (by (with_reducible repeat (first | apply Kd.R_alloc | apply Kd.R_drewN | apply Kd.R_drew)); exact HO_5.out))) (below_size (by repeat (first | (with_reducible first | exact HB.out | apply below_alloc | apply pw_below_drewN | apply below_drew1) | exact HB.out)))); have n3_ := Aside0.mk (below_step (by repeat (first | (with_reducible first | exact HB.out | apply below_alloc | apply pw_below_drewN | apply below_drew1) | exact HB.out)) hb); clear HO_3; clear HO_5; clear HB; have HO_3 := n0_; have HO_5 := n1_; have HO283 := n2_; have HB := n3_; clear n0_ n1_ n2_ n3_; (try clear hb); (try clear hb2); (try clear hk); (try clear hi); (try clear ho0)))
              (try simp only [Act.put, List.setIfInBounds_toArray, List.set_cons_zero, List.set_cons_succ])
              go_cut [57] (fun v57 wc => ∃ (kq : Nat) (x57_21 : Bool), v57 = .bool x57_21 ∧ Aside0 (laws_FnExactReadBoxes.j1 kq t278 t277 x57_21 = some r) ∧ Aside0 (kq ≤ kj4) ∧ Aside0 (Kd.R k36 36 wc w.heap.size (fun _ => True) (.slice Ao23 t272.length co23) t278) ∧ Aside0 (Below w.heap.size w wc))
              case first =>
                have H := HC22.out
                clear HC22
                replace H := Option.bind_eq_some_iff.mp H
                obtain ⟨t284, A260, H⟩ := H
                replace H : (if t284 = true then (laws_FnExactReadBoxes.j1 kj4 t278 t277 (t281 != t269)) else (laws_FnExactReadBoxes.j1 kj4 t278 t277 true)) = some r := H
                have A26 := Aside0.mk A260
                clear A260
                by_cases c27 : t284 = true
                · subst c27
                  have H1 : (laws_FnExactReadBoxes.j1 kj4 t278 t277 (t281 != t269)) = some r := by rw [if_pos rfl] at H; exact H
                  clear H
                  have H := H1
                  clear H1
                  have H' := Aside0.mk H
                  clear H
                  obtain ⟨Ao28, co28, eo28⟩ := Kd.R_slice HO283.out
                  subst eo28
                  obtain ⟨Ao29, co29, eo29⟩ := Kd.R_slice HO_3.out
                  subst eo29
                  go_wp2_with (first | ((with_reducible refine gate_callee (f := 9) rfl ?_); refine goesL_ (some 51) rfl rfl Tryd.func9 (by kernel_rfl) rfl #[.slice Ao28 t280.length co28, .slice Ao29 t268.length co29] rfl (by (try simp only [List.map_toArray, List.map_cons, List.map_nil]); first | done | rfl | (simp only [List.length_drop, List.length_take]; rfl)) ?_; (with_reducible refine (laws_eqBoxS.calls kj4 _ _ t280 _ _ t268 true _ ?side1 ?side2 ?side3 ?side4 A26.out).mono ?_); (case side1 => repeat (first | exact (Kd.R_reads' HO283.out).2.2 | (with_reducible refine Kd.C_alloc ?_ _) | (with_reducible refine Kd.C_drewN ?_ _) | (with_reducible refine Kd.C_drew ?_))); (case side2 => exact (Kd.R_reads' HO283.out).2.1); (case side3 => repeat (first | exact (Kd.R_reads' HO_3.out).2.2 | (with_reducible refine Kd.C_alloc ?_ _) | (with_reducible refine Kd.C_drewN ?_ _) | (with_reducible refine Kd.C_drew ?_))); (case side4 => exact (Kd.R_reads' HO_3.out).2.1); rintro e w30 ⟨rfl, hb⟩; refine ⟨_, rfl, ?_⟩; have n0_ := Aside0.mk (Kd.R_below (by (with_reducible repeat (first | apply Kd.R_alloc | apply Kd.R_drewN | apply Kd.R_drew)); exact HO_3.out) hb); have n1_ := Aside0.mk (Kd.R_below (by (with_reducible repeat (first | apply Kd.R_alloc | apply Kd.R_drewN | apply Kd.R_drew)); exact HO_5.out) hb); have n2_ := Aside0.mk (Kd.R_below (by (with_reducible repeat (first | apply Kd.R_alloc | apply Kd.R_drewN | apply Kd.R_drew)); exact HO283.out) hb); have n3_ := Aside0.mk (below_step (by repeat (first | (with_reducible first | exact HB.out | apply below_alloc | apply pw_below_drewN | apply below_drew1) | exact HB.out)) hb); clear HO_3; clear HO_5; clear HO283; clear HB; have HO_3 := n0_; have HO_5 := n1_; have HO283 := n2_; have HB := n3_; clear n0_ n1_ n2_ n3_; (try clear hb); (try clear hb2); (try clear hk); (try clear hi)))
                  go_meet
                  case rel => exact ⟨_, ((t281 != t269)), (by first | rfl | (simp; done) | (simp [*]; done)), H', ⟨by have := HJ4.out; first | omega | exact Nat.le_refl _⟩, ⟨by (with_reducible repeat (first | apply Kd.R_alloc | apply Kd.R_drewN | apply Kd.R_drew)); exact Kd.R_mono HO_5.out (fun _ hk => trivial)⟩, ⟨by repeat (first | (with_reducible first | exact HB.out | apply below_alloc | apply pw_below_drewN | apply below_drew1) | exact HB.out)⟩⟩
                · replace c27 := Bool.eq_false_iff.mpr c27
                  subst c27
                  have H1 : (laws_FnExactReadBoxes.j1 kj4 t278 t277 true) = some r := by rw [if_neg (show ¬ (false = true) by decide)] at H; exact H
                  clear H
                  have H := H1
                  clear H1
                  have H' := Aside0.mk H
                  clear H
                  obtain ⟨Ao31, co31, eo31⟩ := Kd.R_slice HO283.out
                  subst eo31
                  obtain ⟨Ao32, co32, eo32⟩ := Kd.R_slice HO_3.out
                  subst eo32
                  go_wp2_with (first | ((with_reducible refine gate_callee (f := 9) rfl ?_); refine goesL_ (some 51) rfl rfl Tryd.func9 (by kernel_rfl) rfl #[.slice Ao31 t280.length co31, .slice Ao32 t268.length co32] rfl (by (try simp only [List.map_toArray, List.map_cons, List.map_nil]); first | done | rfl | (simp only [List.length_drop, List.length_take]; rfl)) ?_; (with_reducible refine (laws_eqBoxS.calls kj4 _ _ t280 _ _ t268 false _ ?side1 ?side2 ?side3 ?side4 A26.out).mono ?_); (case side1 => repeat (first | exact (Kd.R_reads' HO283.out).2.2 | (with_reducible refine Kd.C_alloc ?_ _) | (with_reducible refine Kd.C_drewN ?_ _) | (with_reducible refine Kd.C_drew ?_))); (case side2 => exact (Kd.R_reads' HO283.out).2.1); (case side3 => repeat (first | exact (Kd.R_reads' HO_3.out).2.2 | (with_reducible refine Kd.C_alloc ?_ _) | (with_reducible refine Kd.C_drewN ?_ _) | (with_reducible refine Kd.C_drew ?_))); (case side4 => exact (Kd.R_reads' HO_3.out).2.1); rintro e w33 ⟨rfl, hb⟩; refine ⟨_, rfl, ?_⟩; have n0_ := Aside0.mk (Kd.R_below (by (with_reducible repeat (first | apply Kd.R_alloc | apply Kd.R_drewN | apply Kd.R_drew)); exact HO_3.out) hb); have n1_ := Aside0.mk (Kd.R_below (by (with_reducible repeat (first | apply Kd.R_alloc | apply Kd.R_drewN | apply Kd.R_drew)); exact HO_5.out) hb); have n2_ := Aside0.mk (Kd.R_below (by (with_reducible repeat (first | apply Kd.R_alloc | apply Kd.R_drewN | apply Kd.R_drew)); exact HO283.out) hb); have n3_ := Aside0.mk (below_step (by repeat (first | (with_reducible first | exact HB.out | apply below_alloc | apply pw_below_drewN | apply below_drew1) | exact HB.out)) hb); clear HO_3; clear HO_5; clear HO283; clear HB; have HO_3 := n0_; have HO_5 := n1_; have HO283 := n2_; have HB := n3_; clear n0_ n1_ n2_ n3_; (try clear hb); (try clear hb2); (try clear hk); (try clear hi)))
                  go_meet
                  case rel => exact ⟨_, (true), (by first | rfl | (simp; done) | (simp [*]; done)), H', ⟨by have := HJ4.out; first | omega | exact Nat.le_refl _⟩, ⟨by (with_reducible repeat (first | apply Kd.R_alloc | apply Kd.R_drewN | apply Kd.R_drew)); exact Kd.R_mono HO_5.out (fun _ hk => trivial)⟩, ⟨by repeat (first | (with_reducible first | exact HB.out | apply below_alloc | apply pw_below_drewN | apply below_drew1) | exact HB.out)⟩⟩
              case rest =>
                clear HC22
                try clear c1
                try clear c2
                try clear c2b0
                try clear c2b1
                try clear p2
                try clear c4
                try clear c9
                try clear c10
                try clear c11
                try clear c12
                try clear c13
                try clear c16
                try clear c19
                try clear c19b0
                try clear c20
                try clear c20b0
                try clear c20b1
                try clear c27
                try clear p2
                obtain ⟨kq, x57_21, rfl, HA, HJ21, HO_5, HB⟩ := hcut
                have hl5_21 := (Kd.R_reads' HO_5.out).1
                rw [hl5_21] at HO_5
                (try simp only [hl5_21])
                cases kq with
                | zero => exact absurd HA.out (by simp [laws_FnExactReadBoxes.j1])
                | succ kj21 =>
                  have H := HA.out
                  clear HA
                  simp only [laws_FnExactReadBoxes.j1] at H
                  by_cases c34 : x57_21 = true
                  · subst c34
                    have H1 : (some false) = some r := by rw [if_pos rfl] at H; exact H
                    clear H
                    have H := H1
                    clear H1
                    exact absurd ((Option.some.inj H).trans HLAW.out) (by decide)
                  · replace c34 := Bool.eq_false_iff.mpr c34
                    subst c34
                    have H1 : ((laws_heldBoxS.f kj21 t278 1).bind fun t285 => (if t285 < 0 then (some false) else (if t285 = t277 then (some true) else (some false)))) = some r := by rw [if_neg (show ¬ (false = true) by decide)] at H; exact H
                    clear H
                    have H := H1
                    clear H1
                    replace H := Option.bind_eq_some_iff.mp H
                    obtain ⟨t285, A350, H⟩ := H
                    replace H : (if t285 < 0 then (some false) else (if t285 = t277 then (some true) else (some false))) = some r := H
                    have A35 := Aside0.mk A350
                    clear A350
                    by_cases c36 : t285 < 0
                    · rw [if_pos c36] at H
                      have c36b0 : decide (t285 < 0) = true := decide_eq_true c36
                      clear c36
                      exact absurd ((Option.some.inj H).trans HLAW.out) (by decide)
                    · rw [if_neg c36] at H
                      have c36b0 : decide (t285 < 0) = false := decide_eq_false c36
                      clear c36
                      by_cases c37 : t285 = t277
                      · rw [if_pos c37] at H
                        have c37b0 : (t285 == t277) = true := beq_iff_eq.mpr c37
                        have c37b1 : (t285 != t277) = false := bne_eq_false_iff_eq.mpr c37
                        clear c37
                        obtain rfl := Option.some.inj H
                        go_wp2_with (first | ((with_reducible refine gate_callee (f := 13) rfl ?_); refine goesL_ (some 60) rfl rfl Tryd.func13 (by kernel_rfl) rfl #[.slice Ao23 t278.length co23, .int .i64 1] rfl (by (try simp only [List.map_toArray, List.map_cons, List.map_nil]); first | done | rfl | (simp only [List.length_drop, List.length_take]; rfl)) ?_; (with_reducible refine (laws_heldBoxS.calls kj21 _ _ t278 1 t285 _ ?side1 ?side2 A35.out).mono ?_); (case side1 => repeat (first | exact (Kd.R_reads' HO_5.out).2.2 | (with_reducible refine Kd.C_alloc ?_ _) | (with_reducible refine Kd.C_drewN ?_ _) | (with_reducible refine Kd.C_drew ?_))); (case side2 => exact (Kd.R_reads' HO_5.out).2.1); rintro e w' ⟨rfl, ⟨nd, rfl⟩⟩; refine ⟨_, rfl, ?_⟩))
                        go_ret
                        exact ⟨by first | rfl | (simp [errW_none, errW_some] <;> rfl) | (simp [*, errW_none, errW_some] <;> rfl), by repeat (first | (with_reducible first | exact HB.out | apply below_alloc | apply pw_below_drewN | apply below_drew1) | exact HB.out)⟩
                      · rw [if_neg c37] at H
                        have c37b0 : (t285 == t277) = false := beq_eq_false_iff_ne.mpr c37
                        have c37b1 : (t285 != t277) = true := bne_iff_ne.mpr c37
                        exact absurd ((Option.some.inj H).trans HLAW.out) (by decide)
            · rw [if_neg c20] at H
              have c20b0 : (t279 == t277) = false := beq_eq_false_iff_ne.mpr c20
              have c20b1 : (t279 != t277) = true := bne_iff_ne.mpr c20
              exact absurd ((Option.some.inj H).trans HLAW.out) (by decide)

/-- THE ONE PURE STATEMENT of laws_FnExactReadBoxes: yours. -/
def laws_FnExactReadBoxes.Pure : Prop := ∀ (a0 : ByteArray), a0.size ≤ 140737488351232 → ∃ k, laws_FnExactReadBoxes.f k a0 = some true
theorem laws_FnExactReadBoxes.walk (P : laws_FnExactReadBoxes.Pure) (a0 : ByteArray) (w : World) (w0 : a0.size ≤ 140737488351232) (hG_ : GlobOk w) :
    Calls Tryd.prog 4 #[.string a0] w fun e w' => e = .returned (.bool true) ∧ Below w.heap.size w w' := by
  obtain ⟨k, h⟩ := P a0 w0
  refine (laws_FnExactReadBoxes.calls k a0 true w h (hG_ := hG_)).mono ?_
  rintro e w' ⟨rfl, hd⟩
  exact ⟨rfl, hd⟩

end Go.Proofs.YtipdmnibjkdpcaaDoor.P

namespace Go.Proofs.YtipdmnibjkdpcaaDoor.Pure
open Go.RowKit Go.Proofs.YtipdmnibjkdpcaaDoor.P Go.Proofs.YtipdmnibjkdpcaaDoorW.PrintWords Go.Proofs.YtipdmnibjkdpcaaDoorW.PrintLast
set_option linter.unusedVariables false
set_option linter.unusedSimpArgs false

theorem EvG {α : Type} {g : Nat → Option α} {r : α} (h : Ev g r) : ∃ K, ∀ k, K ≤ k → g k = some r := h
theorem EvI {α : Type} {g : Nat → Option α} {r : α} (K : Nat) (h : ∀ k, K ≤ k → g k = some r) : Ev g r := ⟨K, h⟩
theorem w64 {x : Int} (h0 : -9223372036854775808 ≤ x) (h1 : x ≤ 9223372036854775807) : wrap64 x = x := by
  unfold wrap64; omega
theorem wN (i : Nat) (h : i < 4611686018427387904) : wrap64 ((i : Int) + 1) = ((i + 1 : Nat) : Int) := by
  unfold wrap64; omega
theorem rdN (l : List Int) (i : Nat) : rd l (i : Int) = l.getD i 0 := rfl
theorem rd_at (l : List Int) (i : Int) (n : Nat) (h : i = n) : rd l i = l.getD n 0 := by subst h; rfl
theorem getD_eq (l : List Int) (i : Nat) (h : i < l.length) : l.getD i 0 = l[i] := by
  rw [List.getD_eq_getElem?_getD, List.getElem?_eq_getElem h]; rfl
theorem getD_mem (l : List Int) (i : Nat) (h : i < l.length) : l.getD i 0 ∈ l := by rw [getD_eq l i h]; exact List.getElem_mem h
theorem list_ext (a b : List Int) (hl : a.length = b.length) (h : ∀ j, j < b.length → a.getD j 0 = b.getD j 0) : a = b := by
  apply List.ext_getElem hl
  intro i h1 h2
  have := h i h2
  rwa [getD_eq a i h1, getD_eq b i h2] at this
theorem getD_set (l : List Int) (i j : Nat) (v : Int) (h : i < l.length) : (l.set i v).getD j 0 = if i = j then v else l.getD j 0 := by
  simp only [List.getD_eq_getElem?_getD, List.getElem?_set]
  by_cases e : i = j
  · subst e; simp [h]
  · simp [e]
theorem getD_rep (n j : Nat) (v : Int) (h : j < n) : (List.replicate n v).getD j 0 = v := by
  simp [List.getD_eq_getElem?_getD, List.getElem?_replicate, h]

end Go.Proofs.YtipdmnibjkdpcaaDoor.Pure

namespace Go.Proofs.YtipdmnibjkdpcaaDoor.Pure
open Go.RowKit Go.Proofs.YtipdmnibjkdpcaaDoor.P Go.Proofs.YtipdmnibjkdpcaaDoorW.PrintWords Go.Proofs.YtipdmnibjkdpcaaDoorW.PrintLast
set_option linter.unusedVariables false
set_option linter.unusedSimpArgs false

theorem getD_eqG {α : Type} (z : α) (l : List α) (i : Nat) (h : i < l.length) : l.getD i z = l[i] := by
  rw [List.getD_eq_getElem?_getD, List.getElem?_eq_getElem h]; rfl
theorem list_extG {α : Type} (z : α) (a b : List α) (hl : a.length = b.length) (h : ∀ j, j < b.length → a.getD j z = b.getD j z) : a = b := by
  apply List.ext_getElem hl
  intro i h1 h2
  have := h i h2
  rwa [getD_eqG z a i h1, getD_eqG z b i h2] at this
theorem getD_setG {α : Type} (z : α) (l : List α) (i j : Nat) (v : α) (h : i < l.length) : (l.set i v).getD j z = if i = j then v else l.getD j z := by
  simp only [List.getD_eq_getElem?_getD, List.getElem?_set]
  by_cases e : i = j
  · subst e; simp [h]
  · simp [e]

end Go.Proofs.YtipdmnibjkdpcaaDoor.Pure

namespace Go.Proofs.YtipdmnibjkdpcaaDoor.Pure
open Go.RowKit Go.Proofs.YtipdmnibjkdpcaaDoor.P Go.Proofs.YtipdmnibjkdpcaaDoorW.PrintWords Go.Proofs.YtipdmnibjkdpcaaDoorW.PrintLast
set_option linter.unusedVariables false
set_option linter.unusedSimpArgs false

theorem rdT (l : List S36) (i : Nat) : rd_T36 l (i : Int) = l.getD i z36 := rfl
theorem mem_getDG {α : Type} (z : α) (l : List α) (s : α) : s ∈ l ↔ ∃ i, i < l.length ∧ l.getD i z = s := by
  rw [List.mem_iff_getElem]
  constructor
  · rintro ⟨i, hi, e⟩; exact ⟨i, hi, by rw [getD_eqG z l i hi, e]⟩
  · rintro ⟨i, hi, e⟩; exact ⟨i, hi, by rw [← getD_eqG z l i hi, e]⟩

theorem getD_memG (l : List S36) (i : Nat) (h : i < l.length) : l.getD i z36 ∈ l := by rw [getD_eqG z36 l i h]; exact List.getElem_mem h

end Go.Proofs.YtipdmnibjkdpcaaDoor.Pure

namespace Go.Proofs.YtipdmnibjkdpcaaDoor.P
open Go.RowKit Go.Proofs.YtipdmnibjkdpcaaDoorW.PrintWords Go.Proofs.YtipdmnibjkdpcaaDoorW.PrintLast Go.Proofs.YtipdmnibjkdpcaaDoorW.PrintMore
attribute [local go_sem] max2_int min2_int max_two min_two max_three min_three max_four min_four   -- for this text's walks alone
set_option linter.unusedVariables false
set_option linter.unusedSimpArgs false

/-! ### laws_toBox: function 16 -/
def laws_toBox.f (a0_0 : Int) (a0_1 : Int) (a0_2 : Int) : Option (Int × Int × Int) := some (a0_0, a0_1, a0_2)
set_option maxHeartbeats 8000000 in
set_option maxRecDepth 100000 in
theorem laws_toBox.calls (a0_0 : Int) (a0_1 : Int) (a0_2 : Int) (r1 : Int) (r2 : Int) (r3 : Int) (w : World) (h : laws_toBox.f a0_0 a0_1 a0_2 = some (r1, r2, r3)) :
    Calls Tryd.prog 16 #[.agg #[.int .i8 a0_0, .int .i8 a0_1, .int .i8 a0_2]] w fun e w' => e = .returned (.agg #[.int .i8 r1, .int .i8 r2, .int .i8 r3]) ∧ Below w.heap.size w w' := by
  have hu38 := Tryd.underlying38
  have hu36 := Tryd.underlying36
  have HB := Aside0.mk (Below.refl w.heap.size w)
  have H : (some (a0_0, a0_1, a0_2)) = some (r1, r2, r3) := h
  clear h
  simp only [Option.some.injEq, Prod.mk.injEq] at H
  obtain ⟨rfl, rfl, rfl⟩ := H
  go_enter Tryd.func16, Tryd.ntmps16
  go_wp2_with (first | ((with_reducible refine gate_dst (N := 1) rfl ?_); refine box_event ?hg (N := 1) ?hd (cs := #[.int .i8 a0_0, .int .i8 a0_1, .int .i8 a0_2]) (t := 38) ?hr ?_; (case hd => rfl); (case hg => rfl); (case hr => first | (go_simp; done) | (go_simp; rfl)); intro gb128 hg w2 hbox hb; have n0_ := Aside0.mk (below_step (by repeat (first | (with_reducible first | exact HB.out | apply below_alloc | apply pw_below_drewN | apply below_drew1) | exact HB.out)) hb); have n1_ := Aside0.mk (hbox); have n2_ := Aside0.mk ((by rw [hg]; exact (below_size (by repeat (first | (with_reducible first | exact HB.out | apply below_alloc | apply pw_below_drewN | apply below_drew1) | exact HB.out))) : w.heap.size ≤ gb128)); have n3_ := Aside0.mk ((by rw [hg]; exact (below_size (by repeat (first | (with_reducible first | exact HB.out | apply below_alloc | apply pw_below_drewN | apply below_drew1) | exact HB.out))) : w.heap.size ≤ gb128)); clear HB; have HB := n0_; have BK128 := n1_; have GW128 := n2_; have GE128 := n3_; clear n0_ n1_ n2_ n3_; clear hb hbox hg) | ((with_reducible refine gate_dst (N := 2) rfl ?_); refine box_event ?hg (N := 2) ?hd (cs := #[.int .i8 0, .int .i8 0, .int .i8 0]) (t := 36) ?hr ?_; (case hd => rfl); (case hg => rfl); (case hr => first | (go_simp; done) | (go_simp; rfl)); intro gb129 hg w3 hbox hb; have n0_ := Aside0.mk (blk_below (g := gb128) (o := .cells #[.int .i8 a0_0, .int .i8 a0_1, .int .i8 a0_2] 38 (0, 0)) (by (with_reducible repeat (first | refine blk_drewN ?_ _ | refine blk_drew ?_ | refine blk_alloc ?_ _)); exact BK128.out) hb); have n1_ := Aside0.mk (below_step (by repeat (first | (with_reducible first | exact HB.out | apply below_alloc | apply pw_below_drewN | apply below_drew1 | refine below_set ?_ GE128.out) | exact HB.out)) hb); have n2_ := Aside0.mk (hbox); have n3_ := Aside0.mk ((by rw [hg]; exact (below_size (by repeat (first | (with_reducible first | exact HB.out | apply below_alloc | apply pw_below_drewN | apply below_drew1 | refine below_set ?_ GE128.out) | exact HB.out))) : w.heap.size ≤ gb129)); have n4_ := Aside0.mk ((by rw [hg]; exact (below_size (by repeat (first | (with_reducible first | exact HB.out | apply below_alloc | apply pw_below_drewN | apply below_drew1 | refine below_set ?_ GE128.out) | exact HB.out))) : w.heap.size ≤ gb129)); have n5_ := Aside0.mk ((by rw [hg]; exact Nat.ne_of_lt (blk_lt (g := gb128) (o := .cells #[.int .i8 a0_0, .int .i8 a0_1, .int .i8 a0_2] 38 (0, 0)) (by (with_reducible repeat (first | refine blk_drewN ?_ _ | refine blk_drew ?_ | refine blk_alloc ?_ _)); exact BK128.out)) : gb128 ≠ gb129)); have n6_ := Aside0.mk ((by rw [hg]; exact Nat.ne_of_gt (blk_lt (g := gb128) (o := .cells #[.int .i8 a0_0, .int .i8 a0_1, .int .i8 a0_2] 38 (0, 0)) (by (with_reducible repeat (first | refine blk_drewN ?_ _ | refine blk_drew ?_ | refine blk_alloc ?_ _)); exact BK128.out)) : gb129 ≠ gb128)); clear BK128; clear HB; have BK128 := n0_; have HB := n1_; have BK129 := n2_; have GW129 := n3_; have GE129 := n4_; have NB128_129 := n5_; have NB129_128 := n6_; clear n0_ n1_ n2_ n3_ n4_ n5_ n6_; clear hb hbox hg) | ((with_reducible refine gate_dst (N := 3) rfl ?_); refine box_event ?hg (N := 3) ?hd (cs := #[.int .i8 0, .int .i8 0, .int .i8 0]) (t := 36) ?hr ?_; (case hd => rfl); (case hg => rfl); (case hr => first | (go_simp; done) | (go_simp; rfl)); intro gb130 hg w4 hbox hb; have n0_ := Aside0.mk (blk_below (g := gb128) (o := .cells #[.int .i8 a0_0, .int .i8 a0_1, .int .i8 a0_2] 38 (0, 0)) (by (with_reducible repeat (first | refine blk_drewN ?_ _ | refine blk_drew ?_ | refine blk_alloc ?_ _)); exact BK128.out) hb); have n1_ := Aside0.mk (blk_below (g := gb129) (o := .cells #[.int .i8 0, .int .i8 0, .int .i8 0] 36 (0, 0)) (by (with_reducible repeat (first | refine blk_drewN ?_ _ | refine blk_drew ?_ | refine blk_alloc ?_ _)); exact BK129.out) hb); have n2_ := Aside0.mk (below_step (by repeat (first | (with_reducible first | exact HB.out | apply below_alloc | apply pw_below_drewN | apply below_drew1 | refine below_set ?_ GE128.out | refine below_set ?_ GE129.out) | exact HB.out)) hb); have n3_ := Aside0.mk (hbox); have n4_ := Aside0.mk ((by rw [hg]; exact (below_size (by repeat (first | (with_reducible first | exact HB.out | apply below_alloc | apply pw_below_drewN | apply below_drew1 | refine below_set ?_ GE128.out | refine below_set ?_ GE129.out) | exact HB.out))) : w.heap.size ≤ gb130)); have n5_ := Aside0.mk ((by rw [hg]; exact (below_size (by repeat (first | (with_reducible first | exact HB.out | apply below_alloc | apply pw_below_drewN | apply below_drew1 | refine below_set ?_ GE128.out | refine below_set ?_ GE129.out) | exact HB.out))) : w.heap.size ≤ gb130)); have n6_ := Aside0.mk ((by rw [hg]; exact Nat.ne_of_lt (blk_lt (g := gb128) (o := .cells #[.int .i8 a0_0, .int .i8 a0_1, .int .i8 a0_2] 38 (0, 0)) (by (with_reducible repeat (first | refine blk_drewN ?_ _ | refine blk_drew ?_ | refine blk_alloc ?_ _)); exact BK128.out)) : gb128 ≠ gb130)); have n7_ := Aside0.mk ((by rw [hg]; exact Nat.ne_of_gt (blk_lt (g := gb128) (o := .cells #[.int .i8 a0_0, .int .i8 a0_1, .int .i8 a0_2] 38 (0, 0)) (by (with_reducible repeat (first | refine blk_drewN ?_ _ | refine blk_drew ?_ | refine blk_alloc ?_ _)); exact BK128.out)) : gb130 ≠ gb128)); have n8_ := Aside0.mk ((by rw [hg]; exact Nat.ne_of_lt (blk_lt (g := gb129) (o := .cells #[.int .i8 0, .int .i8 0, .int .i8 0] 36 (0, 0)) (by (with_reducible repeat (first | refine blk_drewN ?_ _ | refine blk_drew ?_ | refine blk_alloc ?_ _)); exact BK129.out)) : gb129 ≠ gb130)); have n9_ := Aside0.mk ((by rw [hg]; exact Nat.ne_of_gt (blk_lt (g := gb129) (o := .cells #[.int .i8 0, .int .i8 0, .int .i8 0] 36 (0, 0)) (by (with_reducible repeat (first | refine blk_drewN ?_ _ | refine blk_drew ?_ | refine blk_alloc ?_ _)); exact BK129.out)) : gb130 ≠ gb129)); clear BK128; clear BK129; clear HB; have BK128 := n0_; have BK129 := n1_; have HB := n2_; have BK130 := n3_; have GW130 := n4_; have GE130 := n5_; have NB128_130 := n6_; have NB130_128 := n7_; have NB129_130 := n8_; have NB130_129 := n9_; clear n0_ n1_ n2_ n3_ n4_ n5_ n6_ n7_ n8_ n9_; clear hb hbox hg; have hnb5 := NB128_129.out; have hnc5 := NB129_128.out; have hnb6 := NB128_130.out; have hnc6 := NB130_128.out; have hcz7_0 : w4.cell? ⟨gb128, 0, none⟩ = some (.int .i8 a0_0) := (blk_cell BK128.out 0).trans rfl; have hcz7_1 : w4.cell? ⟨gb128, 1, none⟩ = some (.int .i8 a0_1) := (blk_cell BK128.out 1).trans rfl; have hcz7_2 : w4.cell? ⟨gb128, 2, none⟩ = some (.int .i8 a0_2) := (blk_cell BK128.out 2).trans rfl; have hfz7_0 := blk_frozen BK128.out 0; have hfz7_1 := blk_frozen BK128.out 1; have hfz7_2 := blk_frozen BK128.out 2; have hnb8 := NB130_129.out; have hnc8 := NB129_130.out; have hcz9_0 : w4.cell? ⟨gb130, 0, none⟩ = some (.int .i8 0) := (blk_cell BK130.out 0).trans rfl; have hcz9_1 : w4.cell? ⟨gb130, 1, none⟩ = some (.int .i8 0) := (blk_cell BK130.out 1).trans rfl; have hcz9_2 : w4.cell? ⟨gb130, 2, none⟩ = some (.int .i8 0) := (blk_cell BK130.out 2).trans rfl; have hfz9_0 := blk_frozen BK130.out 0; have hfz9_1 := blk_frozen BK130.out 1; have hfz9_2 := blk_frozen BK130.out 2; have hcz10_0 : w4.cell? ⟨gb129, 0, none⟩ = some (.int .i8 0) := (blk_cell BK129.out 0).trans rfl; have hcz10_1 : w4.cell? ⟨gb129, 1, none⟩ = some (.int .i8 0) := (blk_cell BK129.out 1).trans rfl; have hcz10_2 : w4.cell? ⟨gb129, 2, none⟩ = some (.int .i8 0) := (blk_cell BK129.out 2).trans rfl; have hfz10_0 := blk_frozen BK129.out 0; have hfz10_1 := blk_frozen BK129.out 1; have hfz10_2 := blk_frozen BK129.out 2))
  refine bodyPost_ret (results_cell_row rfl _ _ gb129 36 #[.int .i8 a0_0, .int .i8 a0_1, .int .i8 a0_2] (0, 0) _ rfl (by (with_reducible repeat (first | refine blk_drewN ?_ _ | refine blk_drew ?_ | refine blk_alloc ?_ _)); refine blk_put (cs := #[.int .i8 a0_0, .int .i8 a0_1, .int .i8 0]) ?_ 2 _ rfl; (with_reducible repeat (first | refine blk_drewN ?_ _ | refine blk_drew ?_ | refine blk_alloc ?_ _)); refine blk_put (cs := #[.int .i8 a0_0, .int .i8 0, .int .i8 0]) ?_ 1 _ rfl; (with_reducible repeat (first | refine blk_drewN ?_ _ | refine blk_drew ?_ | refine blk_alloc ?_ _)); refine blk_put (cs := #[.int .i8 0, .int .i8 0, .int .i8 0]) ?_ 0 _ rfl; (with_reducible repeat (first | refine blk_drewN ?_ _ | refine blk_drew ?_ | refine blk_alloc ?_ _)); refine blk_far ?_ NB129_130.out _; (with_reducible repeat (first | refine blk_drewN ?_ _ | refine blk_drew ?_ | refine blk_alloc ?_ _)); refine blk_far ?_ NB129_130.out _; (with_reducible repeat (first | refine blk_drewN ?_ _ | refine blk_drew ?_ | refine blk_alloc ?_ _)); refine blk_far ?_ NB129_130.out _; (with_reducible repeat (first | refine blk_drewN ?_ _ | refine blk_drew ?_ | refine blk_alloc ?_ _)); exact BK129.out) Tryd.underlying36 rfl (by kernel_rfl)) rfl ?_
  exact ⟨by first | rfl | (simp [errW_none, errW_some] <;> rfl) | (simp [*, errW_none, errW_some] <;> rfl), by repeat (first | (with_reducible first | exact HB.out | apply below_alloc | apply pw_below_drewN | apply below_drew1 | refine below_set ?_ GE128.out | refine below_set ?_ GE129.out | refine below_set ?_ GE130.out) | exact HB.out)⟩

end Go.Proofs.YtipdmnibjkdpcaaDoor.P

namespace Go.Proofs.YtipdmnibjkdpcaaDoor.Pure
open Go.RowKit Go.Proofs.YtipdmnibjkdpcaaDoor.P Go.Proofs.YtipdmnibjkdpcaaDoorW.PrintWords Go.Proofs.YtipdmnibjkdpcaaDoorW.PrintLast
set_option linter.unusedVariables false
set_option linter.unusedSimpArgs false

theorem inF (a lo hi : Int) : spec_l00In.f a lo hi = some (decide (lo ≤ a) && decide (a ≤ hi)) := by
  unfold spec_l00In.f; by_cases h : lo ≤ a <;> simp [h]
theorem withinF (a lo hi : Int) : impl_within.f a lo hi = some (decide (lo ≤ a) && decide (a ≤ hi)) := by
  unfold impl_within.f; by_cases h : lo ≤ a <;> simp [h]
theorem w8 {a : Int} (w : (Lit.int .i8 a).wf = true) : wrap64 a = a := by
  obtain ⟨h0, h1⟩ := bounds_i8 w
  exact w64 (by omega) (by omega)
/-- A box is valid. -/
def okB (a b c : Int) : Bool := (decide (1 ≤ a) && decide (a ≤ 60)) && ((decide (1 ≤ b) && decide (b ≤ 60)) && (decide (1 ≤ c) && decide (c ≤ 60)))
theorem okB_iff {a b c : Int} : okB a b c = true ↔ (1 ≤ a ∧ a ≤ 60) ∧ (1 ≤ b ∧ b ≤ 60) ∧ (1 ≤ c ∧ c ≤ 60) := by
  simp [okB, and_assoc]
theorem specOk {a b c : Int} (wa : (Lit.int .i8 a).wf = true) (wb : (Lit.int .i8 b).wf = true) (wc : (Lit.int .i8 c).wf = true) : spec_l02Ok.f a b c = some (okB a b c) := by
  unfold spec_l02Ok.f okB
  rw [inF, inF, inF, w8 wa, w8 wb, w8 wc, Option.bind_some]
  cases (decide (1 ≤ a) && decide (a ≤ 60)) <;> cases (decide (1 ≤ b) && decide (b ≤ 60)) <;> rfl
theorem sidesF {a b c : Int} (wa : (Lit.int .i8 a).wf = true) (wb : (Lit.int .i8 b).wf = true) (wc : (Lit.int .i8 c).wf = true) : impl_Box_sides.f a b c = some [a, b, c] := by
  unfold impl_Box_sides.f; rw [w8 wa, w8 wb, w8 wc]
theorem implOk {a b c : Int} (wa : (Lit.int .i8 a).wf = true) (wb : (Lit.int .i8 b).wf = true) (wc : (Lit.int .i8 c).wf = true) : impl_ValidBox.f a b c = some (okB a b c) := by
  unfold impl_ValidBox.f impl_areWithin.f
  rw [sidesF wa wb wc]
  simp only [Option.bind_some, List.all_cons, List.all_nil, Bool.and_true, okB]
theorem toB (a b c : Int) : laws_toBox.f a b c = some (a, b, c) := rfl

end Go.Proofs.YtipdmnibjkdpcaaDoor.Pure

namespace Go.Proofs.YtipdmnibjkdpcaaDoor.Pure
open Go.RowKit Go.Proofs.YtipdmnibjkdpcaaDoor.P Go.Proofs.YtipdmnibjkdpcaaDoorW.PrintWords Go.Proofs.YtipdmnibjkdpcaaDoorW.PrintLast
set_option linter.unusedVariables false
set_option linter.unusedSimpArgs false

theorem eqBF (a b c : Int) : laws_eqBox.f a b c a b c = some true := by
  rw [laws_eqBox.f, if_pos rfl, if_pos rfl, if_pos rfl]
theorem eqB_l0 (l : List S36) (hb : l.length ≤ 17592186044415) : ∀ d i, l.length - i = d → i ≤ l.length → Ev (fun k => laws_eqBoxS.l0 k l l (i : Int)) true := by
  intro d
  induction d with
  | zero =>
    intro i hd hi
    refine Ev.step (f := fun _ => some true) (fun k => ?_) (Ev.now _)
    rw [laws_eqBoxS.l0, if_neg (by omega)]
  | succ d ih =>
    intro i hd hi
    refine Ev.step (fun k => ?_) (ih (i + 1) (by omega) (by omega))
    rw [laws_eqBoxS.l0, if_pos (by omega), if_pos (by omega), if_pos (by omega), eqBF, Option.bind_some, if_pos rfl, wN i (by omega)]
theorem eqB (l : List S36) (hb : l.length ≤ 17592186044415) : Ev (fun k => laws_eqBoxS.f k l l) true := by
  refine Ev.congr (f := fun k => laws_eqBoxS.l0 k l l ((0 : Nat) : Int)) (fun k => ?_) (eqB_l0 l hb _ 0 rfl (Nat.zero_le _))
  rw [laws_eqBoxS.f, if_pos rfl]; rfl
end Go.Proofs.YtipdmnibjkdpcaaDoor.Pure

namespace Go.Proofs.YtipdmnibjkdpcaaDoor.P
open Go.RowKit Go.Proofs.YtipdmnibjkdpcaaDoorW.PrintWords Go.Proofs.YtipdmnibjkdpcaaDoorW.PrintLast Go.Proofs.YtipdmnibjkdpcaaDoorW.PrintMore
attribute [local go_sem] max2_int min2_int max_two min_two max_three min_three max_four min_four   -- for this text's walks alone
set_option linter.unusedVariables false
set_option linter.unusedSimpArgs false

/-! ### laws_szBoxS: function 5 -/
def laws_szBoxS.f (l0 : List (S38)) (a1 : Int) : Option (Int) := if (wrap64 (a1 - (l0.length : Int))) < 0 then (some (-1)) else (some (wrap64 (a1 - (l0.length : Int))))
set_option maxHeartbeats 8000000 in
set_option maxRecDepth 100000 in
theorem laws_szBoxS.calls (A0 : Option Addr) (c0 : Nat) (l0 : List (S38)) (a1 : Int) (r : Int) (w : World) (hr0 : Kd.C k38 w A0 l0.length l0) (hc0 : l0.length ≤ c0) (h : laws_szBoxS.f l0 a1 = some r) :
    Calls Tryd.prog 5 #[.slice A0 l0.length c0, .int .i64 a1] w fun e w' => e = .returned (.int .i64 r) ∧ Drawn0 w w' := by
  have HR0 := Aside0.mk hr0
  have HC0 := Aside0.mk hc0
  clear hr0 hc0
  have H : (if (wrap64 (a1 - (l0.length : Int))) < 0 then (some (-1)) else (some (wrap64 (a1 - (l0.length : Int))))) = some r := h
  clear h
  by_cases c3 : (wrap64 (a1 - (l0.length : Int))) < 0
  · rw [if_pos c3] at H
    have c3b0 : decide ((wrap64 (a1 - (l0.length : Int))) < 0) = true := decide_eq_true c3
    clear c3
    obtain rfl := Option.some.inj H
    go_enter Tryd.func5, Tryd.ntmps5
    go_wp2
    go_ret
    exact ⟨by first | rfl | (simp; done) | (simp [*]; done), by repeat (first | exact Drawn0.refl _ | apply Drawn0.step)⟩
  · rw [if_neg c3] at H
    have c3b0 : decide ((wrap64 (a1 - (l0.length : Int))) < 0) = false := decide_eq_false c3
    clear c3
    obtain rfl := Option.some.inj H
    go_enter Tryd.func5, Tryd.ntmps5
    go_wp2
    go_ret
    exact ⟨by first | rfl | (simp; done) | (simp [*]; done), by repeat (first | exact Drawn0.refl _ | apply Drawn0.step)⟩

end Go.Proofs.YtipdmnibjkdpcaaDoor.P

namespace Go.Proofs.YtipdmnibjkdpcaaDoor.P
open Go.RowKit Go.Proofs.YtipdmnibjkdpcaaDoorW.PrintWords Go.Proofs.YtipdmnibjkdpcaaDoorW.PrintLast Go.Proofs.YtipdmnibjkdpcaaDoorW.PrintMore
attribute [local go_sem] max2_int min2_int max_two min_two max_three min_three max_four min_four   -- for this text's walks alone
set_option linter.unusedVariables false
set_option linter.unusedSimpArgs false

/-! ### laws_toBoxS: function 7 -/
def laws_toBoxS.l0 : Nat → List (S38) → List (S36) → Int → Option ((List (S36)))
  | 0, _, _, _ => none
  | k + 1, x0, x3, x4 => if x4 < (x0.length : Int) then (if 0 ≤ x4 then ((laws_toBox.f ((rd_T38 x0 x4).f0) ((rd_T38 x0 x4).f1) ((rd_T38 x0 x4).f2)).bind fun bt135 => (if x4 < (x3.length : Int) then (laws_toBoxS.l0 k x0 (x3.set (x4 : Int).toNat (⟨bt135.1, bt135.2.1, bt135.2.2⟩ : S36)) (wrap64 (x4 + 1))) else (none))) else (none)) else (some x3)
def laws_toBoxS.f (k : Nat) (l0 : List (S38)) : Option ((List (S36))) := if 0 ≤ (l0.length : Int) then (if ((l0.length : Int) : Int).toNat ≤ 93824992236885 then (laws_toBoxS.l0 k l0 (List.replicate ((l0.length : Int) : Int).toNat z36) 0) else (none)) else (none)
theorem laws_toBoxS.mono_l : ∀ k, (∀ y0 y1 y2, LeO (laws_toBoxS.l0 k y0 y1 y2) (laws_toBoxS.l0 (k + 1) y0 y1 y2))
  | 0 => fun _ _ _ r h => by simp [laws_toBoxS.l0] at h
  | k + 1 => by
    have ih0 := laws_toBoxS.mono_l k
    · intro y0 y1 y2
      unfold laws_toBoxS.l0
      repeat' first
      | (with_reducible exact ih0 _ _ _)
      | (with_reducible exact LeO.refl _)
      | (with_reducible exact LeO.none _)
      | (with_reducible refine LeO.ite ?_ ?_)
      | (with_reducible refine LeO.bind ?_ (fun _ => ?_))
      | exact ih0 _ _ _
      | exact LeO.none _
      | refine LeO.ite ?_ ?_
      | refine LeO.bind ?_ (fun _ => ?_)
theorem laws_toBoxS.mono : ∀ a0 k, LeO (laws_toBoxS.f k a0) (laws_toBoxS.f (k + 1) a0) := by
  intro a0 k
  have ih0 := laws_toBoxS.mono_l k
  unfold laws_toBoxS.f
  repeat' first
      | (with_reducible exact ih0 _ _ _)
      | (with_reducible exact LeO.refl _)
      | (with_reducible exact LeO.none _)
      | (with_reducible refine LeO.ite ?_ ?_)
      | (with_reducible refine LeO.bind ?_ (fun _ => ?_))
      | exact ih0 _ _ _
      | exact LeO.none _
      | refine LeO.ite ?_ ?_
      | refine LeO.bind ?_ (fun _ => ?_)
set_option maxHeartbeats 8000000 in
set_option maxRecDepth 100000 in
theorem laws_toBoxS.calls (k : Nat) (A0 : Option Addr) (c0 : Nat) (l0 : List (S38)) (r : List (S36)) (w : World) (hr0 : Kd.C k38 w A0 l0.length l0) (hc0 : l0.length ≤ c0) (h : laws_toBoxS.f k l0 = some r) :
    Calls Tryd.prog 7 #[.slice A0 l0.length c0] w fun e w' => ∃ v0_ : Value, e = .returned (v0_) ∧ Kd.R k36 36 w' w.heap.size (fun _ => True) v0_ r ∧ Below w.heap.size w w' := by
  have hu38 := Tryd.underlying38
  have hu36 := Tryd.underlying36
  have HR0 := Aside0.mk hr0
  have HC0 := Aside0.mk hc0
  clear hr0 hc0
  have HB := Aside0.mk (Below.refl w.heap.size w)
  have H : (if 0 ≤ (l0.length : Int) then (if ((l0.length : Int) : Int).toNat ≤ 93824992236885 then (laws_toBoxS.l0 k l0 (List.replicate ((l0.length : Int) : Int).toNat z36) 0) else (none)) else (none)) = some r := h
  clear h
  by_cases c2 : 0 ≤ (l0.length : Int)
  · rw [if_pos c2] at H
    have c2b0 := eq_true c2
    have c2b1 : decide (0 ≤ (l0.length : Int)) = true := decide_eq_true c2
    clear c2
    by_cases c3 : ((l0.length : Int) : Int).toNat ≤ 93824992236885
    · rw [if_pos c3] at H
      have c3b0 := eq_true c3
      have c3b1 : decide (((l0.length : Int) : Int).toNat ≤ 93824992236885) = true := decide_eq_true c3
      clear c3
      obtain ⟨y131, hy131⟩ : ∃ y_ : List (S36), y_ = (List.replicate ((l0.length : Int) : Int).toNat z36) := ⟨_, rfl⟩
      replace H : (laws_toBoxS.l0 k l0 y131 0) = some r := by first | (rw [hy131]; with_reducible exact H) | (have H2_ := (Option.bind_some _ _).symm.trans H; rw [hy131]; with_reducible exact H2_) | (have H2_ := (Option.bind_some _ _).symm.trans H; with_reducible exact H2_) | with_reducible exact H | (rw [hy131]; exact H) | exact H
      have Ny131 := Aside0.mk hy131
      clear hy131
      have H' := Aside0.mk H
      clear H
      go_enter Tryd.func7, Tryd.ntmps7
      go_wp2_with (first | ((with_reducible refine gate_dst (N := 7) rfl ?_); refine Kd.R_make k36 _ 36 rfl (N := 7) rfl 25 _ _ rfl (l0.length : Int) rfl rfl Tryd.underlying25 (.agg #[(.int .i8 0), (.int .i8 0), (.int .i8 0)]) 3 info36 rfl (by decide) (by omega) z36 (ok := fun _ => True) (okp := fun _ => True) (k36_mkM _ _ _ z36 ) (fun _ hk => hk) trivial (of_decide_eq_true (by first | (with_reducible assumption) | assumption)) (Nat.le_trans (Nat.mul_le_mul_right _ (of_decide_eq_true (by first | (with_reducible assumption) | assumption) : (l0.length : Int).toNat ≤ 93824992236885)) (by omega)) (Below.refl _ _) (Nat.le_refl _) ?_; intro v132 w4 ho5 hb hg_ hnew_; clear hg_ hnew_; (first | rw [← Ny131.out] at ho5 | (simp only [Int.reduceToNat] at ho5; rw [← Ny131.out] at ho5)); have n0_ := Aside0.mk (Kd.R_lower ho5 (below_size (by repeat (first | (with_reducible first | exact HB.out | apply below_alloc | apply pw_below_drewN | apply below_drew1) | exact HB.out)))); have n1_ := Aside0.mk (below_step (by repeat (first | (with_reducible first | exact HB.out | apply below_alloc | apply pw_below_drewN | apply below_drew1) | exact HB.out)) hb); clear HB; have HO133 := n0_; have HB := n1_; clear n0_ n1_; clear hb ho5))
      go_loopg [4] k (fun kq v4 w' => ∃ (x3_1 : List (S36)) (x4_1 : Int), v4 = .int .i64 x4_1 ∧ Aside0 (laws_toBoxS.l0 kq l0 x3_1 x4_1 = some r) ∧ Aside0 (kq ≤ k) ∧ Aside0 (Kd.R k36 36 w' w.heap.size (fun _ => True) v132 x3_1) ∧ Aside0 (Below w.heap.size w w'))
      case atStart => exact ⟨(y131), (0), (by first | rfl | (simp; done) | (simp [*]; done)), H', ⟨Nat.le_refl _⟩, ⟨by (with_reducible repeat (first | apply Kd.R_alloc | apply Kd.R_drewN | apply Kd.R_drew)); exact HO133.out⟩, ⟨by repeat (first | (with_reducible first | exact HB.out | apply below_alloc | apply pw_below_drewN | apply below_drew1) | exact HB.out)⟩⟩
      case round =>
        clear H'
        try clear c2
        try clear c2b0
        try clear c2b1
        try clear p2
        try clear c3
        try clear c3b0
        try clear c3b1
        obtain ⟨x3_1, x4_1, rfl, HA, HK1, HO_3, HB⟩ := hrel
        cases gk with
        | zero => exact absurd HA.out (by simp [laws_toBoxS.l0])
        | succ k1 =>
          have H := HA.out
          clear HA
          simp only [laws_toBoxS.l0] at H
          by_cases c6 : x4_1 < (l0.length : Int)
          · rw [if_pos c6] at H
            have c6b0 : decide (x4_1 < (l0.length : Int)) = true := decide_eq_true c6
            clear c6
            by_cases c7 : 0 ≤ x4_1
            · rw [if_pos c7] at H
              have c7b0 : decide (0 ≤ x4_1) = true := decide_eq_true c7
              clear c7
              replace H := Option.bind_eq_some_iff.mp H
              obtain ⟨⟨t135, t136, t137⟩, A80, H⟩ := H
              replace H : (if x4_1 < (x3_1.length : Int) then (laws_toBoxS.l0 k1 l0 (x3_1.set (x4_1 : Int).toNat (⟨t135, t136, t137⟩ : S36)) (wrap64 (x4_1 + 1))) else (none)) = some r := H
              have A8 := Aside0.mk A80
              clear A80
              by_cases c9 : x4_1 < (x3_1.length : Int)
              · rw [if_pos c9] at H
                have c9b0 : decide (x4_1 < (x3_1.length : Int)) = true := decide_eq_true c9
                clear c9
                obtain ⟨y138, hy138⟩ : ∃ y_ : List (S36), y_ = (x3_1.set (x4_1 : Int).toNat (⟨t135, t136, t137⟩ : S36)) := ⟨_, rfl⟩
                replace H : (laws_toBoxS.l0 k1 l0 y138 (wrap64 (x4_1 + 1))) = some r := by first | (rw [hy138]; with_reducible exact H) | (have H2_ := (Option.bind_some _ _).symm.trans H; rw [hy138]; with_reducible exact H2_) | (have H2_ := (Option.bind_some _ _).symm.trans H; with_reducible exact H2_) | with_reducible exact H | (rw [hy138]; exact H) | exact H
                have Ny138 := Aside0.mk hy138
                clear hy138
                have H' := Aside0.mk H
                clear H
                have p134 : 0 ≤ (x4_1 : Int) := of_decide_eq_true (by first | (with_reducible assumption) | assumption)
                have q134 : x4_1 < (l0.length : Int) := of_decide_eq_true (by first | (with_reducible assumption) | assumption)
                obtain ⟨ad134, e134, hx134_0, hx134_1, hx134_2⟩ := at_T38 HR0.out x4_1 p134 q134
                cases e134
                replace hx134_0 := (HB.out.cell (World.block_lt_of_cell? w _ hx134_0)).trans hx134_0
                replace hx134_1 := (HB.out.cell (World.block_lt_of_cell? w _ hx134_1)).trans hx134_1
                replace hx134_2 := (HB.out.cell (World.block_lt_of_cell? w _ hx134_2)).trans hx134_2
                replace p134 := eq_true p134
                replace q134 := eq_true q134
                go_wp2_with (first | ((with_reducible refine gate_callee (f := 16) rfl ?_); refine goesL_ (some 20) rfl rfl Tryd.func16 (by kernel_rfl) rfl #[.agg #[.int .i8 ((rd_T38 l0 x4_1).f0), .int .i8 ((rd_T38 l0 x4_1).f1), .int .i8 ((rd_T38 l0 x4_1).f2)]] rfl (by (try simp only [List.map_toArray, List.map_cons, List.map_nil]); first | done | rfl | (simp only [List.length_drop, List.length_take]; rfl)) ?_; (with_reducible refine (laws_toBox.calls ((rd_T38 l0 x4_1).f0) ((rd_T38 l0 x4_1).f1) ((rd_T38 l0 x4_1).f2) t135 t136 t137 _ A8.out).mono ?_); rintro e w11 ⟨rfl, hb⟩; refine ⟨_, rfl, ?_⟩; have n0_ := Aside0.mk (Kd.R_below (by (with_reducible repeat (first | apply Kd.R_alloc | apply Kd.R_drewN | apply Kd.R_drew)); exact HO_3.out) hb); have n1_ := Aside0.mk (below_step (by repeat (first | (with_reducible first | exact HB.out | apply below_alloc | apply pw_below_drewN | apply below_drew1) | exact HB.out)) hb); clear HO_3; clear HB; have HO_3 := n0_; have HB := n1_; clear n0_ n1_; (try clear hb); (try clear hb2); (try clear hk); (try clear hi); have p10 : 0 ≤ (x4_1 : Int) := of_decide_eq_true (by first | (with_reducible assumption) | assumption); have q10 : (x4_1 : Int) < ((x3_1.length : Int) : Int) := of_decide_eq_true (by first | (with_reducible assumption) | assumption); obtain ⟨go10, co10, eo10, gb10, gl10, cl10, HG10⟩ := Kd.R_form HO_3.out (by omega); (first | cases eo10 | (injection eo10 with ea_ en_ ec_; (first | subst ea_ | (injection ea_ with ea_; subst ea_)); subst ec_; clear en_)); have GB10 := Aside0.mk gb10; have GG10 := Aside0.mk HG10; clear gb10 gl10 HG10; obtain ⟨ce10, hcl10, hM10, hcc10, hfr10⟩ := Kd.R_elem HO_3.out z36 (x4_1 : Int) p10 q10; obtain rfl := k36_openM hM10; have hx10_0 : w11.cell? ⟨go10, (x4_1 : Int).toNat * 3, none⟩ = some (.int .i8 ((rd_T36 x3_1 x4_1).f0)) := hcc10 0 _ rfl; have hx10_1 : w11.cell? ⟨go10, (x4_1 : Int).toNat * 3 + 1, none⟩ = some (.int .i8 ((rd_T36 x3_1 x4_1).f1)) := hcc10 1 _ rfl; have hx10_2 : w11.cell? ⟨go10, (x4_1 : Int).toNat * 3 + 2, none⟩ = some (.int .i8 ((rd_T36 x3_1 x4_1).f2)) := hcc10 2 _ rfl; have hf10_0 : w11.frozen? ⟨go10, (x4_1 : Int).toNat * 3, none⟩ = false := hfr10 0; have hf10_1 : w11.frozen? ⟨go10, (x4_1 : Int).toNat * 3 + 1, none⟩ = false := hfr10 1; have hf10_2 : w11.frozen? ⟨go10, (x4_1 : Int).toNat * 3 + 2, none⟩ = false := hfr10 2; clear hcl10 hcc10 hfr10 hM10; replace p10 := eq_true p10; replace q10 := eq_true q10; have HX12 := Aside0.mk (show Kd.R k36 36 w11 w.heap.size (fun _ => True) (.slice (some ⟨go10, 0, none⟩) x3_1.length co10) x3_1 from (by (with_reducible repeat (first | apply Kd.R_alloc | apply Kd.R_drewN | apply Kd.R_drew)); exact HO_3.out)); obtain ⟨ce12, hcl12, hM12, hcc12, hfr12⟩ := Kd.R_elem HX12.out z36 (x4_1 : Int) (of_decide_eq_true (by first | (with_reducible assumption) | assumption)) (by have h_ : (x4_1 : Int) < ((x3_1.length : Int) : Int) := of_decide_eq_true (by first | (with_reducible assumption) | assumption); first | exact h_ | (have e_ := (Kd.R_reads' HO_3.out).1; omega) | simpa using h_); obtain rfl := k36_openM hM12; have HP12 := Kd.R_seg HX12.out (x4_1 : Int) (of_decide_eq_true (by first | (with_reducible assumption) | assumption)) (by have h_ : (x4_1 : Int) < ((x3_1.length : Int) : Int) := of_decide_eq_true (by first | (with_reducible assumption) | assumption); first | exact h_ | (have e_ := (Kd.R_reads' HO_3.out).1; omega) | simpa using h_) (seg := [.int .i8 t135, .int .i8 t136, .int .i8 t137]) (j := 0) hcl12 hcc12 (show 3 ≤ 3 from by decide) (x' := (⟨t135, t136, t137⟩ : S36)) (k36_mkM _ _ _ (⟨t135, t136, t137⟩ : S36) ) (fun _ hk => hk); have hx12_0 := hcc12 0 _ rfl; (try simp only [show (k36).sz = 3 from rfl, Nat.mul_one, Nat.add_zero] at hx12_0); have hf12_0 := hfr12 0; (try simp only [show (k36).sz = 3 from rfl, Nat.mul_one, Nat.add_zero] at hf12_0); have hx12_1 := hcc12 1 _ rfl; (try simp only [show (k36).sz = 3 from rfl, Nat.mul_one, Nat.add_zero] at hx12_1); have hf12_1 := hfr12 1; (try simp only [show (k36).sz = 3 from rfl, Nat.mul_one, Nat.add_zero] at hf12_1); have hx12_2 := hcc12 2 _ rfl; (try simp only [show (k36).sz = 3 from rfl, Nat.mul_one, Nat.add_zero] at hx12_2); have hf12_2 := hfr12 2; (try simp only [show (k36).sz = 3 from rfl, Nat.mul_one, Nat.add_zero] at hf12_2); clear hcl12 hcc12 hfr12 hM12) | ((with_reducible refine gate_store (t := 36) (p := 21) rfl ?_); refine store_event (t := 36) (p := 21) (v := ?vo_w13) (w1 := (((w11.setCell ⟨go10, (x4_1 : Int).toNat * 3, none⟩ (.int .i8 t135)).setCell ⟨go10, (x4_1 : Int).toNat * 3 + 1, none⟩ (.int .i8 t136)).setCell ⟨go10, (x4_1 : Int).toNat * 3 + 2, none⟩ (.int .i8 t137))) ?hg ?ho ?hn ?hr ?_; (case ho => rfl); (case hg => rfl); (case hn => rfl); (case hr => first | (go_simp; done) | (go_simp; rfl)); intro w13 hw; have hg : w11.grownBy w13 (some go10) := (by rw [hw]; exact HP12.2); have hp_ : Kd.R k36 36 w13 w.heap.size (fun _ => True) (.slice (some ⟨go10, 0, none⟩) x3_1.length co10) y138 := (by rw [hw, Ny138.out]; exact HP12.1); clear HP12; have n0_ := Aside0.mk (hp_); have n1_ := Aside0.mk ((by rw [hw]; exact below_set (below_set (below_set (HB.out) GB10.out) GB10.out) GB10.out : Below w.heap.size w w13)); clear HO_3; clear HB; have HO_3 := n0_; have HB := n1_; clear n0_ n1_; clear hg hw hp_))
                go_roundg k1
                case measure => have := HK1.out; omega
                case rel => exact ⟨(y138), (wrap64 (x4_1 + 1)), (by first | rfl | (simp; done) | (simp [*]; done)), H', ⟨by have := HK1.out; omega⟩, ⟨by (with_reducible repeat (first | apply Kd.R_alloc | apply Kd.R_drewN | apply Kd.R_drew)); exact HO_3.out⟩, ⟨by repeat (first | (with_reducible first | exact HB.out | apply below_alloc | apply pw_below_drewN | apply below_drew1) | exact HB.out)⟩⟩
              · rw [if_neg c9] at H
                exact absurd H (by simp)
            · rw [if_neg c7] at H
              exact absurd H (by simp)
          · rw [if_neg c6] at H
            have c6b0 : decide (x4_1 < (l0.length : Int)) = false := decide_eq_false c6
            clear c6
            obtain rfl := Option.some.inj H
            go_wp2
            go_ret
            exact ⟨_, by first | rfl | (simp [errW_none, errW_some] <;> rfl) | (simp [*, errW_none, errW_some] <;> rfl), by (with_reducible repeat (first | apply Kd.R_alloc | apply Kd.R_drewN | apply Kd.R_drew)); exact HO_3.out, by repeat (first | (with_reducible first | exact HB.out | apply below_alloc | apply pw_below_drewN | apply below_drew1) | exact HB.out)⟩
    · rw [if_neg c3] at H
      exact absurd H (by simp)
  · rw [if_neg c2] at H
    exact absurd H (by simp)

end Go.Proofs.YtipdmnibjkdpcaaDoor.P

namespace Go.Proofs.YtipdmnibjkdpcaaDoor.Pure
open Go.RowKit Go.Proofs.YtipdmnibjkdpcaaDoor.P Go.Proofs.YtipdmnibjkdpcaaDoorW.PrintWords Go.Proofs.YtipdmnibjkdpcaaDoorW.PrintLast
set_option linter.unusedVariables false
set_option linter.unusedSimpArgs false

theorem rdT38 (l : List S38) (i : Nat) : rd_T38 l (i : Int) = l.getD i z38 := rfl
theorem list_extT (a b : List S36) (hl : a.length = b.length) (h : ∀ j, j < b.length → a.getD j z36 = b.getD j z36) : a = b := by
  apply List.ext_getElem hl
  intro i h1 h2
  have := h i h2
  rwa [getD_eqG z36 a i h1, getD_eqG z36 b i h2] at this
/-- A box as the program has it. -/
def cvb (x : S38) : S36 := ⟨x.f0, x.f1, x.f2⟩
theorem szB (l : List S38) (a : Int) (h0 : 0 ≤ a) (h1 : a ≤ 1048576) (hl : l.length ≤ 9223372036854775807) : laws_szBoxS.f l a = some (if (l.length : Int) ≤ a then a - l.length else -1) := by
  unfold laws_szBoxS.f
  rw [w64 (by omega) (by omega)]
  split <;> split <;> first | rfl | omega
theorem toBS_l0 (l : List S38) (hb : l.length ≤ 1048576) : ∀ d i (x : List S36), l.length - i = d → i ≤ l.length → x.length = l.length → (∀ j, j < i → x.getD j z36 = cvb (l.getD j z38)) → Ev (fun k => laws_toBoxS.l0 k l x (i : Int)) (l.map cvb) := by
  intro d
  induction d with
  | zero =>
    intro i x hd hi hx hj
    refine Ev.step (f := fun _ => some x) (fun k => ?_) ?_
    · rw [laws_toBoxS.l0, if_neg (by omega)]
    · have : x = l.map cvb := list_extT x _ (by rw [List.length_map, hx]) (fun j h => by
        rw [List.length_map] at h
        rw [hj j (by omega), getD_eqG z36 _ j (by rw [List.length_map]; exact h), List.getElem_map, getD_eqG z38 l j h])
      rw [this]; exact Ev.now _
  | succ d ih =>
    intro i x hd hi hx hj
    refine Ev.step (fun k => ?_) (ih (i + 1) (x.set i (cvb (l.getD i z38))) (by omega) (by omega) (by simpa using hx) ?_)
    · rw [laws_toBoxS.l0, if_pos (by omega), if_pos (by omega), toB, Option.bind_some, if_pos (by omega), wN i (by omega), rdT38, Int.toNat_natCast]
      rfl
    · intro j h
      rw [getD_setG z36 x i j _ (by omega)]
      by_cases e : i = j
      · rw [if_pos e, e]
      · rw [if_neg e]; exact hj j (by omega)
theorem toBS (l : List S38) (hb : l.length ≤ 1048576) : Ev (fun k => laws_toBoxS.f k l) (l.map cvb) := by
  refine Ev.congr (f := fun k => laws_toBoxS.l0 k l (List.replicate l.length z36) ((0 : Nat) : Int)) (fun k => ?_) (toBS_l0 l hb _ 0 _ rfl (Nat.zero_le _) (by simp) (fun j h => absurd h (Nat.not_lt_zero _)))
  simp only [laws_toBoxS.f, Int.toNat_natCast]
  rw [if_pos (by omega), if_pos (by omega)]; rfl
def okS (s : S36) : Bool := okB s.f0 s.f1 s.f2
/-- Boxes are valid, and not too many. -/
def boxesOk (l : List S36) : Bool := decide (l.length ≤ 10) && l.all okS
def wfS (l : List S36) : Prop := ∀ s ∈ l, (Lit.int .i8 s.f0).wf = true ∧ (Lit.int .i8 s.f1).wf = true ∧ (Lit.int .i8 s.f2).wf = true
theorem wf_cvb {l : List S38} (h : ∀ x ∈ l, (Lit.int .i8 x.f0).wf = true ∧ (Lit.int .i8 x.f1).wf = true ∧ (Lit.int .i8 x.f2).wf = true) : wfS (l.map cvb) := by
  intro s hs
  obtain ⟨x, hx, rfl⟩ := List.mem_map.1 hs
  exact h x hx
theorem any_l0 (l : List S36) (hb : l.length ≤ 2000000) (hw : wfS l) : ∀ d i, l.length - i = d → i ≤ l.length → (∀ j, j < i → okS (l.getD j z36) = true) → ∃ r : Int, Ev (fun k => impl_Box_38.l0 k l (l.length : Int) (i : Int)) r ∧ decide (r ≥ 0) = !(l.all okS) := by
  intro d
  induction d with
  | zero =>
    intro i hd hi hj
    refine ⟨-1, Ev.step (f := fun _ => some (-1)) (fun k => by rw [impl_Box_38.l0, if_neg (by omega)]) (Ev.now _), ?_⟩
    have e : l.all okS = true := List.all_eq_true.2 (fun s hs => by
      obtain ⟨j, h1, rfl⟩ := (mem_getDG z36 l s).1 hs
      exact hj j (by omega))
    rw [e]; rfl
  | succ d ih =>
    intro i hd hi hj
    obtain ⟨w0, w1, w2⟩ := hw _ (getD_memG l i (by omega))
    have e : ∀ k, impl_Box_38.l0 (k + 1) l (l.length : Int) (i : Int) = if (!okS (l.getD i z36)) = true then some (i : Int) else impl_Box_38.l0 k l (l.length : Int) ((i + 1 : Nat) : Int) := fun k => by
      rw [impl_Box_38.l0, if_pos (by omega), if_pos (by omega), if_pos (by omega), impl_boxesCode_1.f, rdT, implOk w0 w1 w2, Option.bind_some, Option.bind_some, wN i (by omega)]
      rfl
    by_cases c : okS (l.getD i z36) = true
    · obtain ⟨r, r1, r2⟩ := ih (i + 1) (by omega) (by omega) (fun j h => by
        by_cases e : j = i
        · subst e; exact c
        · exact hj j (by omega))
      exact ⟨r, Ev.step (fun k => by rw [e, c, if_neg (by decide)]) r1, r2⟩
    · have c' : okS (l.getD i z36) = false := by simpa using c
      refine ⟨(i : Int), Ev.step (f := fun _ => some (i : Int)) (fun k => by rw [e, c', if_pos (by decide)]) (Ev.now _), ?_⟩
      have e : l.all okS = false := by
        cases h : l.all okS with
        | false => rfl
        | true => exact absurd (List.all_eq_true.1 h _ (getD_memG l i (by omega))) c
      rw [e]; simp
theorem codeI (l : List S36) (hb : l.length ≤ 2000000) (hw : wfS l) : Ev (fun k => impl_boxesCode.f k l) (if boxesOk l = true then 0 else 1) := by
  obtain ⟨r, r1, r2⟩ := any_l0 l hb hw _ 0 rfl (Nat.zero_le _) (fun j h => absurd h (Nat.not_lt_zero _))
  obtain ⟨K, r1⟩ := EvG r1
  refine EvI K fun k hk => ?_
  have h1 : impl_Box_38.f k l = some r := r1 k hk
  rw [impl_boxesCode.f, boxesOk]
  by_cases c : l.length ≤ 10
  · rw [if_pos (by omega), impl_Box_28.f, h1, Option.bind_some, Option.bind_some, r2, Bool.not_not, impl_unless.f, decide_eq_true c, Bool.true_and]
    cases l.all okS <;> rfl
  · rw [if_neg (by omega), impl_unless.f, decide_eq_false c, Bool.false_and]
    rfl
theorem boxes_l0 (l : List S36) (hb : l.length ≤ 2000000) (hw : wfS l) : ∀ d i, l.length - i = d → i ≤ l.length → (∀ j, j < i → okS (l.getD j z36) = true) → Ev (fun k => spec_l02Boxes.l0 k l (i : Int)) (boxesOk l) := by
  intro d
  induction d with
  | zero =>
    intro i hd hi hj
    have e : l.all okS = true := List.all_eq_true.2 (fun s hs => by
      obtain ⟨j, h1, rfl⟩ := (mem_getDG z36 l s).1 hs
      exact hj j (by omega))
    refine Ev.step (f := fun _ => some (boxesOk l)) (fun k => ?_) (Ev.now _)
    rw [spec_l02Boxes.l0, if_neg (by omega), boxesOk, e, Bool.and_true]
    congr 1
    by_cases c : l.length ≤ 10 <;> simp [c] <;> omega
  | succ d ih =>
    intro i hd hi hj
    obtain ⟨w0, w1, w2⟩ := hw _ (getD_memG l i (by omega))
    have e : ∀ k, spec_l02Boxes.l0 (k + 1) l (i : Int) = if okS (l.getD i z36) = true then spec_l02Boxes.l0 k l ((i + 1 : Nat) : Int) else some false := fun k => by
      rw [spec_l02Boxes.l0, if_pos (by omega), if_pos (by omega), rdT, specOk w0 w1 w2, Option.bind_some, wN i (by omega)]
      rfl
    by_cases c : okS (l.getD i z36) = true
    · exact Ev.step (fun k => by rw [e, if_pos c]) (ih (i + 1) (by omega) (by omega) (fun j h => by
        by_cases e : j = i
        · subst e; exact c
        · exact hj j (by omega)))
    · have e2 : boxesOk l = false := by
        have : l.all okS = false := by
          cases h : l.all okS with
          | false => rfl
          | true => exact absurd (List.all_eq_true.1 h _ (getD_memG l i (by omega))) c
        rw [boxesOk, this, Bool.and_false]
      rw [e2]
      exact Ev.step (f := fun _ => some false) (fun k => by rw [e, if_neg c]) (Ev.now _)
theorem codeS (l : List S36) (hb : l.length ≤ 2000000) (hw : wfS l) : Ev (fun k => spec_l02Boxes.f k l) (boxesOk l) :=
  boxes_l0 l hb hw _ 0 rfl (Nat.zero_le _) (fun j h => absurd h (Nat.not_lt_zero _))

end Go.Proofs.YtipdmnibjkdpcaaDoor.Pure

namespace Go.Proofs.YtipdmnibjkdpcaaDoor.Pure
open Go.RowKit Go.Proofs.YtipdmnibjkdpcaaDoor.P Go.Proofs.YtipdmnibjkdpcaaDoorW.PrintWords Go.Proofs.YtipdmnibjkdpcaaDoorW.PrintLast
set_option linter.unusedVariables false
set_option linter.unusedSimpArgs false

/-- The marks of the box at a place. -/
def mkE (m : Nat) : S36 := ⟨IntKind.i8.wrap (m : Int), IntKind.i8.wrap ((m + 1 : Nat) : Int), IntKind.i8.wrap ((m + 2 : Nat) : Int)⟩
def mkB (n : Nat) : List S36 := (List.range n).map fun i => mkE (1 + 3 * i)
theorem mkB_len (n : Nat) : (mkB n).length = n := by simp [mkB]
theorem mkB_at (n i : Nat) (h : i < n) : (mkB n).getD i z36 = mkE (1 + 3 * i) := by
  simp [mkB, List.getD_eq_getElem?_getD, h]
theorem list_extB (a b : List S36) (hl : a.length = b.length) (h : ∀ j, j < b.length → a.getD j z36 = b.getD j z36) : a = b := by
  apply List.ext_getElem hl
  intro i h1 h2
  have := h i h2
  rwa [getD_eqG z36 a i h1, getD_eqG z36 b i h2] at this
theorem markB_l0 (n : Nat) (hb : n ≤ 2000000) : ∀ d i x, n - i = d → i ≤ n → x.length = n → (∀ j, j < i → x.getD j z36 = mkE (1 + 3 * j)) →
    Ev (fun k => laws_markBoxS.l0 k x ((1 + 3 * i : Nat) : Int) (i : Int)) (((1 + 3 * n : Nat) : Int), mkB n) := by
  intro d
  induction d with
  | zero =>
    intro i x hd hi hx hj
    obtain rfl : i = n := by omega
    refine Ev.step (f := fun _ => some (((1 + 3 * i : Nat) : Int), x)) (fun k => ?_) ?_
    · rw [laws_markBoxS.l0, if_neg (by omega)]
    · have : x = mkB i := list_extB x _ (by rw [mkB_len]; exact hx) (fun j h => by rw [mkB_len] at h; rw [hj j h, mkB_at i j h])
      rw [this]; exact Ev.now _
  | succ d ih =>
    intro i x hd hi hx hj
    refine Ev.step (fun k => ?_) (ih (i + 1) (x.set i (mkE (1 + 3 * i))) (by omega) (by omega) (by simpa using hx) ?_)
    · rw [laws_markBoxS.l0, if_pos (by omega), if_pos (by omega), Option.bind_some, Option.bind_some]
      rw [wN (1 + 3 * i) (by omega), wN (1 + 3 * i + 1) (by omega), wN (1 + 3 * i + 1 + 1) (by omega), wN i (by omega)]
      simp only [Int.toNat_natCast, rdT]
      rw [getD_setG z36 _ i i _ (by rw [hx]; omega), if_pos rfl, getD_setG z36 _ i i _ (by rw [List.length_set, hx]; omega), if_pos rfl, List.set_set, List.set_set]
      rfl
    · intro j h
      rw [getD_setG z36 x i j _ (by omega)]
      by_cases e : i = j
      · rw [if_pos e, e]
      · rw [if_neg e]; exact hj j (by omega)
theorem markB (l : List S36) (hb : l.length ≤ 2000000) : Ev (fun k => laws_markBoxS.f k l 1) (((1 + 3 * l.length : Nat) : Int), mkB l.length) :=
  markB_l0 l.length hb _ 0 l rfl (Nat.zero_le _) rfl (fun j h => absurd h (Nat.not_lt_zero _))
theorem heldB_l0 (n : Nat) (hb : n ≤ 2000000) : ∀ d i, n - i = d → i ≤ n → Ev (fun k => laws_heldBoxS.l0 k (mkB n) ((1 + 3 * i : Nat) : Int) (i : Int)) ((1 + 3 * n : Nat) : Int) := by
  intro d
  induction d with
  | zero =>
    intro i hd hi
    obtain rfl : i = n := by omega
    refine Ev.step (f := fun _ => some (((1 + 3 * i : Nat) : Int))) (fun k => ?_) (Ev.now _)
    rw [laws_heldBoxS.l0, mkB_len, if_neg (by omega)]
  | succ d ih =>
    intro i hd hi
    refine Ev.step (fun k => ?_) (ih (i + 1) (by omega) (by omega))
    rw [laws_heldBoxS.l0, mkB_len, if_pos (by omega), if_pos (by omega), rdT, mkB_at n i (by omega), wN (1 + 3 * i) (by omega), wN (1 + 3 * i + 1) (by omega), wN (1 + 3 * i + 1 + 1) (by omega), wN i (by omega), if_pos (show (mkE (1 + 3 * i)).f0 = IntKind.i8.wrap ((1 + 3 * i : Nat) : Int) from rfl), if_pos (show (mkE (1 + 3 * i)).f1 = IntKind.i8.wrap ((1 + 3 * i + 1 : Nat) : Int) from rfl), if_pos (show (mkE (1 + 3 * i)).f2 = IntKind.i8.wrap ((1 + 3 * i + 1 + 1 : Nat) : Int) from rfl)]
    rfl
theorem heldB (n : Nat) (hb : n ≤ 2000000) : Ev (fun k => laws_heldBoxS.f k (mkB n) 1) ((1 + 3 * n : Nat) : Int) :=
  heldB_l0 n hb _ 0 rfl (Nat.zero_le _)

end Go.Proofs.YtipdmnibjkdpcaaDoor.Pure

namespace Go.Proofs.YtipdmnibjkdpcaaDoor.P
open Go.RowKit Go.Proofs.YtipdmnibjkdpcaaDoorW.PrintWords Go.Proofs.YtipdmnibjkdpcaaDoorW.PrintLast Go.Proofs.YtipdmnibjkdpcaaDoorW.PrintMore
attribute [local go_sem] max2_int min2_int max_two min_two max_three min_three max_four min_four   -- for this text's walks alone
set_option linter.unusedVariables false
set_option linter.unusedSimpArgs false

/-! ### spec_Decimal: function 26 -/
def spec_Decimal.f : Nat → Int → Option (ByteArray)
  | 0, _ => none
  | k + 1, a0 => if a0 < 10 then (some (strOfNums (([(wrap64 (48 + (Int.tmod a0 10))) % 256] : List Int)))) else ((spec_Decimal.f k (wrap64 (Int.tdiv a0 10))).bind fun t110 => ((some (([(wrap64 (48 + (Int.tmod a0 10))) % 256] : List Int) : List Int)).bind fun y111 => (if t110.size + (strOfNums y111).size ≤ 9223372036854775807 then (some (t110 ++ (strOfNums y111))) else (none))))
theorem spec_Decimal.mono_l : ∀ k, (∀ y0, LeO (spec_Decimal.f k y0) (spec_Decimal.f (k + 1) y0))
  | 0 => fun _ r h => by simp [spec_Decimal.f] at h
  | k + 1 => by
    have ih0 := spec_Decimal.mono_l k
    · intro y0
      unfold spec_Decimal.f
      repeat' first
      | (with_reducible exact ih0 _)
      | (with_reducible exact LeO.refl _)
      | (with_reducible exact LeO.none _)
      | (with_reducible refine LeO.ite ?_ ?_)
      | (with_reducible refine LeO.bind ?_ (fun _ => ?_))
      | exact ih0 _
      | exact LeO.none _
      | refine LeO.ite ?_ ?_
      | refine LeO.bind ?_ (fun _ => ?_)
theorem spec_Decimal.mono : ∀ a0 k, LeO (spec_Decimal.f k a0) (spec_Decimal.f (k + 1) a0) := by
  intro a0 k
  have ih0 := spec_Decimal.mono_l k
  exact ih0 a0
def spec_Decimal.T3 : Bool × List (List Nat × List Nat) := (true, [([], []), ([0], [0]), ([1], [1]), ([], []), ([3], [3]), ([4], [4]), ([5], [5]), ([6], [6]), ([7], [7]), ([2, 8], [2, 8]), ([9, 2, 0, 1, 2, 3, 4, 5, 6, 7, 8, 9], [9])])
def spec_Decimal.B3 : List Nat := [0, 1, 3, 0, 8, 24, 56, 120, 248, 511, 1023]
theorem spec_Decimal.tab3 : rtab .any (opsOf Tryd.f26 3) = spec_Decimal.T3 := by kernel_rfl
theorem spec_Decimal.bits3 : waitsOk spec_Decimal.T3.2 spec_Decimal.B3 = true := by kernel_rfl
set_option maxHeartbeats 8000000 in
set_option maxRecDepth 100000 in
theorem spec_Decimal.calls (k : Nat) : ∀ (a0 : Int) (r : ByteArray) (w : World) (h : spec_Decimal.f k a0 = some r),
    Calls Tryd.prog 26 #[.int .i64 a0] w fun e w' => e = .returned (.string r) ∧ Below w.heap.size w w' := by
  induction k using Nat.strongRecOn with
  | _ k ih =>
  intro a0 r w h
  cases k with
  | zero => exact absurd h (by simp [spec_Decimal.f])
  | succ k =>
  simp only [spec_Decimal.f] at h
  have HB := Aside0.mk (Below.refl w.heap.size w)
  have H : (if a0 < 10 then (some (strOfNums (([(wrap64 (48 + (Int.tmod a0 10))) % 256] : List Int)))) else ((spec_Decimal.f k (wrap64 (Int.tdiv a0 10))).bind fun t110 => ((some (([(wrap64 (48 + (Int.tmod a0 10))) % 256] : List Int) : List Int)).bind fun y111 => (if t110.size + (strOfNums y111).size ≤ 9223372036854775807 then (some (t110 ++ (strOfNums y111))) else (none))))) = some r := h
  clear h
  by_cases c2 : a0 < 10
  · rw [if_pos c2] at H
    have c2b0 : decide (a0 < 10) = true := decide_eq_true c2
    clear c2
    obtain ⟨y107, hy107⟩ : ∃ y_ : List Int, y_ = (([(wrap64 (48 + (Int.tmod a0 10))) % 256] : List Int)) := ⟨_, rfl⟩
    replace H : (some (strOfNums y107)) = some r := by first | (rw [hy107]; with_reducible exact H) | (have H2_ := (Option.bind_some _ _).symm.trans H; rw [hy107]; with_reducible exact H2_) | (have H2_ := (Option.bind_some _ _).symm.trans H; with_reducible exact H2_) | with_reducible exact H | (rw [hy107]; exact H) | exact H
    have Ny107 := Aside0.mk hy107
    clear hy107
    obtain rfl := Option.some.inj H
    go_enter Tryd.func26, Tryd.ntmps26
    go_wp2_with (first | ((with_reducible refine gate_dst (N := 9) rfl ?_); refine Kd.R_lit (Kd.int .u8) _ 5 ?hg (N := 9) ?hd (xs := ([(wrap64 (48 + (Int.tmod a0 10))) % 256] : List Int)) (inner := [.int .u8 ((wrap64 (48 + (Int.tmod a0 10))) % 256)]) (ok := fun _ => True) (okp := fun _ => True) ?hr ?hp (fun _ hk => hk) trivial (Below.refl _ _) (Nat.le_refl _) (by simp) ?_; (case hd => rfl); (case hg => rfl); (case hr => first | (go_simp; done) | (go_simp; rfl)); (case hp => exact (Reps.one (show Kd.M (Kd.int .u8) _ _ _ ((wrap64 (48 + (Int.tmod a0 10))) % 256) [.int .u8 ((wrap64 (48 + (Int.tmod a0 10))) % 256)] from rfl) (Reps.none _ _))); intro v108 w3 ho4 hb hg_ hnew_; clear hg_ hnew_; (first | rw [← Ny107.out] at ho4 | (simp only [Int.reduceToNat] at ho4; rw [← Ny107.out] at ho4)); have n0_ := Aside0.mk (Kd.R_lower ho4 (below_size (by repeat (first | (with_reducible first | exact HB.out | apply below_alloc | apply pw_below_drewN | apply below_drew1) | exact HB.out)))); have n1_ := Aside0.mk (below_step (by repeat (first | (with_reducible first | exact HB.out | apply below_alloc | apply pw_below_drewN | apply below_drew1) | exact HB.out)) hb); clear HB; have HO109 := n0_; have HB := n1_; clear n0_ n1_; clear hb ho4; have hcv5 := own_string (P := Tryd.prog) Tryd.underlying57 Tryd.underlying5 Tryd.underlying9 (Kd.own_of_R HO109.out)))
    go_ret
    exact ⟨by first | rfl | (simp [errW_none, errW_some] <;> rfl) | (simp [*, errW_none, errW_some] <;> rfl), by repeat (first | (with_reducible first | exact HB.out | apply below_alloc | apply pw_below_drewN | apply below_drew1) | exact HB.out)⟩
  · rw [if_neg c2] at H
    have c2b0 : decide (a0 < 10) = false := decide_eq_false c2
    clear c2
    replace H := Option.bind_eq_some_iff.mp H
    obtain ⟨t110, A60, H⟩ := H
    replace H : ((some (([(wrap64 (48 + (Int.tmod a0 10))) % 256] : List Int) : List Int)).bind fun y111 => (if t110.size + (strOfNums y111).size ≤ 9223372036854775807 then (some (t110 ++ (strOfNums y111))) else (none))) = some r := H
    have A6 := Aside0.mk A60
    clear A60
    obtain ⟨y111, hy111⟩ : ∃ y_ : List Int, y_ = (([(wrap64 (48 + (Int.tmod a0 10))) % 256] : List Int)) := ⟨_, rfl⟩
    replace H : (if t110.size + (strOfNums y111).size ≤ 9223372036854775807 then (some (t110 ++ (strOfNums y111))) else (none)) = some r := by first | (rw [hy111]; with_reducible exact H) | (have H2_ := (Option.bind_some _ _).symm.trans H; rw [hy111]; with_reducible exact H2_) | (have H2_ := (Option.bind_some _ _).symm.trans H; with_reducible exact H2_) | with_reducible exact H | (rw [hy111]; exact H) | exact H
    have Ny111 := Aside0.mk hy111
    clear hy111
    by_cases c7 : t110.size + (strOfNums y111).size ≤ 9223372036854775807
    · rw [if_pos c7] at H
      have c7b0 := eq_true c7
      have c7b1 : decide (t110.size + (strOfNums y111).size ≤ 9223372036854775807) = true := decide_eq_true c7
      try have c7b2 : (9223372036854775807 < t110.size + (strOfNums y111).size) = False := eq_false (Nat.not_lt.2 c7)
      obtain rfl := Option.some.inj H
      go_enter Tryd.func26, Tryd.ntmps26
      try go_wp2
      have n0_ := Aside0.mk (below_drew1 HB.out)
      clear HB
      have HB := n0_
      clear n0_
      refine start_ (n := 11) (S := fun w' => True) (ds := []) #[false, false, false, false, false, false, false, false, false, false, false] (by kernel_rfl) rfl rfl trivial (fun hHeld => ?_); refine with_tabW spec_Decimal.tab3 spec_Decimal.bits3 (fun HT_ HW_ => ?_)
      generalize w.drew = w8 at HB hHeld ⊢
      refine pure_ (i := 0) (N := some 11) (v := ?_) (a' := ?_) #[true, false, false, false, false, false, false, false, false, false, false] rfl rfl (any_of HT_.out (by kernel_rfl)) (fun _ _ _ h => h) (Or.inl ⟨by rfl, ?_⟩) ?_ ?_
      rotate_left
      · intro w'
        go_simp
        with_reducible rfl
      rotate_left
      · simp only [Act.put, List.setIfInBounds_toArray, List.set_cons_zero, List.set_cons_succ, i64_w, i32_w]
        rfl
      refine pure_ (i := 1) (N := some 12) (v := ?_) (a' := ?_) #[true, true, false, false, false, false, false, false, false, false, false] rfl rfl (any_of HT_.out (by kernel_rfl)) (fun _ _ _ h => h) (Or.inl ⟨by rfl, ?_⟩) ?_ ?_
      rotate_left
      · intro w'
        go_simp
        with_reducible rfl
      rotate_left
      · simp only [Act.put, List.setIfInBounds_toArray, List.set_cons_zero, List.set_cons_succ, i64_w, i32_w]
        rfl
      refine pure_ (i := 3) (N := some 14) (v := ?_) (a' := ?_) #[true, true, false, true, false, false, false, false, false, false, false] rfl rfl (any_of HT_.out (by kernel_rfl)) (fun _ _ _ h => h) (Or.inl ⟨by rfl, ?_⟩) ?_ ?_
      rotate_left
      · intro w'
        go_simp
        with_reducible rfl
      rotate_left
      · simp only [Act.put, List.setIfInBounds_toArray, List.set_cons_zero, List.set_cons_succ, i64_w, i32_w]
        rfl
      refine pure_ (i := 4) (N := some 15) (v := ?_) (a' := ?_) #[true, true, false, true, true, false, false, false, false, false, false] rfl rfl (any_of HT_.out (by kernel_rfl)) (fun _ _ _ h => h) (Or.inl ⟨by rfl, ?_⟩) ?_ ?_
      rotate_left
      · intro w'
        go_simp
        with_reducible rfl
      rotate_left
      · simp only [Act.put, List.setIfInBounds_toArray, List.set_cons_zero, List.set_cons_succ, i64_w, i32_w]
        rfl
      refine pure_ (i := 5) (N := some 16) (v := ?_) (a' := ?_) #[true, true, false, true, true, true, false, false, false, false, false] rfl rfl (any_of HT_.out (by kernel_rfl)) (fun _ _ _ h => h) (Or.inl ⟨by rfl, ?_⟩) ?_ ?_
      rotate_left
      · intro w'
        go_simp
        with_reducible rfl
      rotate_left
      · simp only [Act.put, List.setIfInBounds_toArray, List.set_cons_zero, List.set_cons_succ, i64_w, i32_w]
        rfl
      refine pure_ (i := 6) (N := some 17) (v := ?_) (a' := ?_) #[true, true, false, true, true, true, true, false, false, false, false] rfl rfl (any_of HT_.out (by kernel_rfl)) (fun _ _ _ h => h) (Or.inl ⟨by rfl, ?_⟩) ?_ ?_
      rotate_left
      · intro w'
        go_simp
        with_reducible rfl
      rotate_left
      · simp only [Act.put, List.setIfInBounds_toArray, List.set_cons_zero, List.set_cons_succ, i64_w, i32_w]
        rfl
      refine join_ (σ := Value) 2 #[true, true, true, true, true, true, true, true, true, false, false] (fun s_ => [(13, .string t110), (18, s_), (19, .string (strOfNums y111))]) (fun s_ w' => (Kd.R (Kd.int .u8) 5 w' w.heap.size (fun _ => True) s_ y111) ∧ (Below w.heap.size w w')) ?_ ?_
      rotate_left
      · intro hCont
        refine two_ (i := 2) (j := 7) (Ni := some 13) (Nj := some 18) #[true, true, true, true, true, true, true, false, false, false, false] #[true, true, false, true, true, true, true, true, false, false, false] rfl rfl rfl rfl (two_of HT_.out (by kernel_rfl)) (by decide) (by decide) (fun K hK => ?_) (fun K hK => ?_)
        · skip
          refine goes_ Tryd.func26 (by kernel_rfl) rfl #[.int .i64 (wrap64 (Int.tdiv a0 10))] (by rfl) rfl rfl (by (try simp only [List.map_toArray, List.map_cons, List.map_nil]); first | done | rfl | (simp only [List.length_drop, List.length_take]; rfl)) ?_
          with_reducible refine (ih k (by omega) (wrap64 (Int.tdiv a0 10)) t110 _ A6.out).mono ?_
          rintro e w9 ⟨rfl, hb⟩
          refine ⟨_, rfl, ?_⟩
          have n0_ := Aside0.mk (below_step (by repeat (first | (with_reducible first | exact HB.out | apply below_alloc | apply pw_below_drewN | apply below_drew1) | exact HB.out)) hb)
          clear HB
          have HB := n0_
          clear n0_
          (try clear hb)
          (try clear hb2)
          (try clear hk)
          (try clear hi)
          refine hK.out _ _ trivial (fun hHeld => ?_)
          clear hK K
          refine norm_ (a' := ?_) ?_ ?_
          rotate_left
          · show Act.put _ (some 13) _ = _
            simp only [Act.put, List.setIfInBounds_toArray, List.set_cons_zero, List.set_cons_succ, i64_w, i32_w]
            rfl
          refine one_ (i := 7) (N := some 18) #[true, true, true, true, true, true, true, true, false, false, false] rfl rfl (one_of HT_.out (by kernel_rfl)) (by decide) (fun K hK => ?_)
          refine Kd.R_lit_step (Kd.int .u8) _ 5 ?hg (N := 18) ?hd (xs := ([(wrap64 (48 + (Int.tmod a0 10))) % 256] : List Int)) (inner := [.int .u8 ((wrap64 (48 + (Int.tmod a0 10))) % 256)]) (ok := fun _ => True) (okp := fun _ => True) ?hr ?hp (fun _ hk => hk) trivial (Below.refl _ _) (Nat.le_refl _) (by simp) ?_; (case hd => rfl); (case hg => rfl); (case hr => first | (go_simp; done) | (go_simp; rfl)); (case hp => exact (Reps.one (show Kd.M (Kd.int .u8) _ _ _ ((wrap64 (48 + (Int.tmod a0 10))) % 256) [.int .u8 ((wrap64 (48 + (Int.tmod a0 10))) % 256)] from rfl) (Reps.none _ _)))
          intro v112 w10 ho11 hb hg_ hnew_
          clear hg_ hnew_
          (first | rw [← Ny111.out] at ho11 | (simp only [Int.reduceToNat] at ho11; rw [← Ny111.out] at ho11))
          have n0_ := Aside0.mk (Kd.R_lower ho11 (below_size (by repeat (first | (with_reducible first | exact HB.out | apply below_alloc | apply pw_below_drewN | apply below_drew1) | exact HB.out))))
          have n1_ := Aside0.mk (below_step (by repeat (first | (with_reducible first | exact HB.out | apply below_alloc | apply pw_below_drewN | apply below_drew1) | exact HB.out)) hb)
          clear HB
          have HO113 := n0_
          have HB := n1_
          clear n0_ n1_
          clear hb ho11
          refine hK.out _ _ trivial (fun hHeld => ?_)
          clear hK K
          refine norm_ (a' := ?_) ?_ ?_
          rotate_left
          · show Act.put _ (some 18) _ = _
            simp only [Act.put, List.setIfInBounds_toArray, List.set_cons_zero, List.set_cons_succ, i64_w, i32_w]
            rfl
          refine one_ (i := 8) (N := some 19) #[true, true, true, true, true, true, true, true, true, false, false] rfl rfl (one_of HT_.out (by kernel_rfl)) (by decide) (fun K hK => ?_)
          have hcv12 := own_string (P := Tryd.prog) Tryd.underlying57 Tryd.underlying5 Tryd.underlying9 (Kd.own_of_R HO113.out)
          refine value_ (w1 := ?_) (v := ?_) (by rfl) rfl ?_ ?_
          rotate_left 2
          · go_simp
            constructor
            · rfl
            · rfl
          clear hcv12
          refine hK.out _ _ trivial (fun hHeld => ?_)
          clear hK K
          refine norm_ (a' := ?_) ?_ ?_
          rotate_left
          · show Act.put _ (some 19) _ = _
            simp only [Act.put, List.setIfInBounds_toArray, List.set_cons_zero, List.set_cons_succ, i64_w, i32_w]
            rfl
          exact norm_ (by simp only [putAll, Act.put, List.setIfInBounds_toArray, List.set_cons_zero, List.set_cons_succ]) (hCont (v112) _ ⟨(by (with_reducible repeat (first | apply Kd.R_alloc | apply Kd.R_drewN | apply Kd.R_drew)); exact HO113.out), (by repeat (first | (with_reducible first | exact HB.out | apply below_alloc | apply pw_below_drewN | apply below_drew1) | exact HB.out))⟩)
        · skip
          refine Kd.R_lit_step (Kd.int .u8) _ 5 ?hg (N := 18) ?hd (xs := ([(wrap64 (48 + (Int.tmod a0 10))) % 256] : List Int)) (inner := [.int .u8 ((wrap64 (48 + (Int.tmod a0 10))) % 256)]) (ok := fun _ => True) (okp := fun _ => True) ?hr ?hp (fun _ hk => hk) trivial (Below.refl _ _) (Nat.le_refl _) (by simp) ?_; (case hd => rfl); (case hg => rfl); (case hr => first | (go_simp; done) | (go_simp; rfl)); (case hp => exact (Reps.one (show Kd.M (Kd.int .u8) _ _ _ ((wrap64 (48 + (Int.tmod a0 10))) % 256) [.int .u8 ((wrap64 (48 + (Int.tmod a0 10))) % 256)] from rfl) (Reps.none _ _)))
          intro v112 w9 ho10 hb hg_ hnew_
          clear hg_ hnew_
          (first | rw [← Ny111.out] at ho10 | (simp only [Int.reduceToNat] at ho10; rw [← Ny111.out] at ho10))
          have n0_ := Aside0.mk (Kd.R_lower ho10 (below_size (by repeat (first | (with_reducible first | exact HB.out | apply below_alloc | apply pw_below_drewN | apply below_drew1) | exact HB.out))))
          have n1_ := Aside0.mk (below_step (by repeat (first | (with_reducible first | exact HB.out | apply below_alloc | apply pw_below_drewN | apply below_drew1) | exact HB.out)) hb)
          clear HB
          have HO113 := n0_
          have HB := n1_
          clear n0_ n1_
          clear hb ho10
          refine hK.out _ _ trivial (fun hHeld => ?_)
          clear hK K
          refine norm_ (a' := ?_) ?_ ?_
          rotate_left
          · show Act.put _ (some 18) _ = _
            simp only [Act.put, List.setIfInBounds_toArray, List.set_cons_zero, List.set_cons_succ, i64_w, i32_w]
            rfl
          refine two_ (i := 2) (j := 8) (Ni := some 13) (Nj := some 19) #[true, true, true, true, true, true, true, true, false, false, false] #[true, true, false, true, true, true, true, true, true, false, false] rfl rfl rfl rfl (two_of HT_.out (by kernel_rfl)) (by decide) (by decide) (fun K hK => ?_) (fun K hK => ?_)
          · skip
            refine goes_ Tryd.func26 (by kernel_rfl) rfl #[.int .i64 (wrap64 (Int.tdiv a0 10))] (by rfl) rfl rfl (by (try simp only [List.map_toArray, List.map_cons, List.map_nil]); first | done | rfl | (simp only [List.length_drop, List.length_take]; rfl)) ?_
            with_reducible refine (ih k (by omega) (wrap64 (Int.tdiv a0 10)) t110 _ A6.out).mono ?_
            rintro e w11 ⟨rfl, hb⟩
            refine ⟨_, rfl, ?_⟩
            have n0_ := Aside0.mk (Kd.R_below (by (with_reducible repeat (first | apply Kd.R_alloc | apply Kd.R_drewN | apply Kd.R_drew)); exact HO113.out) hb)
            have n1_ := Aside0.mk (below_step (by repeat (first | (with_reducible first | exact HB.out | apply below_alloc | apply pw_below_drewN | apply below_drew1) | exact HB.out)) hb)
            clear HO113
            clear HB
            have HO113 := n0_
            have HB := n1_
            clear n0_ n1_
            (try clear hb)
            (try clear hb2)
            (try clear hk)
            (try clear hi)
            refine hK.out _ _ trivial (fun hHeld => ?_)
            clear hK K
            refine norm_ (a' := ?_) ?_ ?_
            rotate_left
            · show Act.put _ (some 13) _ = _
              simp only [Act.put, List.setIfInBounds_toArray, List.set_cons_zero, List.set_cons_succ, i64_w, i32_w]
              rfl
            refine one_ (i := 8) (N := some 19) #[true, true, true, true, true, true, true, true, true, false, false] rfl rfl (one_of HT_.out (by kernel_rfl)) (by decide) (fun K hK => ?_)
            have hcv12 := own_string (P := Tryd.prog) Tryd.underlying57 Tryd.underlying5 Tryd.underlying9 (Kd.own_of_R HO113.out)
            refine value_ (w1 := ?_) (v := ?_) (by rfl) rfl ?_ ?_
            rotate_left 2
            · go_simp
              constructor
              · rfl
              · rfl
            clear hcv12
            refine hK.out _ _ trivial (fun hHeld => ?_)
            clear hK K
            refine norm_ (a' := ?_) ?_ ?_
            rotate_left
            · show Act.put _ (some 19) _ = _
              simp only [Act.put, List.setIfInBounds_toArray, List.set_cons_zero, List.set_cons_succ, i64_w, i32_w]
              rfl
            exact norm_ (by simp only [putAll, Act.put, List.setIfInBounds_toArray, List.set_cons_zero, List.set_cons_succ]) (hCont (v112) _ ⟨(by (with_reducible repeat (first | apply Kd.R_alloc | apply Kd.R_drewN | apply Kd.R_drew)); exact HO113.out), (by repeat (first | (with_reducible first | exact HB.out | apply below_alloc | apply pw_below_drewN | apply below_drew1) | exact HB.out))⟩)
          · skip
            have hcv11 := own_string (P := Tryd.prog) Tryd.underlying57 Tryd.underlying5 Tryd.underlying9 (Kd.own_of_R HO113.out)
            refine value_ (w1 := ?_) (v := ?_) (by rfl) rfl ?_ ?_
            rotate_left 2
            · go_simp
              constructor
              · rfl
              · rfl
            clear hcv11
            refine hK.out _ _ trivial (fun hHeld => ?_)
            clear hK K
            refine norm_ (a' := ?_) ?_ ?_
            rotate_left
            · show Act.put _ (some 19) _ = _
              simp only [Act.put, List.setIfInBounds_toArray, List.set_cons_zero, List.set_cons_succ, i64_w, i32_w]
              rfl
            refine one_ (i := 2) (N := some 13) #[true, true, true, true, true, true, true, true, true, false, false] rfl rfl (one_of HT_.out (by kernel_rfl)) (by decide) (fun K hK => ?_)
            refine goes_ Tryd.func26 (by kernel_rfl) rfl #[.int .i64 (wrap64 (Int.tdiv a0 10))] (by rfl) rfl rfl (by (try simp only [List.map_toArray, List.map_cons, List.map_nil]); first | done | rfl | (simp only [List.length_drop, List.length_take]; rfl)) ?_
            with_reducible refine (ih k (by omega) (wrap64 (Int.tdiv a0 10)) t110 _ A6.out).mono ?_
            rintro e w12 ⟨rfl, hb⟩
            refine ⟨_, rfl, ?_⟩
            have n0_ := Aside0.mk (Kd.R_below (by (with_reducible repeat (first | apply Kd.R_alloc | apply Kd.R_drewN | apply Kd.R_drew)); exact HO113.out) hb)
            have n1_ := Aside0.mk (below_step (by repeat (first | (with_reducible first | exact HB.out | apply below_alloc | apply pw_below_drewN | apply below_drew1) | exact HB.out)) hb)
            clear HO113
            clear HB
            have HO113 := n0_
            have HB := n1_
            clear n0_ n1_
            (try clear hb)
            (try clear hb2)
            (try clear hk)
            (try clear hi)
            refine hK.out _ _ trivial (fun hHeld => ?_)
            clear hK K
            refine norm_ (a' := ?_) ?_ ?_
            rotate_left
            · show Act.put _ (some 13) _ = _
              simp only [Act.put, List.setIfInBounds_toArray, List.set_cons_zero, List.set_cons_succ, i64_w, i32_w]
              rfl
            exact norm_ (by simp only [putAll, Act.put, List.setIfInBounds_toArray, List.set_cons_zero, List.set_cons_succ]) (hCont (v112) _ ⟨(by (with_reducible repeat (first | apply Kd.R_alloc | apply Kd.R_drewN | apply Kd.R_drew)); exact HO113.out), (by repeat (first | (with_reducible first | exact HB.out | apply below_alloc | apply pw_below_drewN | apply below_drew1) | exact HB.out))⟩)
      rintro v112 w13 ⟨h0_, h1_⟩
      have n0_ : Aside0 (Kd.R (Kd.int .u8) 5 w13 w.heap.size (fun _ => True) v112 y111) := ⟨h0_⟩
      have n1_ : Aside0 (Below w.heap.size w w13) := ⟨h1_⟩
      clear HB
      clear h0_ h1_
      have HO113 := n0_
      have HB := n1_
      clear n0_ n1_
      have hHeld := trivial
      refine norm_ (a' := ?_) ?_ ?_
      rotate_left
      · simp only [putAll, Act.put, List.setIfInBounds_toArray, List.set_cons_zero, List.set_cons_succ]
        rfl
      refine pure_ (i := 9) (N := some 20) (v := ?_) (a' := ?_) #[true, true, true, true, true, true, true, true, true, true, false] rfl rfl (any_of HT_.out (by kernel_rfl)) (fun _ _ _ h => h) (Or.inl ⟨by rfl, ?_⟩) ?_ ?_
      rotate_left
      · intro w'
        go_simp
        with_reducible rfl
      rotate_left
      · simp only [Act.put, List.setIfInBounds_toArray, List.set_cons_zero, List.set_cons_succ, i64_w, i32_w]
        rfl
      refine pure_ (i := 10) (N := some 2) (v := ?_) (a' := ?_) #[true, true, true, true, true, true, true, true, true, true, true] rfl rfl (any_of HT_.out (by kernel_rfl)) (fun _ _ _ h => h) (Or.inl ⟨by rfl, ?_⟩) ?_ ?_
      rotate_left
      · intro w'
        go_simp
        with_reducible rfl
      rotate_left
      · simp only [Act.put, List.setIfInBounds_toArray, List.set_cons_zero, List.set_cons_succ, i64_w, i32_w]
        rfl
      refine done_ (done_of HT_.out (by kernel_rfl)) ?_
      try go_wp2
      go_ret
      exact ⟨by first | rfl | (simp [errW_none, errW_some] <;> rfl) | (simp [*, errW_none, errW_some] <;> rfl), by repeat (first | (with_reducible first | exact HB.out | apply below_alloc | apply pw_below_drewN | apply below_drew1) | exact HB.out)⟩
    · rw [if_neg c7] at H
      exact absurd H (by simp)

end Go.Proofs.YtipdmnibjkdpcaaDoor.P

namespace Go.Proofs.YtipdmnibjkdpcaaDoor.Pure
open Go.RowKit Go.Proofs.YtipdmnibjkdpcaaDoor.P Go.Proofs.YtipdmnibjkdpcaaDoorW.PrintWords Go.Proofs.YtipdmnibjkdpcaaDoorW.PrintLast
set_option linter.unusedVariables false
set_option linter.unusedSimpArgs false

/-- A list of bytes as a string. -/
def bsT (l : List UInt8) : ByteArray := ⟨l.toArray⟩
theorem bs_size (l : List UInt8) : (bsT l).size = l.length := by simp [bsT, ByteArray.size]
theorem bs_app (a b : List UInt8) : bsT a ++ bsT b = bsT (a ++ b) := by
  apply ByteArray.ext
  simp [bsT, ByteArray.data_append]
theorem bs_list (a : List UInt8) : (bsT a).data.toList = a := by simp [bsT]
theorem bs_x : (⟨#[120]⟩ : ByteArray) = bsT [120] := rfl
theorem bs_sp : (⟨#[32]⟩ : ByteArray) = bsT [32] := rfl
theorem bs_nil : (⟨#[]⟩ : ByteArray) = bsT [] := rfl
theorem dec_len : ∀ n : Nat, (Lib.decDigits n).length ≤ n + 1 := by
  intro n
  induction n using Nat.strongRecOn with
  | _ n ih =>
    by_cases h : n < 10
    · rw [Lib.decDigits_one h]; simp
    · have := ih (n / 10) (by omega)
      rw [Lib.decDigits, dif_neg h, List.length_append, List.length_singleton]
      omega
theorem one_dig (i : Nat) (h : i < 10) : strOfNums [(wrap64 (48 + (Int.tmod (i : Int) 10))) % 256] = bsT [UInt8.ofNat (48 + i)] := by
  have : (Int.tmod (i : Int) 10) = (i : Int) := by rw [Int.tmod_eq_emod_of_nonneg (by omega)]; omega
  rw [this, w64 (by omega) (by omega), strOfNums, bsT]
  simp only [List.map_cons, List.map_nil]
  congr 4
  omega
theorem decS : ∀ n : Nat, n < 4611686018427387904 → Ev (fun k => spec_Decimal.f k (n : Int)) (bsT (Lib.decDigits n)) := by
  intro n
  induction n using Nat.strongRecOn with
  | _ n ih =>
    intro hn
    by_cases h : n < 10
    · exact Ev.step (f := fun _ => some (bsT (Lib.decDigits n))) (fun k => by
        rw [spec_Decimal.f, if_pos (by omega), one_dig n h, Lib.decDigits_one h]) (Ev.now _)
    · obtain ⟨K, hK⟩ := EvG (ih (n / 10) (by omega) (by omega))
      refine EvI (K + 1) fun k hk => ?_
      obtain ⟨m, rfl⟩ : ∃ m, k = m + 1 := ⟨k - 1, by omega⟩
      have e1 : wrap64 (Int.tdiv (n : Int) 10) = ((n / 10 : Nat) : Int) := by
        rw [Int.tdiv_eq_ediv_of_nonneg (by omega), w64 (by omega) (by omega)]; omega
      have e2 : strOfNums [(wrap64 (48 + (Int.tmod (n : Int) 10))) % 256] = bsT [UInt8.ofNat (48 + n % 10)] := by
        have := one_dig (n % 10) (by omega)
        rw [← this]
        congr 5
        rw [Int.tmod_eq_emod_of_nonneg (by omega), Int.tmod_eq_emod_of_nonneg (by omega)]; omega
      have hd := dec_len (n / 10)
      rw [spec_Decimal.f, if_neg (by omega), e1, hK m (by omega), Option.bind_some, Option.bind_some, e2, if_pos (by rw [bs_size, bs_size, List.length_singleton]; omega), bs_app]
      rw [show Lib.decDigits n = Lib.decDigits (n / 10) ++ [UInt8.ofNat (48 + n % 10)] by rw [Lib.decDigits, dif_neg h]]
theorem decI (n : Nat) (h : n < 4611686018427387904) : impl_decimal.f (n : Int) = some (bsT (Lib.decDigits n)) := by
  rw [impl_decimal.f, if_pos (by omega), if_pos (by omega), Lib.itoa_nonneg]; rfl
/-- A numeral of at most three signs. -/
theorem dd3 {n : Nat} (h : n < 1000) : (Lib.decDigits n).length ≤ 3 := by
  by_cases h1 : n < 10
  · rw [Lib.decDigits_one h1]; simp
  · rw [Lib.decDigits, dif_neg h1, List.length_append, List.length_singleton]
    by_cases h2 : n / 10 < 10
    · rw [Lib.decDigits_one h2]; simp
    · rw [Lib.decDigits_two h2 (by omega)]; simp
theorem join_snoc (sep y : List UInt8) : ∀ xs : List (List UInt8), xs ≠ [] → Lib.join (xs ++ [y]) sep = (Lib.join xs sep ++ sep) ++ y
  | [], h => absurd rfl h
  | x :: r, _ => by
    rw [List.cons_append, Lib.join_cons, Lib.join_cons, Lib.joinTail, Lib.joinTail, List.map_append, List.flatten_append]
    simp

end Go.Proofs.YtipdmnibjkdpcaaDoor.Pure

namespace Go.Proofs.YtipdmnibjkdpcaaDoor.Pure
def isDig (c : UInt8) : Prop := 48 ≤ c.toNat ∧ c.toNat ≤ 57
/-- The value of digits behind those that spell acc. -/
def valD (acc : Nat) (l : List UInt8) : Nat := l.foldl (fun a c => a * 10 + (c.toNat - 48)) acc
theorem valD_cons (acc : Nat) (l : List UInt8) (c : UInt8) : valD acc (c :: l) = valD (acc * 10 + (c.toNat - 48)) l := by unfold valD; rw [List.foldl_cons]
theorem valD_nil (acc : Nat) : valD acc [] = acc := by unfold valD; rw [List.foldl_nil]
theorem valD_snoc (c : UInt8) (l : List UInt8) (acc : Nat) : valD acc (l ++ [c]) = valD acc l * 10 + (c.toNat - 48) := by
  unfold valD; rw [List.foldl_append, List.foldl_cons, List.foldl_nil]
theorem valD_ge : ∀ (l : List UInt8) (acc : Nat), acc ≤ valD acc l
  | [], acc => by rw [valD_nil]; exact Nat.le_refl _
  | c :: r, acc => by rw [valD_cons]; exact Nat.le_trans (by omega) (valD_ge r (acc * 10 + (c.toNat - 48)))
theorem dig_byte (c : UInt8) (h : isDig c) : UInt8.ofNat (48 + (c.toNat - 48)) = c := by
  obtain ⟨h0, h1⟩ := h
  rw [show 48 + (c.toNat - 48) = c.toNat by omega, UInt8.ofNat_toNat]
theorem byte_dig {n : Nat} (h : n < 10) : (UInt8.ofNat (48 + n)).toNat = 48 + n := by
  rw [UInt8.toNat_ofNat']; omega
/-- Digits that no zero leads, or one alone. -/
def plainD (l : List UInt8) : Prop := l ≠ [] ∧ (∀ c ∈ l, isDig c) ∧ (1 < l.length → l.head? ≠ some 48)
theorem val_pos {l : List UInt8} (h : l ≠ []) (hd : ∀ c ∈ l, isDig c) (h0 : l.head? ≠ some 48) : 1 ≤ valD 0 l := by
  cases l with
  | nil => exact absurd rfl h
  | cons c r =>
    have hc := hd c List.mem_cons_self
    have hne : c.toNat ≠ 48 := fun e => h0 (by rw [List.head?_cons]; congr 1; exact UInt8.toNat_inj.1 (by rw [e]; rfl))
    rw [valD_cons]
    exact Nat.le_trans (by obtain ⟨a, b⟩ := hc; omega) (valD_ge r _)
theorem dec_val : ∀ (n : Nat) (l : List UInt8), l.length = n → plainD l → Lib.decDigits (valD 0 l) = l := by
  intro n
  induction n with
  | zero => intro l hl h; exact absurd (List.eq_nil_of_length_eq_zero hl) h.1
  | succ n ih =>
    intro l hl ⟨hne, hd, h0⟩
    obtain ⟨r, c, rfl⟩ : ∃ r c, l = r ++ [c] := ⟨l.dropLast, l.getLast hne, (List.dropLast_concat_getLast hne).symm⟩
    have hc := hd c (by simp)
    rw [valD_snoc]
    by_cases hr : r = []
    · subst hr
      rw [valD_nil, Nat.zero_mul, Nat.zero_add, Lib.decDigits_one (by obtain ⟨a, b⟩ := hc; omega), dig_byte c hc, List.nil_append]
    · have hlr : 0 < r.length := List.length_pos_iff.2 hr
      have hh : r.head? ≠ some 48 := by
        have := h0 (by rw [List.length_append, List.length_singleton]; omega)
        cases r with
        | nil => exact absurd rfl hr
        | cons x xs => exact this
      have hdr : ∀ x ∈ r, isDig x := fun x hx => hd x (List.mem_append_left _ hx)
      have hp := val_pos hr hdr hh
      have hcc : c.toNat - 48 < 10 := by obtain ⟨a, b⟩ := hc; omega
      rw [Lib.decDigits, dif_neg (by omega), show (valD 0 r * 10 + (c.toNat - 48)) / 10 = valD 0 r by omega, show (valD 0 r * 10 + (c.toNat - 48)) % 10 = c.toNat - 48 by omega,
        ih r (by rw [List.length_append, List.length_singleton] at hl; omega) ⟨hr, hdr, fun _ => hh⟩, dig_byte c hc]
theorem dec_ne (n : Nat) : Lib.decDigits n ≠ [] := by
  rw [Lib.decDigits]; split
  · exact List.cons_ne_nil _ _
  · exact fun h => by simp at h
theorem dec_dig (n : Nat) : ∀ c ∈ Lib.decDigits n, isDig c := by
  induction n using Nat.strongRecOn with
  | _ n ih =>
    by_cases h : n < 10
    · rw [Lib.decDigits_one h]; intro c hc
      obtain rfl := List.mem_singleton.1 hc
      unfold isDig; rw [byte_dig h]; omega
    · rw [Lib.decDigits, dif_neg h]; intro c hc
      rcases List.mem_append.1 hc with hc | hc
      · exact ih (n / 10) (by omega) c hc
      · obtain rfl := List.mem_singleton.1 hc
        unfold isDig; rw [byte_dig (by omega)]; omega
theorem dec_head (n : Nat) : 1 ≤ n → (Lib.decDigits n).head? ≠ some 48 := by
  induction n using Nat.strongRecOn with
  | _ n ih =>
    intro h1
    by_cases h : n < 10
    · rw [Lib.decDigits_one h, List.head?_cons]; intro e
      have e := congrArg UInt8.toNat (Option.some.inj e)
      rw [byte_dig h] at e
      have : (48 : UInt8).toNat = 48 := rfl
      omega
    · rw [Lib.decDigits, dif_neg h]
      have hi := ih (n / 10) (by omega) (by omega)
      have hn := dec_ne (n / 10)
      cases hq : Lib.decDigits (n / 10) with
      | nil => exact absurd hq hn
      | cons x xs => rw [hq] at hi; exact hi
theorem val_dec (n : Nat) : valD 0 (Lib.decDigits n) = n := by
  induction n using Nat.strongRecOn with
  | _ n ih =>
    by_cases h : n < 10
    · rw [Lib.decDigits_one h, valD_cons, valD_nil, byte_dig h]; omega
    · rw [Lib.decDigits, dif_neg h, valD_snoc, ih (n / 10) (by omega), byte_dig (by omega)]; omega
theorem plain_dec (n : Nat) : plainD (Lib.decDigits n) := by
  refine ⟨dec_ne n, dec_dig n, fun hl => ?_⟩
  by_cases h : n < 10
  · rw [Lib.decDigits_one h] at hl; exact absurd hl (by simp)
  · exact dec_head n (by omega)
theorem val_pow : ∀ (l : List UInt8) (acc : Nat), acc * 10 ^ l.length ≤ valD acc l
  | [], acc => by rw [valD_nil]; simp
  | c :: r, acc => by
    rw [valD_cons, List.length_cons]
    refine Nat.le_trans ?_ (val_pow r (acc * 10 + (c.toNat - 48)))
    rw [Nat.pow_succ', ← Nat.mul_assoc]
    exact Nat.mul_le_mul_right _ (by omega)
/-- A numeral below 1000000000 has at most nine digits. -/
theorem plain_len {l : List UInt8} (h : plainD l) (hv : valD 0 l < 1000000000) : l.length ≤ 9 := by
  obtain ⟨hne, hd, h0⟩ := h
  rcases Nat.lt_or_ge 9 l.length with hl | hl
  · exfalso
    cases l with
    | nil => exact hne rfl
    | cons c r =>
      have hc := hd c List.mem_cons_self
      have hz := h0 (by omega)
      have hn : c.toNat ≠ 48 := fun e => hz (by rw [List.head?_cons]; congr 1; exact UInt8.toNat_inj.1 (by rw [e]; rfl))
      rw [valD_cons] at hv
      have hp := val_pow r (0 * 10 + (c.toNat - 48))
      rw [List.length_cons] at hl
      have h9 : 10 ^ 9 ≤ 10 ^ r.length := Nat.pow_le_pow_right (by decide) (by omega)
      have h1 : 1 ≤ 0 * 10 + (c.toNat - 48) := by obtain ⟨a, b⟩ := hc; omega
      have h2 := Nat.mul_le_mul h1 h9
      omega
  · exact hl
/-- What is read of digits. -/
theorem parse_dig : ∀ (l : List UInt8) (acc : Nat), (∀ c ∈ l, isDig c) → valD acc l < 1000000000000000000 → Lib.parseUintM 18446744073709551615 acc l = .ok (valD acc l)
  | [], acc, _, _ => by rw [valD_nil]; rfl
  | c :: r, acc, hd, hv => by
    have hc := hd c List.mem_cons_self
    rw [valD_cons] at hv ⊢
    have hg := valD_ge r (acc * 10 + (c.toNat - 48))
    rw [Lib.parseUintM, if_pos (show 48 ≤ c.toNat ∧ c.toNat ≤ 57 from hc), if_neg (by omega), if_neg (by omega)]
    exact parse_dig r _ (fun x hx => hd x (List.mem_cons_of_mem _ hx)) hv
theorem parse_plain {l : List UInt8} (h : plainD l) (hv : valD 0 l < 1000000000000000000) : Lib.parseIntB 64 l = .ok (valD 0 l : Int) := by
  obtain ⟨hne, hd, h0⟩ := h
  cases l with
  | nil => exact absurd rfl hne
  | cons c r =>
    have hc := hd c List.mem_cons_self
    rw [Lib.parseIntB_plain 64 c r (by obtain ⟨a, b⟩ := hc; omega) (by obtain ⟨a, b⟩ := hc; omega), Lib.parseUintB, if_neg (by simp), show 2 ^ 64 - 1 = 18446744073709551615 by decide,
      parse_dig _ 0 hd hv]
    show (if 2 ^ (64 - 1) ≤ valD 0 (c :: r) then _ else _) = _
    rw [if_neg (by omega)]
/-- The numeral of a number from 0 on. -/
theorem itoa_nat (n : Nat) : Lib.itoa (n : Int) = Lib.decDigits n := by
  unfold Lib.itoa; rw [if_neg (by omega), Int.toNat_natCast]
/-- A text whose numeral gives the text back, from 0 to a bound. -/
theorem parse_back {l : List UInt8} {v : Int} (h0 : 0 ≤ v) (hi : Lib.itoa v = l) : plainD l ∧ v = (valD 0 l : Nat) := by
  obtain ⟨n, rfl⟩ : ∃ n : Nat, v = n := ⟨v.toNat, by omega⟩
  rw [itoa_nat] at hi; subst hi
  exact ⟨plain_dec n, by rw [val_dec]⟩
end Go.Proofs.YtipdmnibjkdpcaaDoor.Pure

namespace Go.Proofs.YtipdmnibjkdpcaaDoor.Pure

/-- The parts of a text between the places where a sign stands. -/
def spl (c : UInt8) : List UInt8 → List (List UInt8)
  | [] => [[]]
  | b :: r => if b = c then [] :: spl c r else (b :: (spl c r).headD []) :: (spl c r).tail
theorem spl_ne (c : UInt8) : ∀ s, spl c s ≠ []
  | [] => by simp [spl]
  | b :: r => by
    unfold spl; split
    · exact List.cons_ne_nil _ _
    · exact List.cons_ne_nil _ _
theorem spl_form (c : UInt8) (s : List UInt8) : ∃ p ps, spl c s = p :: ps := by
  cases h : spl c s with
  | nil => exact absurd h (spl_ne c s)
  | cons p ps => exact ⟨p, ps, rfl⟩
theorem spl_free (c : UInt8) : ∀ (p : List UInt8), c ∉ p → spl c p = [p]
  | [], _ => rfl
  | b :: r, h => by
    rw [spl, if_neg (fun e => h (by rw [e]; exact List.mem_cons_self)), spl_free c r (fun m => h (List.mem_cons_of_mem _ m))]
    rfl
theorem spl_hit (c : UInt8) (s : List UInt8) : ∀ (p : List UInt8), c ∉ p → spl c (p ++ c :: s) = p :: spl c s
  | [], _ => by rw [List.nil_append, spl, if_pos rfl]
  | b :: r, h => by
    rw [List.cons_append, spl, if_neg (fun e => h (by rw [e]; exact List.mem_cons_self)), spl_hit c s r (fun m => h (List.mem_cons_of_mem _ m))]
    rfl
/-- A part is no longer than the whole. -/
theorem spl_len (c : UInt8) : ∀ (s : List UInt8), ∀ p ∈ spl c s, p.length ≤ s.length
  | [], p, h => by
    rw [spl, List.mem_singleton] at h; subst h; exact Nat.le_refl _
  | b :: r, p, h => by
    obtain ⟨q, qs, hq⟩ := spl_form c r
    have ih := spl_len c r
    rw [hq] at ih
    rw [List.length_cons]
    rw [spl] at h
    split at h
    · rcases List.mem_cons.1 h with rfl | h
      · exact Nat.zero_le _
      · rw [hq] at h; exact Nat.le_succ_of_le (ih p h)
    · rw [hq] at h
      rcases List.mem_cons.1 h with rfl | h
      · rw [List.length_cons]; exact Nat.succ_le_succ (ih q List.mem_cons_self)
      · exact Nat.le_succ_of_le (ih p (List.mem_cons_of_mem _ h))
/-- There are at most as many parts as bytes, and one. -/
theorem spl_many (c : UInt8) : ∀ (s : List UInt8), (spl c s).length ≤ s.length + 1
  | [] => by simp [spl]
  | b :: r => by
    have ih := spl_many c r
    obtain ⟨q, qs, hq⟩ := spl_form c r
    rw [spl]
    rw [hq] at ih ⊢
    simp only [List.length_cons] at ih
    split
    · simp only [List.length_cons]; omega
    · simp only [List.length_cons, List.tail_cons]; omega
theorem index_cons (b c : UInt8) (l : List UInt8) (h : b ≠ c) : Lib.index (b :: l) [c] = if Lib.index l [c] == -1 then -1 else Lib.index l [c] + 1 := by
  rw [Lib.index, if_neg]
  simp [List.isPrefixOf, Ne.symm h]
theorem index_here (c : UInt8) (l : List UInt8) : Lib.index (c :: l) [c] = 0 := by
  rw [Lib.index, if_pos]
  simp [List.isPrefixOf]
/-- The library's parts. -/
theorem splitK_eq (c : UInt8) : ∀ s : List UInt8, Lib.splitK [c] 0 (Lib.count s [c]) s = spl c s
  | [] => by
    cases Lib.count [] [c] with
    | zero => rfl
    | succ k => rfl
  | b :: l => by
    have ih := splitK_eq c l
    by_cases h : b = c
    · subst h
      rw [Lib.count_cons_eq, Nat.add_comm, Lib.splitK, index_here, if_neg (by decide), spl, if_pos rfl]
      show _ :: Lib.splitK [b] 0 (Lib.count l [b]) l = _
      rw [ih]
      rfl
    · rw [Lib.count_cons_ne b c l h, spl, if_neg h]
      rw [← ih]
      cases Lib.count l [c] with
      | zero => rfl
      | succ k =>
        rw [Lib.splitK, Lib.splitK, index_cons b c l h]
        have hge := Lib.index_ge l [c]
        by_cases hm : Lib.index l [c] = -1
        · rw [hm]; rfl
        · obtain ⟨j, hj⟩ : ∃ j : Nat, Lib.index l [c] = j := ⟨(Lib.index l [c]).toNat, by omega⟩
          have e1 : (Lib.index l [c] == -1) = false := beq_eq_false_iff_ne.2 hm
          rw [e1, hj]
          have e2 : (((j : Int) + 1) == -1) = false := beq_eq_false_iff_ne.2 (by omega)
          simp only [if_neg Bool.false_ne_true, e2, show ((j : Int) + 1).toNat = j + 1 by omega, Int.toNat_natCast]
          rfl
end Go.Proofs.YtipdmnibjkdpcaaDoor.Pure

namespace Go.Proofs.YtipdmnibjkdpcaaDoor.Pure
open Go.RowKit Go.Proofs.YtipdmnibjkdpcaaDoor.P Go.Proofs.YtipdmnibjkdpcaaDoorW.PrintWords Go.Proofs.YtipdmnibjkdpcaaDoorW.PrintLast
set_option linter.unusedVariables false
set_option linter.unusedSimpArgs false

theorem bs_nil_iff (l : List UInt8) : (bsT l).toList = ([] : List UInt8) ↔ l = [] := by
  rw [Lib.toList_data, bs_list]
theorem bt_bs (l : List UInt8) (i : Nat) (h : i < l.length) : bt (bsT l) (i : Int) = ((l.getD i 0).toNat : Int) := by
  have hs : (i : Int).toNat < (bsT l).size := by rw [bs_size, Int.toNat_natCast]; exact h
  unfold bt
  rw [dif_pos hs]
  have : (bsT l)[(i : Int).toNat]'hs = l.getD i 0 := by
    rw [List.getD_eq_getElem?_getD, List.getElem?_eq_getElem h]
    show l.toArray[(i : Int).toNat]'_ = l[i]
    simp only [Int.toNat_natCast, List.getElem_toArray]
    rfl
  rw [this]
theorem drop_at (l : List UInt8) (i : Nat) (h : i < l.length) : l.drop i = l.getD i 0 :: l.drop (i + 1) := by
  rw [List.getD_eq_getElem?_getD, List.getElem?_eq_getElem h]
  exact List.drop_eq_getElem_cons h
theorem getD_bs (l : List (List UInt8)) (i : Nat) (h : i < l.length) : rdOf ByteArray.empty (l.map bsT) (i : Int) = bsT (l.getD i []) := by
  unfold rdOf
  rw [Int.toNat_natCast, List.getD_eq_getElem?_getD, List.getElem?_map, List.getD_eq_getElem?_getD, List.getElem?_eq_getElem h]; rfl
theorem getD_mem' (l : List (List UInt8)) (i : Nat) (h : i < l.length) : l.getD i [] ∈ l := by
  rw [List.getD_eq_getElem?_getD, List.getElem?_eq_getElem h]; exact List.getElem_mem h

/-! ### the reference's number -/
theorem numS_l0 (l : List UInt8) (hl : l.length ≤ 9) : ∀ d i (acc : Nat), l.length - i = d → i ≤ l.length → acc < 10 ^ i →
    ((∀ c ∈ l.drop i, isDig c) → Ev (fun k => spec_l01Number.l0 k (bsT l) (acc : Int) (i : Int)) ((valD acc (l.drop i) : Nat), true)) ∧
    (¬ (∀ c ∈ l.drop i, isDig c) → Ev (fun k => spec_l01Number.l0 k (bsT l) (acc : Int) (i : Int)) (0, false)) := by
  intro d
  induction d with
  | zero =>
    intro i acc hd hi ha
    obtain rfl : i = l.length := by omega
    have e : l.drop l.length = [] := List.drop_length
    rw [e, valD_nil]
    refine ⟨fun _ => Ev.step (f := fun _ => some ((acc : Int), true)) (fun k => ?_) (Ev.now _), fun h => absurd (fun c hc => by cases hc) h⟩
    rw [spec_l01Number.l0, bs_size, if_neg (by omega)]
  | succ d ih =>
    intro i acc hd hi ha
    have hlt : i < l.length := by omega
    rw [drop_at l i hlt, valD_cons]
    have hb := bt_bs l i hlt
    generalize l.getD i 0 = c at hb
    by_cases hc : isDig c
    · obtain ⟨h0, h1⟩ := hc
      have hp : 10 ^ (i + 1) ≤ 10 ^ 9 := Nat.pow_le_pow_right (by decide) (by omega)
      have hs : 10 ^ (i + 1) = 10 ^ i * 10 := Nat.pow_succ 10 i
      have hx : acc * 10 + (c.toNat - 48) < 10 ^ (i + 1) := by omega
      obtain ⟨ih1, ih2⟩ := ih (i + 1) (acc * 10 + (c.toNat - 48)) (by omega) (by omega) hx
      have est : ∀ k, spec_l01Number.l0 (k + 1) (bsT l) (acc : Int) (i : Int) = spec_l01Number.l0 k (bsT l) ((acc * 10 + (c.toNat - 48) : Nat) : Int) ((i + 1 : Nat) : Int) := fun k => by
        rw [spec_l01Number.l0, bs_size, if_pos (by omega), if_pos (by omega), hb, if_neg (by omega), if_neg (by omega), wN i (by omega), w64 (x := 10 * (acc : Int)) (by omega) (by omega), w64 (by omega) (by omega)]
        congr 1; omega
      exact ⟨fun h => Ev.step est (ih1 fun x hx => h x (List.mem_cons_of_mem _ hx)), fun h => Ev.step est (ih2 fun h' => h fun x hx => by
        rcases List.mem_cons.1 hx with rfl | hx
        · exact ⟨h0, h1⟩
        · exact h' x hx)⟩
    · refine ⟨fun h => absurd (h c List.mem_cons_self) hc, fun _ => Ev.step (f := fun _ => some ((0 : Int), false)) (fun k => ?_) (Ev.now _)⟩
      have hc' : ¬ (48 ≤ c.toNat ∧ c.toNat ≤ 57) := hc
      rw [spec_l01Number.l0, bs_size, if_pos (by omega), if_pos (by omega), hb]
      by_cases h0 : (c.toNat : Int) < 48
      · rw [if_pos h0]
      · rw [if_neg h0, if_pos (by omega)]
theorem numS_j (l : List UInt8) (b : Bool) : (b = true → Ev (fun k => spec_l01Number.j0 k (bsT l) b) (0, false)) ∧ (b = false → ∀ r, Ev (fun k => spec_l01Number.l0 k (bsT l) 0 0) r → Ev (fun k => spec_l01Number.j0 k (bsT l) b) r) := by
  refine ⟨fun h => ?_, fun h r hr => ?_⟩
  · subst h
    exact Ev.step (f := fun _ => some ((0 : Int), false)) (fun k => by rw [spec_l01Number.j0, if_pos rfl]) (Ev.now _)
  · subst h
    exact Ev.step (fun k => by rw [spec_l01Number.j0, if_neg (by decide)]) hr
/-- The reference takes numerals of at most nine digits. -/
theorem numS (l : List UInt8) (hb : l.length ≤ 1048576) : (plainD l ∧ l.length ≤ 9 → Ev (fun k => spec_l01Number.f k (bsT l)) ((valD 0 l : Nat), true)) ∧ (¬ (plainD l ∧ l.length ≤ 9) → Ev (fun k => spec_l01Number.f k (bsT l)) (0, false)) := by
  by_cases h0 : l = []
  · refine ⟨fun h => absurd h0 h.1.1, fun _ => Ev.congr (fun k => ?_) ((numS_j l true).1 rfl)⟩
    rw [spec_l01Number.f, if_pos ((bs_nil_iff l).2 h0)]
  have e1 : ∀ k, spec_l01Number.f k (bsT l) = if (l.length : Int) > 9 then (spec_l01Number.j0 k (bsT l) true) else (if 0 < (l.length : Int) then (if (bt (bsT l) 0) = 48 then (spec_l01Number.j0 k (bsT l) (decide ((l.length : Int) > 1))) else (spec_l01Number.j0 k (bsT l) false)) else none) := fun k => by
    rw [spec_l01Number.f, if_neg (fun h => h0 ((bs_nil_iff l).1 h)), bs_size]
  by_cases h9 : l.length ≤ 9
  · have hp : 0 < l.length := List.length_pos_iff.2 h0
    have e2 : bt (bsT l) 0 = ((l.getD 0 0).toNat : Int) := bt_bs l 0 hp
    have hh : l.head? = some (l.getD 0 0) := by cases l with
      | nil => exact absurd rfl h0
      | cons c r => rfl
    have e3 : ∀ k, spec_l01Number.f k (bsT l) = spec_l01Number.j0 k (bsT l) (decide (l.head? = some 48 ∧ 1 < l.length)) := fun k => by
      rw [e1, if_neg (by omega), if_pos (by omega), e2, hh]
      by_cases hz : l.getD 0 0 = 48
      · rw [hz, if_pos (by rfl)]
        congr 1
        by_cases h1 : 1 < l.length
        · rw [decide_eq_true (show (l.length : Int) > 1 by omega), decide_eq_true ⟨rfl, h1⟩]
        · rw [decide_eq_false (show ¬ (l.length : Int) > 1 by omega), decide_eq_false (fun h => h1 h.2)]
      · rw [if_neg (fun e => hz (UInt8.toNat_inj.1 (by have e' : ((l.getD 0 0).toNat : Int) = 48 := e; show (l.getD 0 0).toNat = 48; omega))), decide_eq_false (fun h => hz (Option.some.inj h.1))]
    obtain ⟨s1, s2⟩ := numS_l0 l h9 _ 0 0 rfl (Nat.zero_le _) (by simp)
    rw [List.drop_zero] at s1 s2
    by_cases hz : l.head? = some 48 ∧ 1 < l.length
    · rw [show decide (l.head? = some 48 ∧ 1 < l.length) = true from decide_eq_true hz] at e3
      exact ⟨fun h => absurd hz.1 (h.1.2.2 hz.2), fun _ => Ev.congr e3 ((numS_j l true).1 rfl)⟩
    · rw [show decide (l.head? = some 48 ∧ 1 < l.length) = false from decide_eq_false hz] at e3
      exact ⟨fun h => Ev.congr e3 ((numS_j l false).2 rfl _ (s1 h.1.2.1)), fun h => Ev.congr e3 ((numS_j l false).2 rfl _ (s2 fun hd => h ⟨⟨h0, hd, fun h1 e => hz ⟨e, h1⟩⟩, h9⟩))⟩
  · refine ⟨fun h => absurd h.2 h9, fun _ => Ev.congr (fun k => ?_) ((numS_j l true).1 rfl)⟩
    rw [e1, if_pos (by omega)]

/-! ### the program's number -/
def okN (b : Nat) (l : List UInt8) : Prop := plainD l ∧ valD 0 l ≤ b
theorem numI (b : Nat) (hb : b < 1000000000) (l : List UInt8) (hl : l.length ≤ 1048576) : (okN b l → impl_number.f (bsT l) (b : Int) = some (((valD 0 l : Nat) : Int), true)) ∧ (¬ okN b l → impl_number.f (bsT l) (b : Int) = some (0, false)) := by
  have e0 : ∀ v : Int, impl_within.f v 0 (b : Int) = some (decide (0 ≤ v) && decide (v ≤ (b : Int))) := fun v => by
    unfold impl_within.f; by_cases h : 0 ≤ v <;> simp [h]
  refine ⟨fun h => ?_, fun h => ?_⟩
  · have hd : impl_decimal.f ((valD 0 l : Nat) : Int) = some (bsT l) := by
      rw [decI _ (by have := h.2; omega), dec_val _ l rfl h.1]
    unfold impl_number.f
    rw [if_pos (by rw [bs_size]; exact hl), bs_list, parse_plain h.1 (by have := h.2; omega)]
    simp only [hd, Option.bind_some, if_pos, e0]
    have h2 := h.2
    rw [decide_eq_true (show (0 : Int) ≤ (valD 0 l : Nat) by omega), decide_eq_true (show ((valD 0 l : Nat) : Int) ≤ (b : Int) by omega)]
    rfl
  · unfold impl_number.f
    rw [if_pos (by rw [bs_size]; exact hl), bs_list]
    rcases hp : Lib.parseIntB 64 l with v | _ | _
    rotate_left
    · rfl
    · rfl
    · skip
      have hbd := Lib.parseIntB_bounds hp
      have hd : impl_decimal.f v = some (bsT (Lib.itoa v)) := by
        rw [impl_decimal.f, if_pos (by omega), if_pos (by omega)]; rfl
      simp only [hd, Option.bind_some, e0]
      by_cases hi : Lib.itoa v = l
      · rw [if_pos (by rw [hi])]
        have : ¬ (0 ≤ v ∧ v ≤ (b : Int)) := fun q => h (by
          obtain ⟨p1, p2⟩ := parse_back q.1 hi
          exact ⟨p1, by have := q.2; omega⟩)
        by_cases q0 : 0 ≤ v
        · rw [decide_eq_true q0, decide_eq_false (fun q => this ⟨q0, q⟩)]; rfl
        · rw [decide_eq_false q0]; rfl
      · rw [if_neg (fun e => hi (by rw [Lib.toList_data, Lib.toList_data, bs_list, bs_list] at e; exact e))]

/-! ### the parts -/
theorem splitI (c : UInt8) (s : List UInt8) (hs : s.length ≤ 1048576) : strings_Split.f (bsT s) (bsT [c]) = some ((spl c s).map bsT) := by
  have e : (Lib.splitB (bsT [c]) 0 (Lib.countB (bsT s) (bsT [c])) (bsT s)) = (spl c s).map bsT := by
    have h := Lib.splitB_data (bsT [c]) 0 (Lib.countB (bsT s) (bsT [c])) (bsT s)
    have hc : Lib.countB (bsT s) (bsT [c]) = Lib.count s [c] := by
      show Lib.count (bsT s).data.toList (bsT [c]).data.toList = _
      rw [bs_list, bs_list]
    rw [hc, bs_list, bs_list, splitK_eq] at h
    rw [hc, ← h, List.map_map]
    have : (bsT ∘ fun x : ByteArray => x.data.toList) = id := by
      funext x; simp [bsT]
    rw [this, List.map_id]
  have hle : Lib.countB (bsT s) (bsT [c]) ≤ (bsT s).size := Lib.countB_le (bsT [c]) (by rw [bs_size]; exact Nat.le_refl _) _ (bsT s) (Nat.le_refl _)
  rw [bs_size] at hle
  rw [strings_Split.f, if_pos (by rw [bs_size]; exact hs), if_pos (by rw [bs_size]; exact Nat.le_refl _), if_pos (by omega), e]
theorem bs_extract (s : List UInt8) (a b : Nat) : (bsT s).extract a b = bsT ((s.take b).drop a) := by
  rw [Lib.extract_eq, bs_list, List.drop_take]
  rfl
theorem splitS_l0 (c : UInt8) (s : List UInt8) (hs : s.length ≤ 1048576) : ∀ d i p (out : List (List UInt8)), s.length - i = d → p ≤ i → i ≤ s.length → c ∉ (s.take i).drop p → out.length ≤ i →
    Ev (fun k => spec_l01Split.l0 k (bsT s) (c.toNat : Int) (out.map bsT) (p : Int) (i : Int)) ((out ++ spl c (s.drop p)).map bsT) := by
  intro d
  induction d with
  | zero =>
    intro i p out hd hp hi hc ho
    obtain rfl : i = s.length := by omega
    rw [List.take_length] at hc
    refine Ev.step (f := fun _ => some ((out ++ spl c (s.drop p)).map bsT)) (fun k => ?_) (Ev.now _)
    rw [spec_l01Split.l0, bs_size, if_neg (by omega), if_pos (by omega), if_pos (by omega), if_pos (by rw [List.length_map]; omega), Int.toNat_natCast, bs_extract, List.take_length, spl_free c _ hc, List.map_append]
    rfl
  | succ d ih =>
    intro i p out hd hp hi hc ho
    have hlt : i < s.length := by omega
    have ht : (s.take (i + 1)).drop p = (s.take i).drop p ++ [s.getD i 0] := by
      rw [List.take_add_one, List.getElem?_eq_getElem hlt, List.getD_eq_getElem?_getD, List.getElem?_eq_getElem hlt, List.drop_append_of_le_length (by rw [List.length_take]; omega)]
      rfl
    by_cases hq : s.getD i 0 = c
    · have hsp : spl c (s.drop p) = (s.take i).drop p :: spl c (s.drop (i + 1)) := by
        have : s.drop p = (s.take i).drop p ++ c :: s.drop (i + 1) := by
          conv => lhs; rw [← List.take_append_drop i s]
          rw [List.drop_append_of_le_length (by rw [List.length_take]; omega), drop_at s i hlt, hq]
        rw [this, spl_hit c _ _ hc]
      refine Ev.step (fun k => ?_) (show Ev (fun k => spec_l01Split.l0 k (bsT s) (c.toNat : Int) ((out ++ [(s.take i).drop p]).map bsT) ((i + 1 : Nat) : Int) ((i + 1 : Nat) : Int)) ((out ++ spl c (s.drop p)).map bsT) from by
        have := ih (i + 1) (i + 1) (out ++ [(s.take i).drop p]) (by omega) (Nat.le_refl _) (by omega) (by rw [List.drop_eq_nil_of_le (by rw [List.length_take]; omega)]; exact List.not_mem_nil) (by rw [List.length_append, List.length_singleton]; omega)
        rw [hsp]
        rwa [List.append_assoc] at this)
      rw [spec_l01Split.l0, bs_size, if_pos (by omega), if_pos (by omega), bt_bs s i hlt, hq, if_pos rfl, if_pos (by omega), if_pos (by omega), if_pos (by omega), if_pos (by rw [List.length_map]; omega), Int.toNat_natCast, Int.toNat_natCast, bs_extract, wN i (by omega), List.map_append]
      rfl
    · refine Ev.step (fun k => ?_) (ih (i + 1) p out (by omega) (by omega) (by omega) (by rw [ht]; exact fun h => (List.mem_append.1 h).elim hc fun h => hq (List.mem_singleton.1 h).symm) (by omega))
      rw [spec_l01Split.l0, bs_size, if_pos (by omega), if_pos (by omega), bt_bs s i hlt, if_neg (fun e => hq (UInt8.toNat_inj.1 (by omega))), wN i (by omega)]
theorem splitS (c : UInt8) (s : List UInt8) (hs : s.length ≤ 1048576) : Ev (fun k => spec_l01Split.f k (bsT s) (c.toNat : Int)) ((spl c s).map bsT) := by
  have := splitS_l0 c s hs _ 0 0 [] rfl (Nat.le_refl _) (Nat.zero_le _) (by simp) (Nat.le_refl _)
  rwa [List.drop_zero, List.nil_append] at this

/-! ### the fields -/
theorem fields_l0 (b : Nat) (hb : b < 1000000000) (ps : List (List UInt8)) (hl : ps.length ≤ 1048577) (hp : ∀ p ∈ ps, p.length ≤ 1048576) : ∀ d i (out : List Int), ps.length - i = d → i ≤ ps.length → out = (ps.take i).map (fun p => ((valD 0 p : Nat) : Int)) →
    ((∀ p ∈ ps.drop i, okN b p) → Ev (fun k => impl_fields.l0 k (b : Int) out (ps.map bsT) ((ps.map bsT).length : Int) (i : Int)) (ps.map (fun p => ((valD 0 p : Nat) : Int)), true)) ∧
    (¬ (∀ p ∈ ps.drop i, okN b p) → Ev (fun k => impl_fields.l0 k (b : Int) out (ps.map bsT) ((ps.map bsT).length : Int) (i : Int)) ([], false)) := by
  rw [List.length_map]
  intro d
  induction d with
  | zero =>
    intro i out hd hi ho
    obtain rfl : i = ps.length := by omega
    rw [List.take_length] at ho
    subst ho
    rw [List.drop_length]
    refine ⟨fun _ => Ev.step (f := fun _ => some (ps.map (fun p => ((valD 0 p : Nat) : Int)), true)) (fun k => ?_) (Ev.now _), fun h => absurd (fun c hc => by cases hc) h⟩
    rw [impl_fields.l0, if_neg (by omega)]
  | succ d ih =>
    intro i out hd hi ho
    have hlt : i < ps.length := by omega
    have hdr : ps.drop i = ps.getD i [] :: ps.drop (i + 1) := by
      rw [List.getD_eq_getElem?_getD, List.getElem?_eq_getElem hlt]; exact List.drop_eq_getElem_cons hlt
    have htk : ps.take (i + 1) = ps.take i ++ [ps.getD i []] := by
      rw [List.take_add_one, List.getElem?_eq_getElem hlt, List.getD_eq_getElem?_getD, List.getElem?_eq_getElem hlt]; rfl
    have hq := hp _ (getD_mem' ps i hlt)
    obtain ⟨n1, n2⟩ := numI b hb (ps.getD i []) hq
    have hol : out.length = i := by rw [ho, List.length_map, List.length_take]; omega
    rw [hdr]
    by_cases hk : okN b (ps.getD i [])
    · obtain ⟨i1, i2⟩ := ih (i + 1) (out ++ [((valD 0 (ps.getD i []) : Nat) : Int)]) (by omega) (by omega) (by rw [htk, List.map_append, ← ho]; rfl)
      have est : ∀ k, impl_fields.l0 (k + 1) (b : Int) out (ps.map bsT) (ps.length : Int) (i : Int) = impl_fields.l0 k (b : Int) (out ++ [((valD 0 (ps.getD i []) : Nat) : Int)]) (ps.map bsT) (ps.length : Int) ((i + 1 : Nat) : Int) := fun k => by
        rw [impl_fields.l0, if_pos (by omega), if_pos (by omega), if_pos (by rw [List.length_map]; omega), getD_bs ps i hlt, n1 hk, Option.bind_some, if_pos rfl, if_pos (by omega), wN i (by omega)]
      exact ⟨fun h => Ev.step est (i1 fun p hp' => h p (List.mem_cons_of_mem _ hp')), fun h => Ev.step est (i2 fun h' => h fun p hp' => by
        rcases List.mem_cons.1 hp' with rfl | hp'
        · exact hk
        · exact h' p hp')⟩
    · refine ⟨fun h => absurd (h _ List.mem_cons_self) hk, fun _ => Ev.step (f := fun _ => some (([] : List Int), false)) (fun k => ?_) (Ev.now _)⟩
      rw [impl_fields.l0, if_pos (by omega), if_pos (by omega), if_pos (by rw [List.length_map]; omega), getD_bs ps i hlt, n2 hk, Option.bind_some, if_neg (by decide)]
theorem fieldsI (b : Nat) (hb : b < 1000000000) (s : List UInt8) (hs : s.length ≤ 1048576) :
    ((∀ p ∈ spl 120 s, okN b p) → Ev (fun k => impl_fields.f k (bsT s) (⟨#[120]⟩ : ByteArray) (b : Int)) ((spl 120 s).map (fun p => ((valD 0 p : Nat) : Int)), true)) ∧
    (¬ (∀ p ∈ spl 120 s, okN b p) → Ev (fun k => impl_fields.f k (bsT s) (⟨#[120]⟩ : ByteArray) (b : Int)) ([], false)) := by
  have hl := spl_many 120 s
  obtain ⟨h1, h2⟩ := fields_l0 b hb (spl 120 s) (by omega) (fun p hp => Nat.le_trans (spl_len 120 s p hp) hs) _ 0 [] rfl (Nat.zero_le _) rfl
  rw [List.drop_zero] at h1 h2
  have e : ∀ k, impl_fields.f k (bsT s) (⟨#[120]⟩ : ByteArray) (b : Int) = impl_fields.l0 k (b : Int) ([] : List Int) ((spl 120 s).map bsT) (((spl 120 s).map bsT).length : Int) ((0 : Nat) : Int) := fun k => by
    rw [impl_fields.f, bs_x, splitI 120 s hs, Option.bind_some]; rfl
  exact ⟨fun h => Ev.congr e (h1 h), fun h => Ev.congr e (h2 h)⟩

end Go.Proofs.YtipdmnibjkdpcaaDoor.Pure

namespace Go.Proofs.YtipdmnibjkdpcaaDoor.Pure
open Go.RowKit Go.Proofs.YtipdmnibjkdpcaaDoor.P Go.Proofs.YtipdmnibjkdpcaaDoorW.PrintWords Go.Proofs.YtipdmnibjkdpcaaDoorW.PrintLast
set_option linter.unusedVariables false
set_option linter.unusedSimpArgs false

theorem w8R {x : Int} (h0 : 0 ≤ x) (h1 : x ≤ 60) : IntKind.i8.wrap x = x := by
  simp [IntKind.wrap, IntKind.bits, IntKind.signed]; omega
/-- What a word tells: three sides. -/
def sv (p : List UInt8) (i : Nat) : Nat := valD 0 ((spl 120 p).getD i [])
/-- A word that is taken. -/
def okP (p : List UInt8) : Prop := (spl 120 p).length = 3 ∧ ∀ q ∈ spl 120 p, okN 60 q
def bxP (p : List UInt8) : S36 := ⟨(sv p 0 : Int), (sv p 1 : Int), (sv p 2 : Int)⟩
theorem okP.at {p : List UInt8} (h : okP p) (i : Nat) (hi : i < 3) : okN 60 ((spl 120 p).getD i []) := h.2 _ (getD_mem' _ i (by rw [h.1]; exact hi))
theorem three_all {p : List UInt8} (hl : (spl 120 p).length = 3) (h : ∀ i, i < 3 → okN 60 ((spl 120 p).getD i [])) : okP p := by
  refine ⟨hl, fun q hq => ?_⟩
  obtain ⟨i, hi, rfl⟩ := List.getElem_of_mem hq
  have := h i (by omega)
  rwa [List.getD_eq_getElem?_getD, List.getElem?_eq_getElem hi] at this
/-- A round of the program. -/
theorem rbI_round (out : List S36) (ws : List (List UInt8)) (i : Nat) (hi : i < ws.length) (hw : ∀ p ∈ ws, p.length ≤ 1048576) (hl : ws.length ≤ 1048577) (ho : out.length = i) :
    (okP (ws.getD i []) → ∀ r, Ev (fun k => impl_ReadBoxes.l0 k (out ++ [bxP (ws.getD i [])]) (ws.map bsT) (ws.length : Int) ((i + 1 : Nat) : Int)) r → Ev (fun k => impl_ReadBoxes.l0 k out (ws.map bsT) (ws.length : Int) (i : Int)) r) ∧
    (¬ okP (ws.getD i []) → Ev (fun k => impl_ReadBoxes.l0 k out (ws.map bsT) (ws.length : Int) (i : Int)) ([], 5)) := by
  have hp := hw _ (getD_mem' ws i hi)
  generalize hP : ws.getD i [] = p at hp ⊢
  obtain ⟨f1, f2⟩ := fieldsI 60 (by decide) p hp
  have e0 : ∀ k, impl_ReadBoxes.l0 (k + 1) out (ws.map bsT) (ws.length : Int) (i : Int) = (impl_fields.f k (bsT p) (⟨#[120]⟩ : ByteArray) 60).bind fun bt251 => (if bt251.2 = true then (if (bt251.1.length : Int) = 3 then (if 0 < (bt251.1.length : Int) then (if 1 < (bt251.1.length : Int) then (if 2 < (bt251.1.length : Int) then (if out.length < 46912496118442 then (impl_ReadBoxes.l0 k (out ++ [(⟨IntKind.i8.wrap (rd bt251.1 0), IntKind.i8.wrap (rd bt251.1 1), IntKind.i8.wrap (rd bt251.1 2)⟩ : S36)]) (ws.map bsT) (ws.length : Int) (wrap64 ((i : Int) + 1))) else (none)) else (none)) else (none)) else (none)) else (some (([] : List (S36)), 5))) else (some (([] : List (S36)), 5))) := fun k => by
    rw [impl_ReadBoxes.l0, if_pos (by omega), if_pos (by omega), if_pos (by rw [List.length_map]; omega), getD_bs ws i hi, hP]
  by_cases ha : ∀ q ∈ spl 120 p, okN 60 q
  · obtain ⟨K, hK⟩ := EvG (f1 ha)
    by_cases h2 : (spl 120 p).length = 3
    · refine ⟨fun hk r hr => ?_, fun h => absurd ⟨h2, ha⟩ h⟩
      obtain ⟨K2, hr⟩ := EvG hr
      refine EvI (K + K2 + 1) fun k hk' => ?_
      obtain ⟨m, rfl⟩ : ∃ m, k = m + 1 := ⟨k - 1, by omega⟩
      have r0 : ∀ j : Nat, j < 3 → rd ((spl 120 p).map (fun p => ((valD 0 p : Nat) : Int))) (j : Int) = (sv p j : Int) := fun j hj => by
        rw [rdN]
        unfold sv
        rw [List.getD_eq_getElem?_getD, List.getElem?_map, List.getD_eq_getElem?_getD, List.getElem?_eq_getElem (by omega)]; rfl
      have q0 : sv p 0 ≤ 60 := (hk.at 0 (by decide)).2
      have q1 : sv p 1 ≤ 60 := (hk.at 1 (by decide)).2
      have q2 : sv p 2 ≤ 60 := (hk.at 2 (by decide)).2
      rw [e0, show (60 : Int) = ((60 : Nat) : Int) from rfl, hK m (by omega), Option.bind_some]
      simp only [List.length_map, h2]
      rw [if_pos trivial, if_pos (by decide), if_pos (by decide), if_pos (by decide), if_pos (by decide), if_pos (by omega), show (0 : Int) = ((0 : Nat) : Int) from rfl, show (1 : Int) = ((1 : Nat) : Int) from rfl, show (2 : Int) = ((2 : Nat) : Int) from rfl, r0 0 (by decide), r0 1 (by decide), r0 2 (by decide), w8R (by omega) (by omega), w8R (by omega) (by omega), w8R (by omega) (by omega), show (((1 : Nat) : Int)) = 1 from rfl, wN i (by omega)]
      exact hr m (by omega)
    · refine ⟨fun hk => absurd hk.1 h2, fun _ => EvI (K + 1) fun k hk' => ?_⟩
      obtain ⟨m, rfl⟩ : ∃ m, k = m + 1 := ⟨k - 1, by omega⟩
      rw [e0, show (60 : Int) = ((60 : Nat) : Int) from rfl, hK m (by omega), Option.bind_some]
      simp only [List.length_map]
      rw [if_pos trivial, if_neg (by omega)]
  · obtain ⟨K, hK⟩ := EvG (f2 ha)
    refine ⟨fun hk => absurd hk.2 ha, fun _ => EvI (K + 1) fun k hk' => ?_⟩
    obtain ⟨m, rfl⟩ : ∃ m, k = m + 1 := ⟨k - 1, by omega⟩
    rw [e0, show (60 : Int) = ((60 : Nat) : Int) from rfl, hK m (by omega), Option.bind_some]
    rw [if_neg (by decide)]
/-- The numbers of a word, behind j of them. -/
def sides (p : List UInt8) (j : Nat) : List Int := (List.range 3).map fun i => if i < j then (sv p i : Int) else 0
theorem sides_len (p : List UInt8) (j : Nat) : (sides p j).length = 3 := by simp [sides]
theorem sides_set (p : List UInt8) (j : Nat) (hj : j < 3) : (sides p j).set j (sv p j : Int) = sides p (j + 1) := by
  have h : j = 0 ∨ j = 1 ∨ j = 2 := by omega
  rcases h with rfl | rfl | rfl <;> rfl
theorem rbS_l1 (out : List S36) (ws : List (List UInt8)) (i : Nat) (hi : i < ws.length) (ho : out.length = i) (hl : ws.length ≤ 1048577) (p : List UInt8) (hp : p.length ≤ 1048576) (h3 : (spl 120 p).length = 3) :
    ∀ d j, 3 - j = d → j ≤ 3 → (∀ q, q < j → okN 60 ((spl 120 p).getD q [])) →
    (okP p → ∀ r, Ev (fun k => spec_ReadBoxes.l0 k (out ++ [bxP p]) (ws.map bsT) ((i + 1 : Nat) : Int)) r → Ev (fun k => spec_ReadBoxes.l1 k out (ws.map bsT) (i : Int) ((spl 120 p).map bsT) (sides p j) (j : Int)) r) ∧
    (¬ okP p → Ev (fun k => spec_ReadBoxes.l1 k out (ws.map bsT) (i : Int) ((spl 120 p).map bsT) (sides p j) (j : Int)) ([], 5)) := by
  intro d
  induction d with
  | zero =>
    intro j hd hj hq
    obtain rfl : j = 3 := by omega
    have hk := three_all h3 hq
    have q0 : sv p 0 ≤ 60 := (hk.at 0 (by decide)).2
    have q1 : sv p 1 ≤ 60 := (hk.at 1 (by decide)).2
    have q2 : sv p 2 ≤ 60 := (hk.at 2 (by decide)).2
    refine ⟨fun _ r hr => Ev.step (fun k => ?_) hr, fun h => absurd hk h⟩
    rw [spec_ReadBoxes.l1, sides_len, if_neg (by decide), if_pos (by decide), if_pos (by decide), if_pos (by decide), if_pos (by omega), show rd (sides p 3) 0 = (sv p 0 : Int) from rfl, show rd (sides p 3) 1 = (sv p 1 : Int) from rfl, show rd (sides p 3) 2 = (sv p 2 : Int) from rfl, w8R (by omega) (by omega), w8R (by omega) (by omega), w8R (by omega) (by omega), wN i (by omega)]
    rfl
  | succ d ih =>
    intro j hd hj hq
    have hm := getD_mem' (spl 120 p) j (by omega)
    have hpl := Nat.le_trans (spl_len 120 p _ hm) hp
    obtain ⟨na, nb⟩ := numS ((spl 120 p).getD j []) hpl
    have e0 : ∀ k, spec_ReadBoxes.l1 (k + 1) out (ws.map bsT) (i : Int) ((spl 120 p).map bsT) (sides p j) (j : Int) = (spec_l01Number.f k (bsT ((spl 120 p).getD j []))).bind fun bt236 => (if bt236.2 = true then (if bt236.1 > 60 then (some ((([] : List (S36))), 5)) else (spec_ReadBoxes.l1 k out (ws.map bsT) (i : Int) ((spl 120 p).map bsT) ((sides p j).set j bt236.1) ((j + 1 : Nat) : Int))) else (some ((([] : List (S36))), 5))) := fun k => by
      rw [spec_ReadBoxes.l1, if_pos (by omega), if_pos (by omega), if_pos (by rw [List.length_map]; omega), getD_bs _ j (by omega), sides_len]
      simp only [show ((j : Int) < ((3 : Nat) : Int)) = True from eq_true (by omega), if_true, wN j (by omega), Int.toNat_natCast]
    by_cases c0 : plainD ((spl 120 p).getD j []) ∧ ((spl 120 p).getD j []).length ≤ 9
    · obtain ⟨K1, na⟩ := EvG (na c0)
      by_cases b0 : sv p j ≤ 60
      · have hkj : okN 60 ((spl 120 p).getD j []) := ⟨c0.1, b0⟩
        obtain ⟨i1, i2⟩ := ih (j + 1) (by omega) (by omega) (fun q hq' => by
          rcases Nat.lt_or_ge q j with h | h
          · exact hq q h
          · obtain rfl : q = j := by omega
            exact hkj)
        have e1 : ∀ k, K1 ≤ k → spec_ReadBoxes.l1 (k + 1) out (ws.map bsT) (i : Int) ((spl 120 p).map bsT) (sides p j) (j : Int) = spec_ReadBoxes.l1 k out (ws.map bsT) (i : Int) ((spl 120 p).map bsT) (sides p (j + 1)) ((j + 1 : Nat) : Int) := fun k hk => by
          rw [e0, na k hk, Option.bind_some, if_pos rfl]
          rw [if_neg (show ¬ (((valD 0 ((spl 120 p).getD j []) : Nat) : Int) > 60) by unfold sv at b0; omega)]
          rw [← sides_set p j (by omega)]; rfl
        refine ⟨fun hk r hr => ?_, fun hk => ?_⟩
        · obtain ⟨K2, h2⟩ := EvG (i1 hk r hr)
          refine EvI (K1 + K2 + 1) fun k hk' => ?_
          obtain ⟨m, rfl⟩ : ∃ m, k = m + 1 := ⟨k - 1, by omega⟩
          rw [e1 m (by omega)]; exact h2 m (by omega)
        · obtain ⟨K2, h2⟩ := EvG (i2 hk)
          refine EvI (K1 + K2 + 1) fun k hk' => ?_
          obtain ⟨m, rfl⟩ : ∃ m, k = m + 1 := ⟨k - 1, by omega⟩
          rw [e1 m (by omega)]; exact h2 m (by omega)
      · refine ⟨fun hk => absurd (hk.at j (by omega)).2 b0, fun _ => EvI (K1 + 1) fun k hk' => ?_⟩
        obtain ⟨m, rfl⟩ : ∃ m, k = m + 1 := ⟨k - 1, by omega⟩
        rw [e0, na m (by omega), Option.bind_some, if_pos rfl]
        rw [if_pos (show (((valD 0 ((spl 120 p).getD j []) : Nat) : Int) > 60) by unfold sv at b0; omega)]
    · obtain ⟨K1, nb⟩ := EvG (nb c0)
      refine ⟨fun hk => absurd ⟨(hk.at j (by omega)).1, plain_len (hk.at j (by omega)).1 (by have := (hk.at j (by omega)).2; omega)⟩ c0, fun _ => EvI (K1 + 1) fun k hk' => ?_⟩
      obtain ⟨m, rfl⟩ : ∃ m, k = m + 1 := ⟨k - 1, by omega⟩
      rw [e0, nb m (by omega), Option.bind_some, if_neg (by decide)]
theorem rbS_round (out : List S36) (ws : List (List UInt8)) (i : Nat) (hi : i < ws.length) (hw : ∀ p ∈ ws, p.length ≤ 1048576) (hl : ws.length ≤ 1048577) (ho : out.length = i) :
    (okP (ws.getD i []) → ∀ r, Ev (fun k => spec_ReadBoxes.l0 k (out ++ [bxP (ws.getD i [])]) (ws.map bsT) ((i + 1 : Nat) : Int)) r → Ev (fun k => spec_ReadBoxes.l0 k out (ws.map bsT) (i : Int)) r) ∧
    (¬ okP (ws.getD i []) → Ev (fun k => spec_ReadBoxes.l0 k out (ws.map bsT) (i : Int)) ([], 5)) := by
  have hp := hw _ (getD_mem' ws i hi)
  generalize hP : ws.getD i [] = p at hp ⊢
  obtain ⟨K0, s0⟩ := EvG (splitS 120 p hp)
  have e0 : ∀ k, K0 ≤ k → spec_ReadBoxes.l0 (k + 1) out (ws.map bsT) (i : Int) = (if (((spl 120 p).length : Nat) : Int) = 3 then (spec_ReadBoxes.l1 k out (ws.map bsT) (i : Int) ((spl 120 p).map bsT) (sides p 0) ((0 : Nat) : Int)) else (some ((([] : List (S36))), 5))) := fun k hk => by
    rw [spec_ReadBoxes.l0, if_pos (by rw [List.length_map]; omega), if_pos (by omega), getD_bs ws i hi, hP]
    have := s0 k hk
    rw [show ((120 : UInt8).toNat : Int) = 120 from rfl] at this
    rw [this, Option.bind_some, List.length_map]; rfl
  by_cases h3 : (spl 120 p).length = 3
  · obtain ⟨i1, i2⟩ := rbS_l1 out ws i hi ho hl p hp h3 3 0 rfl (by decide) (fun q hq => absurd hq (Nat.not_lt_zero _))
    refine ⟨fun hk r hr => ?_, fun hk => ?_⟩
    · obtain ⟨K2, h2⟩ := EvG (i1 hk r hr)
      refine EvI (K0 + K2 + 1) fun k hk' => ?_
      obtain ⟨m, rfl⟩ : ∃ m, k = m + 1 := ⟨k - 1, by omega⟩
      rw [e0 m (by omega), if_pos (by omega)]; exact h2 m (by omega)
    · obtain ⟨K2, h2⟩ := EvG (i2 hk)
      refine EvI (K0 + K2 + 1) fun k hk' => ?_
      obtain ⟨m, rfl⟩ : ∃ m, k = m + 1 := ⟨k - 1, by omega⟩
      rw [e0 m (by omega), if_pos (by omega)]; exact h2 m (by omega)
  · refine ⟨fun h => absurd h.1 h3, fun _ => EvI (K0 + 1) fun k hk' => ?_⟩
    obtain ⟨m, rfl⟩ : ∃ m, k = m + 1 := ⟨k - 1, by omega⟩
    rw [e0 m (by omega), if_neg (by omega)]
theorem lit8 {x : Nat} (h : x ≤ 60) : (Lit.int .i8 (x : Int)).wf = true := by
  have h0 : IntKind.min .i8 = -128 := rfl
  have h1 : IntKind.max .i8 = 127 := rfl
  show (decide (IntKind.min .i8 ≤ (x : Int)) && decide ((x : Int) ≤ IntKind.max .i8)) = true
  rw [h0, h1, decide_eq_true (show (-128 : Int) ≤ (x : Int) by omega), decide_eq_true (show (x : Int) ≤ 127 by omega)]; rfl
theorem wfS.snoc {out : List S36} (h : wfS out) {p : List UInt8} (hp : okP p) : wfS (out ++ [bxP p]) := by
  intro x hx
  rcases List.mem_append.1 hx with hx | hx
  · exact h x hx
  · obtain rfl := List.mem_singleton.1 hx
    exact ⟨lit8 (hp.at 0 (by decide)).2, lit8 (hp.at 1 (by decide)).2, lit8 (hp.at 2 (by decide)).2⟩
theorem rbBoth (ws : List (List UInt8)) (hw : ∀ p ∈ ws, p.length ≤ 1048576) (hl : ws.length ≤ 1048577) : ∀ d i (out : List S36), ws.length - i = d → i ≤ ws.length → out.length = i → wfS out →
    ∃ r : List S36 × Int, Ev (fun k => spec_ReadBoxes.l0 k out (ws.map bsT) (i : Int)) r ∧ Ev (fun k => impl_ReadBoxes.l0 k out (ws.map bsT) (ws.length : Int) (i : Int)) r ∧ r.1.length ≤ 1048577 := by
  intro d
  induction d with
  | zero =>
    intro i out hd hi ho hW
    obtain rfl : i = ws.length := by omega
    obtain ⟨K1, h1⟩ := EvG (codeS out (by omega) hW)
    obtain ⟨K2, h2⟩ := EvG (codeI out (by omega) hW)
    have s1 : ∀ k, K1 ≤ k → spec_ReadBoxes.l0 (k + 1) out (ws.map bsT) ((ws.length : Nat) : Int) = if boxesOk out = true then some (out, 0) else some ([], 5) := fun k hk => by
      rw [spec_ReadBoxes.l0, if_neg (by rw [List.length_map]; omega), h1 k hk, Option.bind_some]
    have s2 : ∀ k, K2 ≤ k → impl_ReadBoxes.l0 (k + 1) out (ws.map bsT) ((ws.length : Nat) : Int) ((ws.length : Nat) : Int) = if (if boxesOk out = true then (0 : Int) else 1) = 0 then some (out, 0) else some ([], 5) := fun k hk => by
      rw [impl_ReadBoxes.l0, if_neg (by omega), h2 k hk, Option.bind_some]
    by_cases hb : boxesOk out = true
    · refine ⟨(out, 0), EvI (K1 + 1) fun k hk => ?_, EvI (K2 + 1) fun k hk => ?_, (by show out.length ≤ 1048577; omega)⟩
      · obtain ⟨m, rfl⟩ : ∃ m, k = m + 1 := ⟨k - 1, by omega⟩
        rw [s1 m (by omega), if_pos hb]
      · obtain ⟨m, rfl⟩ : ∃ m, k = m + 1 := ⟨k - 1, by omega⟩
        rw [s2 m (by omega), if_pos hb, if_pos rfl]
    · refine ⟨([], 5), EvI (K1 + 1) fun k hk => ?_, EvI (K2 + 1) fun k hk => ?_, Nat.zero_le _⟩
      · obtain ⟨m, rfl⟩ : ∃ m, k = m + 1 := ⟨k - 1, by omega⟩
        rw [s1 m (by omega), if_neg hb]
      · obtain ⟨m, rfl⟩ : ∃ m, k = m + 1 := ⟨k - 1, by omega⟩
        rw [s2 m (by omega), if_neg hb, if_neg (by decide)]
  | succ d ih =>
    intro i out hd hi ho hW
    obtain ⟨h1, h2⟩ := rbI_round out ws i (by omega) hw hl ho
    obtain ⟨h3, h4⟩ := rbS_round out ws i (by omega) hw hl ho
    by_cases hk : okP (ws.getD i [])
    · obtain ⟨r, a, b, c⟩ := ih (i + 1) _ (by omega) (by omega) (by rw [List.length_append, List.length_singleton, ho]) (hW.snoc hk)
      exact ⟨r, h3 hk r a, h1 hk r b, c⟩
    · exact ⟨([], 5), h4 hk, h2 hk, Nat.zero_le _⟩
theorem readBoth (s : List UInt8) (hs : s.length ≤ 1048576) : ∃ r : List S36 × Int, Ev (fun k => spec_ReadBoxes.f k (bsT s)) r ∧ Ev (fun k => impl_ReadBoxes.f k (bsT s)) r ∧ r.1.length ≤ 1048577 := by
  by_cases h0 : s = []
  · refine ⟨([], 0), EvI 0 fun k _ => ?_, EvI 0 fun k _ => ?_, Nat.zero_le _⟩
    · rw [spec_ReadBoxes.f, Option.bind_some, if_pos ((bs_nil_iff s).2 h0)]
    · rw [impl_ReadBoxes.f, Option.bind_some, if_pos ((bs_nil_iff s).2 h0)]
  · have hm := spl_many 32 s
    obtain ⟨r, a, b, c⟩ := rbBoth (spl 32 s) (fun p hp => Nat.le_trans (spl_len 32 s p hp) hs) (by omega) _ 0 [] rfl (Nat.zero_le _) rfl (fun x hx => by cases hx)
    obtain ⟨K1, a⟩ := EvG a
    obtain ⟨K0, h0'⟩ := EvG (splitS 32 s hs)
    refine ⟨r, EvI (K0 + K1) fun k hk => ?_, Ev.congr (fun k => ?_) b, c⟩
    · have := h0' k (by omega)
      rw [show ((32 : UInt8).toNat : Int) = 32 from rfl] at this
      rw [spec_ReadBoxes.f, Option.bind_some, if_neg (fun h => h0 ((bs_nil_iff s).1 h)), this, Option.bind_some]
      exact a k (by omega)
    · rw [impl_ReadBoxes.f, Option.bind_some, if_neg (fun h => h0 ((bs_nil_iff s).1 h)), bs_sp, splitI 32 s hs, Option.bind_some, List.length_map]; rfl
theorem FnExactReadBoxes : laws_FnExactReadBoxes.Pure := by
  intro a0 ha
  by_cases hs : a0.size ≤ 1048576
  · obtain ⟨s, rfl⟩ : ∃ s, a0 = bsT s := ⟨a0.data.toList, by simp [bsT]⟩
    rw [bs_size] at hs
    obtain ⟨⟨g, c⟩, h10, h20, h3⟩ := readBoth s hs
    obtain ⟨K1, h1⟩ := EvG h10
    obtain ⟨K2, h2⟩ := EvG h20
    simp only at h3
    obtain ⟨K3, h4⟩ := EvG (eqB g (by omega))
    obtain ⟨K4, h5⟩ := EvG (markB g (by omega))
    obtain ⟨K5, h6⟩ := EvG (heldB g.length (by omega))
    refine ⟨K1 + K2 + K3 + K4 + K5 + 3, ?_⟩
    rw [laws_FnExactReadBoxes.f, bs_size, if_neg (by omega), h1 _ (by omega), Option.bind_some, h2 _ (by omega), Option.bind_some, h4 _ (by omega), Option.bind_some, if_pos rfl]
    simp only [bne_self_eq_false]
    rw [show K1 + K2 + K3 + K4 + K5 + 3 = (K1 + K2 + K3 + K4 + K5 + 2) + 1 from rfl, laws_FnExactReadBoxes.j0, if_neg (by decide), h5 _ (by omega), Option.bind_some, h6 _ (by omega), Option.bind_some, if_neg (by omega), if_pos rfl, h2 _ (by omega), Option.bind_some, h4 _ (by omega), Option.bind_some, if_pos rfl]
    simp only [bne_self_eq_false]
    rw [show K1 + K2 + K3 + K4 + K5 + 2 = (K1 + K2 + K3 + K4 + K5 + 1) + 1 from rfl, laws_FnExactReadBoxes.j1, if_neg (by decide), h6 _ (by omega), Option.bind_some, if_neg (by omega), if_pos rfl]
  · exact ⟨0, by rw [laws_FnExactReadBoxes.f, if_pos (by omega)]⟩

end Go.Proofs.YtipdmnibjkdpcaaDoor.Pure

namespace Go.Proofs.YtipdmnibjkdpcaaDoor.P
open Go
theorem laid_tail {P : Program} {W : World} {x : String × DataW Unit} {r : List (String × DataW Unit)} (h : laidMet P (x :: r) W) : laidMet P r W := by
  obtain ⟨ps, ⟨g, t, cs, fuel, p, q, h1, h2, h3, h4, h5, rfl⟩, hn, hc⟩ := h
  exact ⟨q, h5, (List.nodup_append.1 hn).2.1, fun b off hb => hc b off (List.mem_append_right _ hb)⟩
theorem iface_of_head {P : Program} {W : World} {name nm : String} {d : DataW Unit} {r : List (String × DataW Unit)} {g : Nat} {t : TypeId} {ms : Array (String × TypeId)}
    (hg : P.globalNamed name = some g) (hty : (P.globals[g]?).map (·.type) = some t) (ht : P.underlying t = some (.interface ms)) (h : laidMet P ((name, .iface nm d) :: r) W) : ∃ tp p, W.var? P name = some #[.iface tp p] := by
  obtain ⟨ps, ⟨g', t', cs, fuel, p, q, hg', ht', hvar, hd, _, _⟩, _⟩ := h
  obtain rfl := Option.some.inj (hg.symm.trans hg')
  obtain rfl := Option.some.inj (hty.symm.trans ht')
  obtain ⟨_, u, v, hc, _⟩ := iface_of_trod ht hd
  exact ⟨u, v, by rw [hvar]; congr 1; first | exact hc | (apply Array.ext'; exact hc) | (subst hc; rfl)⟩
theorem pow_tab : (Rows.laid_internal_strconv_uint64pow10 : DataW Unit) = Lib.tabData .u64 Lib.pow10Tab := by kernel_rfl
theorem pow_name : Tryd.prog.globalNamed "internal/strconv.uint64pow10" = some 0 := by kernel_rfl
theorem pow_type : (Tryd.prog.globals[0]?).map (·.type) = some 97 := by kernel_rfl
theorem pow_under : Tryd.prog.underlying 97 = some (.array 20 81) := by kernel_rfl
theorem pow_elem : Tryd.prog.underlying 81 = some (.int .u64) := by kernel_rfl
theorem pow_ce : Tryd.prog.cellsOf 81 = 1 := by kernel_rfl
theorem pow_ct : Tryd.prog.cellsOf 97 = 20 := by kernel_rfl
theorem rng_name : Tryd.prog.globalNamed "strconv.ErrRange" = some 5 := by kernel_rfl
theorem rng_type : (Tryd.prog.globals[5]?).map (·.type) = some 62 := by kernel_rfl
theorem syn_name : Tryd.prog.globalNamed "strconv.ErrSyntax" = some 4 := by kernel_rfl
theorem syn_type : (Tryd.prog.globals[4]?).map (·.type) = some 62 := by kernel_rfl
theorem err_under : ∃ ms, Tryd.prog.underlying 62 = some (.interface ms) := ⟨_, Tryd.underlying62⟩
theorem glob_of_laid {W : World} (h : laidMetH Tryd.prog Rows.fnExactReadBoxesRow.laid W) (hs : W.ShapedOpen Tryd.prog) : GlobOk W := by
  rw [MakeChecks.laidMetH_plain _ _ _ (by kernel_rfl)] at h
  have h2 := laid_tail (laid_tail (show laidMet Tryd.prog [("math/bits.deBruijn32tab", Rows.laid_math_bits_deBruijn32tab), ("math/bits.deBruijn64tab", Rows.laid_math_bits_deBruijn64tab), ("internal/strconv.uint64pow10", Rows.laid_internal_strconv_uint64pow10), ("unicode/utf8.acceptRanges", Rows.laid_unicode_utf8_acceptRanges), ("strconv.ErrRange", Rows.laid_strconv_ErrRange), ("strconv.ErrSyntax", Rows.laid_strconv_ErrSyntax), ("unicode/utf8.first", Rows.laid_unicode_utf8_first)] W from h))
  have h3 := laid_tail (laid_tail h2)
  have h4 := laid_tail h3
  obtain ⟨ms, he⟩ := err_under
  refine ⟨?_, iface_of_head syn_name syn_type he h4, iface_of_head rng_name rng_type he h3, Tryd.laysM146.s1_3 W hs⟩
  rw [pow_tab] at h2
  exact Lib.tabIs_of_head pow_name pow_type pow_under pow_elem pow_ce pow_ct h2
end Go.Proofs.YtipdmnibjkdpcaaDoor.P
