/- The Go functions that the law FnExactMostLetters comes to, as plain Lean functions, the proofs that calls of them return what those tell, and the plain lemmas on them; no condition but those that each theorem states. -/
import Derived.Test.YtnhcdfikjfjkoaaMMostLetters2
namespace Go.Proofs.Ytnhcdfikjfjkoaa.P
open Go.RowKit Go.Proofs.YtnhcdfikjfjkoaaW.PrintWords Go.Proofs.YtnhcdfikjfjkoaaW.PrintLast Go.Proofs.YtnhcdfikjfjkoaaW.PrintMore
attribute [local go_sem] max2_int min2_int max_two min_two max_three min_three max_four min_four
set_option linter.unusedVariables false
set_option linter.unusedSimpArgs false
mutual
def impl_purse_table.l0 : Nat → Int → List (List (S77)) → Int → List Int → List Int → Option ((List (List (S77))))
  | 0, _, _, _, _, _ => none
  | k + 1, x1, x5, x6, x395000, x395001 => if x6 ≥ 0 then (if 0 ≤ (wrap64 (x1 + 1)) then (if (wrap64 (x1 + 1) : Int).toNat ≤ 17592186044416 then (if 0 ≤ x6 then (if x6 < (x5.length : Int) then ((some (x5.set (x6 : Int).toNat (List.replicate (wrap64 (x1 + 1) : Int).toNat z77) : List (List (S77)))).bind fun y401 => (if x6 = (x395000.length : Int) then (if 0 < ((rd_L7 y401 x6).length : Int) then (impl_purse_table.l0 k x1 (y401.set (x6 : Int).toNat ((rd_L7 y401 x6).set (0 : Int).toNat (⟨1, 0⟩ : S77))) (wrap64 (x6 - 1)) x395000 x395001) else (none)) else (impl_purse_table.l1 k x1 y401 x6 (wrap64 (x1 + 1)) 0 x395000 x395001))) else (none)) else (none)) else (none)) else (none)) else (some x5)
def impl_purse_table.l1 : Nat → Int → List (List (S77)) → Int → Int → Int → List Int → List Int → Option ((List (List (S77))))
  | 0, _, _, _, _, _, _, _ => none
  | k + 1, x1, x5, x6, x41, x42, x395000, x395001 => if x42 < x41 then (impl_purse_table.l2 k x1 x5 x6 x42 0 x41 x42 x395000 x395001) else (impl_purse_table.l0 k x1 x5 (wrap64 (x6 - 1)) x395000 x395001)
def impl_purse_table.l2 : Nat → Int → List (List (S77)) → Int → Int → Int → Int → Int → List Int → List Int → Option ((List (List (S77))))
  | 0, _, _, _, _, _, _, _, _, _ => none
  | k + 1, x1, x5, x6, x7, x8, x41, x42, x395000, x395001 => if 0 ≤ x6 then (if x6 < (x395001.length : Int) then (if x8 ≤ (rd x395001 x6) then (if x6 < (x395000.length : Int) then (impl_purse_table.j3 k x1 x5 x6 x7 x8 x41 x42 (decide ((wrap64 (x8 * (rd x395000 x6))) ≤ x7)) x395000 x395001) else (none)) else (impl_purse_table.j3 k x1 x5 x6 x7 x8 x41 x42 false x395000 x395001)) else (none)) else (none)
def impl_purse_table.j3 : Nat → Int → List (List (S77)) → Int → Int → Int → Int → Int → Bool → List Int → List Int → Option ((List (List (S77))))
  | 0, _, _, _, _, _, _, _, _, _, _ => none
  | k + 1, x1, x5, x6, x7, x8, x41, x42, x62, x395000, x395001 => if x62 = true then (if 0 ≤ (wrap64 (x6 + 1)) then (if (wrap64 (x6 + 1)) < (x5.length : Int) then (if 0 ≤ x6 then (if x6 < (x395000.length : Int) then (if 0 ≤ (wrap64 (x7 - (wrap64 (x8 * (rd x395000 x6))))) then (if (wrap64 (x7 - (wrap64 (x8 * (rd x395000 x6))))) < ((rd_L7 x5 (wrap64 (x6 + 1))).length : Int) then (if ((rd_T77 (rd_L7 x5 (wrap64 (x6 + 1))) (wrap64 (x7 - (wrap64 (x8 * (rd x395000 x6)))))).f0) = 0 then (impl_purse_table.l2 k x1 x5 x6 x7 (wrap64 (x8 + 1)) x41 x42 x395000 x395001) else (if x6 < (x5.length : Int) then (if 0 ≤ x7 then (if x7 < ((rd_L7 x5 x6).length : Int) then (if ((rd_T77 (rd_L7 x5 x6) x7).f0) = 0 then (impl_purse_table.j4 k x1 x5 x6 x7 x8 x41 x42 true x395000 x395001 ((rd_T77 (rd_L7 x5 (wrap64 (x6 + 1))) (wrap64 (x7 - (wrap64 (x8 * (rd x395000 x6)))))).f0) ((rd_T77 (rd_L7 x5 (wrap64 (x6 + 1))) (wrap64 (x7 - (wrap64 (x8 * (rd x395000 x6)))))).f1)) else (impl_purse_table.j4 k x1 x5 x6 x7 x8 x41 x42 (decide ((wrap64 (((rd_T77 (rd_L7 x5 (wrap64 (x6 + 1))) (wrap64 (x7 - (wrap64 (x8 * (rd x395000 x6)))))).f1) + x8)) < ((rd_T77 (rd_L7 x5 x6) x7).f1))) x395000 x395001 ((rd_T77 (rd_L7 x5 (wrap64 (x6 + 1))) (wrap64 (x7 - (wrap64 (x8 * (rd x395000 x6)))))).f0) ((rd_T77 (rd_L7 x5 (wrap64 (x6 + 1))) (wrap64 (x7 - (wrap64 (x8 * (rd x395000 x6)))))).f1))) else (none)) else (none)) else (none))) else (none)) else (none)) else (none)) else (none)) else (none)) else (none)) else (impl_purse_table.l1 k x1 x5 x6 x41 (wrap64 (x42 + 1)) x395000 x395001)
def impl_purse_table.j4 : Nat → Int → List (List (S77)) → Int → Int → Int → Int → Int → Bool → List Int → List Int → Int → Int → Option ((List (List (S77))))
  | 0, _, _, _, _, _, _, _, _, _, _, _, _ => none
  | k + 1, x1, x5, x6, x7, x8, x41, x42, x102, x395000, x395001, x412000, x412001 => if x102 = true then (if 0 ≤ x6 then (if x6 < (x5.length : Int) then (if 0 ≤ x7 then (if x7 < ((rd_L7 x5 x6).length : Int) then ((some (x5.set (x6 : Int).toNat ((rd_L7 x5 x6).set (x7 : Int).toNat (⟨(rd_T77 (rd_L7 x5 x6) x7).f0, wrap64 (x412001 + x8)⟩ : S77)) : List (List (S77)))).bind fun y418 => (if x7 < ((rd_L7 y418 x6).length : Int) then (impl_purse_table.l2 k x1 (y418.set (x6 : Int).toNat ((rd_L7 y418 x6).set (x7 : Int).toNat (⟨wrap64 (((rd_T77 (rd_L7 y418 x6) x7).f0) + x412000), (rd_T77 (rd_L7 y418 x6) x7).f1⟩ : S77))) x6 x7 (wrap64 (x8 + 1)) x41 x42 x395000 x395001) else (none))) else (none)) else (none)) else (none)) else (none)) else (if 0 ≤ x6 then (if x6 < (x5.length : Int) then (if 0 ≤ x7 then (if x7 < ((rd_L7 x5 x6).length : Int) then (impl_purse_table.l2 k x1 (x5.set (x6 : Int).toNat ((rd_L7 x5 x6).set (x7 : Int).toNat (⟨wrap64 (((rd_T77 (rd_L7 x5 x6) x7).f0) + x412000), (rd_T77 (rd_L7 x5 x6) x7).f1⟩ : S77))) x6 x7 (wrap64 (x8 + 1)) x41 x42 x395000 x395001) else (none)) else (none)) else (none)) else (none))
end
def impl_purse_table.f (k : Nat) (l0_0 : List Int) (l0_1 : List Int) (a1 : Int) : Option ((List (List (S77)))) := if 0 ≤ (wrap64 ((l0_0.length : Int) + 1)) then (if (wrap64 ((l0_0.length : Int) + 1) : Int).toNat ≤ 11728124029610 then (impl_purse_table.l0 k a1 (List.replicate (wrap64 ((l0_0.length : Int) + 1) : Int).toNat []) (l0_0.length : Int) l0_0 l0_1) else (none)) else (none)
theorem impl_purse_table.mono_l : ∀ k, (∀ y0 y1 y2 y3 y4, LeO (impl_purse_table.l0 k y0 y1 y2 y3 y4) (impl_purse_table.l0 (k + 1) y0 y1 y2 y3 y4)) ∧ (∀ y0 y1 y2 y3 y4 y5 y6, LeO (impl_purse_table.l1 k y0 y1 y2 y3 y4 y5 y6) (impl_purse_table.l1 (k + 1) y0 y1 y2 y3 y4 y5 y6)) ∧ (∀ y0 y1 y2 y3 y4 y5 y6 y7 y8, LeO (impl_purse_table.l2 k y0 y1 y2 y3 y4 y5 y6 y7 y8) (impl_purse_table.l2 (k + 1) y0 y1 y2 y3 y4 y5 y6 y7 y8)) ∧ (∀ y0 y1 y2 y3 y4 y5 y6 y7 y8 y9, LeO (impl_purse_table.j3 k y0 y1 y2 y3 y4 y5 y6 y7 y8 y9) (impl_purse_table.j3 (k + 1) y0 y1 y2 y3 y4 y5 y6 y7 y8 y9)) ∧ (∀ y0 y1 y2 y3 y4 y5 y6 y7 y8 y9 y10 y11, LeO (impl_purse_table.j4 k y0 y1 y2 y3 y4 y5 y6 y7 y8 y9 y10 y11) (impl_purse_table.j4 (k + 1) y0 y1 y2 y3 y4 y5 y6 y7 y8 y9 y10 y11))
  | 0 => ⟨fun _ _ _ _ _ r h => by simp [impl_purse_table.l0] at h, fun _ _ _ _ _ _ _ r h => by simp [impl_purse_table.l1] at h, fun _ _ _ _ _ _ _ _ _ r h => by simp [impl_purse_table.l2] at h, fun _ _ _ _ _ _ _ _ _ _ r h => by simp [impl_purse_table.j3] at h, fun _ _ _ _ _ _ _ _ _ _ _ _ r h => by simp [impl_purse_table.j4] at h⟩
  | k + 1 => by
    obtain ⟨ih0, ih1, ih2, ih3, ih4⟩ := impl_purse_table.mono_l k
    refine ⟨?_, ?_, ?_, ?_, ?_⟩
    · intro y0 y1 y2 y3 y4
      unfold impl_purse_table.l0
      repeat' first
      | (with_reducible exact ih0 _ _ _ _ _)
      | (with_reducible exact ih1 _ _ _ _ _ _ _)
      | (with_reducible exact ih2 _ _ _ _ _ _ _ _ _)
      | (with_reducible exact ih3 _ _ _ _ _ _ _ _ _ _)
      | (with_reducible exact ih4 _ _ _ _ _ _ _ _ _ _ _ _)
      | (with_reducible exact LeO.refl _)
      | (with_reducible exact LeO.none _)
      | (with_reducible refine LeO.ite ?_ ?_)
      | (with_reducible refine LeO.bind ?_ (fun _ => ?_))
      | exact ih0 _ _ _ _ _
      | exact ih1 _ _ _ _ _ _ _
      | exact ih2 _ _ _ _ _ _ _ _ _
      | exact ih3 _ _ _ _ _ _ _ _ _ _
      | exact ih4 _ _ _ _ _ _ _ _ _ _ _ _
      | exact LeO.none _
      | refine LeO.ite ?_ ?_
      | refine LeO.bind ?_ (fun _ => ?_)
    · intro y0 y1 y2 y3 y4 y5 y6
      unfold impl_purse_table.l1
      repeat' first
      | (with_reducible exact ih0 _ _ _ _ _)
      | (with_reducible exact ih1 _ _ _ _ _ _ _)
      | (with_reducible exact ih2 _ _ _ _ _ _ _ _ _)
      | (with_reducible exact ih3 _ _ _ _ _ _ _ _ _ _)
      | (with_reducible exact ih4 _ _ _ _ _ _ _ _ _ _ _ _)
      | (with_reducible exact LeO.refl _)
      | (with_reducible exact LeO.none _)
      | (with_reducible refine LeO.ite ?_ ?_)
      | (with_reducible refine LeO.bind ?_ (fun _ => ?_))
      | exact ih0 _ _ _ _ _
      | exact ih1 _ _ _ _ _ _ _
      | exact ih2 _ _ _ _ _ _ _ _ _
      | exact ih3 _ _ _ _ _ _ _ _ _ _
      | exact ih4 _ _ _ _ _ _ _ _ _ _ _ _
      | exact LeO.none _
      | refine LeO.ite ?_ ?_
      | refine LeO.bind ?_ (fun _ => ?_)
    · intro y0 y1 y2 y3 y4 y5 y6 y7 y8
      unfold impl_purse_table.l2
      repeat' first
      | (with_reducible exact ih0 _ _ _ _ _)
      | (with_reducible exact ih1 _ _ _ _ _ _ _)
      | (with_reducible exact ih2 _ _ _ _ _ _ _ _ _)
      | (with_reducible exact ih3 _ _ _ _ _ _ _ _ _ _)
      | (with_reducible exact ih4 _ _ _ _ _ _ _ _ _ _ _ _)
      | (with_reducible exact LeO.refl _)
      | (with_reducible exact LeO.none _)
      | (with_reducible refine LeO.ite ?_ ?_)
      | (with_reducible refine LeO.bind ?_ (fun _ => ?_))
      | exact ih0 _ _ _ _ _
      | exact ih1 _ _ _ _ _ _ _
      | exact ih2 _ _ _ _ _ _ _ _ _
      | exact ih3 _ _ _ _ _ _ _ _ _ _
      | exact ih4 _ _ _ _ _ _ _ _ _ _ _ _
      | exact LeO.none _
      | refine LeO.ite ?_ ?_
      | refine LeO.bind ?_ (fun _ => ?_)
    · intro y0 y1 y2 y3 y4 y5 y6 y7 y8 y9
      unfold impl_purse_table.j3
      repeat' first
      | (with_reducible exact ih0 _ _ _ _ _)
      | (with_reducible exact ih1 _ _ _ _ _ _ _)
      | (with_reducible exact ih2 _ _ _ _ _ _ _ _ _)
      | (with_reducible exact ih3 _ _ _ _ _ _ _ _ _ _)
      | (with_reducible exact ih4 _ _ _ _ _ _ _ _ _ _ _ _)
      | (with_reducible exact LeO.refl _)
      | (with_reducible exact LeO.none _)
      | (with_reducible refine LeO.ite ?_ ?_)
      | (with_reducible refine LeO.bind ?_ (fun _ => ?_))
      | exact ih0 _ _ _ _ _
      | exact ih1 _ _ _ _ _ _ _
      | exact ih2 _ _ _ _ _ _ _ _ _
      | exact ih3 _ _ _ _ _ _ _ _ _ _
      | exact ih4 _ _ _ _ _ _ _ _ _ _ _ _
      | exact LeO.none _
      | refine LeO.ite ?_ ?_
      | refine LeO.bind ?_ (fun _ => ?_)
    · intro y0 y1 y2 y3 y4 y5 y6 y7 y8 y9 y10 y11
      unfold impl_purse_table.j4
      repeat' first
      | (with_reducible exact ih0 _ _ _ _ _)
      | (with_reducible exact ih1 _ _ _ _ _ _ _)
      | (with_reducible exact ih2 _ _ _ _ _ _ _ _ _)
      | (with_reducible exact ih3 _ _ _ _ _ _ _ _ _ _)
      | (with_reducible exact ih4 _ _ _ _ _ _ _ _ _ _ _ _)
      | (with_reducible exact LeO.refl _)
      | (with_reducible exact LeO.none _)
      | (with_reducible refine LeO.ite ?_ ?_)
      | (with_reducible refine LeO.bind ?_ (fun _ => ?_))
      | exact ih0 _ _ _ _ _
      | exact ih1 _ _ _ _ _ _ _
      | exact ih2 _ _ _ _ _ _ _ _ _
      | exact ih3 _ _ _ _ _ _ _ _ _ _
      | exact ih4 _ _ _ _ _ _ _ _ _ _ _ _
      | exact LeO.none _
      | refine LeO.ite ?_ ?_
      | refine LeO.bind ?_ (fun _ => ?_)
theorem impl_purse_table.mono : ∀ a0 a1 a2 k, LeO (impl_purse_table.f k a0 a1 a2) (impl_purse_table.f (k + 1) a0 a1 a2) := by
  intro a0 a1 a2 k
  obtain ⟨ih0, ih1, ih2, ih3, ih4⟩ := impl_purse_table.mono_l k
  unfold impl_purse_table.f
  repeat' first
      | (with_reducible exact ih0 _ _ _ _ _)
      | (with_reducible exact ih1 _ _ _ _ _ _ _)
      | (with_reducible exact ih2 _ _ _ _ _ _ _ _ _)
      | (with_reducible exact ih3 _ _ _ _ _ _ _ _ _ _)
      | (with_reducible exact ih4 _ _ _ _ _ _ _ _ _ _ _ _)
      | (with_reducible exact LeO.refl _)
      | (with_reducible exact LeO.none _)
      | (with_reducible refine LeO.ite ?_ ?_)
      | (with_reducible refine LeO.bind ?_ (fun _ => ?_))
      | exact ih0 _ _ _ _ _
      | exact ih1 _ _ _ _ _ _ _
      | exact ih2 _ _ _ _ _ _ _ _ _
      | exact ih3 _ _ _ _ _ _ _ _ _ _
      | exact ih4 _ _ _ _ _ _ _ _ _ _ _ _
      | exact LeO.none _
      | refine LeO.ite ?_ ?_
      | refine LeO.bind ?_ (fun _ => ?_)
def impl_purse_table.T14 : Bool × List (List Nat × List Nat) := (true, [([], []), ([], []), ([1], [1]), ([0, 2], [0, 2]), ([3], [3]), ([], []), ([], []), ([], []), ([7], [7]), ([], []), ([8, 9], [8, 9]), ([10], [10]), ([6, 11], [6, 11]), ([5, 12], [5, 12]), ([4, 13], [4, 13]), ([14], [14]), ([], []), ([16, 15, 0, 1, 2, 3, 4, 5, 6, 7, 8, 9, 10, 11, 12, 13, 14, 15, 16], [15, 16])])
def impl_purse_table.B14 : List Nat := [0, 0, 2, 7, 15, 0, 0, 0, 128, 0, 896, 1920, 4032, 8160, 16383, 32767, 0, 131071]
theorem impl_purse_table.tab14 : rtab .any (opsOf Try.f60 14) = impl_purse_table.T14 := by kernel_rfl
theorem impl_purse_table.bits14 : waitsOk impl_purse_table.T14.2 impl_purse_table.B14 = true := by kernel_rfl
def impl_purse_table.T18 : Bool × List (List Nat × List Nat) := (true, [([], []), ([], []), ([0, 1], [0, 1]), ([2], [2]), ([], []), ([], []), ([5], [5]), ([], []), ([6, 7], [6, 7]), ([3, 4, 0, 1, 2, 3, 4, 5, 6, 7, 8], [3, 4]), ([9, 0, 1, 2, 3, 4, 5, 6, 7, 8], [9]), ([10, 8, 0, 1, 2, 3, 4, 5, 6, 7, 8], [8, 10])])
def impl_purse_table.B18 : List Nat := [0, 0, 3, 7, 0, 0, 32, 0, 224, 511, 1023, 2047]
theorem impl_purse_table.tab18 : rtab .any (opsOf Try.f60 18) = impl_purse_table.T18 := by kernel_rfl
theorem impl_purse_table.bits18 : waitsOk impl_purse_table.T18.2 impl_purse_table.B18 = true := by kernel_rfl
def impl_purse_table.T19 : Bool × List (List Nat × List Nat) := (true, [([], []), ([], []), ([0, 1], [0, 1]), ([2], [2]), ([], []), ([3, 4], [3, 4]), ([5], [5]), ([6], [6]), ([], []), ([8], [8]), ([7, 9], [7, 9]), ([3, 4, 0, 1, 2, 3, 4, 5, 6, 7, 8, 9, 10], [3, 4]), ([11, 0, 1, 2, 3, 4, 5, 6, 7, 8, 9, 10], [11]), ([12, 10, 0, 1, 2, 3, 4, 5, 6, 7, 8, 9, 10], [10, 12])])
def impl_purse_table.B19 : List Nat := [0, 0, 3, 7, 0, 31, 63, 127, 0, 256, 1023, 2047, 4095, 8191]
theorem impl_purse_table.tab19 : rtab .any (opsOf Try.f60 19) = impl_purse_table.T19 := by kernel_rfl
theorem impl_purse_table.bits19 : waitsOk impl_purse_table.T19.2 impl_purse_table.B19 = true := by kernel_rfl
set_option maxHeartbeats 8000000 in
set_option maxRecDepth 100000 in
theorem impl_purse_table.calls (k : Nat) (A0_0 : Option Addr) (c0_0 : Nat) (l0_0 : List Int) (A0_1 : Option Addr) (c0_1 : Nat) (l0_1 : List Int) (a1 : Int) (r : List (List (S77))) (w : World) (hr0_0 : Kd.C (Kd.int .i64) w A0_0 l0_0.length l0_0) (hc0_0 : l0_0.length ≤ c0_0) (hr0_1 : Kd.C (Kd.int .i64) w A0_1 l0_1.length l0_1) (hc0_1 : l0_1.length ≤ c0_1) (h : impl_purse_table.f k l0_0 l0_1 a1 = some r) :
    Calls Try.prog 60 #[.agg #[.slice A0_0 l0_0.length c0_0, .slice A0_1 l0_1.length c0_1], .int .i64 a1] w fun e w' => ∃ v0_ : Value, e = .returned (v0_) ∧ Kd.S (Kd.slice 77 k77) 78 w' w.heap.size (fun _ => True) v0_ r ∧ Below w.heap.size w w' := by
  have hu60 := Try.underlying60
  have hu77 := Try.underlying77
  have HR0_0 := Aside0.mk hr0_0
  have HC0_0 := Aside0.mk hc0_0
  clear hr0_0 hc0_0
  have HR0_1 := Aside0.mk hr0_1
  have HC0_1 := Aside0.mk hc0_1
  clear hr0_1 hc0_1
  have HB := Aside0.mk (Below.refl w.heap.size w)
  have H : (if 0 ≤ (wrap64 ((l0_0.length : Int) + 1)) then (if (wrap64 ((l0_0.length : Int) + 1) : Int).toNat ≤ 11728124029610 then (impl_purse_table.l0 k a1 (List.replicate (wrap64 ((l0_0.length : Int) + 1) : Int).toNat []) (l0_0.length : Int) l0_0 l0_1) else (none)) else (none)) = some r := h
  clear h
  obtain ⟨ji3, hji3⟩ : ∃ j_ : Int, (wrap64 ((l0_0.length : Int) + 1)) = j_ := ⟨_, rfl⟩
  replace H : (if 0 ≤ (ji3) then (if (ji3 : Int).toNat ≤ 11728124029610 then (impl_purse_table.l0 k a1 (List.replicate (ji3 : Int).toNat []) (l0_0.length : Int) l0_0 l0_1) else (none)) else (none)) = some r := by first | (rw [hji3] at H; exact H) | (simp only [hji3] at H ⊢; exact H)
  have hji3w : (IntKind.i64.wrap ((l0_0.length : Int) + 1)) = ji3 := (i64_w _).trans hji3
  by_cases c4 : 0 ≤ (ji3)
  rotate_left
  · rw [if_neg c4] at H
    exact absurd H (by simp)
  rw [if_pos c4] at H
  have c4b0 := eq_true c4
  have c4b1 : decide (0 ≤ (ji3)) = true := decide_eq_true c4
  clear c4
  by_cases c5 : (ji3 : Int).toNat ≤ 11728124029610
  rotate_left
  · rw [if_neg c5] at H
    exact absurd H (by simp)
  rw [if_pos c5] at H
  have c5b0 := eq_true c5
  have c5b1 : decide ((ji3 : Int).toNat ≤ 11728124029610) = true := decide_eq_true c5
  clear c5
  obtain ⟨y395, hy395⟩ : ∃ y_ : List (List (S77)), y_ = (List.replicate (ji3 : Int).toNat []) := ⟨_, rfl⟩
  replace H : (impl_purse_table.l0 k a1 y395 (l0_0.length : Int) l0_0 l0_1) = some r := by first | (rw [hy395]; with_reducible exact H) | (have H2_ := (Option.bind_some _ _).symm.trans H; rw [hy395]; with_reducible exact H2_) | (have H2_ := (Option.bind_some _ _).symm.trans H; with_reducible exact H2_) | with_reducible exact H | (rw [hy395]; exact H) | exact H
  have Ny395 := Aside0.mk hy395
  clear hy395
  have H' := Aside0.mk H
  clear H
  go_enter Try.func60, Try.ntmps60
  go_wp2_with (first | ((with_reducible refine gate_dst (N := 2) rfl ?_); refine box_event ?hg (N := 2) ?hd (cs := #[.slice A0_0 l0_0.length c0_0, .slice A0_1 l0_1.length c0_1]) (t := 60) ?hr ?_; (case hd => rfl); (case hg => rfl); (case hr => first | (go_simp; done) | (go_simp; rfl)); intro gb394 hg w6 hbox hb; have n0_ := Aside0.mk (below_step (by repeat (first | (with_reducible first | exact HB.out | apply below_alloc | apply pw_below_drewN | apply below_drew1) | exact HB.out)) hb); have n1_ := Aside0.mk (hbox); have n2_ := Aside0.mk ((by rw [hg]; exact (below_size (by repeat (first | (with_reducible first | exact HB.out | apply below_alloc | apply pw_below_drewN | apply below_drew1) | exact HB.out))) : w.heap.size ≤ gb394)); have n3_ := Aside0.mk ((by rw [hg]; exact (below_size (by repeat (first | (with_reducible first | exact HB.out | apply below_alloc | apply pw_below_drewN | apply below_drew1) | exact HB.out))) : w.heap.size ≤ gb394)); clear HB; have HB := n0_; have BK394 := n1_; have GW394 := n2_; have GE394 := n3_; clear n0_ n1_ n2_ n3_; clear hb hbox hg; have hcz7_0 : w6.cell? ⟨gb394, 0, none⟩ = some (.slice A0_0 l0_0.length c0_0) := (blk_cell BK394.out 0).trans rfl; have hcz7_1 : w6.cell? ⟨gb394, 1, none⟩ = some (.slice A0_1 l0_1.length c0_1) := (blk_cell BK394.out 1).trans rfl; have hfz7_0 := blk_frozen BK394.out 0; have hfz7_1 := blk_frozen BK394.out 1) | ((with_reducible refine gate_dst (N := 15) rfl ?_); refine Kd.S_make (Kd.slice 77 k77) _ 78 rfl (N := 15) rfl 74 _ _ rfl ji3 rfl rfl Try.underlying74 (.slice none 0 0) 24 info78 rfl (by decide) (by omega) [] (ok := fun _ => True) (okp := fun _ => True) ⟨_, rfl, Kd.R_nil _ _ _ _ _⟩ (fun _ hk => hk) trivial (of_decide_eq_true (by first | (with_reducible assumption) | assumption)) (Nat.le_trans (Nat.mul_le_mul_right _ (of_decide_eq_true (by first | (with_reducible assumption) | assumption) : ji3.toNat ≤ 11728124029610)) (by omega)) (Below.refl _ _) (Nat.le_refl _) ?_; intro v396 w8 ho9 hb hg_ hnew_; clear hg_ hnew_; (first | rw [← Ny395.out] at ho9 | (simp only [Int.reduceToNat] at ho9; rw [← Ny395.out] at ho9)); have n0_ := Aside0.mk (Kd.S_lower ho9 (below_size (by repeat (first | (with_reducible first | exact HB.out | apply below_alloc | apply pw_below_drewN | apply below_drew1 | refine below_set ?_ GE394.out) | exact HB.out)))); have n1_ := Aside0.mk (blk_below (g := gb394) (o := .cells #[.slice A0_0 l0_0.length c0_0, .slice A0_1 l0_1.length c0_1] 60 (0, 0)) (by (with_reducible repeat (first | refine blk_drewN ?_ _ | refine blk_drew ?_ | refine blk_alloc ?_ _)); exact BK394.out) hb); have n2_ := Aside0.mk (below_step (by repeat (first | (with_reducible first | exact HB.out | apply below_alloc | apply pw_below_drewN | apply below_drew1 | refine below_set ?_ GE394.out) | exact HB.out)) hb); clear BK394; clear HB; have HO397 := n0_; have BK394 := n1_; have HB := n2_; clear n0_ n1_ n2_; clear hb ho9; have hcz10_0 : w8.cell? ⟨gb394, 0, none⟩ = some (.slice A0_0 l0_0.length c0_0) := (blk_cell BK394.out 0).trans rfl; have hcz10_1 : w8.cell? ⟨gb394, 1, none⟩ = some (.slice A0_1 l0_1.length c0_1) := (blk_cell BK394.out 1).trans rfl; have hfz10_0 := blk_frozen BK394.out 0; have hfz10_1 := blk_frozen BK394.out 1))
  go_loopg [6] k (fun kq v6 w' => ∃ (x5_1 : List (List (S77))) (x6_1 : Int), v6 = .int .i64 x6_1 ∧ Aside0 (impl_purse_table.l0 kq a1 x5_1 x6_1 l0_0 l0_1 = some r) ∧ Aside0 (kq ≤ k) ∧ Aside0 (Kd.S (Kd.slice 77 k77) 78 w' w.heap.size (fun _ => True) v396 x5_1) ∧ Aside0 (w'.heap[gb394]? = some (.cells #[(.slice A0_0 l0_0.length c0_0), (.slice A0_1 l0_1.length c0_1)] 60 (0, 0))) ∧ Aside0 (Below w.heap.size w w'))
  case atStart => exact ⟨(y395), ((l0_0.length : Int)), (by first | rfl | (simp; done) | (simp [*]; done)), H', ⟨Nat.le_refl _⟩, ⟨by (with_reducible repeat (first | apply Kd.S_alloc | apply Kd.S_drewN | apply Kd.S_drew)); exact HO397.out⟩, ⟨by (with_reducible repeat (first | refine blk_drewN ?_ _ | refine blk_drew ?_ | refine blk_alloc ?_ _)); exact BK394.out⟩, ⟨by repeat (first | (with_reducible first | exact HB.out | apply below_alloc | apply pw_below_drewN | apply below_drew1 | refine below_set ?_ GE394.out) | exact HB.out)⟩⟩
  case round =>
    clear H'
    try clear p2
    try clear c4
    try clear c4b0
    try clear c4b1
    try clear c5
    try clear c5b0
    try clear c5b1
    try clear c6
    try clear p6
    try clear hcz10_0
    try clear hcz10_1
    try clear hcz7_0
    try clear hcz7_1
    try clear hfz10_0
    try clear hfz10_1
    try clear hfz7_0
    try clear hfz7_1
    obtain ⟨x5_1, x6_1, rfl, HA, HK1, HO_5, BK394, HB⟩ := hrel
    cases gk with
    | zero => exact absurd HA.out (by simp [impl_purse_table.l0])
    | succ k1 =>
      have H := HA.out
      clear HA
      simp only [impl_purse_table.l0] at H
      by_cases c11 : x6_1 ≥ 0
      rotate_left
      · rw [if_neg c11] at H
        have c11b0 : decide (0 ≤ x6_1) = false := decide_eq_false c11
        clear c11
        obtain rfl := Option.some.inj H
        go_wp2
        go_ret
        exact ⟨_, by first | rfl | (simp [errW_none, errW_some] <;> rfl) | (simp only [← hji3]; first | rfl | (simp [errW_none, errW_some] <;> rfl)) | (simp [*, errW_none, errW_some] <;> rfl), by (with_reducible repeat (first | apply Kd.S_alloc | apply Kd.S_drewN | apply Kd.S_drew)); exact HO_5.out, by repeat (first | (with_reducible first | exact HB.out | apply below_alloc | apply pw_below_drewN | apply below_drew1 | refine below_set ?_ GE394.out) | exact HB.out)⟩
      rw [if_pos c11] at H
      have c11b0 : decide (0 ≤ x6_1) = true := decide_eq_true c11
      clear c11
      obtain ⟨ji12, hji12⟩ : ∃ j_ : Int, (wrap64 (a1 + 1)) = j_ := ⟨_, rfl⟩
      replace H : (if 0 ≤ (ji12) then (if (ji12 : Int).toNat ≤ 17592186044416 then (if 0 ≤ x6_1 then (if x6_1 < (x5_1.length : Int) then ((some (x5_1.set (x6_1 : Int).toNat (List.replicate (ji12 : Int).toNat z77) : List (List (S77)))).bind fun y401 => (if x6_1 = (l0_0.length : Int) then (if 0 < ((rd_L7 y401 x6_1).length : Int) then (impl_purse_table.l0 k1 a1 (y401.set (x6_1 : Int).toNat ((rd_L7 y401 x6_1).set (0 : Int).toNat (⟨1, 0⟩ : S77))) (wrap64 (x6_1 - 1)) l0_0 l0_1) else (none)) else (impl_purse_table.l1 k1 a1 y401 x6_1 ji12 0 l0_0 l0_1))) else (none)) else (none)) else (none)) else (none)) = some r := by first | (rw [hji12] at H; exact H) | (simp only [hji12] at H ⊢; exact H)
      have hji12w : (IntKind.i64.wrap (a1 + 1)) = ji12 := (i64_w _).trans hji12
      by_cases c13 : 0 ≤ (ji12)
      rotate_left
      · rw [if_neg c13] at H
        exact absurd H (by simp)
      rw [if_pos c13] at H
      have c13b0 := eq_true c13
      have c13b1 : decide (0 ≤ (ji12)) = true := decide_eq_true c13
      clear c13
      by_cases c14 : (ji12 : Int).toNat ≤ 17592186044416
      rotate_left
      · rw [if_neg c14] at H
        exact absurd H (by simp)
      rw [if_pos c14] at H
      have c14b0 := eq_true c14
      have c14b1 : decide ((ji12 : Int).toNat ≤ 17592186044416) = true := decide_eq_true c14
      clear c14
      obtain ⟨y398, hy398⟩ : ∃ y_ : List (S77), y_ = (List.replicate (ji12 : Int).toNat z77) := ⟨_, rfl⟩
      replace H : (if 0 ≤ x6_1 then (if x6_1 < (x5_1.length : Int) then ((some (x5_1.set (x6_1 : Int).toNat y398 : List (List (S77)))).bind fun y401 => (if x6_1 = (l0_0.length : Int) then (if 0 < ((rd_L7 y401 x6_1).length : Int) then (impl_purse_table.l0 k1 a1 (y401.set (x6_1 : Int).toNat ((rd_L7 y401 x6_1).set (0 : Int).toNat (⟨1, 0⟩ : S77))) (wrap64 (x6_1 - 1)) l0_0 l0_1) else (none)) else (impl_purse_table.l1 k1 a1 y401 x6_1 ji12 0 l0_0 l0_1))) else (none)) else (none)) = some r := by first | (rw [hy398]; with_reducible exact H) | (have H2_ := (Option.bind_some _ _).symm.trans H; rw [hy398]; with_reducible exact H2_) | (have H2_ := (Option.bind_some _ _).symm.trans H; with_reducible exact H2_) | with_reducible exact H | (rw [hy398]; exact H) | exact H
      have Ny398 := Aside0.mk hy398
      clear hy398
      by_cases c15 : 0 ≤ x6_1
      rotate_left
      · rw [if_neg c15] at H
        exact absurd H (by simp)
      rw [if_pos c15] at H
      have c15b0 : decide (0 ≤ x6_1) = true := decide_eq_true c15
      clear c15
      by_cases c16 : x6_1 < (x5_1.length : Int)
      rotate_left
      · rw [if_neg c16] at H
        exact absurd H (by simp)
      rw [if_pos c16] at H
      have c16b0 : decide (x6_1 < (x5_1.length : Int)) = true := decide_eq_true c16
      clear c16
      obtain ⟨y401, hy401⟩ : ∃ y_ : List (List (S77)), y_ = (x5_1.set (x6_1 : Int).toNat y398) := ⟨_, rfl⟩
      replace H : (if x6_1 = (l0_0.length : Int) then (if 0 < ((rd_L7 y401 x6_1).length : Int) then (impl_purse_table.l0 k1 a1 (y401.set (x6_1 : Int).toNat ((rd_L7 y401 x6_1).set (0 : Int).toNat (⟨1, 0⟩ : S77))) (wrap64 (x6_1 - 1)) l0_0 l0_1) else (none)) else (impl_purse_table.l1 k1 a1 y401 x6_1 ji12 0 l0_0 l0_1)) = some r := by first | (rw [hy401]; with_reducible exact H) | (have H2_ := (Option.bind_some _ _).symm.trans H; rw [hy401]; with_reducible exact H2_) | (have H2_ := (Option.bind_some _ _).symm.trans H; with_reducible exact H2_) | with_reducible exact H | (rw [hy401]; exact H) | exact H
      have Ny401 := Aside0.mk hy401
      clear hy401
      by_cases c18 : x6_1 = (l0_0.length : Int)
      rotate_left
      · rw [if_neg c18] at H
        have c18b0 : (x6_1 == (l0_0.length : Int)) = false := beq_eq_false_iff_ne.mpr c18
        have c18b1 : (x6_1 != (l0_0.length : Int)) = true := bne_iff_ne.mpr c18
        have H' := Aside0.mk H
        clear H
        go_wp2_with (first | ((with_reducible refine gate_dst (N := 27) rfl ?_); refine Kd.R_make k77 _ 77 rfl (N := 27) rfl 78 _ _ rfl ji12 rfl rfl Try.underlying78 (.agg #[(.int .i64 0), (.int .i64 0)]) 16 info77 rfl (by decide) (by omega) z77 (ok := fun _ => True) (okp := fun _ => True) (k77_mkM _ _ _ z77 ) (fun _ hk => hk) trivial (of_decide_eq_true (by first | (with_reducible assumption) | assumption)) (Nat.le_trans (Nat.mul_le_mul_right _ (of_decide_eq_true (by first | (with_reducible assumption) | assumption) : ji12.toNat ≤ 17592186044416)) (by omega)) (Below.refl _ _) (Nat.le_refl _) ?_; intro v399 w28 ho29 hb hg_ hnew_; clear hg_ hnew_; (first | rw [← Ny398.out] at ho29 | (simp only [Int.reduceToNat] at ho29; rw [← Ny398.out] at ho29)); have n0_ := Aside0.mk (Kd.S_elder' (by (with_reducible repeat (first | apply Kd.S_alloc | apply Kd.S_drewN | apply Kd.S_drew)); exact HO_5.out) (Kd.R_base ho29) hb); have n1_ := Aside0.mk (Kd.R_lower ho29 (below_size (by repeat (first | (with_reducible first | exact HB.out | apply below_alloc | apply pw_below_drewN | apply below_drew1 | refine below_set ?_ GE394.out) | exact HB.out)))); have n2_ := Aside0.mk (blk_below (g := gb394) (o := .cells #[.slice A0_0 l0_0.length c0_0, .slice A0_1 l0_1.length c0_1] 60 (0, 0)) (by (with_reducible repeat (first | refine blk_drewN ?_ _ | refine blk_drew ?_ | refine blk_alloc ?_ _)); exact BK394.out) hb); have n3_ := Aside0.mk (below_step (by repeat (first | (with_reducible first | exact HB.out | apply below_alloc | apply pw_below_drewN | apply below_drew1 | refine below_set ?_ GE394.out) | exact HB.out)) hb); clear HO_5; clear BK394; clear HB; have HO_5 := n0_; have HO400 := n1_; have BK394 := n2_; have HB := n3_; clear n0_ n1_ n2_ n3_; clear hb ho29; have p17 : 0 ≤ (x6_1 : Int) := of_decide_eq_true (by first | (with_reducible assumption) | assumption); have q17 : (x6_1 : Int) < ((x5_1.length : Int) : Int) := of_decide_eq_true (by first | (with_reducible assumption) | assumption); obtain ⟨go17, co17, eo17, gb17, gl17, cl17, HG17⟩ := Kd.S_form HO_5.out (by omega); (first | cases eo17 | (injection eo17 with ea_ en_ ec_; (first | subst ea_ | (injection ea_ with ea_; subst ea_)); subst ec_; clear en_)); have GB17 := Aside0.mk gb17; have GG17 := Aside0.mk HG17; clear gb17 gl17 HG17; obtain ⟨_, ce17, hcl17, hM17, hcc17, hfr17, _, _⟩ := Kd.S_elem HO_5.out [] (x6_1 : Int) p17 q17; obtain ⟨ve17_0, rfl, ge17_0⟩ := id hM17; have hx17_0 := hcc17 0 _ rfl; have hf17_0 := hfr17 0; (try simp only [show ((Kd.slice 77 k77)).sz = 1 from rfl, Nat.mul_one, Nat.add_zero] at hx17_0); (try simp only [show ((Kd.slice 77 k77)).sz = 1 from rfl, Nat.mul_one, Nat.add_zero] at hf17_0); clear hcl17 hcc17 hfr17 hM17; replace p17 := eq_true p17; replace q17 := eq_true q17; have n_ := Aside0.mk (Kd.S_mono (ok' := (fun k_ => some k_ ≠ (v399 : Value).ownBlock)) HO_5.out (fun k_ hk => hk.2)); clear HO_5; have HO_5 := n_; clear n_; have HX30 := Aside0.mk (show Kd.S (Kd.slice 77 k77) 78 w28 w.heap.size (fun k_ => ((fun _ => True)) k_ ∧ ¬ ((fun k_ => some k_ = (v399 : Value).ownBlock)) k_) (.slice (some ⟨go17, 0, none⟩) x5_1.length co17) x5_1 from (by (with_reducible repeat (first | apply Kd.S_alloc | apply Kd.S_drewN | apply Kd.S_drew)); exact Kd.S_mono HO_5.out (fun k_ hk => ⟨trivial, fun e_ => hk e_⟩))); obtain ⟨oki30, ce30, hcl30, hM30, hcc30, hfr30, hoki30, hH30⟩ := Kd.S_elem HX30.out [] (x6_1 : Int) (of_decide_eq_true (by first | (with_reducible assumption) | assumption)) (by have h_ : (x6_1 : Int) < ((x5_1.length : Int) : Int) := of_decide_eq_true (by first | (with_reducible assumption) | assumption); first | exact h_ | (have e_ := (Kd.S_reads' HO_5.out).1; omega) | simpa using h_); obtain ⟨ve30_0, rfl, ge30_0⟩ := id hM30; have HP30 := Kd.S_seg hH30 (of_decide_eq_true (by first | (with_reducible assumption) | assumption)) (by have h_ : (x6_1 : Int) < ((x5_1.length : Int) : Int) := of_decide_eq_true (by first | (with_reducible assumption) | assumption); first | exact h_ | (have e_ := (Kd.S_reads' HO_5.out).1; omega) | simpa using h_) (seg := [v399]) (j := 0) (show 1 ≤ 1 from by decide) (x' := y398) (Kd.M_row (Kd.R_mono (Kd.R_tight rfl (Kd.R_mono (ok' := fun k_ => ((fun _ => True)) k_ ∧ k_ ≠ go17) (Kd.R_apart' (HO400.out) (Kd.S_typed HO_5.out) (by decide)) (fun k_ hk => ⟨trivial, fun e_ => (hk.2) (by rw [e_]; rfl)⟩))) (fun _ h_ => Or.inr (h_)))) (fun _ hk => hk) (fun k_ hk_ => ((Kd.R_mono (ok' := fun k_ => ((fun _ => True)) k_ ∧ k_ ≠ go17) (Kd.R_apart' (HO400.out) (Kd.S_typed HO_5.out) (by decide)) (fun k_ hk => ⟨trivial, fun e_ => (hk.2) (by rw [e_]; rfl)⟩))).1 k_ hk_.symm); have hx30_0 := hcc30 0 _ rfl; (try simp only [show ((Kd.slice 77 k77)).sz = 1 from rfl, Nat.mul_one, Nat.add_zero] at hx30_0); have hf30_0 := hfr30 0; (try simp only [show ((Kd.slice 77 k77)).sz = 1 from rfl, Nat.mul_one, Nat.add_zero] at hf30_0); clear hcl30 hcc30 hfr30 hM30 hoki30 hH30; (try simp only [show ((Kd.slice 77 k77)).sz = 1 from rfl, Nat.mul_one, Nat.add_zero] at HP30)) | ((with_reducible refine gate_store (t := 78) (p := 28) rfl ?_); refine store_event (t := 78) (p := 28) (v := ?vo_w31) (w1 := (w28.setCell ⟨go17, (x6_1 : Int).toNat, none⟩ (v399))) ?hg ?ho ?hn ?hr ?_; (case ho => rfl); (case hg => rfl); (case hn => rfl); (case hr => first | (go_simp; done) | (go_simp; rfl) | (obtain ⟨Az_, cz_, ez_⟩ := Kd.R_slice HO400.out; rw [ez_]; first | (go_simp; done) | (go_simp; rfl)) | (obtain ⟨Az_, cz_, ez_⟩ := Kd.S_slice HO400.out; rw [ez_]; first | (go_simp; done) | (go_simp; rfl)) | (obtain ⟨Az_, cz_, ez_⟩ := Kd.N_slice HO400.out; rw [ez_]; first | (go_simp; done) | (go_simp; rfl)) | (obtain ⟨Az_, cz_, ez_⟩ := Kd.Q_slice HO400.out; rw [ez_]; first | (go_simp; done) | (go_simp; rfl)) | (obtain ⟨Az_, cz_, ez_⟩ := Kd.V_slice HO400.out; rw [ez_]; first | (go_simp; done) | (go_simp; rfl))); intro w31 hw; have hg : w28.grownBy w31 (some go17) := (by rw [hw]; exact HP30.2); have hp_ : Kd.S (Kd.slice 77 k77) 78 w31 w.heap.size (fun _ => True) (.slice (some ⟨go17, 0, none⟩) x5_1.length co17) y401 := (by rw [hw, Ny401.out]; exact HP30.1); clear HP30; have n0_ := Aside0.mk (hp_); have n1_ := Aside0.mk (blk_grown (g := gb394) (o := .cells #[.slice A0_0 l0_0.length c0_0, .slice A0_1 l0_1.length c0_1] 60 (0, 0)) (by (with_reducible repeat (first | refine blk_drewN ?_ _ | refine blk_drew ?_ | refine blk_alloc ?_ _)); exact BK394.out) hg (Kd.S_ne HO_5.out BK394.out (by decide))); have n2_ := Aside0.mk ((by rw [hw]; exact below_set (HB.out) GB17.out : Below w.heap.size w w31)); clear HO_5; clear BK394; clear HB; clear HO400; have HO_5 := n0_; have BK394 := n1_; have HB := n2_; clear n0_ n1_ n2_; clear hg hw hp_; have hcz32_0 : w31.cell? ⟨gb394, 0, none⟩ = some (.slice A0_0 l0_0.length c0_0) := (blk_cell BK394.out 0).trans rfl; have hcz32_1 : w31.cell? ⟨gb394, 1, none⟩ = some (.slice A0_1 l0_1.length c0_1) := (blk_cell BK394.out 1).trans rfl; have hfz32_0 := blk_frozen BK394.out 0; have hfz32_1 := blk_frozen BK394.out 1))
        go_loopg [42] k1 (fun kq v42 w' => ∃ (x5_2 : List (List (S77))) (x42_2 : Int), v42 = .int .i64 x42_2 ∧ Aside0 (impl_purse_table.l1 kq a1 x5_2 x6_1 ji12 x42_2 l0_0 l0_1 = some r) ∧ Aside0 (kq ≤ k1) ∧ Aside0 (Kd.S (Kd.slice 77 k77) 78 w' w.heap.size (fun _ => True) (.slice (some ⟨go17, 0, none⟩) x5_1.length co17) x5_2) ∧ Aside0 (w'.heap[gb394]? = some (.cells #[(.slice A0_0 l0_0.length c0_0), (.slice A0_1 l0_1.length c0_1)] 60 (0, 0))) ∧ Aside0 (Below w.heap.size w w'))
        case atStart => exact ⟨(y401), (0), (by first | rfl | (simp; done) | (simp [*]; done)), H', ⟨Nat.le_refl _⟩, ⟨by (with_reducible repeat (first | apply Kd.S_alloc | apply Kd.S_drewN | apply Kd.S_drew)); exact HO_5.out⟩, ⟨by (with_reducible repeat (first | refine blk_drewN ?_ _ | refine blk_drew ?_ | refine blk_alloc ?_ _)); exact BK394.out⟩, ⟨by repeat (first | (with_reducible first | exact HB.out | apply below_alloc | apply pw_below_drewN | apply below_drew1 | refine below_set ?_ GE394.out) | exact HB.out)⟩⟩
        case round =>
          clear H'
          try clear c1
          try clear p1
          try clear q1
          try clear hx1
          try clear c2
          try clear p2
          try clear q2
          try clear hx2
          try clear qi2
          try clear hf2
          try clear c3
          try clear hx3
          try clear hf3
          try clear c4
          try clear c4b0
          try clear c4b1
          try clear p4
          try clear q4
          try clear hx4
          try clear c5
          try clear c5b0
          try clear c5b1
          try clear c6
          try clear p6
          try clear c11
          try clear c11b0
          try clear c13
          try clear c13b0
          try clear c13b1
          try clear c14
          try clear c14b0
          try clear c14b1
          try clear c15
          try clear c15b0
          try clear c16
          try clear c16b0
          try clear c17
          try clear p17
          try clear q17
          try clear hx17
          try clear hf17
          try clear c18
          try clear c18b0
          try clear c18b1
          try clear c19
          try clear c19b0
          try clear c19b1
          try clear c20
          try clear p20
          try clear q20
          try clear hx20
          try clear qi20
          try clear hf20
          try clear c23
          try clear hx23
          try clear hf23
          try clear c26
          try clear q26
          try clear c30
          try clear hx30
          try clear hf30
          try clear hcz10_0
          try clear hcz10_1
          try clear hcz25_0
          try clear hcz25_1
          try clear hcz32_0
          try clear hcz32_1
          try clear hcz7_0
          try clear hcz7_1
          try clear hfz10_0
          try clear hfz10_1
          try clear hfz25_0
          try clear hfz25_1
          try clear hfz32_0
          try clear hfz32_1
          try clear hfz7_0
          try clear hfz7_1
          try clear hx17_0
          try clear hx20_0
          try clear hx20_1
          try clear hx23_0
          try clear hx30_0
          try clear hx402_0
          try clear p17
          try clear p2
          try clear p20
          try clear p402
          try clear p6
          try clear q17
          try clear q20
          try clear q402
          obtain ⟨x5_2, x42_2, rfl, HA, HK2, HO_5, BK394, HB⟩ := hrel
          have hl5_2 := (Kd.S_reads' HO_5.out).1
          rw [hl5_2] at HO_5
          (try simp only [hl5_2])
          (try simp only [hl5_2] at BK394)
          cases gk with
          | zero => exact absurd HA.out (by simp [impl_purse_table.l1])
          | succ k2 =>
            have H := HA.out
            clear HA
            simp only [impl_purse_table.l1] at H
            by_cases c33 : x42_2 < ji12
            rotate_left
            · rw [if_neg c33] at H
              have c33b0 : decide (x42_2 < ji12) = false := decide_eq_false c33
              clear c33
              have H' := Aside0.mk H
              clear H
              go_wp2
              (try simp only [← hl5_2])
              go_roundg k2
              case measure => have := HK1.out; have := HK2.out; omega
              case rel => exact ⟨(x5_2), (wrap64 (x6_1 - 1)), (by first | rfl | (simp; done) | (simp [*]; done)), H', ⟨by have := HK1.out; have := HK2.out; omega⟩, ⟨by (try simp only [hl5_2]); (with_reducible repeat (first | apply Kd.S_alloc | apply Kd.S_drewN | apply Kd.S_drew)); exact HO_5.out⟩, ⟨by (try simp only [hl5_2]); (with_reducible repeat (first | refine blk_drewN ?_ _ | refine blk_drew ?_ | refine blk_alloc ?_ _)); exact BK394.out⟩, ⟨by repeat (first | (with_reducible first | exact HB.out | apply below_alloc | apply pw_below_drewN | apply below_drew1 | refine below_set ?_ GE394.out) | exact HB.out)⟩⟩
            rw [if_pos c33] at H
            have c33b0 : decide (x42_2 < ji12) = true := decide_eq_true c33
            clear c33
            have H' := Aside0.mk H
            clear H
            go_wp2
            go_loopg [8] k2 (fun kq v8 w' => ∃ (x5_3 : List (List (S77))) (x8_3 : Int), v8 = .int .i64 x8_3 ∧ Aside0 (impl_purse_table.l2 kq a1 x5_3 x6_1 x42_2 x8_3 ji12 x42_2 l0_0 l0_1 = some r) ∧ Aside0 (kq ≤ k2) ∧ Aside0 (Kd.S (Kd.slice 77 k77) 78 w' w.heap.size (fun _ => True) (.slice (some ⟨go17, 0, none⟩) x5_2.length co17) x5_3) ∧ Aside0 (w'.heap[gb394]? = some (.cells #[(.slice A0_0 l0_0.length c0_0), (.slice A0_1 l0_1.length c0_1)] 60 (0, 0))) ∧ Aside0 (Below w.heap.size w w'))
            case atStart => exact ⟨(x5_2), (0), (by first | rfl | (simp; done) | (simp [*]; done)), H', ⟨Nat.le_refl _⟩, ⟨by (try simp only [hl5_2]); (with_reducible repeat (first | apply Kd.S_alloc | apply Kd.S_drewN | apply Kd.S_drew)); exact HO_5.out⟩, ⟨by (try simp only [hl5_2]); (with_reducible repeat (first | refine blk_drewN ?_ _ | refine blk_drew ?_ | refine blk_alloc ?_ _)); exact BK394.out⟩, ⟨by repeat (first | (with_reducible first | exact HB.out | apply below_alloc | apply pw_below_drewN | apply below_drew1 | refine below_set ?_ GE394.out) | exact HB.out)⟩⟩
            case round =>
              clear H'
              try clear c1
              try clear p1
              try clear q1
              try clear hx1
              try clear c2
              try clear p2
              try clear q2
              try clear hx2
              try clear qi2
              try clear hf2
              try clear c3
              try clear hx3
              try clear hf3
              try clear c4
              try clear c4b0
              try clear c4b1
              try clear p4
              try clear q4
              try clear hx4
              try clear c5
              try clear c5b0
              try clear c5b1
              try clear c6
              try clear p6
              try clear c11
              try clear c11b0
              try clear c13
              try clear c13b0
              try clear c13b1
              try clear c14
              try clear c14b0
              try clear c14b1
              try clear c15
              try clear c15b0
              try clear c16
              try clear c16b0
              try clear c17
              try clear p17
              try clear q17
              try clear hx17
              try clear hf17
              try clear c18
              try clear c18b0
              try clear c18b1
              try clear c19
              try clear c19b0
              try clear c19b1
              try clear c20
              try clear p20
              try clear q20
              try clear hx20
              try clear qi20
              try clear hf20
              try clear c23
              try clear hx23
              try clear hf23
              try clear c26
              try clear q26
              try clear c30
              try clear hx30
              try clear hf30
              try clear c33
              try clear c33b0
              try clear hcz10_0
              try clear hcz10_1
              try clear hcz25_0
              try clear hcz25_1
              try clear hcz32_0
              try clear hcz32_1
              try clear hcz7_0
              try clear hcz7_1
              try clear hfz10_0
              try clear hfz10_1
              try clear hfz25_0
              try clear hfz25_1
              try clear hfz32_0
              try clear hfz32_1
              try clear hfz7_0
              try clear hfz7_1
              try clear hx17_0
              try clear hx20_0
              try clear hx20_1
              try clear hx23_0
              try clear hx30_0
              try clear hx402_0
              try clear p1
              try clear p17
              try clear p2
              try clear p20
              try clear p4
              try clear p402
              try clear p6
              try clear q1
              try clear q17
              try clear q2
              try clear q20
              try clear q26
              try clear q4
              try clear q402
              obtain ⟨x5_3, x8_3, rfl, HA, HK3, HO_5, BK394, HB⟩ := hrel
              have hl5_3 := (Kd.S_reads' HO_5.out).1
              rw [hl5_3] at HO_5
              (try simp only [hl5_3])
              (try simp only [hl5_3] at BK394)
              cases gk with
              | zero => exact absurd HA.out (by simp [impl_purse_table.l2])
              | succ k3 =>
                have H := HA.out
                clear HA
                simp only [impl_purse_table.l2] at H
                have HC34 := Aside0.mk H
                clear H
                go_upto_region 12 with (fail)
                go_cut [62] (fun v62 wc => ∃ (kq : Nat) (x62_33 : Bool), v62 = .bool x62_33 ∧ Aside0 (impl_purse_table.j3 kq a1 x5_3 x6_1 x42_2 x8_3 ji12 x42_2 x62_33 l0_0 l0_1 = some r) ∧ Aside0 (kq ≤ k3) ∧ Aside0 (Kd.S (Kd.slice 77 k77) 78 wc w.heap.size (fun _ => True) (.slice (some ⟨go17, 0, none⟩) x5_3.length co17) x5_3) ∧ Aside0 (wc.heap[gb394]? = some (.cells #[(.slice A0_0 l0_0.length c0_0), (.slice A0_1 l0_1.length c0_1)] 60 (0, 0))) ∧ Aside0 (Below w.heap.size w wc))
                case first =>
                  have H := HC34.out
                  clear HC34
                  by_cases c35 : 0 ≤ x6_1
                  rotate_left
                  · rw [if_neg c35] at H
                    exact absurd H (by simp)
                  rw [if_pos c35] at H
                  have c35b0 : decide (0 ≤ x6_1) = true := decide_eq_true c35
                  clear c35
                  (first | rw [c35b0] | (simp only [i64_w, i32_w]; rw [c35b0]) | skip)
                  by_cases c36 : x6_1 < (l0_1.length : Int)
                  rotate_left
                  · rw [if_neg c36] at H
                    exact absurd H (by simp)
                  rw [if_pos c36] at H
                  have c36b0 : decide (x6_1 < (l0_1.length : Int)) = true := decide_eq_true c36
                  clear c36
                  by_cases c37 : x8_3 ≤ (rd l0_1 x6_1)
                  rotate_left
                  · rw [if_neg c37] at H
                    have c37b0 : decide (x8_3 ≤ (rd l0_1 x6_1)) = false := decide_eq_false c37
                    clear c37
                    have H' := Aside0.mk H
                    clear H
                    have hcz40_0 : wr.cell? ⟨gb394, 0, none⟩ = some (.slice A0_0 l0_0.length c0_0) := (blk_cell BK394.out 0).trans rfl
                    have hcz40_1 : wr.cell? ⟨gb394, 1, none⟩ = some (.slice A0_1 l0_1.length c0_1) := (blk_cell BK394.out 1).trans rfl
                    have hfz40_0 := blk_frozen BK394.out 0
                    have hfz40_1 := blk_frozen BK394.out 1
                    have p406 : 0 ≤ (x6_1 : Int) := of_decide_eq_true (by first | (with_reducible assumption) | assumption)
                    have q406 : x6_1 < (l0_1.length : Int) := of_decide_eq_true (by first | (with_reducible assumption) | assumption)
                    obtain ⟨ad406, e406, hx406_0⟩ := Kd.at_int HR0_1.out x6_1 p406 q406
                    cases e406
                    replace hx406_0 := (HB.out.cell (World.block_lt_of_cell? w _ hx406_0)).trans hx406_0
                    replace p406 := eq_true p406
                    replace q406 := eq_true q406
                    go_wp2
                    go_meet
                    case rel => exact ⟨_, (false), (by first | rfl | (simp; done) | (simp [*]; done)), H', ⟨by have := HK1.out; have := HK2.out; have := HK3.out; first | omega | exact Nat.le_refl _⟩, ⟨by (try simp only [hl5_2]); (try simp only [hl5_3]); (with_reducible repeat (first | apply Kd.S_alloc | apply Kd.S_drewN | apply Kd.S_drew)); exact HO_5.out⟩, ⟨by (try simp only [hl5_2]); (try simp only [hl5_3]); (with_reducible repeat (first | refine blk_drewN ?_ _ | refine blk_drew ?_ | refine blk_alloc ?_ _)); exact BK394.out⟩, ⟨by repeat (first | (with_reducible first | exact HB.out | apply below_alloc | apply pw_below_drewN | apply below_drew1 | refine below_set ?_ GE394.out) | exact HB.out)⟩⟩
                  rw [if_pos c37] at H
                  have c37b0 : decide (x8_3 ≤ (rd l0_1 x6_1)) = true := decide_eq_true c37
                  clear c37
                  by_cases c38 : x6_1 < (l0_0.length : Int)
                  rotate_left
                  · rw [if_neg c38] at H
                    exact absurd H (by simp)
                  rw [if_pos c38] at H
                  have c38b0 : decide (x6_1 < (l0_0.length : Int)) = true := decide_eq_true c38
                  clear c38
                  have H' := Aside0.mk H
                  clear H
                  have hcz39_0 : wr.cell? ⟨gb394, 0, none⟩ = some (.slice A0_0 l0_0.length c0_0) := (blk_cell BK394.out 0).trans rfl
                  have hcz39_1 : wr.cell? ⟨gb394, 1, none⟩ = some (.slice A0_1 l0_1.length c0_1) := (blk_cell BK394.out 1).trans rfl
                  have hfz39_0 := blk_frozen BK394.out 0
                  have hfz39_1 := blk_frozen BK394.out 1
                  have p406 : 0 ≤ (x6_1 : Int) := of_decide_eq_true (by first | (with_reducible assumption) | assumption)
                  have q406 : x6_1 < (l0_1.length : Int) := of_decide_eq_true (by first | (with_reducible assumption) | assumption)
                  obtain ⟨ad406, e406, hx406_0⟩ := Kd.at_int HR0_1.out x6_1 p406 q406
                  cases e406
                  replace hx406_0 := (HB.out.cell (World.block_lt_of_cell? w _ hx406_0)).trans hx406_0
                  replace p406 := eq_true p406
                  replace q406 := eq_true q406
                  have p407 : 0 ≤ (x6_1 : Int) := of_decide_eq_true (by first | (with_reducible assumption) | assumption)
                  have q407 : x6_1 < (l0_0.length : Int) := of_decide_eq_true (by first | (with_reducible assumption) | assumption)
                  obtain ⟨ad407, e407, hx407_0⟩ := Kd.at_int HR0_0.out x6_1 p407 q407
                  cases e407
                  replace hx407_0 := (HB.out.cell (World.block_lt_of_cell? w _ hx407_0)).trans hx407_0
                  replace p407 := eq_true p407
                  replace q407 := eq_true q407
                  go_wp2
                  go_meet
                  case rel => exact ⟨_, (decide ((wrap64 (x8_3 * (rd l0_0 x6_1))) ≤ x42_2)), (by first | rfl | (simp; done) | (simp [*]; done)), H', ⟨by have := HK1.out; have := HK2.out; have := HK3.out; first | omega | exact Nat.le_refl _⟩, ⟨by (try simp only [hl5_2]); (try simp only [hl5_3]); (with_reducible repeat (first | apply Kd.S_alloc | apply Kd.S_drewN | apply Kd.S_drew)); exact HO_5.out⟩, ⟨by (try simp only [hl5_2]); (try simp only [hl5_3]); (with_reducible repeat (first | refine blk_drewN ?_ _ | refine blk_drew ?_ | refine blk_alloc ?_ _)); exact BK394.out⟩, ⟨by repeat (first | (with_reducible first | exact HB.out | apply below_alloc | apply pw_below_drewN | apply below_drew1 | refine below_set ?_ GE394.out) | exact HB.out)⟩⟩
                case rest =>
                  clear HC34
                  try clear c1
                  try clear p1
                  try clear q1
                  try clear hx1
                  try clear c2
                  try clear p2
                  try clear q2
                  try clear hx2
                  try clear qi2
                  try clear hf2
                  try clear c3
                  try clear hx3
                  try clear hf3
                  try clear c4
                  try clear c4b0
                  try clear c4b1
                  try clear p4
                  try clear q4
                  try clear hx4
                  try clear c5
                  try clear c5b0
                  try clear c5b1
                  try clear c6
                  try clear p6
                  try clear c11
                  try clear c11b0
                  try clear c13
                  try clear c13b0
                  try clear c13b1
                  try clear c14
                  try clear c14b0
                  try clear c14b1
                  try clear c15
                  try clear c15b0
                  try clear c16
                  try clear c16b0
                  try clear c17
                  try clear p17
                  try clear q17
                  try clear hx17
                  try clear hf17
                  try clear c18
                  try clear c18b0
                  try clear c18b1
                  try clear c19
                  try clear c19b0
                  try clear c19b1
                  try clear c20
                  try clear p20
                  try clear q20
                  try clear hx20
                  try clear qi20
                  try clear hf20
                  try clear c23
                  try clear hx23
                  try clear hf23
                  try clear c26
                  try clear q26
                  try clear c30
                  try clear hx30
                  try clear hf30
                  try clear c33
                  try clear c33b0
                  try clear c35
                  try clear c35b0
                  try clear c36
                  try clear c36b0
                  try clear c37
                  try clear c37b0
                  try clear c38
                  try clear c38b0
                  try clear c40
                  try clear p40
                  try clear q40
                  try clear hx40
                  try clear hcz10_0
                  try clear hcz10_1
                  try clear hcz25_0
                  try clear hcz25_1
                  try clear hcz32_0
                  try clear hcz32_1
                  try clear hcz39_0
                  try clear hcz39_1
                  try clear hcz40_0
                  try clear hcz40_1
                  try clear hcz7_0
                  try clear hcz7_1
                  try clear hfz10_0
                  try clear hfz10_1
                  try clear hfz25_0
                  try clear hfz25_1
                  try clear hfz32_0
                  try clear hfz32_1
                  try clear hfz39_0
                  try clear hfz39_1
                  try clear hfz40_0
                  try clear hfz40_1
                  try clear hfz7_0
                  try clear hfz7_1
                  try clear hx17_0
                  try clear hx20_0
                  try clear hx20_1
                  try clear hx23_0
                  try clear hx30_0
                  try clear hx402_0
                  try clear hx406_0
                  try clear hx407_0
                  try clear p1
                  try clear p17
                  try clear p2
                  try clear p20
                  try clear p4
                  try clear p402
                  try clear p406
                  try clear p407
                  try clear p6
                  try clear q1
                  try clear q17
                  try clear q2
                  try clear q20
                  try clear q26
                  try clear q4
                  try clear q402
                  try clear q406
                  try clear q407
                  obtain ⟨kq, x62_33, rfl, HA, HJ33, HO_5, BK394, HB⟩ := hcut
                  cases kq with
                  | zero => exact absurd HA.out (by simp [impl_purse_table.j3])
                  | succ kj33 =>
                    have H := HA.out
                    clear HA
                    simp only [impl_purse_table.j3] at H
                    by_cases c41 : x62_33 = true
                    rotate_left
                    · replace c41 := Bool.eq_false_iff.mpr c41
                      subst c41
                      have H1 : (impl_purse_table.l1 kj33 a1 x5_3 x6_1 ji12 (wrap64 (x42_2 + 1)) l0_0 l0_1) = some r := by rw [if_neg (show ¬ (false = true) by decide)] at H; exact H
                      clear H
                      have H := H1
                      clear H1
                      have H' := Aside0.mk H
                      clear H
                      go_wp2
                      (try simp only [← hl5_2, ← hl5_3])
                      go_roundg kj33
                      case measure => have := HK1.out; have := HK2.out; have := HK3.out; have := HJ33.out; omega
                      case rel => exact ⟨(x5_3), (wrap64 (x42_2 + 1)), (by first | rfl | (simp; done) | (simp [*]; done)), H', ⟨by have := HK1.out; have := HK2.out; have := HK3.out; have := HJ33.out; omega⟩, ⟨by (try simp only [hl5_2]); (try simp only [hl5_3]); (with_reducible repeat (first | apply Kd.S_alloc | apply Kd.S_drewN | apply Kd.S_drew)); exact HO_5.out⟩, ⟨by (try simp only [hl5_2]); (try simp only [hl5_3]); (with_reducible repeat (first | refine blk_drewN ?_ _ | refine blk_drew ?_ | refine blk_alloc ?_ _)); exact BK394.out⟩, ⟨by repeat (first | (with_reducible first | exact HB.out | apply below_alloc | apply pw_below_drewN | apply below_drew1 | refine below_set ?_ GE394.out) | exact HB.out)⟩⟩
                    subst c41
                    have H1 : (if 0 ≤ (wrap64 (x6_1 + 1)) then (if (wrap64 (x6_1 + 1)) < (x5_3.length : Int) then (if 0 ≤ x6_1 then (if x6_1 < (l0_0.length : Int) then (if 0 ≤ (wrap64 (x42_2 - (wrap64 (x8_3 * (rd l0_0 x6_1))))) then (if (wrap64 (x42_2 - (wrap64 (x8_3 * (rd l0_0 x6_1))))) < ((rd_L7 x5_3 (wrap64 (x6_1 + 1))).length : Int) then (if ((rd_T77 (rd_L7 x5_3 (wrap64 (x6_1 + 1))) (wrap64 (x42_2 - (wrap64 (x8_3 * (rd l0_0 x6_1)))))).f0) = 0 then (impl_purse_table.l2 kj33 a1 x5_3 x6_1 x42_2 (wrap64 (x8_3 + 1)) ji12 x42_2 l0_0 l0_1) else (if x6_1 < (x5_3.length : Int) then (if 0 ≤ x42_2 then (if x42_2 < ((rd_L7 x5_3 x6_1).length : Int) then (if ((rd_T77 (rd_L7 x5_3 x6_1) x42_2).f0) = 0 then (impl_purse_table.j4 kj33 a1 x5_3 x6_1 x42_2 x8_3 ji12 x42_2 true l0_0 l0_1 ((rd_T77 (rd_L7 x5_3 (wrap64 (x6_1 + 1))) (wrap64 (x42_2 - (wrap64 (x8_3 * (rd l0_0 x6_1)))))).f0) ((rd_T77 (rd_L7 x5_3 (wrap64 (x6_1 + 1))) (wrap64 (x42_2 - (wrap64 (x8_3 * (rd l0_0 x6_1)))))).f1)) else (impl_purse_table.j4 kj33 a1 x5_3 x6_1 x42_2 x8_3 ji12 x42_2 (decide ((wrap64 (((rd_T77 (rd_L7 x5_3 (wrap64 (x6_1 + 1))) (wrap64 (x42_2 - (wrap64 (x8_3 * (rd l0_0 x6_1)))))).f1) + x8_3)) < ((rd_T77 (rd_L7 x5_3 x6_1) x42_2).f1))) l0_0 l0_1 ((rd_T77 (rd_L7 x5_3 (wrap64 (x6_1 + 1))) (wrap64 (x42_2 - (wrap64 (x8_3 * (rd l0_0 x6_1)))))).f0) ((rd_T77 (rd_L7 x5_3 (wrap64 (x6_1 + 1))) (wrap64 (x42_2 - (wrap64 (x8_3 * (rd l0_0 x6_1)))))).f1))) else (none)) else (none)) else (none))) else (none)) else (none)) else (none)) else (none)) else (none)) else (none)) = some r := by rw [if_pos rfl] at H; exact H
                    clear H
                    have H := H1
                    clear H1
                    obtain ⟨ji42, hji42⟩ : ∃ j_ : Int, (wrap64 (x6_1 + 1)) = j_ := ⟨_, rfl⟩
                    replace H : (if 0 ≤ (ji42) then (if (ji42) < (x5_3.length : Int) then (if 0 ≤ x6_1 then (if x6_1 < (l0_0.length : Int) then (if 0 ≤ (wrap64 (x42_2 - (wrap64 (x8_3 * (rd l0_0 x6_1))))) then (if (wrap64 (x42_2 - (wrap64 (x8_3 * (rd l0_0 x6_1))))) < ((rd_L7 x5_3 (ji42)).length : Int) then (if ((rd_T77 (rd_L7 x5_3 (ji42)) (wrap64 (x42_2 - (wrap64 (x8_3 * (rd l0_0 x6_1)))))).f0) = 0 then (impl_purse_table.l2 kj33 a1 x5_3 x6_1 x42_2 (wrap64 (x8_3 + 1)) ji12 x42_2 l0_0 l0_1) else (if x6_1 < (x5_3.length : Int) then (if 0 ≤ x42_2 then (if x42_2 < ((rd_L7 x5_3 x6_1).length : Int) then (if ((rd_T77 (rd_L7 x5_3 x6_1) x42_2).f0) = 0 then (impl_purse_table.j4 kj33 a1 x5_3 x6_1 x42_2 x8_3 ji12 x42_2 true l0_0 l0_1 ((rd_T77 (rd_L7 x5_3 (ji42)) (wrap64 (x42_2 - (wrap64 (x8_3 * (rd l0_0 x6_1)))))).f0) ((rd_T77 (rd_L7 x5_3 (ji42)) (wrap64 (x42_2 - (wrap64 (x8_3 * (rd l0_0 x6_1)))))).f1)) else (impl_purse_table.j4 kj33 a1 x5_3 x6_1 x42_2 x8_3 ji12 x42_2 (decide ((wrap64 (((rd_T77 (rd_L7 x5_3 (ji42)) (wrap64 (x42_2 - (wrap64 (x8_3 * (rd l0_0 x6_1)))))).f1) + x8_3)) < ((rd_T77 (rd_L7 x5_3 x6_1) x42_2).f1))) l0_0 l0_1 ((rd_T77 (rd_L7 x5_3 (ji42)) (wrap64 (x42_2 - (wrap64 (x8_3 * (rd l0_0 x6_1)))))).f0) ((rd_T77 (rd_L7 x5_3 (ji42)) (wrap64 (x42_2 - (wrap64 (x8_3 * (rd l0_0 x6_1)))))).f1))) else (none)) else (none)) else (none))) else (none)) else (none)) else (none)) else (none)) else (none)) else (none)) = some r := by first | (rw [hji42] at H; exact H) | (simp only [hji42] at H ⊢; exact H)
                    have hji42w : (IntKind.i64.wrap (x6_1 + 1)) = ji42 := (i64_w _).trans hji42
                    by_cases c43 : 0 ≤ (ji42)
                    rotate_left
                    · rw [if_neg c43] at H
                      exact absurd H (by simp)
                    rw [if_pos c43] at H
                    have c43b0 : decide (0 ≤ (ji42)) = true := decide_eq_true c43
                    clear c43
                    by_cases c44 : (ji42) < (x5_3.length : Int)
                    rotate_left
                    · rw [if_neg c44] at H
                      exact absurd H (by simp)
                    rw [if_pos c44] at H
                    have c44b0 : decide ((ji42) < (x5_3.length : Int)) = true := decide_eq_true c44
                    clear c44
                    by_cases c45 : 0 ≤ x6_1
                    rotate_left
                    · rw [if_neg c45] at H
                      exact absurd H (by simp)
                    rw [if_pos c45] at H
                    have c45b0 : decide (0 ≤ x6_1) = true := decide_eq_true c45
                    clear c45
                    by_cases c46 : x6_1 < (l0_0.length : Int)
                    rotate_left
                    · rw [if_neg c46] at H
                      exact absurd H (by simp)
                    rw [if_pos c46] at H
                    have c46b0 : decide (x6_1 < (l0_0.length : Int)) = true := decide_eq_true c46
                    clear c46
                    obtain ⟨ji47, hji47⟩ : ∃ j_ : Int, (wrap64 (x42_2 - (wrap64 (x8_3 * (rd l0_0 x6_1))))) = j_ := ⟨_, rfl⟩
                    replace H : (if 0 ≤ (ji47) then (if (ji47) < ((rd_L7 x5_3 (ji42)).length : Int) then (if ((rd_T77 (rd_L7 x5_3 (ji42)) (ji47)).f0) = 0 then (impl_purse_table.l2 kj33 a1 x5_3 x6_1 x42_2 (wrap64 (x8_3 + 1)) ji12 x42_2 l0_0 l0_1) else (if x6_1 < (x5_3.length : Int) then (if 0 ≤ x42_2 then (if x42_2 < ((rd_L7 x5_3 x6_1).length : Int) then (if ((rd_T77 (rd_L7 x5_3 x6_1) x42_2).f0) = 0 then (impl_purse_table.j4 kj33 a1 x5_3 x6_1 x42_2 x8_3 ji12 x42_2 true l0_0 l0_1 ((rd_T77 (rd_L7 x5_3 (ji42)) (ji47)).f0) ((rd_T77 (rd_L7 x5_3 (ji42)) (ji47)).f1)) else (impl_purse_table.j4 kj33 a1 x5_3 x6_1 x42_2 x8_3 ji12 x42_2 (decide ((wrap64 (((rd_T77 (rd_L7 x5_3 (ji42)) (ji47)).f1) + x8_3)) < ((rd_T77 (rd_L7 x5_3 x6_1) x42_2).f1))) l0_0 l0_1 ((rd_T77 (rd_L7 x5_3 (ji42)) (ji47)).f0) ((rd_T77 (rd_L7 x5_3 (ji42)) (ji47)).f1))) else (none)) else (none)) else (none))) else (none)) else (none)) = some r := by first | (rw [hji47] at H; exact H) | (simp only [hji47] at H ⊢; exact H)
                    have hji47w : (IntKind.i64.wrap (x42_2 - (wrap64 (x8_3 * (rd l0_0 x6_1))))) = ji47 := (i64_w _).trans hji47
                    by_cases c48 : 0 ≤ (ji47)
                    rotate_left
                    · rw [if_neg c48] at H
                      exact absurd H (by simp)
                    rw [if_pos c48] at H
                    have c48b0 : decide (0 ≤ (ji47)) = true := decide_eq_true c48
                    clear c48
                    by_cases c49 : (ji47) < ((rd_L7 x5_3 (ji42)).length : Int)
                    rotate_left
                    · rw [if_neg c49] at H
                      exact absurd H (by simp)
                    rw [if_pos c49] at H
                    have c49b0 : decide ((ji47) < ((rd_L7 x5_3 (ji42)).length : Int)) = true := decide_eq_true c49
                    clear c49
                    by_cases c50 : ((rd_T77 (rd_L7 x5_3 (ji42)) (ji47)).f0) = 0
                    rotate_left
                    · rw [if_neg c50] at H
                      have c50b0 : (((rd_T77 (rd_L7 x5_3 (ji42)) (ji47)).f0) == 0) = false := beq_eq_false_iff_ne.mpr c50
                      have c50b1 : (((rd_T77 (rd_L7 x5_3 (ji42)) (ji47)).f0) != 0) = true := bne_iff_ne.mpr c50
                      by_cases c57 : x6_1 < (x5_3.length : Int)
                      rotate_left
                      · rw [if_neg c57] at H
                        exact absurd H (by simp)
                      rw [if_pos c57] at H
                      have c57b0 : decide (x6_1 < (x5_3.length : Int)) = true := decide_eq_true c57
                      clear c57
                      by_cases c58 : 0 ≤ x42_2
                      rotate_left
                      · rw [if_neg c58] at H
                        exact absurd H (by simp)
                      rw [if_pos c58] at H
                      have c58b0 : decide (0 ≤ x42_2) = true := decide_eq_true c58
                      clear c58
                      by_cases c59 : x42_2 < ((rd_L7 x5_3 x6_1).length : Int)
                      rotate_left
                      · rw [if_neg c59] at H
                        exact absurd H (by simp)
                      rw [if_pos c59] at H
                      have c59b0 : decide (x42_2 < ((rd_L7 x5_3 x6_1).length : Int)) = true := decide_eq_true c59
                      clear c59
                      have HC60 := Aside0.mk H
                      clear H
                      try go_wp2
                      have n0_ := Aside0.mk (Kd.S_drew HO_5.out)
                      have n1_ := Aside0.mk (blk_drew BK394.out)
                      have n2_ := Aside0.mk (below_drew1 HB.out)
                      clear HO_5
                      clear BK394
                      clear HB
                      have HO_5 := n0_
                      have BK394 := n1_
                      have HB := n2_
                      clear n0_ n1_ n2_
                      have p408 : 0 ≤ ((ji42) : Int) := of_decide_eq_true (by first | (with_reducible assumption) | assumption)
                      have q408 : (ji42) < (x5_3.length : Int) := of_decide_eq_true (by first | (with_reducible assumption) | assumption)
                      obtain ⟨ad408, A408_0, c408_0, e408, hx408_0, hl408_0, hi408_0⟩ := at_L7 (Kd.S_reads' HO_5.out).2.2 (ji42) p408 q408
                      obtain rfl : (⟨go17, 0, none⟩ : Addr) = ad408 := (by injection e408)
                      obtain ⟨ce408, hce408, hMe408, hcc408⟩ := Kd.S_get HO_5.out [] (ji42) p408 (by first | exact q408 | exact of_decide_eq_true (by first | (with_reducible assumption) | assumption) | (have e_ := (Kd.S_reads' HO_5.out).1; omega))
                      obtain ⟨ve408_0, rfl, ge408_0⟩ := hMe408
                      have hv408_0 := hcc408 0 _ rfl
                      rw [Nat.add_zero, show ((Kd.slice 77 k77)).sz = 1 from rfl, Nat.mul_one] at hv408_0
                      replace hv408_0 := Option.some.inj (hv408_0.symm.trans hx408_0)
                      rw [hv408_0] at ge408_0
                      have HL408_0 := Aside0.mk (show Kd.R k77 77 _ _ _ _ (rd_L7 x5_3 (ji42)) from ge408_0)
                      clear hv408_0 ge408_0
                      have HX408_0 := Aside0.mk hx408_0
                      clear hcc408 hce408
                      (first | simp only [add_plain] at hx408_0 | simp only [add_at] at hx408_0 | simp only [Addr.add, Nat.zero_add] at hx408_0 | skip)
                      have HR408_0 := Aside0.mk hi408_0
                      have HC408_0 := Aside0.mk hl408_0
                      clear hi408_0 hl408_0
                      replace p408 := eq_true p408
                      replace q408 := eq_true q408
                      have p409 : 0 ≤ (x6_1 : Int) := of_decide_eq_true (by first | (with_reducible assumption) | assumption)
                      have q409 : x6_1 < (l0_0.length : Int) := of_decide_eq_true (by first | (with_reducible assumption) | assumption)
                      obtain ⟨ad409, e409, hx409_0⟩ := Kd.at_int HR0_0.out x6_1 p409 q409
                      have hw409_0 := hx409_0
                      cases e409
                      replace hx409_0 := (HB.out.cell (World.block_lt_of_cell? w _ hx409_0)).trans hx409_0
                      replace p409 := eq_true p409
                      replace q409 := eq_true q409
                      have p410 : 0 ≤ ((ji47) : Int) := of_decide_eq_true (by first | (with_reducible assumption) | assumption)
                      have q410 : (ji47) < ((rd_L7 x5_3 (ji42)).length : Int) := of_decide_eq_true (by first | (with_reducible assumption) | assumption)
                      obtain ⟨ad410, e410, hx410_0, hx410_1⟩ := at_T77 (by repeat (first | (with_reducible exact HR408_0.out) | (with_reducible refine Kd.C_alloc ?_ _) | (with_reducible refine Kd.C_drewN ?_ _) | (with_reducible refine Kd.C_drew ?_) | exact HR408_0.out)) (ji47) p410 q410
                      cases e410
                      replace p410 := eq_true p410
                      replace q410 := eq_true q410
                      refine start_ (n := 18) (S := fun w' => w'.cell? ⟨gb394, 0, none⟩ = some (.slice (some ad409) l0_0.length c0_0) ∧ w'.cell? ⟨gb394, 1, none⟩ = some (.slice A0_1 l0_1.length c0_1) ∧ w'.cell? ⟨go17, ((ji42)).toNat, none⟩ = some (.slice (some ad410) (rd_L7 x5_3 (ji42)).length c408_0) ∧ w'.cell? (ad409.add (x6_1).toNat) = some (.int .i64 (rd l0_0 x6_1)) ∧ w'.cell? (ad410.add (((ji47)).toNat * 2)) = some (.int .i64 ((rd_T77 (rd_L7 x5_3 (ji42)) (ji47)).f0)) ∧ w'.cell? ⟨(ad410.add (((ji47)).toNat * 2)).block, (ad410.add (((ji47)).toNat * 2)).off + 1, none⟩ = some (.int .i64 ((rd_T77 (rd_L7 x5_3 (ji42)) (ji47)).f1))) (ds := []) #[false, false, false, false, false, false, false, false, false, false, false, false, false, false, false, false, false, false] (by kernel_rfl) rfl rfl ⟨(blk_cell BK394.out 0).trans rfl, (blk_cell BK394.out 1).trans rfl, hx408_0, ((HB.out.cell (World.block_lt_of_cell? w _ hw409_0)).trans hw409_0), hx410_0, hx410_1⟩ (fun hHeld => ?_); refine with_tabW impl_purse_table.tab14 impl_purse_table.bits14 (fun HT_ HW_ => ?_)
                      generalize wc.drew = w61 at HO_5 BK394 HB HL408_0 HR408_0 HX408_0 hx408_0 hx409_0 hx410_0 hx410_1 hHeld ⊢
                      refine pure_ (i := 0) (N := some 65) (v := ?_) (a' := ?_) #[true, false, false, false, false, false, false, false, false, false, false, false, false, false, false, false, false, false] rfl rfl (any_of HT_.out (by kernel_rfl)) (fun _ _ _ h => h) (Or.inl ⟨by rfl, ?_⟩) ?_ ?_
                      rotate_left
                      · intro w'
                        go_simp
                        with_reducible rfl
                      rotate_left
                      · simp only [Act.put, List.setIfInBounds_toArray, List.set_cons_zero, List.set_cons_succ, i64_w, i32_w]
                        rfl
                      refine pure_ (i := 1) (N := some 66) (v := ?_) (a' := ?_) #[true, true, false, false, false, false, false, false, false, false, false, false, false, false, false, false, false, false] rfl rfl (any_of HT_.out (by kernel_rfl)) (fun _ _ _ h => h) (Or.inl ⟨by rfl, ?_⟩) ?_ ?_
                      rotate_left
                      · intro w'
                        go_simp
                        with_reducible rfl
                      rotate_left
                      · simp only [Act.put, List.setIfInBounds_toArray, List.set_cons_zero, List.set_cons_succ, i64_w, i32_w]
                        rfl
                      refine pure_ (i := 2) (N := some 67) (v := ?_) (a' := ?_) #[true, true, true, false, false, false, false, false, false, false, false, false, false, false, false, false, false, false] rfl rfl (any_of HT_.out (by kernel_rfl)) (fun _ _ _ h => h) (Or.inl ⟨by rfl, ?_⟩) ?_ ?_
                      rotate_left
                      · intro w'
                        go_simp
                        with_reducible rfl
                      rotate_left
                      · simp only [Act.put, List.setIfInBounds_toArray, List.set_cons_zero, List.set_cons_succ, i64_w, i32_w]
                        rfl
                      refine pure_ (i := 3) (N := some 68) (v := ?_) (a' := ?_) #[true, true, true, true, false, false, false, false, false, false, false, false, false, false, false, false, false, false] rfl rfl (any_of HT_.out (by kernel_rfl)) (fun _ _ _ h => h) (Or.inl ⟨by rfl, ?_⟩) ?_ ?_
                      rotate_left
                      · intro w'
                        go_simp
                        with_reducible rfl
                      rotate_left
                      · simp only [Act.put, List.setIfInBounds_toArray, List.set_cons_zero, List.set_cons_succ, i64_w, i32_w]
                        rfl
                      refine pure_ (i := 5) (N := some 70) (v := ?_) (a' := ?_) #[true, true, true, true, false, true, false, false, false, false, false, false, false, false, false, false, false, false] rfl rfl (any_of HT_.out (by kernel_rfl)) (fun _ _ _ h => h) (Or.inl ⟨by rfl, ?_⟩) ?_ ?_
                      rotate_left
                      · intro w'
                        go_simp
                        with_reducible rfl
                      rotate_left
                      · simp only [Act.put, List.setIfInBounds_toArray, List.set_cons_zero, List.set_cons_succ, i64_w, i32_w]
                        rfl
                      refine pure_ (i := 6) (N := some 71) (v := ?_) (a' := ?_) #[true, true, true, true, false, true, true, false, false, false, false, false, false, false, false, false, false, false] rfl rfl (any_of HT_.out (by kernel_rfl)) (fun _ _ _ h => h) (Or.inl ⟨by rfl, ?_⟩) ?_ ?_
                      rotate_left
                      · intro w'
                        go_simp
                        with_reducible rfl
                      rotate_left
                      · simp only [Act.put, List.setIfInBounds_toArray, List.set_cons_zero, List.set_cons_succ, i64_w, i32_w]
                        rfl
                      refine pure_ (i := 7) (N := some 72) (v := ?_) (a' := ?_) #[true, true, true, true, false, true, true, true, false, false, false, false, false, false, false, false, false, false] rfl rfl (any_of HT_.out (by kernel_rfl)) (fun _ _ _ h => h) (Or.inl ⟨by rfl, ?_⟩) ?_ ?_
                      rotate_left
                      · intro w'
                        go_simp
                        with_reducible rfl
                      rotate_left
                      · simp only [Act.put, List.setIfInBounds_toArray, List.set_cons_zero, List.set_cons_succ, i64_w, i32_w]
                        rfl
                      refine pure_ (i := 9) (N := some 74) (v := ?_) (a' := ?_) #[true, true, true, true, false, true, true, true, false, true, false, false, false, false, false, false, false, false] rfl rfl (any_of HT_.out (by kernel_rfl)) (fun _ _ _ h => h) (Or.inl ⟨by rfl, ?_⟩) ?_ ?_
                      rotate_left
                      · intro w'
                        go_simp
                        with_reducible rfl
                      rotate_left
                      · simp only [Act.put, List.setIfInBounds_toArray, List.set_cons_zero, List.set_cons_succ, i64_w, i32_w]
                        rfl
                      refine take_ (i := 4) (N := some 69) (v := ?_) (a' := ?_) #[true, true, true, true, true, true, true, true, false, true, false, false, false, false, false, false, false, false] rfl rfl (take_ofW HT_.out HW_.out (by kernel_rfl)) (fun _ _ _ h => h) (Or.inl ⟨by rfl, ?_⟩) hHeld ?_ ?_
                      rotate_left
                      · rintro w' ⟨s0, s1, s2, s3, s4, s5⟩
                        go_simp
                        with_reducible rfl
                      rotate_left
                      · simp only [Act.put, List.setIfInBounds_toArray, List.set_cons_zero, List.set_cons_succ, i64_w, i32_w]
                        rfl
                      refine take_ (i := 8) (N := some 73) (v := ?_) (a' := ?_) #[true, true, true, true, true, true, true, true, true, true, false, false, false, false, false, false, false, false] rfl rfl (take_ofW HT_.out HW_.out (by kernel_rfl)) (fun _ _ _ h => h) (Or.inl ⟨by rfl, ?_⟩) hHeld ?_ ?_
                      rotate_left
                      · rintro w' ⟨s0, s1, s2, s3, s4, s5⟩
                        go_simp
                        with_reducible rfl
                      rotate_left
                      · simp only [Act.put, List.setIfInBounds_toArray, List.set_cons_zero, List.set_cons_succ, i64_w, i32_w]
                        rfl
                      refine pure_ (i := 10) (N := some 75) (v := ?_) (a' := ?_) #[true, true, true, true, true, true, true, true, true, true, true, false, false, false, false, false, false, false] rfl rfl (any_of HT_.out (by kernel_rfl)) (fun _ _ _ h => h) (Or.inl ⟨by rfl, ?_⟩) ?_ ?_
                      rotate_left
                      · intro w'
                        go_simp
                        with_reducible rfl
                      rotate_left
                      · simp only [Act.put, List.setIfInBounds_toArray, List.set_cons_zero, List.set_cons_succ, i64_w, i32_w]
                        rfl
                      refine take_ (i := 11) (N := some 76) (v := ?_) (a' := ?_) #[true, true, true, true, true, true, true, true, true, true, true, true, false, false, false, false, false, false] rfl rfl (take_ofW HT_.out HW_.out (by kernel_rfl)) (fun _ _ _ h => h) (Or.inl ⟨by rfl, ?_⟩) hHeld ?_ ?_
                      rotate_left
                      · rintro w' ⟨s0, s1, s2, s3, s4, s5⟩
                        go_simp
                        with_reducible rfl
                      rotate_left
                      · simp only [Act.put, List.setIfInBounds_toArray, List.set_cons_zero, List.set_cons_succ, i64_w, i32_w]
                        rfl
                      refine pure_ (i := 12) (N := some 77) (v := ?_) (a' := ?_) #[true, true, true, true, true, true, true, true, true, true, true, true, true, false, false, false, false, false] rfl rfl (any_of HT_.out (by kernel_rfl)) (fun _ _ _ h => h) (Or.inl ⟨by rfl, ?_⟩) ?_ ?_
                      rotate_left
                      · intro w'
                        go_simp
                        with_reducible rfl
                      rotate_left
                      · simp only [Act.put, List.setIfInBounds_toArray, List.set_cons_zero, List.set_cons_succ, i64_w, i32_w]
                        rfl
                      refine pure_ (i := 13) (N := some 78) (v := ?_) (a' := ?_) #[true, true, true, true, true, true, true, true, true, true, true, true, true, true, false, false, false, false] rfl rfl (any_of HT_.out (by kernel_rfl)) (fun _ _ _ h => h) (Or.inl ⟨by rfl, ?_⟩) ?_ ?_
                      rotate_left
                      · intro w'
                        go_simp
                        with_reducible rfl
                      rotate_left
                      · simp only [Act.put, List.setIfInBounds_toArray, List.set_cons_zero, List.set_cons_succ, i64_w, i32_w]
                        rfl
                      refine pure_ (i := 14) (N := some 79) (v := ?_) (a' := ?_) #[true, true, true, true, true, true, true, true, true, true, true, true, true, true, true, false, false, false] rfl rfl (any_of HT_.out (by kernel_rfl)) (fun _ _ _ h => h) (Or.inl ⟨by rfl, ?_⟩) ?_ ?_
                      rotate_left
                      · intro w'
                        go_simp
                        with_reducible rfl
                      rotate_left
                      · simp only [Act.put, List.setIfInBounds_toArray, List.set_cons_zero, List.set_cons_succ, i64_w, i32_w]
                        rfl
                      refine take_ (i := 15) (N := some 80) (v := ?_) (a' := ?_) #[true, true, true, true, true, true, true, true, true, true, true, true, true, true, true, true, false, false] rfl rfl (take_ofW HT_.out HW_.out (by kernel_rfl)) (fun _ _ _ h => h) (Or.inl ⟨by rfl, ?_⟩) hHeld ?_ ?_
                      rotate_left
                      · rintro w' ⟨s0, s1, s2, s3, s4, s5⟩
                        go_simp
                        with_reducible rfl
                      rotate_left
                      · simp only [Act.put, List.setIfInBounds_toArray, List.set_cons_zero, List.set_cons_succ, i64_w, i32_w]
                        rfl
                      refine one_ (i := 16) (N := some 9) #[true, true, true, true, true, true, true, true, true, true, true, true, true, true, true, true, true, false] rfl rfl (one_of HT_.out (by kernel_rfl)) (by decide) (fun K hK => ?_)
                      refine box_step ?hg (N := 9) ?hd (cs := #[.int .i64 0, .int .i64 0]) (t := 77) ?hr ?_; (case hd => rfl); (case hg => rfl); (case hr => first | (go_simp; done) | (go_simp; rfl))
                      intro gb411 hg w62 hbox hb
                      have HS2_ := (hb.cell (World.block_lt_of_cell? _ _ (hHeld.2.2.1))).trans (hHeld.2.2.1)
                      have HS4_ := (hb.cell (World.block_lt_of_cell? _ _ (hHeld.2.2.2.2.1))).trans (hHeld.2.2.2.2.1)
                      have HS5_ := (hb.cell (World.block_lt_of_cell? _ _ (hHeld.2.2.2.2.2))).trans (hHeld.2.2.2.2.2)
                      have n0_ := Aside0.mk (Kd.S_below (Kd.S_elderB (by (with_reducible repeat (first | apply Kd.S_alloc | apply Kd.S_drewN | apply Kd.S_drew)); exact HO_5.out) gb411 (Nat.le_of_eq hg.symm)) hb)
                      have n1_ := Aside0.mk (Kd.R_below (Kd.R_elderB (by (with_reducible repeat (first | apply Kd.R_alloc | apply Kd.R_drewN | apply Kd.R_drew)); exact HL408_0.out) gb411 (Nat.le_of_eq hg.symm)) hb)
                      have n2_ := Aside0.mk (blk_below (g := gb394) (o := .cells #[.slice (some ad409) l0_0.length c0_0, .slice A0_1 l0_1.length c0_1] 60 (0, 0)) (by (with_reducible repeat (first | refine blk_drewN ?_ _ | refine blk_drew ?_ | refine blk_alloc ?_ _)); exact BK394.out) hb)
                      have n3_ := Aside0.mk (Kd.C_below (by repeat (first | (with_reducible exact HR408_0.out) | (with_reducible refine Kd.C_alloc ?_ _) | (with_reducible refine Kd.C_drewN ?_ _) | (with_reducible refine Kd.C_drew ?_) | exact HR408_0.out)) hb)
                      have n4_ := Aside0.mk (pw_cell_below hb HX408_0.out)
                      have n5_ := Aside0.mk (below_step (by repeat (first | (with_reducible first | exact HB.out | apply below_alloc | apply pw_below_drewN | apply below_drew1 | refine below_set ?_ GE394.out) | exact HB.out)) hb)
                      have n6_ := Aside0.mk (hbox)
                      have n7_ := Aside0.mk ((by rw [hg]; exact (below_size (by repeat (first | (with_reducible first | exact HB.out | apply below_alloc | apply pw_below_drewN | apply below_drew1 | refine below_set ?_ GE394.out) | exact HB.out))) : w.heap.size ≤ gb411))
                      have n8_ := Aside0.mk ((by rw [hg]; exact (below_size (by repeat (first | (with_reducible first | exact HB.out | apply below_alloc | apply pw_below_drewN | apply below_drew1 | refine below_set ?_ GE394.out) | exact HB.out))) : w.heap.size ≤ gb411))
                      have n9_ := Aside0.mk ((by rw [hg]; exact Nat.ne_of_lt (blk_lt (g := gb394) (o := .cells #[.slice (some ad409) l0_0.length c0_0, .slice A0_1 l0_1.length c0_1] 60 (0, 0)) (by (with_reducible repeat (first | refine blk_drewN ?_ _ | refine blk_drew ?_ | refine blk_alloc ?_ _)); exact BK394.out)) : gb394 ≠ gb411))
                      have n10_ := Aside0.mk ((by rw [hg]; exact Nat.ne_of_gt (blk_lt (g := gb394) (o := .cells #[.slice (some ad409) l0_0.length c0_0, .slice A0_1 l0_1.length c0_1] 60 (0, 0)) (by (with_reducible repeat (first | refine blk_drewN ?_ _ | refine blk_drew ?_ | refine blk_alloc ?_ _)); exact BK394.out)) : gb411 ≠ gb394))
                      clear HO_5
                      clear HL408_0
                      clear BK394
                      clear HR408_0
                      clear HX408_0
                      clear HB
                      have HO_5 := n0_
                      have HL408_0 := n1_
                      have BK394 := n2_
                      have HR408_0 := n3_
                      have HX408_0 := n4_
                      have HB := n5_
                      have BK411 := n6_
                      have GW411 := n7_
                      have GE411 := n8_
                      have NB394_411 := n9_
                      have NB411_394 := n10_
                      clear n0_ n1_ n2_ n3_ n4_ n5_ n6_ n7_ n8_ n9_ n10_
                      clear hb hbox hg
                      refine hK.out _ _ ⟨(blk_cell BK394.out 0).trans rfl, (blk_cell BK394.out 1).trans rfl, HS2_, ((HB.out.cell (World.block_lt_of_cell? w _ hw409_0)).trans hw409_0), HS4_, HS5_⟩ (fun hHeld => ?_)
                      clear hK K
                      refine norm_ (a' := ?_) ?_ ?_
                      rotate_left
                      · show Act.put _ (some 9) _ = _
                        simp only [Act.put, List.setIfInBounds_toArray, List.set_cons_zero, List.set_cons_succ, i64_w, i32_w]
                        rfl
                      refine one_ (i := 17) (N := none) #[true, true, true, true, true, true, true, true, true, true, true, true, true, true, true, true, true, true] rfl rfl (one_of HT_.out (by kernel_rfl)) (by decide) (fun K hK => ?_)
                      have hs63 : w62.cell? ⟨gb411, 0, none⟩ = some (.int .i64 0) := (blk_cell BK411.out 0).trans rfl
                      have hfs63 := blk_frozen BK411.out 0
                      have hns63_0 := NB394_411.out
                      have hms63_0 := NB411_394.out
                      have hs64 : w62.cell? ⟨gb411, 1, none⟩ = some (.int .i64 0) := (blk_cell BK411.out 1).trans rfl
                      have hfs64 := blk_frozen BK411.out 1
                      have hns64_0 := NB394_411.out
                      have hms64_0 := NB411_394.out
                      refine skip_ (w1 := ?_) (by rfl) rfl ?_ ?_
                      rotate_left
                      · go_simp
                        rfl
                      refine hK.out _ _ ⟨((cell_far (p := ⟨gb411, _, none⟩) NB394_411.out _).trans (((cell_far (p := ⟨gb411, _, none⟩) NB394_411.out _).trans (hHeld.1)))), ((cell_far (p := ⟨gb411, _, none⟩) NB394_411.out _).trans (((cell_far (p := ⟨gb411, _, none⟩) NB394_411.out _).trans (hHeld.2.1)))), ((cell_far (p := ⟨gb411, _, none⟩) (by first | exact Kd.own_blk (Kd.S_away HO_5.out (fun _ hk => hk.2)) | (rw [add_block]; exact Kd.own_blk (Kd.S_away HO_5.out (fun _ hk => hk.2))) | (show (Addr.add _ _).block ≠ _; rw [add_block]; exact Kd.own_blk (Kd.S_away HO_5.out (fun _ hk => hk.2))) | (dsimp only; exact Kd.own_blk (Kd.S_away HO_5.out (fun _ hk => hk.2)))) _).trans (((cell_far (p := ⟨gb411, _, none⟩) (by first | exact Kd.own_blk (Kd.S_away HO_5.out (fun _ hk => hk.2)) | (rw [add_block]; exact Kd.own_blk (Kd.S_away HO_5.out (fun _ hk => hk.2))) | (show (Addr.add _ _).block ≠ _; rw [add_block]; exact Kd.own_blk (Kd.S_away HO_5.out (fun _ hk => hk.2))) | (dsimp only; exact Kd.own_blk (Kd.S_away HO_5.out (fun _ hk => hk.2)))) _).trans (hHeld.2.2.1)))), ((cell_far (p := ⟨gb411, _, none⟩) (by first | exact Nat.ne_of_lt (Nat.lt_of_lt_of_le (by have := World.block_lt_of_cell? _ _ hw409_0; first | rwa [add_block] at this | exact this) GW411.out) | (rw [add_block]; exact Nat.ne_of_lt (Nat.lt_of_lt_of_le (by have := World.block_lt_of_cell? _ _ hw409_0; first | rwa [add_block] at this | exact this) GW411.out)) | (show (Addr.add _ _).block ≠ _; rw [add_block]; exact Nat.ne_of_lt (Nat.lt_of_lt_of_le (by have := World.block_lt_of_cell? _ _ hw409_0; first | rwa [add_block] at this | exact this) GW411.out)) | (dsimp only; exact Nat.ne_of_lt (Nat.lt_of_lt_of_le (by have := World.block_lt_of_cell? _ _ hw409_0; first | rwa [add_block] at this | exact this) GW411.out))) _).trans (((cell_far (p := ⟨gb411, _, none⟩) (by first | exact Nat.ne_of_lt (Nat.lt_of_lt_of_le (by have := World.block_lt_of_cell? _ _ hw409_0; first | rwa [add_block] at this | exact this) GW411.out) | (rw [add_block]; exact Nat.ne_of_lt (Nat.lt_of_lt_of_le (by have := World.block_lt_of_cell? _ _ hw409_0; first | rwa [add_block] at this | exact this) GW411.out)) | (show (Addr.add _ _).block ≠ _; rw [add_block]; exact Nat.ne_of_lt (Nat.lt_of_lt_of_le (by have := World.block_lt_of_cell? _ _ hw409_0; first | rwa [add_block] at this | exact this) GW411.out)) | (dsimp only; exact Nat.ne_of_lt (Nat.lt_of_lt_of_le (by have := World.block_lt_of_cell? _ _ hw409_0; first | rwa [add_block] at this | exact this) GW411.out))) _).trans (hHeld.2.2.2.1)))), ((cell_far (p := ⟨gb411, _, none⟩) (by first | exact Kd.own_blk (Kd.R_away HL408_0.out (fun _ hk => hk.2)) | (rw [add_block]; exact Kd.own_blk (Kd.R_away HL408_0.out (fun _ hk => hk.2))) | (show (Addr.add _ _).block ≠ _; rw [add_block]; exact Kd.own_blk (Kd.R_away HL408_0.out (fun _ hk => hk.2))) | (dsimp only; exact Kd.own_blk (Kd.R_away HL408_0.out (fun _ hk => hk.2)))) _).trans (((cell_far (p := ⟨gb411, _, none⟩) (by first | exact Kd.own_blk (Kd.R_away HL408_0.out (fun _ hk => hk.2)) | (rw [add_block]; exact Kd.own_blk (Kd.R_away HL408_0.out (fun _ hk => hk.2))) | (show (Addr.add _ _).block ≠ _; rw [add_block]; exact Kd.own_blk (Kd.R_away HL408_0.out (fun _ hk => hk.2))) | (dsimp only; exact Kd.own_blk (Kd.R_away HL408_0.out (fun _ hk => hk.2)))) _).trans (hHeld.2.2.2.2.1)))), ((cell_far (p := ⟨gb411, _, none⟩) (by first | exact Kd.own_blk (Kd.R_away HL408_0.out (fun _ hk => hk.2)) | (rw [add_block]; exact Kd.own_blk (Kd.R_away HL408_0.out (fun _ hk => hk.2))) | (show (Addr.add _ _).block ≠ _; rw [add_block]; exact Kd.own_blk (Kd.R_away HL408_0.out (fun _ hk => hk.2))) | (dsimp only; exact Kd.own_blk (Kd.R_away HL408_0.out (fun _ hk => hk.2)))) _).trans (((cell_far (p := ⟨gb411, _, none⟩) (by first | exact Kd.own_blk (Kd.R_away HL408_0.out (fun _ hk => hk.2)) | (rw [add_block]; exact Kd.own_blk (Kd.R_away HL408_0.out (fun _ hk => hk.2))) | (show (Addr.add _ _).block ≠ _; rw [add_block]; exact Kd.own_blk (Kd.R_away HL408_0.out (fun _ hk => hk.2))) | (dsimp only; exact Kd.own_blk (Kd.R_away HL408_0.out (fun _ hk => hk.2)))) _).trans (hHeld.2.2.2.2.2))))⟩ (fun hHeld => ?_)
                      clear hK K
                      refine done_ (done_of HT_.out (by kernel_rfl)) ?_
                      have n0_ : Aside0 (Kd.S (Kd.slice 77 k77) 78 ((w62.setCell ⟨gb411, 0, none⟩ (.int .i64 ((rd_T77 (rd_L7 x5_3 (ji42)) (ji47)).f0))).setCell ⟨gb411, 1, none⟩ (.int .i64 ((rd_T77 (rd_L7 x5_3 (ji42)) (ji47)).f1))) w.heap.size (fun k_ => k_ ≠ gb411) (.slice (some ⟨go17, 0, none⟩) x5_3.length co17) x5_3) := ⟨by (with_reducible repeat (first | apply Kd.S_alloc | apply Kd.S_drewN | apply Kd.S_drew)); exact Kd.S_mono (Kd.S_far (p := ⟨gb411, 1, none⟩) (Kd.S_far (p := ⟨gb411, 0, none⟩) (Kd.S_mono HO_5.out (fun k_ hk => (⟨hk, hk.2⟩ : _ ∧ k_ ≠ gb411))) (fun _ hk => hk.2) (.int .i64 ((rd_T77 (rd_L7 x5_3 (ji42)) (ji47)).f0))) (fun _ hk => hk.2) (.int .i64 ((rd_T77 (rd_L7 x5_3 (ji42)) (ji47)).f1))) (fun _ hk => hk.1.2)⟩
                      have n1_ : Aside0 (Kd.R k77 77 ((w62.setCell ⟨gb411, 0, none⟩ (.int .i64 ((rd_T77 (rd_L7 x5_3 (ji42)) (ji47)).f0))).setCell ⟨gb411, 1, none⟩ (.int .i64 ((rd_T77 (rd_L7 x5_3 (ji42)) (ji47)).f1))) w.heap.size (fun k_ => some k_ ≠ (.slice (some ⟨go17, 0, none⟩) x5_3.length co17 : Value).ownBlock ∧ k_ ≠ gb411) (.slice (some ad410) (rd_L7 x5_3 (ji42)).length c408_0) (rd_L7 x5_3 (ji42))) := ⟨by (with_reducible repeat (first | apply Kd.R_alloc | apply Kd.R_drewN | apply Kd.R_drew)); exact Kd.R_mono (Kd.R_far (p := ⟨gb411, 1, none⟩) (Kd.R_far (p := ⟨gb411, 0, none⟩) (Kd.R_mono HL408_0.out (fun k_ hk => (⟨hk, hk.2⟩ : _ ∧ k_ ≠ gb411))) (fun _ hk => hk.2) (.int .i64 ((rd_T77 (rd_L7 x5_3 (ji42)) (ji47)).f0))) (fun _ hk => hk.2) (.int .i64 ((rd_T77 (rd_L7 x5_3 (ji42)) (ji47)).f1))) (fun _ hk => ⟨hk.1.1.2, hk.1.2⟩)⟩
                      have n2_ : Aside0 (((w62.setCell ⟨gb411, 0, none⟩ (.int .i64 ((rd_T77 (rd_L7 x5_3 (ji42)) (ji47)).f0))).setCell ⟨gb411, 1, none⟩ (.int .i64 ((rd_T77 (rd_L7 x5_3 (ji42)) (ji47)).f1))).heap[gb394]? = some (.cells #[.slice (some ad409) l0_0.length c0_0, .slice A0_1 l0_1.length c0_1] 60 (0, 0))) := ⟨by (with_reducible repeat (first | refine blk_drewN ?_ _ | refine blk_drew ?_ | refine blk_alloc ?_ _)); refine blk_far ?_ NB394_411.out _; (with_reducible repeat (first | refine blk_drewN ?_ _ | refine blk_drew ?_ | refine blk_alloc ?_ _)); refine blk_far ?_ NB394_411.out _; (with_reducible repeat (first | refine blk_drewN ?_ _ | refine blk_drew ?_ | refine blk_alloc ?_ _)); exact BK394.out⟩
                      have n3_ : Aside0 (((w62.setCell ⟨gb411, 0, none⟩ (.int .i64 ((rd_T77 (rd_L7 x5_3 (ji42)) (ji47)).f0))).setCell ⟨gb411, 1, none⟩ (.int .i64 ((rd_T77 (rd_L7 x5_3 (ji42)) (ji47)).f1))).heap[gb411]? = some (.cells #[.int .i64 ((rd_T77 (rd_L7 x5_3 (ji42)) (ji47)).f0), .int .i64 ((rd_T77 (rd_L7 x5_3 (ji42)) (ji47)).f1)] 77 (0, 0))) := ⟨by (with_reducible repeat (first | refine blk_drewN ?_ _ | refine blk_drew ?_ | refine blk_alloc ?_ _)); refine blk_put (cs := #[.int .i64 ((rd_T77 (rd_L7 x5_3 (ji42)) (ji47)).f0), .int .i64 0]) ?_ 1 _ rfl; (with_reducible repeat (first | refine blk_drewN ?_ _ | refine blk_drew ?_ | refine blk_alloc ?_ _)); refine blk_put (cs := #[.int .i64 0, .int .i64 0]) ?_ 0 _ rfl; (with_reducible repeat (first | refine blk_drewN ?_ _ | refine blk_drew ?_ | refine blk_alloc ?_ _)); exact BK411.out⟩
                      have n4_ : Aside0 (Below w.heap.size w ((w62.setCell ⟨gb411, 0, none⟩ (.int .i64 ((rd_T77 (rd_L7 x5_3 (ji42)) (ji47)).f0))).setCell ⟨gb411, 1, none⟩ (.int .i64 ((rd_T77 (rd_L7 x5_3 (ji42)) (ji47)).f1)))) := ⟨by repeat (first | (with_reducible first | exact HB.out | apply below_alloc | apply pw_below_drewN | apply below_drew1 | refine below_set ?_ GE394.out | refine below_set ?_ GE411.out) | exact HB.out)⟩
                      (try clear HO_5)
                      (try clear HL408_0)
                      (try clear BK394)
                      (try clear BK411)
                      (try clear HB)
                      generalize ((w62.setCell ⟨gb411, 0, none⟩ (.int .i64 ((rd_T77 (rd_L7 x5_3 (ji42)) (ji47)).f0))).setCell ⟨gb411, 1, none⟩ (.int .i64 ((rd_T77 (rd_L7 x5_3 (ji42)) (ji47)).f1))) = w65 at n0_ n1_ n2_ n3_ n4_ ⊢
                      have HO_5 := n0_
                      have HL408_0 := n1_
                      have BK394 := n2_
                      have BK411 := n3_
                      have HB := n4_
                      clear n0_ n1_ n2_ n3_ n4_
                      have hnb66 := NB411_394.out
                      have hnc66 := NB394_411.out
                      have hcz67_0 : w65.cell? ⟨gb411, 0, none⟩ = some (.int .i64 ((rd_T77 (rd_L7 x5_3 (ji42)) (ji47)).f0)) := (blk_cell BK411.out 0).trans rfl
                      have hcz67_1 : w65.cell? ⟨gb411, 1, none⟩ = some (.int .i64 ((rd_T77 (rd_L7 x5_3 (ji42)) (ji47)).f1)) := (blk_cell BK411.out 1).trans rfl
                      have hfz67_0 := blk_frozen BK411.out 0
                      have hfz67_1 := blk_frozen BK411.out 1
                      have p412 : 0 ≤ (x6_1 : Int) := of_decide_eq_true (by first | (with_reducible assumption) | assumption)
                      have q412 : x6_1 < (x5_3.length : Int) := of_decide_eq_true (by first | (with_reducible assumption) | assumption)
                      obtain ⟨ad412, A412_0, c412_0, e412, hx412_0, hl412_0, hi412_0⟩ := at_L7 (Kd.S_reads' HO_5.out).2.2 x6_1 p412 q412
                      obtain rfl : (⟨go17, 0, none⟩ : Addr) = ad412 := (by injection e412)
                      obtain ⟨ce412, hce412, hMe412, hcc412⟩ := Kd.S_get HO_5.out [] x6_1 p412 (by first | exact q412 | exact of_decide_eq_true (by first | (with_reducible assumption) | assumption) | (have e_ := (Kd.S_reads' HO_5.out).1; omega))
                      obtain ⟨ve412_0, rfl, ge412_0⟩ := hMe412
                      have hv412_0 := hcc412 0 _ rfl
                      rw [Nat.add_zero, show ((Kd.slice 77 k77)).sz = 1 from rfl, Nat.mul_one] at hv412_0
                      replace hv412_0 := Option.some.inj (hv412_0.symm.trans hx412_0)
                      rw [hv412_0] at ge412_0
                      have HL412_0 := Aside0.mk (show Kd.R k77 77 _ _ _ _ (rd_L7 x5_3 x6_1) from ge412_0)
                      clear hv412_0 ge412_0
                      have HX412_0 := Aside0.mk hx412_0
                      clear hcc412 hce412
                      (first | simp only [add_plain] at hx412_0 | simp only [add_at] at hx412_0 | simp only [Addr.add, Nat.zero_add] at hx412_0 | skip)
                      have HR412_0 := Aside0.mk hi412_0
                      have HC412_0 := Aside0.mk hl412_0
                      clear hi412_0 hl412_0
                      replace p412 := eq_true p412
                      replace q412 := eq_true q412
                      have p413 : 0 ≤ (x42_2 : Int) := of_decide_eq_true (by first | (with_reducible assumption) | assumption)
                      have q413 : x42_2 < ((rd_L7 x5_3 x6_1).length : Int) := of_decide_eq_true (by first | (with_reducible assumption) | assumption)
                      obtain ⟨ad413, e413, hx413_0, hx413_1⟩ := at_T77 (by repeat (first | (with_reducible exact HR412_0.out) | (with_reducible refine Kd.C_alloc ?_ _) | (with_reducible refine Kd.C_drewN ?_ _) | (with_reducible refine Kd.C_drew ?_) | exact HR412_0.out)) x42_2 p413 q413
                      cases e413
                      replace p413 := eq_true p413
                      replace q413 := eq_true q413
                      go_upto_region 17 with (first | ((with_reducible refine gate_dst (N := 10) rfl ?_); refine box_event ?hg (N := 10) ?hd (cs := #[.int .i64 0, .int .i64 0]) (t := 77) ?hr ?_; (case hd => rfl); (case hg => rfl); (case hr => first | (go_simp; done) | (go_simp; rfl)); intro gb414 hg w68 hbox hb; have n0_ := Aside0.mk (Kd.S_below (Kd.S_elderB (by (with_reducible repeat (first | apply Kd.S_alloc | apply Kd.S_drewN | apply Kd.S_drew)); exact HO_5.out) gb414 (Nat.le_of_eq hg.symm)) hb); have n1_ := Aside0.mk (Kd.R_below (Kd.R_elderB (by (with_reducible repeat (first | apply Kd.R_alloc | apply Kd.R_drewN | apply Kd.R_drew)); exact HL408_0.out) gb414 (Nat.le_of_eq hg.symm)) hb); have n2_ := Aside0.mk (Kd.R_below (Kd.R_elderB (by (with_reducible repeat (first | apply Kd.R_alloc | apply Kd.R_drewN | apply Kd.R_drew)); exact HL412_0.out) gb414 (Nat.le_of_eq hg.symm)) hb); have n3_ := Aside0.mk (blk_below (g := gb394) (o := .cells #[.slice (some ad409) l0_0.length c0_0, .slice A0_1 l0_1.length c0_1] 60 (0, 0)) (by (with_reducible repeat (first | refine blk_drewN ?_ _ | refine blk_drew ?_ | refine blk_alloc ?_ _)); exact BK394.out) hb); have n4_ := Aside0.mk (blk_below (g := gb411) (o := .cells #[.int .i64 ((rd_T77 (rd_L7 x5_3 (ji42)) (ji47)).f0), .int .i64 ((rd_T77 (rd_L7 x5_3 (ji42)) (ji47)).f1)] 77 (0, 0)) (by (with_reducible repeat (first | refine blk_drewN ?_ _ | refine blk_drew ?_ | refine blk_alloc ?_ _)); exact BK411.out) hb); have n5_ := Aside0.mk (Kd.C_below (by repeat (first | (with_reducible exact HR412_0.out) | (with_reducible refine Kd.C_alloc ?_ _) | (with_reducible refine Kd.C_drewN ?_ _) | (with_reducible refine Kd.C_drew ?_) | exact HR412_0.out)) hb); have n6_ := Aside0.mk (pw_cell_below hb HX412_0.out); have n7_ := Aside0.mk (below_step (by repeat (first | (with_reducible first | exact HB.out | apply below_alloc | apply pw_below_drewN | apply below_drew1 | refine below_set ?_ GE394.out | refine below_set ?_ GE411.out) | exact HB.out)) hb); have n8_ := Aside0.mk (hbox); have n9_ := Aside0.mk ((by rw [hg]; exact (below_size (by repeat (first | (with_reducible first | exact HB.out | apply below_alloc | apply pw_below_drewN | apply below_drew1 | refine below_set ?_ GE394.out | refine below_set ?_ GE411.out) | exact HB.out))) : w.heap.size ≤ gb414)); have n10_ := Aside0.mk ((by rw [hg]; exact (below_size (by repeat (first | (with_reducible first | exact HB.out | apply below_alloc | apply pw_below_drewN | apply below_drew1 | refine below_set ?_ GE394.out | refine below_set ?_ GE411.out) | exact HB.out))) : w.heap.size ≤ gb414)); have n11_ := Aside0.mk ((by rw [hg]; exact Nat.ne_of_lt (blk_lt (g := gb394) (o := .cells #[.slice (some ad409) l0_0.length c0_0, .slice A0_1 l0_1.length c0_1] 60 (0, 0)) (by (with_reducible repeat (first | refine blk_drewN ?_ _ | refine blk_drew ?_ | refine blk_alloc ?_ _)); exact BK394.out)) : gb394 ≠ gb414)); have n12_ := Aside0.mk ((by rw [hg]; exact Nat.ne_of_gt (blk_lt (g := gb394) (o := .cells #[.slice (some ad409) l0_0.length c0_0, .slice A0_1 l0_1.length c0_1] 60 (0, 0)) (by (with_reducible repeat (first | refine blk_drewN ?_ _ | refine blk_drew ?_ | refine blk_alloc ?_ _)); exact BK394.out)) : gb414 ≠ gb394)); have n13_ := Aside0.mk ((by rw [hg]; exact Nat.ne_of_lt (blk_lt (g := gb411) (o := .cells #[.int .i64 ((rd_T77 (rd_L7 x5_3 (ji42)) (ji47)).f0), .int .i64 ((rd_T77 (rd_L7 x5_3 (ji42)) (ji47)).f1)] 77 (0, 0)) (by (with_reducible repeat (first | refine blk_drewN ?_ _ | refine blk_drew ?_ | refine blk_alloc ?_ _)); exact BK411.out)) : gb411 ≠ gb414)); have n14_ := Aside0.mk ((by rw [hg]; exact Nat.ne_of_gt (blk_lt (g := gb411) (o := .cells #[.int .i64 ((rd_T77 (rd_L7 x5_3 (ji42)) (ji47)).f0), .int .i64 ((rd_T77 (rd_L7 x5_3 (ji42)) (ji47)).f1)] 77 (0, 0)) (by (with_reducible repeat (first | refine blk_drewN ?_ _ | refine blk_drew ?_ | refine blk_alloc ?_ _)); exact BK411.out)) : gb414 ≠ gb411)); clear HO_5; clear HL408_0; clear HL412_0; clear BK394; clear BK411; clear HR412_0; clear HX412_0; clear HB; have HO_5 := n0_; have HL408_0 := n1_; have HL412_0 := n2_; have BK394 := n3_; have BK411 := n4_; have HR412_0 := n5_; have HX412_0 := n6_; have HB := n7_; have BK414 := n8_; have GW414 := n9_; have GE414 := n10_; have NB394_414 := n11_; have NB414_394 := n12_; have NB411_414 := n13_; have NB414_411 := n14_; clear n0_ n1_ n2_ n3_ n4_ n5_ n6_ n7_ n8_ n9_ n10_ n11_ n12_ n13_ n14_; clear hb hbox hg; have hnb69 := NB414_394.out; have hnc69 := NB394_414.out; have hnb70 := NB414_411.out; have hnc70 := NB411_414.out; have hcz71_0 : w68.cell? ⟨gb414, 0, none⟩ = some (.int .i64 0) := (blk_cell BK414.out 0).trans rfl; have hcz71_1 : w68.cell? ⟨gb414, 1, none⟩ = some (.int .i64 0) := (blk_cell BK414.out 1).trans rfl; have hfz71_0 := blk_frozen BK414.out 0; have hfz71_1 := blk_frozen BK414.out 1))
                      (try simp only [Act.put, List.setIfInBounds_toArray, List.set_cons_zero, List.set_cons_succ])
                      go_cut [102] (fun v102 wc => ∃ (kq : Nat) (x102_59 : Bool), v102 = .bool x102_59 ∧ Aside0 (impl_purse_table.j4 kq a1 x5_3 x6_1 x42_2 x8_3 ji12 x42_2 x102_59 l0_0 l0_1 ((rd_T77 (rd_L7 x5_3 (ji42)) (ji47)).f0) ((rd_T77 (rd_L7 x5_3 (ji42)) (ji47)).f1) = some r) ∧ Aside0 (kq ≤ kj33) ∧ Aside0 (Kd.S (Kd.slice 77 k77) 78 wc w.heap.size (fun k_ => k_ ≠ gb411 ∧ k_ ≠ gb414) (.slice (some ⟨go17, 0, none⟩) x5_3.length co17) x5_3) ∧ Aside0 (wc.heap[gb394]? = some (.cells #[(.slice (some ad409) l0_0.length c0_0), (.slice A0_1 l0_1.length c0_1)] 60 (0, 0))) ∧ Aside0 (wc.heap[gb411]? = some (.cells #[.int .i64 ((rd_T77 (rd_L7 x5_3 (ji42)) (ji47)).f0), .int .i64 ((rd_T77 (rd_L7 x5_3 (ji42)) (ji47)).f1)] 77 (0, 0))) ∧ Aside0 (wc.heap[gb414]? = some (.cells #[.int .i64 ((rd_T77 (rd_L7 x5_3 x6_1) x42_2).f0), .int .i64 ((rd_T77 (rd_L7 x5_3 x6_1) x42_2).f1)] 77 (0, 0))) ∧ Aside0 (Kd.C k77 wc (some ad413) (rd_L7 x5_3 x6_1).length (rd_L7 x5_3 x6_1)) ∧ Aside0 (Below w.heap.size w wc))
                      case first =>
                        have H := HC60.out
                        clear HC60
                        by_cases c72 : ((rd_T77 (rd_L7 x5_3 x6_1) x42_2).f0) = 0
                        rotate_left
                        · rw [if_neg c72] at H
                          have c72b0 : (((rd_T77 (rd_L7 x5_3 x6_1) x42_2).f0) == 0) = false := beq_eq_false_iff_ne.mpr c72
                          have c72b1 : (((rd_T77 (rd_L7 x5_3 x6_1) x42_2).f0) != 0) = true := bne_iff_ne.mpr c72
                          (first | rw [c72b0] | (simp only [i64_w, i32_w]; rw [c72b0]) | skip)
                          have H' := Aside0.mk H
                          clear H
                          have hnb76 := NB414_394.out
                          have hnc76 := NB394_414.out
                          have hnb77 := NB414_411.out
                          have hnc77 := NB411_414.out
                          have hcz78_0 : w68.cell? ⟨gb414, 0, none⟩ = some (.int .i64 0) := (blk_cell BK414.out 0).trans rfl
                          have hcz78_1 : w68.cell? ⟨gb414, 1, none⟩ = some (.int .i64 0) := (blk_cell BK414.out 1).trans rfl
                          have hfz78_0 := blk_frozen BK414.out 0
                          have hfz78_1 := blk_frozen BK414.out 1
                          have hnb79 := NB411_394.out
                          have hnc79 := NB394_411.out
                          have hcz80_0 : w68.cell? ⟨gb411, 0, none⟩ = some (.int .i64 ((rd_T77 (rd_L7 x5_3 (ji42)) (ji47)).f0)) := (blk_cell BK411.out 0).trans rfl
                          have hcz80_1 : w68.cell? ⟨gb411, 1, none⟩ = some (.int .i64 ((rd_T77 (rd_L7 x5_3 (ji42)) (ji47)).f1)) := (blk_cell BK411.out 1).trans rfl
                          have hfz80_0 := blk_frozen BK411.out 0
                          have hfz80_1 := blk_frozen BK411.out 1
                          go_wp2
                          go_meet
                          case rel => exact ⟨_, (decide ((wrap64 (((rd_T77 (rd_L7 x5_3 (ji42)) (ji47)).f1) + x8_3)) < ((rd_T77 (rd_L7 x5_3 x6_1) x42_2).f1))), (by first | rfl | (simp; done) | (simp only [← hji42, ← hji47] <;> (first | rfl | simp)) | (simp [*]; done)), H', ⟨by have := HK1.out; have := HK2.out; have := HK3.out; have := HJ33.out; first | omega | exact Nat.le_refl _⟩, ⟨by (try simp only [hl5_2]); (try simp only [hl5_3]); (with_reducible repeat (first | apply Kd.S_alloc | apply Kd.S_drewN | apply Kd.S_drew)); exact Kd.S_mono (Kd.S_far (p := ⟨gb414, 1, none⟩) (Kd.S_far (p := ⟨gb414, 0, none⟩) (Kd.S_mono HO_5.out (fun k_ hk => (⟨hk, hk.2⟩ : _ ∧ k_ ≠ gb414))) (fun _ hk => hk.2) (.int .i64 ((rd_T77 (rd_L7 x5_3 x6_1) x42_2).f0))) (fun _ hk => hk.2) (.int .i64 ((rd_T77 (rd_L7 x5_3 x6_1) x42_2).f1))) (fun _ hk => ⟨hk.1.1, hk.1.2⟩)⟩, ⟨by (try simp only [hl5_2]); (try simp only [hl5_3]); (with_reducible repeat (first | refine blk_drewN ?_ _ | refine blk_drew ?_ | refine blk_alloc ?_ _)); refine blk_far ?_ NB394_414.out _; (with_reducible repeat (first | refine blk_drewN ?_ _ | refine blk_drew ?_ | refine blk_alloc ?_ _)); refine blk_far ?_ NB394_414.out _; (with_reducible repeat (first | refine blk_drewN ?_ _ | refine blk_drew ?_ | refine blk_alloc ?_ _)); exact BK394.out⟩, ⟨by (try simp only [hl5_2]); (try simp only [hl5_3]); (with_reducible repeat (first | refine blk_drewN ?_ _ | refine blk_drew ?_ | refine blk_alloc ?_ _)); refine blk_far ?_ NB411_414.out _; (with_reducible repeat (first | refine blk_drewN ?_ _ | refine blk_drew ?_ | refine blk_alloc ?_ _)); refine blk_far ?_ NB411_414.out _; (with_reducible repeat (first | refine blk_drewN ?_ _ | refine blk_drew ?_ | refine blk_alloc ?_ _)); exact BK411.out⟩, ⟨by (try simp only [hl5_2]); (try simp only [hl5_3]); (with_reducible repeat (first | refine blk_drewN ?_ _ | refine blk_drew ?_ | refine blk_alloc ?_ _)); refine blk_put (cs := #[.int .i64 ((rd_T77 (rd_L7 x5_3 x6_1) x42_2).f0), .int .i64 0]) ?_ 1 _ rfl; (with_reducible repeat (first | refine blk_drewN ?_ _ | refine blk_drew ?_ | refine blk_alloc ?_ _)); refine blk_put (cs := #[.int .i64 0, .int .i64 0]) ?_ 0 _ rfl; (with_reducible repeat (first | refine blk_drewN ?_ _ | refine blk_drew ?_ | refine blk_alloc ?_ _)); exact BK414.out⟩, ⟨(Kd.R_reads' (by (with_reducible repeat (first | apply Kd.R_alloc | apply Kd.R_drewN | apply Kd.R_drew)); exact (Kd.R_mono (Kd.R_far (p := ⟨gb414, 1, none⟩) (Kd.R_far (p := ⟨gb414, 0, none⟩) (Kd.R_mono HL412_0.out (fun k_ hk => (⟨hk, hk.2⟩ : _ ∧ k_ ≠ gb414))) (fun _ hk => hk.2) (.int .i64 ((rd_T77 (rd_L7 x5_3 x6_1) x42_2).f0))) (fun _ hk => hk.2) (.int .i64 ((rd_T77 (rd_L7 x5_3 x6_1) x42_2).f1))) (fun _ h_ => h_.1)))).2.2⟩, ⟨by repeat (first | (with_reducible first | exact HB.out | apply below_alloc | apply pw_below_drewN | apply below_drew1 | refine below_set ?_ GE394.out | refine below_set ?_ GE411.out | refine below_set ?_ GE414.out) | exact HB.out)⟩⟩
                        rw [if_pos c72] at H
                        have c72b0 : (((rd_T77 (rd_L7 x5_3 x6_1) x42_2).f0) == 0) = true := beq_iff_eq.mpr c72
                        have c72b1 : (((rd_T77 (rd_L7 x5_3 x6_1) x42_2).f0) != 0) = false := bne_eq_false_iff_eq.mpr c72
                        clear c72
                        (first | rw [c72b0] | (simp only [i64_w, i32_w]; rw [c72b0]) | skip)
                        have H' := Aside0.mk H
                        clear H
                        have hnb73 := NB414_394.out
                        have hnc73 := NB394_414.out
                        have hnb74 := NB414_411.out
                        have hnc74 := NB411_414.out
                        have hcz75_0 : w68.cell? ⟨gb414, 0, none⟩ = some (.int .i64 0) := (blk_cell BK414.out 0).trans rfl
                        have hcz75_1 : w68.cell? ⟨gb414, 1, none⟩ = some (.int .i64 0) := (blk_cell BK414.out 1).trans rfl
                        have hfz75_0 := blk_frozen BK414.out 0
                        have hfz75_1 := blk_frozen BK414.out 1
                        go_wp2
                        go_meet
                        case rel => exact ⟨_, (true), (by first | rfl | (simp; done) | (simp [*]; done)), H', ⟨by have := HK1.out; have := HK2.out; have := HK3.out; have := HJ33.out; first | omega | exact Nat.le_refl _⟩, ⟨by (try simp only [hl5_2]); (try simp only [hl5_3]); (with_reducible repeat (first | apply Kd.S_alloc | apply Kd.S_drewN | apply Kd.S_drew)); exact Kd.S_mono (Kd.S_far (p := ⟨gb414, 1, none⟩) (Kd.S_far (p := ⟨gb414, 0, none⟩) (Kd.S_mono HO_5.out (fun k_ hk => (⟨hk, hk.2⟩ : _ ∧ k_ ≠ gb414))) (fun _ hk => hk.2) (.int .i64 ((rd_T77 (rd_L7 x5_3 x6_1) x42_2).f0))) (fun _ hk => hk.2) (.int .i64 ((rd_T77 (rd_L7 x5_3 x6_1) x42_2).f1))) (fun _ hk => ⟨hk.1.1, hk.1.2⟩)⟩, ⟨by (try simp only [hl5_2]); (try simp only [hl5_3]); (with_reducible repeat (first | refine blk_drewN ?_ _ | refine blk_drew ?_ | refine blk_alloc ?_ _)); refine blk_far ?_ NB394_414.out _; (with_reducible repeat (first | refine blk_drewN ?_ _ | refine blk_drew ?_ | refine blk_alloc ?_ _)); refine blk_far ?_ NB394_414.out _; (with_reducible repeat (first | refine blk_drewN ?_ _ | refine blk_drew ?_ | refine blk_alloc ?_ _)); exact BK394.out⟩, ⟨by (try simp only [hl5_2]); (try simp only [hl5_3]); (with_reducible repeat (first | refine blk_drewN ?_ _ | refine blk_drew ?_ | refine blk_alloc ?_ _)); refine blk_far ?_ NB411_414.out _; (with_reducible repeat (first | refine blk_drewN ?_ _ | refine blk_drew ?_ | refine blk_alloc ?_ _)); refine blk_far ?_ NB411_414.out _; (with_reducible repeat (first | refine blk_drewN ?_ _ | refine blk_drew ?_ | refine blk_alloc ?_ _)); exact BK411.out⟩, ⟨by (try simp only [hl5_2]); (try simp only [hl5_3]); (with_reducible repeat (first | refine blk_drewN ?_ _ | refine blk_drew ?_ | refine blk_alloc ?_ _)); refine blk_put (cs := #[.int .i64 ((rd_T77 (rd_L7 x5_3 x6_1) x42_2).f0), .int .i64 0]) ?_ 1 _ rfl; (with_reducible repeat (first | refine blk_drewN ?_ _ | refine blk_drew ?_ | refine blk_alloc ?_ _)); refine blk_put (cs := #[.int .i64 0, .int .i64 0]) ?_ 0 _ rfl; (with_reducible repeat (first | refine blk_drewN ?_ _ | refine blk_drew ?_ | refine blk_alloc ?_ _)); exact BK414.out⟩, ⟨(Kd.R_reads' (by (with_reducible repeat (first | apply Kd.R_alloc | apply Kd.R_drewN | apply Kd.R_drew)); exact (Kd.R_mono (Kd.R_far (p := ⟨gb414, 1, none⟩) (Kd.R_far (p := ⟨gb414, 0, none⟩) (Kd.R_mono HL412_0.out (fun k_ hk => (⟨hk, hk.2⟩ : _ ∧ k_ ≠ gb414))) (fun _ hk => hk.2) (.int .i64 ((rd_T77 (rd_L7 x5_3 x6_1) x42_2).f0))) (fun _ hk => hk.2) (.int .i64 ((rd_T77 (rd_L7 x5_3 x6_1) x42_2).f1))) (fun _ h_ => h_.1)))).2.2⟩, ⟨by repeat (first | (with_reducible first | exact HB.out | apply below_alloc | apply pw_below_drewN | apply below_drew1 | refine below_set ?_ GE394.out | refine below_set ?_ GE411.out | refine below_set ?_ GE414.out) | exact HB.out)⟩⟩
                      case rest =>
                        clear HC60
                        try clear p2
                        try clear c4
                        try clear p4
                        try clear q4
                        try clear hx4
                        try clear c5
                        try clear c6
                        try clear p6
                        try clear c7
                        try clear c40
                        try clear p40
                        try clear q40
                        try clear hx40
                        try clear c41
                        try clear p41
                        try clear q41
                        try clear hx41
                        try clear c50
                        try clear c50b0
                        try clear c50b1
                        try clear c55
                        try clear c57
                        try clear c57b0
                        try clear c58
                        try clear c58b0
                        try clear c59
                        try clear c59b0
                        try clear p64
                        try clear c66
                        try clear c69
                        try clear c70
                        try clear c72
                        try clear c72b0
                        try clear c72b1
                        try clear c73
                        try clear c74
                        try clear c76
                        try clear c77
                        try clear c79
                        try clear hcz56_0
                        try clear hcz56_1
                        try clear hcz67_0
                        try clear hcz67_1
                        try clear hcz71_0
                        try clear hcz71_1
                        try clear hcz75_0
                        try clear hcz75_1
                        try clear hcz78_0
                        try clear hcz78_1
                        try clear hcz80_0
                        try clear hcz80_1
                        try clear hfz56_0
                        try clear hfz56_1
                        try clear hfz67_0
                        try clear hfz67_1
                        try clear hfz71_0
                        try clear hfz71_1
                        try clear hfz75_0
                        try clear hfz75_1
                        try clear hfz78_0
                        try clear hfz78_1
                        try clear hfz80_0
                        try clear hfz80_1
                        try clear hx408_0
                        try clear hx409_0
                        try clear hx410_0
                        try clear hx410_1
                        try clear hx412_0
                        try clear hx413_0
                        try clear hx413_1
                        try clear p408
                        try clear p409
                        try clear p410
                        try clear p412
                        try clear p413
                        try clear q408
                        try clear q409
                        try clear q410
                        try clear q412
                        try clear q413
                        obtain ⟨kq, x102_59, rfl, HA, HJ59, HO_5, BK394, BK411, BK414, HR412_0, HB⟩ := hcut
                        cases kq with
                        | zero => exact absurd HA.out (by simp [impl_purse_table.j4])
                        | succ kj59 =>
                          have H := HA.out
                          clear HA
                          simp only [impl_purse_table.j4] at H
                          by_cases c81 : x102_59 = true
                          rotate_left
                          · replace c81 := Bool.eq_false_iff.mpr c81
                            subst c81
                            have H1 : (if 0 ≤ x6_1 then (if x6_1 < (x5_3.length : Int) then (if 0 ≤ x42_2 then (if x42_2 < ((rd_L7 x5_3 x6_1).length : Int) then (impl_purse_table.l2 kj59 a1 (x5_3.set (x6_1 : Int).toNat ((rd_L7 x5_3 x6_1).set (x42_2 : Int).toNat (⟨wrap64 (((rd_T77 (rd_L7 x5_3 x6_1) x42_2).f0) + ((rd_T77 (rd_L7 x5_3 (ji42)) (ji47)).f0)), (rd_T77 (rd_L7 x5_3 x6_1) x42_2).f1⟩ : S77))) x6_1 x42_2 (wrap64 (x8_3 + 1)) ji12 x42_2 l0_0 l0_1) else (none)) else (none)) else (none)) else (none)) = some r := by rw [if_neg (show ¬ (false = true) by decide)] at H; exact H
                            clear H
                            have H := H1
                            clear H1
                            by_cases c96 : 0 ≤ x6_1
                            rotate_left
                            · rw [if_neg c96] at H
                              exact absurd H (by simp)
                            rw [if_pos c96] at H
                            have c96b0 : decide (0 ≤ x6_1) = true := decide_eq_true c96
                            clear c96
                            by_cases c97 : x6_1 < (x5_3.length : Int)
                            rotate_left
                            · rw [if_neg c97] at H
                              exact absurd H (by simp)
                            rw [if_pos c97] at H
                            have c97b0 : decide (x6_1 < (x5_3.length : Int)) = true := decide_eq_true c97
                            clear c97
                            by_cases c98 : 0 ≤ x42_2
                            rotate_left
                            · rw [if_neg c98] at H
                              exact absurd H (by simp)
                            rw [if_pos c98] at H
                            have c98b0 : decide (0 ≤ x42_2) = true := decide_eq_true c98
                            clear c98
                            by_cases c99 : x42_2 < ((rd_L7 x5_3 x6_1).length : Int)
                            rotate_left
                            · rw [if_neg c99] at H
                              exact absurd H (by simp)
                            rw [if_pos c99] at H
                            have c99b0 : decide (x42_2 < ((rd_L7 x5_3 x6_1).length : Int)) = true := decide_eq_true c99
                            clear c99
                            obtain ⟨y426, hy426⟩ : ∃ y_ : List (S77), y_ = ((rd_L7 x5_3 x6_1).set (x42_2 : Int).toNat (⟨wrap64 (((rd_T77 (rd_L7 x5_3 x6_1) x42_2).f0) + ((rd_T77 (rd_L7 x5_3 (ji42)) (ji47)).f0)), (rd_T77 (rd_L7 x5_3 x6_1) x42_2).f1⟩ : S77)) := ⟨_, rfl⟩
                            replace H : (impl_purse_table.l2 kj59 a1 (x5_3.set (x6_1 : Int).toNat y426) x6_1 x42_2 (wrap64 (x8_3 + 1)) ji12 x42_2 l0_0 l0_1) = some r := by first | (rw [hy426]; with_reducible exact H) | (have H2_ := (Option.bind_some _ _).symm.trans H; rw [hy426]; with_reducible exact H2_) | (have H2_ := (Option.bind_some _ _).symm.trans H; with_reducible exact H2_) | with_reducible exact H | (rw [hy426]; exact H) | exact H
                            have Ny426 := Aside0.mk hy426
                            clear hy426
                            obtain ⟨y428, hy428⟩ : ∃ y_ : List (List (S77)), y_ = (x5_3.set (x6_1 : Int).toNat y426) := ⟨_, rfl⟩
                            replace H : (impl_purse_table.l2 kj59 a1 y428 x6_1 x42_2 (wrap64 (x8_3 + 1)) ji12 x42_2 l0_0 l0_1) = some r := by first | (rw [hy428]; with_reducible exact H) | (have H2_ := (Option.bind_some _ _).symm.trans H; rw [hy428]; with_reducible exact H2_) | (have H2_ := (Option.bind_some _ _).symm.trans H; with_reducible exact H2_) | with_reducible exact H | (rw [hy428]; exact H) | exact H
                            have Ny428 := Aside0.mk hy428
                            clear hy428
                            have H' := Aside0.mk H
                            clear H
                            try go_wp2
                            have n0_ := Aside0.mk (Kd.S_drew HO_5.out)
                            have n1_ := Aside0.mk (blk_drew BK394.out)
                            have n2_ := Aside0.mk (blk_drew BK411.out)
                            have n3_ := Aside0.mk (blk_drew BK414.out)
                            have n4_ := Aside0.mk (Kd.C_drew HR412_0.out)
                            have n5_ := Aside0.mk (below_drew1 HB.out)
                            clear HO_5
                            clear BK394
                            clear BK411
                            clear BK414
                            clear HR412_0
                            clear HB
                            have HO_5 := n0_
                            have BK394 := n1_
                            have BK411 := n2_
                            have BK414 := n3_
                            have HR412_0 := n4_
                            have HB := n5_
                            clear n0_ n1_ n2_ n3_ n4_ n5_
                            have p424 : 0 ≤ (x6_1 : Int) := of_decide_eq_true (by first | (with_reducible assumption) | assumption)
                            have q424 : x6_1 < (x5_3.length : Int) := of_decide_eq_true (by first | (with_reducible assumption) | assumption)
                            obtain ⟨ad424, A424_0, c424_0, e424, hx424_0, hl424_0, hi424_0⟩ := at_L7 (Kd.S_reads' HO_5.out).2.2 x6_1 p424 q424
                            obtain rfl : (⟨go17, 0, none⟩ : Addr) = ad424 := (by injection e424)
                            obtain ⟨ce424, hce424, hMe424, hcc424⟩ := Kd.S_get HO_5.out [] x6_1 p424 (by first | exact q424 | exact of_decide_eq_true (by first | (with_reducible assumption) | assumption) | (have e_ := (Kd.S_reads' HO_5.out).1; omega))
                            obtain ⟨ve424_0, rfl, ge424_0⟩ := hMe424
                            have hv424_0 := hcc424 0 _ rfl
                            rw [Nat.add_zero, show ((Kd.slice 77 k77)).sz = 1 from rfl, Nat.mul_one] at hv424_0
                            replace hv424_0 := Option.some.inj (hv424_0.symm.trans hx424_0)
                            rw [hv424_0] at ge424_0
                            have HL424_0 := Aside0.mk (show Kd.R k77 77 _ _ _ _ (rd_L7 x5_3 x6_1) from ge424_0)
                            clear hv424_0 ge424_0
                            have HX424_0 := Aside0.mk hx424_0
                            clear hcc424 hce424
                            (first | simp only [add_plain] at hx424_0 | simp only [add_at] at hx424_0 | simp only [Addr.add, Nat.zero_add] at hx424_0 | skip)
                            have HR424_0 := Aside0.mk hi424_0
                            have HC424_0 := Aside0.mk hl424_0
                            clear hi424_0 hl424_0
                            replace p424 := eq_true p424
                            replace q424 := eq_true q424
                            have p425 : 0 ≤ (x42_2 : Int) := of_decide_eq_true (by first | (with_reducible assumption) | assumption)
                            have q425 : x42_2 < ((rd_L7 x5_3 x6_1).length : Int) := of_decide_eq_true (by first | (with_reducible assumption) | assumption)
                            obtain ⟨ad425, e425, hx425_0, hx425_1⟩ := at_T77 (by repeat (first | (with_reducible exact HR424_0.out) | (with_reducible refine Kd.C_alloc ?_ _) | (with_reducible refine Kd.C_drewN ?_ _) | (with_reducible refine Kd.C_drew ?_) | exact HR424_0.out)) x42_2 p425 q425
                            cases e425
                            replace p425 := eq_true p425
                            replace q425 := eq_true q425
                            have p100 : 0 ≤ (x42_2 : Int) := of_decide_eq_true (by first | (with_reducible assumption) | assumption)
                            have q100 : (x42_2 : Int) < (((rd_L7 x5_3 x6_1).length : Int) : Int) := of_decide_eq_true (by first | (with_reducible assumption) | assumption)
                            obtain ⟨go100, co100, eo100, gb100, gl100, cl100, HG100⟩ := Kd.R_form HL424_0.out (by omega)
                            (first | cases eo100 | (injection eo100 with ea_ en_ ec_; (first | subst ea_ | (injection ea_ with ea_; subst ea_)); subst ec_; clear en_))
                            have GB100 := Aside0.mk gb100
                            have GG100 := Aside0.mk HG100
                            clear gb100 gl100 HG100
                            (first | simp only [add_plain] at hx425_0 | skip)
                            (first | simp only [add_plain] at hx425_1 | skip)
                            obtain ⟨ce100, hcl100, hM100, hcc100, hfr100⟩ := Kd.R_elem HL424_0.out z77 (x42_2 : Int) p100 q100
                            obtain rfl := k77_openM hM100
                            have hx100_0 : World.cell? _ ⟨go100, (x42_2 : Int).toNat * 2, none⟩ = some (.int .i64 ((rd_T77 (rd_L7 x5_3 x6_1) x42_2).f0)) := hcc100 0 _ rfl
                            have hx100_1 : World.cell? _ ⟨go100, (x42_2 : Int).toNat * 2 + 1, none⟩ = some (.int .i64 ((rd_T77 (rd_L7 x5_3 x6_1) x42_2).f1)) := hcc100 1 _ rfl
                            have hf100_0 : World.frozen? _ ⟨go100, (x42_2 : Int).toNat * 2, none⟩ = false := hfr100 0
                            have hf100_1 : World.frozen? _ ⟨go100, (x42_2 : Int).toNat * 2 + 1, none⟩ = false := hfr100 1
                            clear hcl100 hcc100 hfr100 hM100
                            replace p100 := eq_true p100
                            replace q100 := eq_true q100
                            have hq102 : (x6_1 : Int) < (x5_3.length : Int) := (by have h_ : (x6_1 : Int) < ((x5_3.length : Int) : Int) := of_decide_eq_true (by first | (with_reducible assumption) | assumption); first | exact h_ | (have e_ := (Kd.S_reads' HO_5.out).1; omega) | simpa only [List.length_set, List.length_set] using h_)
                            obtain ⟨oki102, ce102, hcl102, hM102, hcc102, hok102, hbk102⟩ := Kd.S_borrow HO_5.out [] (x6_1 : Int) (of_decide_eq_true (by first | (with_reducible assumption) | assumption)) (by first | exact hq102 | (have e_ := (Kd.S_reads' HO_5.out).1; omega))
                            obtain ⟨ve102_0, rfl, ge102_0⟩ := id hM102
                            have hv102 := hcc102 0 _ rfl
                            rw [Nat.add_zero, show ((Kd.slice 77 k77)).sz = 1 from rfl, Nat.mul_one] at hv102
                            replace hv102 := Option.some.inj (hv102.symm.trans HX424_0.out)
                            subst hv102
                            clear hcc102 hcl102
                            replace ge102_0 := (show Kd.R k77 77 _ _ _ _ (rd_L7 x5_3 x6_1) from ge102_0)
                            obtain ⟨cf102, hcl102, hN102, hcc102, hfr102⟩ := Kd.R_elem ge102_0 z77 (x42_2 : Int) (of_decide_eq_true (by first | (with_reducible assumption) | assumption)) (by have h_ : (x42_2 : Int) < (((rd_L7 x5_3 x6_1).length : Int) : Int) := of_decide_eq_true (by first | (with_reducible assumption) | assumption); first | exact h_ | (have e_ := (Kd.R_reads' HR424_0.out).1; omega) | simpa using h_)
                            obtain rfl := k77_openM hN102
                            have HP102 := Kd.R_seg ge102_0 (x42_2 : Int) (of_decide_eq_true (by first | (with_reducible assumption) | assumption)) (by have h_ : (x42_2 : Int) < (((rd_L7 x5_3 x6_1).length : Int) : Int) := of_decide_eq_true (by first | (with_reducible assumption) | assumption); first | exact h_ | (have e_ := (Kd.R_reads' HR424_0.out).1; omega) | simpa using h_) (seg := [.int .i64 (wrap64 (((rd_T77 (rd_L7 x5_3 x6_1) x42_2).f0) + ((rd_T77 (rd_L7 x5_3 (ji42)) (ji47)).f0)))]) (j := 0) hcl102 hcc102 (show 1 ≤ 2 from by decide) (x' := (⟨wrap64 (((rd_T77 (rd_L7 x5_3 x6_1) x42_2).f0) + ((rd_T77 (rd_L7 x5_3 (ji42)) (ji47)).f0)), (rd_T77 (rd_L7 x5_3 x6_1) x42_2).f1⟩ : S77)) (k77_mkM _ _ _ (⟨wrap64 (((rd_T77 (rd_L7 x5_3 x6_1) x42_2).f0) + ((rd_T77 (rd_L7 x5_3 (ji42)) (ji47)).f0)), (rd_T77 (rd_L7 x5_3 x6_1) x42_2).f1⟩ : S77)) (fun _ hk => hk)
                            clear hcl102 hcc102 hfr102 hN102
                            rw [← Ny426.out] at HP102
                            have HS102 := hbk102 HP102.2 (fun k_ e_ => by injection e_ with e_; subst e_; exact ge102_0.1 _ rfl) (x' := y426) (Kd.M_row HP102.1)
                            rw [← Ny428.out] at HS102
                            have HQ102 := Aside0.mk HS102
                            clear HP102 HS102 hbk102 hok102
                            refine start_ (n := 14) (S := fun w' => w'.cell? ⟨gb411, 0, none⟩ = some (.int .i64 ((rd_T77 (rd_L7 x5_3 (ji42)) (ji47)).f0)) ∧ w'.cell? ⟨gb411, 1, none⟩ = some (.int .i64 ((rd_T77 (rd_L7 x5_3 (ji42)) (ji47)).f1)) ∧ w'.cell? ⟨go17, (x6_1).toNat, none⟩ = some (.slice (some ⟨go100, 0, none⟩) (rd_L7 x5_3 x6_1).length c424_0) ∧ w'.cell? ⟨go100, ((x42_2).toNat * 2), none⟩ = some (.int .i64 ((rd_T77 (rd_L7 x5_3 x6_1) x42_2).f0)) ∧ w'.cell? ⟨go100, ((x42_2).toNat * 2) + 1, none⟩ = some (.int .i64 ((rd_T77 (rd_L7 x5_3 x6_1) x42_2).f1))) (ds := [13]) #[false, false, false, false, false, false, false, false, false, false, false, false, false, false] (by kernel_rfl) rfl rfl ⟨(blk_cell BK411.out 0).trans rfl, (blk_cell BK411.out 1).trans rfl, hx424_0, hx425_0, hx425_1⟩ (fun hHeld => ?_); refine with_tabW impl_purse_table.tab19 impl_purse_table.bits19 (fun HT_ HW_ => ?_)
                            generalize wc.drew = w101 at HO_5 BK394 BK411 BK414 HR412_0 HB GG100 HL424_0 HQ102 HR424_0 HX424_0 hf100_0 hf100_1 hx100_0 hx100_1 hx424_0 hx425_0 hx425_1 hHeld ⊢
                            refine pure_ (i := 0) (N := some 114) (v := ?_) (a' := ?_) #[true, false, false, false, false, false, false, false, false, false, false, false, false, false] rfl rfl (any_of HT_.out (by kernel_rfl)) (fun _ _ _ h => h) (Or.inl ⟨by rfl, ?_⟩) ?_ ?_
                            rotate_left
                            · intro w'
                              go_simp
                              with_reducible rfl
                            rotate_left
                            · simp only [Act.put, List.setIfInBounds_toArray, List.set_cons_zero, List.set_cons_succ, i64_w, i32_w]
                              rfl
                            refine pure_ (i := 1) (N := some 115) (v := ?_) (a' := ?_) #[true, true, false, false, false, false, false, false, false, false, false, false, false, false] rfl rfl (any_of HT_.out (by kernel_rfl)) (fun _ _ _ h => h) (Or.inl ⟨by rfl, ?_⟩) ?_ ?_
                            rotate_left
                            · intro w'
                              go_simp
                              with_reducible rfl
                            rotate_left
                            · simp only [Act.put, List.setIfInBounds_toArray, List.set_cons_zero, List.set_cons_succ, i64_w, i32_w]
                              rfl
                            refine pure_ (i := 2) (N := some 116) (v := ?_) (a' := ?_) #[true, true, true, false, false, false, false, false, false, false, false, false, false, false] rfl rfl (any_of HT_.out (by kernel_rfl)) (fun _ _ _ h => h) (Or.inl ⟨by rfl, ?_⟩) ?_ ?_
                            rotate_left
                            · intro w'
                              go_simp
                              with_reducible rfl
                            rotate_left
                            · simp only [Act.put, List.setIfInBounds_toArray, List.set_cons_zero, List.set_cons_succ, i64_w, i32_w]
                              rfl
                            refine pure_ (i := 4) (N := some 118) (v := ?_) (a' := ?_) #[true, true, true, false, true, false, false, false, false, false, false, false, false, false] rfl rfl (any_of HT_.out (by kernel_rfl)) (fun _ _ _ h => h) (Or.inl ⟨by rfl, ?_⟩) ?_ ?_
                            rotate_left
                            · intro w'
                              go_simp
                              with_reducible rfl
                            rotate_left
                            · simp only [Act.put, List.setIfInBounds_toArray, List.set_cons_zero, List.set_cons_succ, i64_w, i32_w]
                              rfl
                            refine pure_ (i := 8) (N := some 122) (v := ?_) (a' := ?_) #[true, true, true, false, true, false, false, false, true, false, false, false, false, false] rfl rfl (any_of HT_.out (by kernel_rfl)) (fun _ _ _ h => h) (Or.inl ⟨by rfl, ?_⟩) ?_ ?_
                            rotate_left
                            · intro w'
                              go_simp
                              with_reducible rfl
                            rotate_left
                            · simp only [Act.put, List.setIfInBounds_toArray, List.set_cons_zero, List.set_cons_succ, i64_w, i32_w]
                              rfl
                            refine take_ (i := 3) (N := some 117) (v := ?_) (a' := ?_) #[true, true, true, true, true, false, false, false, true, false, false, false, false, false] rfl rfl (take_ofW HT_.out HW_.out (by kernel_rfl)) (fun _ _ _ h => h) (Or.inl ⟨by rfl, ?_⟩) hHeld ?_ ?_
                            rotate_left
                            · rintro w' ⟨s0, s1, s2, s3, s4⟩
                              go_simp
                              with_reducible rfl
                            rotate_left
                            · simp only [Act.put, List.setIfInBounds_toArray, List.set_cons_zero, List.set_cons_succ, i64_w, i32_w]
                              rfl
                            refine pure_ (i := 5) (N := some 119) (v := ?_) (a' := ?_) #[true, true, true, true, true, true, false, false, true, false, false, false, false, false] rfl rfl (any_of HT_.out (by kernel_rfl)) (fun _ _ _ h => h) (Or.inl ⟨by rfl, ?_⟩) ?_ ?_
                            rotate_left
                            · intro w'
                              go_simp
                              with_reducible rfl
                            rotate_left
                            · simp only [Act.put, List.setIfInBounds_toArray, List.set_cons_zero, List.set_cons_succ, i64_w, i32_w]
                              rfl
                            refine pure_ (i := 6) (N := some 120) (v := ?_) (a' := ?_) #[true, true, true, true, true, true, true, false, true, false, false, false, false, false] rfl rfl (any_of HT_.out (by kernel_rfl)) (fun _ _ _ h => h) (Or.inl ⟨by rfl, ?_⟩) ?_ ?_
                            rotate_left
                            · intro w'
                              go_simp
                              with_reducible rfl
                            rotate_left
                            · simp only [Act.put, List.setIfInBounds_toArray, List.set_cons_zero, List.set_cons_succ, i64_w, i32_w]
                              rfl
                            refine take_ (i := 7) (N := some 121) (v := ?_) (a' := ?_) #[true, true, true, true, true, true, true, true, true, false, false, false, false, false] rfl rfl (take_ofW HT_.out HW_.out (by kernel_rfl)) (fun _ _ _ h => h) (Or.inl ⟨by rfl, ?_⟩) hHeld ?_ ?_
                            rotate_left
                            · rintro w' ⟨s0, s1, s2, s3, s4⟩
                              go_simp
                              with_reducible rfl
                            rotate_left
                            · simp only [Act.put, List.setIfInBounds_toArray, List.set_cons_zero, List.set_cons_succ, i64_w, i32_w]
                              rfl
                            refine take_ (i := 9) (N := some 123) (v := ?_) (a' := ?_) #[true, true, true, true, true, true, true, true, true, true, false, false, false, false] rfl rfl (take_ofW HT_.out HW_.out (by kernel_rfl)) (fun _ _ _ h => h) (Or.inl ⟨by rfl, ?_⟩) hHeld ?_ ?_
                            rotate_left
                            · rintro w' ⟨s0, s1, s2, s3, s4⟩
                              go_simp
                              with_reducible rfl
                            rotate_left
                            · simp only [Act.put, List.setIfInBounds_toArray, List.set_cons_zero, List.set_cons_succ, i64_w, i32_w]
                              rfl
                            refine pure_ (i := 10) (N := some 124) (v := ?_) (a' := ?_) #[true, true, true, true, true, true, true, true, true, true, true, false, false, false] rfl rfl (any_of HT_.out (by kernel_rfl)) (fun _ _ _ h => h) (Or.inl ⟨by rfl, ?_⟩) ?_ ?_
                            rotate_left
                            · intro w'
                              go_simp
                              with_reducible rfl
                            rotate_left
                            · simp only [Act.put, List.setIfInBounds_toArray, List.set_cons_zero, List.set_cons_succ, i64_w, i32_w]
                              rfl
                            refine pure_ (i := 11) (N := some 125) (v := ?_) (a' := ?_) #[true, true, true, true, true, true, true, true, true, true, true, true, false, false] rfl rfl (any_of HT_.out (by kernel_rfl)) (fun _ _ _ h => h) (Or.inl ⟨by rfl, ?_⟩) ?_ ?_
                            rotate_left
                            · intro w'
                              go_simp
                              with_reducible rfl
                            rotate_left
                            · simp only [Act.put, List.setIfInBounds_toArray, List.set_cons_zero, List.set_cons_succ, i64_w, i32_w]
                              rfl
                            refine pure_ (i := 12) (N := some 126) (v := ?_) (a' := ?_) #[true, true, true, true, true, true, true, true, true, true, true, true, true, false] rfl rfl (any_of HT_.out (by kernel_rfl)) (fun _ _ _ h => h) (Or.inl ⟨by rfl, ?_⟩) ?_ ?_
                            rotate_left
                            · intro w'
                              go_simp
                              with_reducible rfl
                            rotate_left
                            · simp only [Act.put, List.setIfInBounds_toArray, List.set_cons_zero, List.set_cons_succ, i64_w, i32_w]
                              rfl
                            refine last_ (i := 13) (N := none) #[true, true, true, true, true, true, true, true, true, true, true, true, true, true] rfl rfl (one_of HT_.out (by kernel_rfl)) (by decide) (fun K hK => ?_)
                            refine skip_ (w1 := ?_) (by rfl) rfl ?_ ?_
                            rotate_left
                            · go_simp
                              rfl
                            refine hK.out _ _ ?_
                            clear hK K
                            refine done_ (done_of HT_.out (by kernel_rfl)) ?_
                            try go_wp2
                            (try simp only [← hl5_3])
                            go_roundg kj59
                            case measure => have := HK1.out; have := HK2.out; have := HK3.out; have := HJ33.out; have := HJ59.out; omega
                            case rel => exact ⟨(y428), (wrap64 (x8_3 + 1)), (by first | rfl | (simp; done) | (simp [*]; done)), H', ⟨by have := HK1.out; have := HK2.out; have := HK3.out; have := HJ33.out; have := HJ59.out; omega⟩, ⟨by (try simp only [hl5_2]); (try simp only [hl5_3]); (with_reducible repeat (first | apply Kd.S_alloc | apply Kd.S_drewN | apply Kd.S_drew)); exact Kd.S_mono HQ102.out (fun _ hk => trivial)⟩, ⟨by (try simp only [hl5_2]); (try simp only [hl5_3]); (with_reducible repeat (first | refine blk_drewN ?_ _ | refine blk_drew ?_ | refine blk_alloc ?_ _)); refine blk_far ?_ (by have h_ := Kd.R_ne HL424_0.out BK394.out (by decide); intro e_; exact h_ (by rw [e_]; rfl)) _; (with_reducible repeat (first | refine blk_drewN ?_ _ | refine blk_drew ?_ | refine blk_alloc ?_ _)); exact BK394.out⟩, ⟨by repeat (first | (with_reducible first | exact HB.out | apply below_alloc | apply pw_below_drewN | apply below_drew1 | refine below_set ?_ GB100.out | refine below_set ?_ GE394.out | refine below_set ?_ GE411.out | refine below_set ?_ GE414.out) | exact HB.out)⟩⟩
                          subst c81
                          have H1 : (if 0 ≤ x6_1 then (if x6_1 < (x5_3.length : Int) then (if 0 ≤ x42_2 then (if x42_2 < ((rd_L7 x5_3 x6_1).length : Int) then ((some (x5_3.set (x6_1 : Int).toNat ((rd_L7 x5_3 x6_1).set (x42_2 : Int).toNat (⟨(rd_T77 (rd_L7 x5_3 x6_1) x42_2).f0, wrap64 (((rd_T77 (rd_L7 x5_3 (ji42)) (ji47)).f1) + x8_3)⟩ : S77)) : List (List (S77)))).bind fun y418 => (if x42_2 < ((rd_L7 y418 x6_1).length : Int) then (impl_purse_table.l2 kj59 a1 (y418.set (x6_1 : Int).toNat ((rd_L7 y418 x6_1).set (x42_2 : Int).toNat (⟨wrap64 (((rd_T77 (rd_L7 y418 x6_1) x42_2).f0) + ((rd_T77 (rd_L7 x5_3 (ji42)) (ji47)).f0)), (rd_T77 (rd_L7 y418 x6_1) x42_2).f1⟩ : S77))) x6_1 x42_2 (wrap64 (x8_3 + 1)) ji12 x42_2 l0_0 l0_1) else (none))) else (none)) else (none)) else (none)) else (none)) = some r := by rw [if_pos rfl] at H; exact H
                          clear H
                          have H := H1
                          clear H1
                          by_cases c82 : 0 ≤ x6_1
                          rotate_left
                          · rw [if_neg c82] at H
                            exact absurd H (by simp)
                          rw [if_pos c82] at H
                          have c82b0 : decide (0 ≤ x6_1) = true := decide_eq_true c82
                          clear c82
                          by_cases c83 : x6_1 < (x5_3.length : Int)
                          rotate_left
                          · rw [if_neg c83] at H
                            exact absurd H (by simp)
                          rw [if_pos c83] at H
                          have c83b0 : decide (x6_1 < (x5_3.length : Int)) = true := decide_eq_true c83
                          clear c83
                          by_cases c84 : 0 ≤ x42_2
                          rotate_left
                          · rw [if_neg c84] at H
                            exact absurd H (by simp)
                          rw [if_pos c84] at H
                          have c84b0 : decide (0 ≤ x42_2) = true := decide_eq_true c84
                          clear c84
                          by_cases c85 : x42_2 < ((rd_L7 x5_3 x6_1).length : Int)
                          rotate_left
                          · rw [if_neg c85] at H
                            exact absurd H (by simp)
                          rw [if_pos c85] at H
                          have c85b0 : decide (x42_2 < ((rd_L7 x5_3 x6_1).length : Int)) = true := decide_eq_true c85
                          clear c85
                          obtain ⟨y416, hy416⟩ : ∃ y_ : List (S77), y_ = ((rd_L7 x5_3 x6_1).set (x42_2 : Int).toNat (⟨(rd_T77 (rd_L7 x5_3 x6_1) x42_2).f0, wrap64 (((rd_T77 (rd_L7 x5_3 (ji42)) (ji47)).f1) + x8_3)⟩ : S77)) := ⟨_, rfl⟩
                          replace H : ((some (x5_3.set (x6_1 : Int).toNat y416 : List (List (S77)))).bind fun y418 => (if x42_2 < ((rd_L7 y418 x6_1).length : Int) then (impl_purse_table.l2 kj59 a1 (y418.set (x6_1 : Int).toNat ((rd_L7 y418 x6_1).set (x42_2 : Int).toNat (⟨wrap64 (((rd_T77 (rd_L7 y418 x6_1) x42_2).f0) + ((rd_T77 (rd_L7 x5_3 (ji42)) (ji47)).f0)), (rd_T77 (rd_L7 y418 x6_1) x42_2).f1⟩ : S77))) x6_1 x42_2 (wrap64 (x8_3 + 1)) ji12 x42_2 l0_0 l0_1) else (none))) = some r := by first | (rw [hy416]; with_reducible exact H) | (have H2_ := (Option.bind_some _ _).symm.trans H; rw [hy416]; with_reducible exact H2_) | (have H2_ := (Option.bind_some _ _).symm.trans H; with_reducible exact H2_) | with_reducible exact H | (rw [hy416]; exact H) | exact H
                          have Ny416 := Aside0.mk hy416
                          clear hy416
                          obtain ⟨y418, hy418⟩ : ∃ y_ : List (List (S77)), y_ = (x5_3.set (x6_1 : Int).toNat y416) := ⟨_, rfl⟩
                          replace H : (if x42_2 < ((rd_L7 y418 x6_1).length : Int) then (impl_purse_table.l2 kj59 a1 (y418.set (x6_1 : Int).toNat ((rd_L7 y418 x6_1).set (x42_2 : Int).toNat (⟨wrap64 (((rd_T77 (rd_L7 y418 x6_1) x42_2).f0) + ((rd_T77 (rd_L7 x5_3 (ji42)) (ji47)).f0)), (rd_T77 (rd_L7 y418 x6_1) x42_2).f1⟩ : S77))) x6_1 x42_2 (wrap64 (x8_3 + 1)) ji12 x42_2 l0_0 l0_1) else (none)) = some r := by first | (rw [hy418]; with_reducible exact H) | (have H2_ := (Option.bind_some _ _).symm.trans H; rw [hy418]; with_reducible exact H2_) | (have H2_ := (Option.bind_some _ _).symm.trans H; with_reducible exact H2_) | with_reducible exact H | (rw [hy418]; exact H) | exact H
                          have Ny418 := Aside0.mk hy418
                          clear hy418
                          by_cases c87 : x42_2 < ((rd_L7 y418 x6_1).length : Int)
                          rotate_left
                          · rw [if_neg c87] at H
                            exact absurd H (by simp)
                          rw [if_pos c87] at H
                          have c87b0 : decide (x42_2 < ((rd_L7 y418 x6_1).length : Int)) = true := decide_eq_true c87
                          clear c87
                          obtain ⟨y421, hy421⟩ : ∃ y_ : List (S77), y_ = ((rd_L7 y418 x6_1).set (x42_2 : Int).toNat (⟨wrap64 (((rd_T77 (rd_L7 y418 x6_1) x42_2).f0) + ((rd_T77 (rd_L7 x5_3 (ji42)) (ji47)).f0)), (rd_T77 (rd_L7 y418 x6_1) x42_2).f1⟩ : S77)) := ⟨_, rfl⟩
                          replace H : (impl_purse_table.l2 kj59 a1 (y418.set (x6_1 : Int).toNat y421) x6_1 x42_2 (wrap64 (x8_3 + 1)) ji12 x42_2 l0_0 l0_1) = some r := by first | (rw [hy421]; with_reducible exact H) | (have H2_ := (Option.bind_some _ _).symm.trans H; rw [hy421]; with_reducible exact H2_) | (have H2_ := (Option.bind_some _ _).symm.trans H; with_reducible exact H2_) | with_reducible exact H | (rw [hy421]; exact H) | exact H
                          have Ny421 := Aside0.mk hy421
                          clear hy421
                          obtain ⟨y423, hy423⟩ : ∃ y_ : List (List (S77)), y_ = (y418.set (x6_1 : Int).toNat y421) := ⟨_, rfl⟩
                          replace H : (impl_purse_table.l2 kj59 a1 y423 x6_1 x42_2 (wrap64 (x8_3 + 1)) ji12 x42_2 l0_0 l0_1) = some r := by first | (rw [hy423]; with_reducible exact H) | (have H2_ := (Option.bind_some _ _).symm.trans H; rw [hy423]; with_reducible exact H2_) | (have H2_ := (Option.bind_some _ _).symm.trans H; with_reducible exact H2_) | with_reducible exact H | (rw [hy423]; exact H) | exact H
                          have Ny423 := Aside0.mk hy423
                          clear hy423
                          have H' := Aside0.mk H
                          clear H
                          try go_wp2
                          have n0_ := Aside0.mk (Kd.S_drew HO_5.out)
                          have n1_ := Aside0.mk (blk_drew BK394.out)
                          have n2_ := Aside0.mk (blk_drew BK411.out)
                          have n3_ := Aside0.mk (blk_drew BK414.out)
                          have n4_ := Aside0.mk (Kd.C_drew HR412_0.out)
                          have n5_ := Aside0.mk (below_drew1 HB.out)
                          clear HO_5
                          clear BK394
                          clear BK411
                          clear BK414
                          clear HR412_0
                          clear HB
                          have HO_5 := n0_
                          have BK394 := n1_
                          have BK411 := n2_
                          have BK414 := n3_
                          have HR412_0 := n4_
                          have HB := n5_
                          clear n0_ n1_ n2_ n3_ n4_ n5_
                          have p415 : 0 ≤ (x6_1 : Int) := of_decide_eq_true (by first | (with_reducible assumption) | assumption)
                          have q415 : x6_1 < (x5_3.length : Int) := of_decide_eq_true (by first | (with_reducible assumption) | assumption)
                          obtain ⟨ad415, A415_0, c415_0, e415, hx415_0, hl415_0, hi415_0⟩ := at_L7 (Kd.S_reads' HO_5.out).2.2 x6_1 p415 q415
                          obtain rfl : (⟨go17, 0, none⟩ : Addr) = ad415 := (by injection e415)
                          obtain ⟨ce415, hce415, hMe415, hcc415⟩ := Kd.S_get HO_5.out [] x6_1 p415 (by first | exact q415 | exact of_decide_eq_true (by first | (with_reducible assumption) | assumption) | (have e_ := (Kd.S_reads' HO_5.out).1; omega))
                          obtain ⟨ve415_0, rfl, ge415_0⟩ := hMe415
                          have hv415_0 := hcc415 0 _ rfl
                          rw [Nat.add_zero, show ((Kd.slice 77 k77)).sz = 1 from rfl, Nat.mul_one] at hv415_0
                          replace hv415_0 := Option.some.inj (hv415_0.symm.trans hx415_0)
                          rw [hv415_0] at ge415_0
                          have HL415_0 := Aside0.mk (show Kd.R k77 77 _ _ _ _ (rd_L7 x5_3 x6_1) from ge415_0)
                          clear hv415_0 ge415_0
                          have HX415_0 := Aside0.mk hx415_0
                          clear hcc415 hce415
                          (first | simp only [add_plain] at hx415_0 | simp only [add_at] at hx415_0 | simp only [Addr.add, Nat.zero_add] at hx415_0 | skip)
                          have HR415_0 := Aside0.mk hi415_0
                          have HC415_0 := Aside0.mk hl415_0
                          clear hi415_0 hl415_0
                          replace p415 := eq_true p415
                          replace q415 := eq_true q415
                          have p86 : 0 ≤ (x42_2 : Int) := of_decide_eq_true (by first | (with_reducible assumption) | assumption)
                          have q86 : (x42_2 : Int) < (((rd_L7 x5_3 x6_1).length : Int) : Int) := of_decide_eq_true (by first | (with_reducible assumption) | assumption)
                          obtain ⟨go86, co86, eo86, gb86, gl86, cl86, HG86⟩ := Kd.R_form HL415_0.out (by omega)
                          (first | cases eo86 | (injection eo86 with ea_ en_ ec_; (first | subst ea_ | (injection ea_ with ea_; subst ea_)); subst ec_; clear en_))
                          have GB86 := Aside0.mk gb86
                          have GG86 := Aside0.mk HG86
                          clear gb86 gl86 HG86
                          obtain ⟨ce86, hcl86, hM86, hcc86, hfr86⟩ := Kd.R_elem HL415_0.out z77 (x42_2 : Int) p86 q86
                          obtain rfl := k77_openM hM86
                          have hx86_0 : World.cell? _ ⟨go86, (x42_2 : Int).toNat * 2, none⟩ = some (.int .i64 ((rd_T77 (rd_L7 x5_3 x6_1) x42_2).f0)) := hcc86 0 _ rfl
                          have hx86_1 : World.cell? _ ⟨go86, (x42_2 : Int).toNat * 2 + 1, none⟩ = some (.int .i64 ((rd_T77 (rd_L7 x5_3 x6_1) x42_2).f1)) := hcc86 1 _ rfl
                          have hf86_0 : World.frozen? _ ⟨go86, (x42_2 : Int).toNat * 2, none⟩ = false := hfr86 0
                          have hf86_1 : World.frozen? _ ⟨go86, (x42_2 : Int).toNat * 2 + 1, none⟩ = false := hfr86 1
                          clear hcl86 hcc86 hfr86 hM86
                          replace p86 := eq_true p86
                          replace q86 := eq_true q86
                          have hq90 : (x6_1 : Int) < (x5_3.length : Int) := (by have h_ : (x6_1 : Int) < ((x5_3.length : Int) : Int) := of_decide_eq_true (by first | (with_reducible assumption) | assumption); first | exact h_ | (have e_ := (Kd.S_reads' HO_5.out).1; omega) | simpa only [List.length_set, List.length_set] using h_)
                          obtain ⟨oki90, ce90, hcl90, hM90, hcc90, hok90, hbk90⟩ := Kd.S_borrow HO_5.out [] (x6_1 : Int) (of_decide_eq_true (by first | (with_reducible assumption) | assumption)) (by first | exact hq90 | (have e_ := (Kd.S_reads' HO_5.out).1; omega))
                          obtain ⟨ve90_0, rfl, ge90_0⟩ := id hM90
                          have hv90 := hcc90 0 _ rfl
                          rw [Nat.add_zero, show ((Kd.slice 77 k77)).sz = 1 from rfl, Nat.mul_one] at hv90
                          replace hv90 := Option.some.inj (hv90.symm.trans HX415_0.out)
                          subst hv90
                          clear hcc90 hcl90
                          replace ge90_0 := (show Kd.R k77 77 _ _ _ _ (rd_L7 x5_3 x6_1) from ge90_0)
                          obtain ⟨cf90, hcl90, hN90, hcc90, hfr90⟩ := Kd.R_elem ge90_0 z77 (x42_2 : Int) (of_decide_eq_true (by first | (with_reducible assumption) | assumption)) (by have h_ : (x42_2 : Int) < (((rd_L7 x5_3 x6_1).length : Int) : Int) := of_decide_eq_true (by first | (with_reducible assumption) | assumption); first | exact h_ | (have e_ := (Kd.R_reads' HR415_0.out).1; omega) | simpa using h_)
                          obtain rfl := k77_openM hN90
                          have HP90 := Kd.R_seg ge90_0 (x42_2 : Int) (of_decide_eq_true (by first | (with_reducible assumption) | assumption)) (by have h_ : (x42_2 : Int) < (((rd_L7 x5_3 x6_1).length : Int) : Int) := of_decide_eq_true (by first | (with_reducible assumption) | assumption); first | exact h_ | (have e_ := (Kd.R_reads' HR415_0.out).1; omega) | simpa using h_) (seg := [.int .i64 (wrap64 (((rd_T77 (rd_L7 x5_3 (ji42)) (ji47)).f1) + x8_3))]) (j := 1) hcl90 hcc90 (show 2 ≤ 2 from by decide) (x' := (⟨(rd_T77 (rd_L7 x5_3 x6_1) x42_2).f0, wrap64 (((rd_T77 (rd_L7 x5_3 (ji42)) (ji47)).f1) + x8_3)⟩ : S77)) (k77_mkM _ _ _ (⟨(rd_T77 (rd_L7 x5_3 x6_1) x42_2).f0, wrap64 (((rd_T77 (rd_L7 x5_3 (ji42)) (ji47)).f1) + x8_3)⟩ : S77)) (fun _ hk => hk)
                          clear hcl90 hcc90 hfr90 hN90
                          rw [← Ny416.out] at HP90
                          have HS90 := hbk90 HP90.2 (fun k_ e_ => by injection e_ with e_; subst e_; exact ge90_0.1 _ rfl) (x' := y416) (Kd.M_row HP90.1)
                          rw [← Ny418.out] at HS90
                          have HQ90 := Aside0.mk HS90
                          clear HP90 HS90 hbk90 hok90
                          refine start_ (n := 12) (S := fun w' => w'.cell? ⟨gb411, 0, none⟩ = some (.int .i64 ((rd_T77 (rd_L7 x5_3 (ji42)) (ji47)).f0)) ∧ w'.cell? ⟨gb411, 1, none⟩ = some (.int .i64 ((rd_T77 (rd_L7 x5_3 (ji42)) (ji47)).f1)) ∧ w'.cell? ⟨go17, (x6_1).toNat, none⟩ = some (.slice (some ⟨go86, 0, none⟩) (rd_L7 x5_3 x6_1).length c415_0)) (ds := [11]) #[false, false, false, false, false, false, false, false, false, false, false, false] (by kernel_rfl) rfl rfl ⟨(blk_cell BK411.out 0).trans rfl, (blk_cell BK411.out 1).trans rfl, hx415_0⟩ (fun hHeld => ?_); refine with_tabW impl_purse_table.tab18 impl_purse_table.bits18 (fun HT_ HW_ => ?_)
                          generalize wc.drew = w89 at HO_5 BK394 BK411 BK414 HR412_0 HB GG86 HL415_0 HQ90 HR415_0 HX415_0 hf86_0 hf86_1 hx415_0 hx86_0 hx86_1 hHeld ⊢
                          refine pure_ (i := 0) (N := some 103) (v := ?_) (a' := ?_) #[true, false, false, false, false, false, false, false, false, false, false, false] rfl rfl (any_of HT_.out (by kernel_rfl)) (fun _ _ _ h => h) (Or.inl ⟨by rfl, ?_⟩) ?_ ?_
                          rotate_left
                          · intro w'
                            go_simp
                            with_reducible rfl
                          rotate_left
                          · simp only [Act.put, List.setIfInBounds_toArray, List.set_cons_zero, List.set_cons_succ, i64_w, i32_w]
                            rfl
                          refine pure_ (i := 1) (N := some 104) (v := ?_) (a' := ?_) #[true, true, false, false, false, false, false, false, false, false, false, false] rfl rfl (any_of HT_.out (by kernel_rfl)) (fun _ _ _ h => h) (Or.inl ⟨by rfl, ?_⟩) ?_ ?_
                          rotate_left
                          · intro w'
                            go_simp
                            with_reducible rfl
                          rotate_left
                          · simp only [Act.put, List.setIfInBounds_toArray, List.set_cons_zero, List.set_cons_succ, i64_w, i32_w]
                            rfl
                          refine pure_ (i := 2) (N := some 105) (v := ?_) (a' := ?_) #[true, true, true, false, false, false, false, false, false, false, false, false] rfl rfl (any_of HT_.out (by kernel_rfl)) (fun _ _ _ h => h) (Or.inl ⟨by rfl, ?_⟩) ?_ ?_
                          rotate_left
                          · intro w'
                            go_simp
                            with_reducible rfl
                          rotate_left
                          · simp only [Act.put, List.setIfInBounds_toArray, List.set_cons_zero, List.set_cons_succ, i64_w, i32_w]
                            rfl
                          refine pure_ (i := 4) (N := some 107) (v := ?_) (a' := ?_) #[true, true, true, false, true, false, false, false, false, false, false, false] rfl rfl (any_of HT_.out (by kernel_rfl)) (fun _ _ _ h => h) (Or.inl ⟨by rfl, ?_⟩) ?_ ?_
                          rotate_left
                          · intro w'
                            go_simp
                            with_reducible rfl
                          rotate_left
                          · simp only [Act.put, List.setIfInBounds_toArray, List.set_cons_zero, List.set_cons_succ, i64_w, i32_w]
                            rfl
                          refine pure_ (i := 5) (N := some 108) (v := ?_) (a' := ?_) #[true, true, true, false, true, true, false, false, false, false, false, false] rfl rfl (any_of HT_.out (by kernel_rfl)) (fun _ _ _ h => h) (Or.inl ⟨by rfl, ?_⟩) ?_ ?_
                          rotate_left
                          · intro w'
                            go_simp
                            with_reducible rfl
                          rotate_left
                          · simp only [Act.put, List.setIfInBounds_toArray, List.set_cons_zero, List.set_cons_succ, i64_w, i32_w]
                            rfl
                          refine pure_ (i := 7) (N := some 110) (v := ?_) (a' := ?_) #[true, true, true, false, true, true, false, true, false, false, false, false] rfl rfl (any_of HT_.out (by kernel_rfl)) (fun _ _ _ h => h) (Or.inl ⟨by rfl, ?_⟩) ?_ ?_
                          rotate_left
                          · intro w'
                            go_simp
                            with_reducible rfl
                          rotate_left
                          · simp only [Act.put, List.setIfInBounds_toArray, List.set_cons_zero, List.set_cons_succ, i64_w, i32_w]
                            rfl
                          refine take_ (i := 3) (N := some 106) (v := ?_) (a' := ?_) #[true, true, true, true, true, true, false, true, false, false, false, false] rfl rfl (take_ofW HT_.out HW_.out (by kernel_rfl)) (fun _ _ _ h => h) (Or.inl ⟨by rfl, ?_⟩) hHeld ?_ ?_
                          rotate_left
                          · rintro w' ⟨s0, s1, s2⟩
                            go_simp
                            with_reducible rfl
                          rotate_left
                          · simp only [Act.put, List.setIfInBounds_toArray, List.set_cons_zero, List.set_cons_succ, i64_w, i32_w]
                            rfl
                          refine take_ (i := 6) (N := some 109) (v := ?_) (a' := ?_) #[true, true, true, true, true, true, true, true, false, false, false, false] rfl rfl (take_ofW HT_.out HW_.out (by kernel_rfl)) (fun _ _ _ h => h) (Or.inl ⟨by rfl, ?_⟩) hHeld ?_ ?_
                          rotate_left
                          · rintro w' ⟨s0, s1, s2⟩
                            go_simp
                            with_reducible rfl
                          rotate_left
                          · simp only [Act.put, List.setIfInBounds_toArray, List.set_cons_zero, List.set_cons_succ, i64_w, i32_w]
                            rfl
                          refine pure_ (i := 8) (N := some 111) (v := ?_) (a' := ?_) #[true, true, true, true, true, true, true, true, true, false, false, false] rfl rfl (any_of HT_.out (by kernel_rfl)) (fun _ _ _ h => h) (Or.inl ⟨by rfl, ?_⟩) ?_ ?_
                          rotate_left
                          · intro w'
                            go_simp
                            with_reducible rfl
                          rotate_left
                          · simp only [Act.put, List.setIfInBounds_toArray, List.set_cons_zero, List.set_cons_succ, i64_w, i32_w]
                            rfl
                          refine pure_ (i := 9) (N := some 112) (v := ?_) (a' := ?_) #[true, true, true, true, true, true, true, true, true, true, false, false] rfl rfl (any_of HT_.out (by kernel_rfl)) (fun _ _ _ h => h) (Or.inl ⟨by rfl, ?_⟩) ?_ ?_
                          rotate_left
                          · intro w'
                            go_simp
                            with_reducible rfl
                          rotate_left
                          · simp only [Act.put, List.setIfInBounds_toArray, List.set_cons_zero, List.set_cons_succ, i64_w, i32_w]
                            rfl
                          refine pure_ (i := 10) (N := some 113) (v := ?_) (a' := ?_) #[true, true, true, true, true, true, true, true, true, true, true, false] rfl rfl (any_of HT_.out (by kernel_rfl)) (fun _ _ _ h => h) (Or.inl ⟨by rfl, ?_⟩) ?_ ?_
                          rotate_left
                          · intro w'
                            go_simp
                            with_reducible rfl
                          rotate_left
                          · simp only [Act.put, List.setIfInBounds_toArray, List.set_cons_zero, List.set_cons_succ, i64_w, i32_w]
                            rfl
                          refine last_ (i := 11) (N := none) #[true, true, true, true, true, true, true, true, true, true, true, true] rfl rfl (one_of HT_.out (by kernel_rfl)) (by decide) (fun K hK => ?_)
                          refine skip_ (w1 := ?_) (by rfl) rfl ?_ ?_
                          rotate_left
                          · go_simp
                            rfl
                          refine hK.out _ _ ?_
                          clear hK K
                          refine done_ (done_of HT_.out (by kernel_rfl)) ?_
                          try go_wp2
                          have n0_ : Aside0 (Kd.S (Kd.slice 77 k77) 78 (w89.setCell ⟨go86, (x42_2 : Int).toNat * 2 + 1, none⟩ (.int .i64 (wrap64 (((rd_T77 (rd_L7 x5_3 (ji42)) (ji47)).f1) + x8_3)))) w.heap.size (fun k_ => k_ ≠ gb411 ∧ k_ ≠ gb414) (.slice (some ⟨go17, 0, none⟩) x5_3.length co17) y418) := ⟨by (with_reducible repeat (first | apply Kd.S_alloc | apply Kd.S_drewN | apply Kd.S_drew)); exact HQ90.out⟩
                          have n1_ : Aside0 ((w89.setCell ⟨go86, (x42_2 : Int).toNat * 2 + 1, none⟩ (.int .i64 (wrap64 (((rd_T77 (rd_L7 x5_3 (ji42)) (ji47)).f1) + x8_3)))).heap[gb394]? = some (.cells #[.slice (some ad409) l0_0.length c0_0, .slice A0_1 l0_1.length c0_1] 60 (0, 0))) := ⟨by (with_reducible repeat (first | refine blk_drewN ?_ _ | refine blk_drew ?_ | refine blk_alloc ?_ _)); refine blk_far ?_ (by have h_ := Kd.R_ne HL415_0.out BK394.out (by decide); intro e_; exact h_ (by rw [e_]; rfl)) _; (with_reducible repeat (first | refine blk_drewN ?_ _ | refine blk_drew ?_ | refine blk_alloc ?_ _)); exact BK394.out⟩
                          have n2_ : Aside0 ((w89.setCell ⟨go86, (x42_2 : Int).toNat * 2 + 1, none⟩ (.int .i64 (wrap64 (((rd_T77 (rd_L7 x5_3 (ji42)) (ji47)).f1) + x8_3)))).heap[gb411]? = some (.cells #[.int .i64 ((rd_T77 (rd_L7 x5_3 (ji42)) (ji47)).f0), .int .i64 ((rd_T77 (rd_L7 x5_3 (ji42)) (ji47)).f1)] 77 (0, 0))) := ⟨by (with_reducible repeat (first | refine blk_drewN ?_ _ | refine blk_drew ?_ | refine blk_alloc ?_ _)); refine blk_far ?_ (by have h_ := Kd.R_away HL415_0.out (fun _ hk => hk.1.1); intro e_; exact h_ (by rw [e_]; rfl)) _; (with_reducible repeat (first | refine blk_drewN ?_ _ | refine blk_drew ?_ | refine blk_alloc ?_ _)); exact BK411.out⟩
                          have n3_ : Aside0 ((w89.setCell ⟨go86, (x42_2 : Int).toNat * 2 + 1, none⟩ (.int .i64 (wrap64 (((rd_T77 (rd_L7 x5_3 (ji42)) (ji47)).f1) + x8_3)))).heap[gb414]? = some (.cells #[.int .i64 ((rd_T77 (rd_L7 x5_3 x6_1) x42_2).f0), .int .i64 ((rd_T77 (rd_L7 x5_3 x6_1) x42_2).f1)] 77 (0, 0))) := ⟨by (with_reducible repeat (first | refine blk_drewN ?_ _ | refine blk_drew ?_ | refine blk_alloc ?_ _)); refine blk_far ?_ (by have h_ := Kd.R_away HL415_0.out (fun _ hk => hk.1.2); intro e_; exact h_ (by rw [e_]; rfl)) _; (with_reducible repeat (first | refine blk_drewN ?_ _ | refine blk_drew ?_ | refine blk_alloc ?_ _)); exact BK414.out⟩
                          have n4_ : Aside0 (Below w.heap.size w (w89.setCell ⟨go86, (x42_2 : Int).toNat * 2 + 1, none⟩ (.int .i64 (wrap64 (((rd_T77 (rd_L7 x5_3 (ji42)) (ji47)).f1) + x8_3))))) := ⟨by repeat (first | (with_reducible first | exact HB.out | apply below_alloc | apply pw_below_drewN | apply below_drew1 | refine below_set ?_ GB86.out | refine below_set ?_ GE394.out | refine below_set ?_ GE411.out | refine below_set ?_ GE414.out) | exact HB.out)⟩
                          (try clear HO_5)
                          (try clear BK394)
                          (try clear BK411)
                          (try clear BK414)
                          (try clear HB)
                          generalize (w89.setCell ⟨go86, (x42_2 : Int).toNat * 2 + 1, none⟩ (.int .i64 (wrap64 (((rd_T77 (rd_L7 x5_3 (ji42)) (ji47)).f1) + x8_3)))) = w92 at n0_ n1_ n2_ n3_ n4_ ⊢
                          have HO_5 := n0_
                          have BK394 := n1_
                          have BK411 := n2_
                          have BK414 := n3_
                          have HB := n4_
                          clear n0_ n1_ n2_ n3_ n4_
                          have n0_ := Aside0.mk (Kd.S_drew HO_5.out)
                          have n1_ := Aside0.mk (blk_drew BK394.out)
                          have n2_ := Aside0.mk (blk_drew BK411.out)
                          have n3_ := Aside0.mk (blk_drew BK414.out)
                          have n4_ := Aside0.mk (below_drew1 HB.out)
                          clear HO_5
                          clear BK394
                          clear BK411
                          clear BK414
                          clear HB
                          have HO_5 := n0_
                          have BK394 := n1_
                          have BK411 := n2_
                          have BK414 := n3_
                          have HB := n4_
                          clear n0_ n1_ n2_ n3_ n4_
                          have p419 : 0 ≤ (x6_1 : Int) := of_decide_eq_true (by first | (with_reducible assumption) | assumption)
                          have q419 : x6_1 < (y418.length : Int) := (by have h_ : (x6_1 : Int) < ((x5_3.length : Int) : Int) := of_decide_eq_true (by first | (with_reducible assumption) | assumption); first | (have e_ := (Kd.S_reads' HO_5.out).1; omega) | simpa only [Ny418.out, List.length_set] using h_)
                          have ql419 : ((x6_1 : Int) < ((x5_3.length : Int) : Int)) = True := eq_true (of_decide_eq_true (by first | (with_reducible assumption) | assumption))
                          obtain ⟨ad419, A419_0, c419_0, e419, hx419_0, hl419_0, hi419_0⟩ := at_L7 (Kd.S_reads' HO_5.out).2.2 x6_1 p419 q419
                          obtain rfl : (⟨go17, 0, none⟩ : Addr) = ad419 := (by injection e419)
                          obtain ⟨ce419, hce419, hMe419, hcc419⟩ := Kd.S_get HO_5.out [] x6_1 p419 (by first | exact q419 | exact of_decide_eq_true (by first | (with_reducible assumption) | assumption) | (have e_ := (Kd.S_reads' HO_5.out).1; omega))
                          obtain ⟨ve419_0, rfl, ge419_0⟩ := hMe419
                          have hv419_0 := hcc419 0 _ rfl
                          rw [Nat.add_zero, show ((Kd.slice 77 k77)).sz = 1 from rfl, Nat.mul_one] at hv419_0
                          replace hv419_0 := Option.some.inj (hv419_0.symm.trans hx419_0)
                          rw [hv419_0] at ge419_0
                          have HL419_0 := Aside0.mk (show Kd.R k77 77 _ _ _ _ (rd_L7 y418 x6_1) from ge419_0)
                          clear hv419_0 ge419_0
                          have HX419_0 := Aside0.mk hx419_0
                          clear hcc419 hce419
                          (first | simp only [add_plain] at hx419_0 | simp only [add_at] at hx419_0 | simp only [Addr.add, Nat.zero_add] at hx419_0 | skip)
                          have HR419_0 := Aside0.mk hi419_0
                          have HC419_0 := Aside0.mk hl419_0
                          clear hi419_0 hl419_0
                          replace p419 := eq_true p419
                          replace q419 := eq_true q419
                          have p420 : 0 ≤ (x42_2 : Int) := of_decide_eq_true (by first | (with_reducible assumption) | assumption)
                          have q420 : x42_2 < ((rd_L7 y418 x6_1).length : Int) := of_decide_eq_true (by first | (with_reducible assumption) | assumption)
                          obtain ⟨ad420, e420, hx420_0, hx420_1⟩ := at_T77 (by repeat (first | (with_reducible exact HR419_0.out) | (with_reducible refine Kd.C_alloc ?_ _) | (with_reducible refine Kd.C_drewN ?_ _) | (with_reducible refine Kd.C_drew ?_) | exact HR419_0.out)) x42_2 p420 q420
                          cases e420
                          replace p420 := eq_true p420
                          replace q420 := eq_true q420
                          have p88 : 0 ≤ (x42_2 : Int) := of_decide_eq_true (by first | (with_reducible assumption) | assumption)
                          have q88 : (x42_2 : Int) < (((rd_L7 y418 x6_1).length : Int) : Int) := of_decide_eq_true (by first | (with_reducible assumption) | assumption)
                          obtain ⟨go88, co88, eo88, gb88, gl88, cl88, HG88⟩ := Kd.R_form HL419_0.out (by omega)
                          (first | cases eo88 | (injection eo88 with ea_ en_ ec_; (first | subst ea_ | (injection ea_ with ea_; subst ea_)); subst ec_; clear en_))
                          have GB88 := Aside0.mk gb88
                          have GG88 := Aside0.mk HG88
                          clear gb88 gl88 HG88
                          (first | simp only [add_plain] at hx420_0 | skip)
                          (first | simp only [add_plain] at hx420_1 | skip)
                          obtain ⟨ce88, hcl88, hM88, hcc88, hfr88⟩ := Kd.R_elem HL419_0.out z77 (x42_2 : Int) p88 q88
                          obtain rfl := k77_openM hM88
                          have hx88_0 : World.cell? _ ⟨go88, (x42_2 : Int).toNat * 2, none⟩ = some (.int .i64 ((rd_T77 (rd_L7 y418 x6_1) x42_2).f0)) := hcc88 0 _ rfl
                          have hx88_1 : World.cell? _ ⟨go88, (x42_2 : Int).toNat * 2 + 1, none⟩ = some (.int .i64 ((rd_T77 (rd_L7 y418 x6_1) x42_2).f1)) := hcc88 1 _ rfl
                          have hf88_0 : World.frozen? _ ⟨go88, (x42_2 : Int).toNat * 2, none⟩ = false := hfr88 0
                          have hf88_1 : World.frozen? _ ⟨go88, (x42_2 : Int).toNat * 2 + 1, none⟩ = false := hfr88 1
                          clear hcl88 hcc88 hfr88 hM88
                          replace p88 := eq_true p88
                          replace q88 := eq_true q88
                          have hq94 : (x6_1 : Int) < (y418.length : Int) := (by have h_ : (x6_1 : Int) < ((x5_3.length : Int) : Int) := of_decide_eq_true (by first | (with_reducible assumption) | assumption); first | exact h_ | (have e_ := (Kd.S_reads' HO_5.out).1; omega) | simpa only [Ny418.out, List.length_set] using h_)
                          obtain ⟨oki94, ce94, hcl94, hM94, hcc94, hok94, hbk94⟩ := Kd.S_borrow HO_5.out [] (x6_1 : Int) (of_decide_eq_true (by first | (with_reducible assumption) | assumption)) (by first | exact hq94 | (have e_ := (Kd.S_reads' HO_5.out).1; omega))
                          obtain ⟨ve94_0, rfl, ge94_0⟩ := id hM94
                          have hv94 := hcc94 0 _ rfl
                          rw [Nat.add_zero, show ((Kd.slice 77 k77)).sz = 1 from rfl, Nat.mul_one] at hv94
                          replace hv94 := Option.some.inj (hv94.symm.trans HX419_0.out)
                          subst hv94
                          clear hcc94 hcl94
                          replace ge94_0 := (show Kd.R k77 77 _ _ _ _ (rd_L7 y418 x6_1) from ge94_0)
                          obtain ⟨cf94, hcl94, hN94, hcc94, hfr94⟩ := Kd.R_elem ge94_0 z77 (x42_2 : Int) (of_decide_eq_true (by first | (with_reducible assumption) | assumption)) (by have h_ : (x42_2 : Int) < (((rd_L7 y418 x6_1).length : Int) : Int) := of_decide_eq_true (by first | (with_reducible assumption) | assumption); first | exact h_ | (have e_ := (Kd.R_reads' HR419_0.out).1; omega) | simpa using h_)
                          obtain rfl := k77_openM hN94
                          have HP94 := Kd.R_seg ge94_0 (x42_2 : Int) (of_decide_eq_true (by first | (with_reducible assumption) | assumption)) (by have h_ : (x42_2 : Int) < (((rd_L7 y418 x6_1).length : Int) : Int) := of_decide_eq_true (by first | (with_reducible assumption) | assumption); first | exact h_ | (have e_ := (Kd.R_reads' HR419_0.out).1; omega) | simpa using h_) (seg := [.int .i64 (wrap64 (((rd_T77 (rd_L7 y418 x6_1) x42_2).f0) + ((rd_T77 (rd_L7 x5_3 (ji42)) (ji47)).f0)))]) (j := 0) hcl94 hcc94 (show 1 ≤ 2 from by decide) (x' := (⟨wrap64 (((rd_T77 (rd_L7 y418 x6_1) x42_2).f0) + ((rd_T77 (rd_L7 x5_3 (ji42)) (ji47)).f0)), (rd_T77 (rd_L7 y418 x6_1) x42_2).f1⟩ : S77)) (k77_mkM _ _ _ (⟨wrap64 (((rd_T77 (rd_L7 y418 x6_1) x42_2).f0) + ((rd_T77 (rd_L7 x5_3 (ji42)) (ji47)).f0)), (rd_T77 (rd_L7 y418 x6_1) x42_2).f1⟩ : S77)) (fun _ hk => hk)
                          clear hcl94 hcc94 hfr94 hN94
                          rw [← Ny421.out] at HP94
                          have HS94 := hbk94 HP94.2 (fun k_ e_ => by injection e_ with e_; subst e_; exact ge94_0.1 _ rfl) (x' := y421) (Kd.M_row HP94.1)
                          rw [← Ny423.out] at HS94
                          have HQ94 := Aside0.mk HS94
                          clear HP94 HS94 hbk94 hok94
                          refine start_ (n := 14) (S := fun w' => w'.cell? ⟨gb411, 0, none⟩ = some (.int .i64 ((rd_T77 (rd_L7 x5_3 (ji42)) (ji47)).f0)) ∧ w'.cell? ⟨gb411, 1, none⟩ = some (.int .i64 ((rd_T77 (rd_L7 x5_3 (ji42)) (ji47)).f1)) ∧ w'.cell? ⟨go17, (x6_1).toNat, none⟩ = some (.slice (some ⟨go88, 0, none⟩) (rd_L7 y418 x6_1).length c419_0) ∧ w'.cell? ⟨go88, ((x42_2).toNat * 2), none⟩ = some (.int .i64 ((rd_T77 (rd_L7 y418 x6_1) x42_2).f0)) ∧ w'.cell? ⟨go88, ((x42_2).toNat * 2) + 1, none⟩ = some (.int .i64 ((rd_T77 (rd_L7 y418 x6_1) x42_2).f1))) (ds := [13]) #[false, false, false, false, false, false, false, false, false, false, false, false, false, false] (by kernel_rfl) rfl rfl ⟨(blk_cell BK411.out 0).trans rfl, (blk_cell BK411.out 1).trans rfl, hx419_0, hx420_0, hx420_1⟩ (fun hHeld => ?_); refine with_tabW impl_purse_table.tab19 impl_purse_table.bits19 (fun HT_ HW_ => ?_)
                          generalize w92.drew = w93 at HO_5 BK394 BK411 BK414 HB GG88 HL419_0 HQ90 HQ94 HR419_0 HX419_0 hf88_0 hf88_1 hx419_0 hx420_0 hx420_1 hx88_0 hx88_1 hHeld ⊢
                          refine pure_ (i := 0) (N := some 114) (v := ?_) (a' := ?_) #[true, false, false, false, false, false, false, false, false, false, false, false, false, false] rfl rfl (any_of HT_.out (by kernel_rfl)) (fun _ _ _ h => h) (Or.inl ⟨by rfl, ?_⟩) ?_ ?_
                          rotate_left
                          · intro w'
                            go_simp
                            with_reducible rfl
                          rotate_left
                          · simp only [Act.put, List.setIfInBounds_toArray, List.set_cons_zero, List.set_cons_succ, i64_w, i32_w]
                            rfl
                          refine pure_ (i := 1) (N := some 115) (v := ?_) (a' := ?_) #[true, true, false, false, false, false, false, false, false, false, false, false, false, false] rfl rfl (any_of HT_.out (by kernel_rfl)) (fun _ _ _ h => h) (Or.inl ⟨by rfl, ?_⟩) ?_ ?_
                          rotate_left
                          · intro w'
                            go_simp
                            with_reducible rfl
                          rotate_left
                          · simp only [Act.put, List.setIfInBounds_toArray, List.set_cons_zero, List.set_cons_succ, i64_w, i32_w]
                            rfl
                          refine pure_ (i := 2) (N := some 116) (v := ?_) (a' := ?_) #[true, true, true, false, false, false, false, false, false, false, false, false, false, false] rfl rfl (any_of HT_.out (by kernel_rfl)) (fun _ _ _ h => h) (Or.inl ⟨by rfl, ?_⟩) ?_ ?_
                          rotate_left
                          · intro w'
                            go_simp
                            with_reducible rfl
                          rotate_left
                          · simp only [Act.put, List.setIfInBounds_toArray, List.set_cons_zero, List.set_cons_succ, i64_w, i32_w]
                            rfl
                          refine pure_ (i := 4) (N := some 118) (v := ?_) (a' := ?_) #[true, true, true, false, true, false, false, false, false, false, false, false, false, false] rfl rfl (any_of HT_.out (by kernel_rfl)) (fun _ _ _ h => h) (Or.inl ⟨by rfl, ?_⟩) ?_ ?_
                          rotate_left
                          · intro w'
                            go_simp
                            with_reducible rfl
                          rotate_left
                          · simp only [Act.put, List.setIfInBounds_toArray, List.set_cons_zero, List.set_cons_succ, i64_w, i32_w]
                            rfl
                          refine pure_ (i := 8) (N := some 122) (v := ?_) (a' := ?_) #[true, true, true, false, true, false, false, false, true, false, false, false, false, false] rfl rfl (any_of HT_.out (by kernel_rfl)) (fun _ _ _ h => h) (Or.inl ⟨by rfl, ?_⟩) ?_ ?_
                          rotate_left
                          · intro w'
                            go_simp
                            with_reducible rfl
                          rotate_left
                          · simp only [Act.put, List.setIfInBounds_toArray, List.set_cons_zero, List.set_cons_succ, i64_w, i32_w]
                            rfl
                          refine take_ (i := 3) (N := some 117) (v := ?_) (a' := ?_) #[true, true, true, true, true, false, false, false, true, false, false, false, false, false] rfl rfl (take_ofW HT_.out HW_.out (by kernel_rfl)) (fun _ _ _ h => h) (Or.inl ⟨by rfl, ?_⟩) hHeld ?_ ?_
                          rotate_left
                          · rintro w' ⟨s0, s1, s2, s3, s4⟩
                            go_simp
                            with_reducible rfl
                          rotate_left
                          · simp only [Act.put, List.setIfInBounds_toArray, List.set_cons_zero, List.set_cons_succ, i64_w, i32_w]
                            rfl
                          refine pure_ (i := 5) (N := some 119) (v := ?_) (a' := ?_) #[true, true, true, true, true, true, false, false, true, false, false, false, false, false] rfl rfl (any_of HT_.out (by kernel_rfl)) (fun _ _ _ h => h) (Or.inl ⟨by rfl, ?_⟩) ?_ ?_
                          rotate_left
                          · intro w'
                            go_simp
                            with_reducible rfl
                          rotate_left
                          · simp only [Act.put, List.setIfInBounds_toArray, List.set_cons_zero, List.set_cons_succ, i64_w, i32_w]
                            rfl
                          refine pure_ (i := 6) (N := some 120) (v := ?_) (a' := ?_) #[true, true, true, true, true, true, true, false, true, false, false, false, false, false] rfl rfl (any_of HT_.out (by kernel_rfl)) (fun _ _ _ h => h) (Or.inl ⟨by rfl, ?_⟩) ?_ ?_
                          rotate_left
                          · intro w'
                            go_simp
                            with_reducible rfl
                          rotate_left
                          · simp only [Act.put, List.setIfInBounds_toArray, List.set_cons_zero, List.set_cons_succ, i64_w, i32_w]
                            rfl
                          refine take_ (i := 7) (N := some 121) (v := ?_) (a' := ?_) #[true, true, true, true, true, true, true, true, true, false, false, false, false, false] rfl rfl (take_ofW HT_.out HW_.out (by kernel_rfl)) (fun _ _ _ h => h) (Or.inl ⟨by rfl, ?_⟩) hHeld ?_ ?_
                          rotate_left
                          · rintro w' ⟨s0, s1, s2, s3, s4⟩
                            go_simp
                            with_reducible rfl
                          rotate_left
                          · simp only [Act.put, List.setIfInBounds_toArray, List.set_cons_zero, List.set_cons_succ, i64_w, i32_w]
                            rfl
                          refine take_ (i := 9) (N := some 123) (v := ?_) (a' := ?_) #[true, true, true, true, true, true, true, true, true, true, false, false, false, false] rfl rfl (take_ofW HT_.out HW_.out (by kernel_rfl)) (fun _ _ _ h => h) (Or.inl ⟨by rfl, ?_⟩) hHeld ?_ ?_
                          rotate_left
                          · rintro w' ⟨s0, s1, s2, s3, s4⟩
                            go_simp
                            with_reducible rfl
                          rotate_left
                          · simp only [Act.put, List.setIfInBounds_toArray, List.set_cons_zero, List.set_cons_succ, i64_w, i32_w]
                            rfl
                          refine pure_ (i := 10) (N := some 124) (v := ?_) (a' := ?_) #[true, true, true, true, true, true, true, true, true, true, true, false, false, false] rfl rfl (any_of HT_.out (by kernel_rfl)) (fun _ _ _ h => h) (Or.inl ⟨by rfl, ?_⟩) ?_ ?_
                          rotate_left
                          · intro w'
                            go_simp
                            with_reducible rfl
                          rotate_left
                          · simp only [Act.put, List.setIfInBounds_toArray, List.set_cons_zero, List.set_cons_succ, i64_w, i32_w]
                            rfl
                          refine pure_ (i := 11) (N := some 125) (v := ?_) (a' := ?_) #[true, true, true, true, true, true, true, true, true, true, true, true, false, false] rfl rfl (any_of HT_.out (by kernel_rfl)) (fun _ _ _ h => h) (Or.inl ⟨by rfl, ?_⟩) ?_ ?_
                          rotate_left
                          · intro w'
                            go_simp
                            with_reducible rfl
                          rotate_left
                          · simp only [Act.put, List.setIfInBounds_toArray, List.set_cons_zero, List.set_cons_succ, i64_w, i32_w]
                            rfl
                          refine pure_ (i := 12) (N := some 126) (v := ?_) (a' := ?_) #[true, true, true, true, true, true, true, true, true, true, true, true, true, false] rfl rfl (any_of HT_.out (by kernel_rfl)) (fun _ _ _ h => h) (Or.inl ⟨by rfl, ?_⟩) ?_ ?_
                          rotate_left
                          · intro w'
                            go_simp
                            with_reducible rfl
                          rotate_left
                          · simp only [Act.put, List.setIfInBounds_toArray, List.set_cons_zero, List.set_cons_succ, i64_w, i32_w]
                            rfl
                          refine last_ (i := 13) (N := none) #[true, true, true, true, true, true, true, true, true, true, true, true, true, true] rfl rfl (one_of HT_.out (by kernel_rfl)) (by decide) (fun K hK => ?_)
                          refine skip_ (w1 := ?_) (by rfl) rfl ?_ ?_
                          rotate_left
                          · go_simp
                            rfl
                          refine hK.out _ _ ?_
                          clear hK K
                          refine done_ (done_of HT_.out (by kernel_rfl)) ?_
                          try go_wp2
                          (try simp only [← hl5_3])
                          go_roundg kj59
                          case measure => have := HK1.out; have := HK2.out; have := HK3.out; have := HJ33.out; have := HJ59.out; omega
                          case rel => exact ⟨(y423), (wrap64 (x8_3 + 1)), (by first | rfl | (simp; done) | (simp [*]; done)), H', ⟨by have := HK1.out; have := HK2.out; have := HK3.out; have := HJ33.out; have := HJ59.out; omega⟩, ⟨by (try simp only [hl5_2]); (try simp only [hl5_3]); (with_reducible repeat (first | apply Kd.S_alloc | apply Kd.S_drewN | apply Kd.S_drew)); exact Kd.S_mono HQ94.out (fun _ hk => trivial)⟩, ⟨by (try simp only [hl5_2]); (try simp only [hl5_3]); (with_reducible repeat (first | refine blk_drewN ?_ _ | refine blk_drew ?_ | refine blk_alloc ?_ _)); refine blk_far ?_ (by have h_ := Kd.R_ne HL419_0.out BK394.out (by decide); intro e_; exact h_ (by rw [e_]; rfl)) _; (with_reducible repeat (first | refine blk_drewN ?_ _ | refine blk_drew ?_ | refine blk_alloc ?_ _)); exact BK394.out⟩, ⟨by repeat (first | (with_reducible first | exact HB.out | apply below_alloc | apply pw_below_drewN | apply below_drew1 | refine below_set ?_ GB88.out | refine below_set ?_ GE394.out | refine below_set ?_ GE411.out | refine below_set ?_ GE414.out) | exact HB.out)⟩⟩
                    rw [if_pos c50] at H
                    have c50b0 : (((rd_T77 (rd_L7 x5_3 (ji42)) (ji47)).f0) == 0) = true := beq_iff_eq.mpr c50
                    have c50b1 : (((rd_T77 (rd_L7 x5_3 (ji42)) (ji47)).f0) != 0) = false := bne_eq_false_iff_eq.mpr c50
                    clear c50
                    have H' := Aside0.mk H
                    clear H
                    try go_wp2
                    have n0_ := Aside0.mk (Kd.S_drew HO_5.out)
                    have n1_ := Aside0.mk (blk_drew BK394.out)
                    have n2_ := Aside0.mk (below_drew1 HB.out)
                    clear HO_5
                    clear BK394
                    clear HB
                    have HO_5 := n0_
                    have BK394 := n1_
                    have HB := n2_
                    clear n0_ n1_ n2_
                    have p408 : 0 ≤ ((ji42) : Int) := of_decide_eq_true (by first | (with_reducible assumption) | assumption)
                    have q408 : (ji42) < (x5_3.length : Int) := of_decide_eq_true (by first | (with_reducible assumption) | assumption)
                    obtain ⟨ad408, A408_0, c408_0, e408, hx408_0, hl408_0, hi408_0⟩ := at_L7 (Kd.S_reads' HO_5.out).2.2 (ji42) p408 q408
                    obtain rfl : (⟨go17, 0, none⟩ : Addr) = ad408 := (by injection e408)
                    obtain ⟨ce408, hce408, hMe408, hcc408⟩ := Kd.S_get HO_5.out [] (ji42) p408 (by first | exact q408 | exact of_decide_eq_true (by first | (with_reducible assumption) | assumption) | (have e_ := (Kd.S_reads' HO_5.out).1; omega))
                    obtain ⟨ve408_0, rfl, ge408_0⟩ := hMe408
                    have hv408_0 := hcc408 0 _ rfl
                    rw [Nat.add_zero, show ((Kd.slice 77 k77)).sz = 1 from rfl, Nat.mul_one] at hv408_0
                    replace hv408_0 := Option.some.inj (hv408_0.symm.trans hx408_0)
                    rw [hv408_0] at ge408_0
                    have HL408_0 := Aside0.mk (show Kd.R k77 77 _ _ _ _ (rd_L7 x5_3 (ji42)) from ge408_0)
                    clear hv408_0 ge408_0
                    have HX408_0 := Aside0.mk hx408_0
                    clear hcc408 hce408
                    (first | simp only [add_plain] at hx408_0 | simp only [add_at] at hx408_0 | simp only [Addr.add, Nat.zero_add] at hx408_0 | skip)
                    have HR408_0 := Aside0.mk hi408_0
                    have HC408_0 := Aside0.mk hl408_0
                    clear hi408_0 hl408_0
                    replace p408 := eq_true p408
                    replace q408 := eq_true q408
                    have p409 : 0 ≤ (x6_1 : Int) := of_decide_eq_true (by first | (with_reducible assumption) | assumption)
                    have q409 : x6_1 < (l0_0.length : Int) := of_decide_eq_true (by first | (with_reducible assumption) | assumption)
                    obtain ⟨ad409, e409, hx409_0⟩ := Kd.at_int HR0_0.out x6_1 p409 q409
                    have hw409_0 := hx409_0
                    cases e409
                    replace hx409_0 := (HB.out.cell (World.block_lt_of_cell? w _ hx409_0)).trans hx409_0
                    replace p409 := eq_true p409
                    replace q409 := eq_true q409
                    have p410 : 0 ≤ ((ji47) : Int) := of_decide_eq_true (by first | (with_reducible assumption) | assumption)
                    have q410 : (ji47) < ((rd_L7 x5_3 (ji42)).length : Int) := of_decide_eq_true (by first | (with_reducible assumption) | assumption)
                    obtain ⟨ad410, e410, hx410_0, hx410_1⟩ := at_T77 (by repeat (first | (with_reducible exact HR408_0.out) | (with_reducible refine Kd.C_alloc ?_ _) | (with_reducible refine Kd.C_drewN ?_ _) | (with_reducible refine Kd.C_drew ?_) | exact HR408_0.out)) (ji47) p410 q410
                    cases e410
                    replace p410 := eq_true p410
                    replace q410 := eq_true q410
                    refine start_ (n := 18) (S := fun w' => w'.cell? ⟨gb394, 0, none⟩ = some (.slice (some ad409) l0_0.length c0_0) ∧ w'.cell? ⟨gb394, 1, none⟩ = some (.slice A0_1 l0_1.length c0_1) ∧ w'.cell? ⟨go17, ((ji42)).toNat, none⟩ = some (.slice (some ad410) (rd_L7 x5_3 (ji42)).length c408_0) ∧ w'.cell? (ad409.add (x6_1).toNat) = some (.int .i64 (rd l0_0 x6_1)) ∧ w'.cell? (ad410.add (((ji47)).toNat * 2)) = some (.int .i64 ((rd_T77 (rd_L7 x5_3 (ji42)) (ji47)).f0)) ∧ w'.cell? ⟨(ad410.add (((ji47)).toNat * 2)).block, (ad410.add (((ji47)).toNat * 2)).off + 1, none⟩ = some (.int .i64 ((rd_T77 (rd_L7 x5_3 (ji42)) (ji47)).f1))) (ds := []) #[false, false, false, false, false, false, false, false, false, false, false, false, false, false, false, false, false, false] (by kernel_rfl) rfl rfl ⟨(blk_cell BK394.out 0).trans rfl, (blk_cell BK394.out 1).trans rfl, hx408_0, ((HB.out.cell (World.block_lt_of_cell? w _ hw409_0)).trans hw409_0), hx410_0, hx410_1⟩ (fun hHeld => ?_); refine with_tabW impl_purse_table.tab14 impl_purse_table.bits14 (fun HT_ HW_ => ?_)
                    generalize wc.drew = w51 at HO_5 BK394 HB HL408_0 HR408_0 HX408_0 hx408_0 hx409_0 hx410_0 hx410_1 hHeld ⊢
                    refine pure_ (i := 0) (N := some 65) (v := ?_) (a' := ?_) #[true, false, false, false, false, false, false, false, false, false, false, false, false, false, false, false, false, false] rfl rfl (any_of HT_.out (by kernel_rfl)) (fun _ _ _ h => h) (Or.inl ⟨by rfl, ?_⟩) ?_ ?_
                    rotate_left
                    · intro w'
                      go_simp
                      with_reducible rfl
                    rotate_left
                    · simp only [Act.put, List.setIfInBounds_toArray, List.set_cons_zero, List.set_cons_succ, i64_w, i32_w]
                      rfl
                    refine pure_ (i := 1) (N := some 66) (v := ?_) (a' := ?_) #[true, true, false, false, false, false, false, false, false, false, false, false, false, false, false, false, false, false] rfl rfl (any_of HT_.out (by kernel_rfl)) (fun _ _ _ h => h) (Or.inl ⟨by rfl, ?_⟩) ?_ ?_
                    rotate_left
                    · intro w'
                      go_simp
                      with_reducible rfl
                    rotate_left
                    · simp only [Act.put, List.setIfInBounds_toArray, List.set_cons_zero, List.set_cons_succ, i64_w, i32_w]
                      rfl
                    refine pure_ (i := 2) (N := some 67) (v := ?_) (a' := ?_) #[true, true, true, false, false, false, false, false, false, false, false, false, false, false, false, false, false, false] rfl rfl (any_of HT_.out (by kernel_rfl)) (fun _ _ _ h => h) (Or.inl ⟨by rfl, ?_⟩) ?_ ?_
                    rotate_left
                    · intro w'
                      go_simp
                      with_reducible rfl
                    rotate_left
                    · simp only [Act.put, List.setIfInBounds_toArray, List.set_cons_zero, List.set_cons_succ, i64_w, i32_w]
                      rfl
                    refine pure_ (i := 3) (N := some 68) (v := ?_) (a' := ?_) #[true, true, true, true, false, false, false, false, false, false, false, false, false, false, false, false, false, false] rfl rfl (any_of HT_.out (by kernel_rfl)) (fun _ _ _ h => h) (Or.inl ⟨by rfl, ?_⟩) ?_ ?_
                    rotate_left
                    · intro w'
                      go_simp
                      with_reducible rfl
                    rotate_left
                    · simp only [Act.put, List.setIfInBounds_toArray, List.set_cons_zero, List.set_cons_succ, i64_w, i32_w]
                      rfl
                    refine pure_ (i := 5) (N := some 70) (v := ?_) (a' := ?_) #[true, true, true, true, false, true, false, false, false, false, false, false, false, false, false, false, false, false] rfl rfl (any_of HT_.out (by kernel_rfl)) (fun _ _ _ h => h) (Or.inl ⟨by rfl, ?_⟩) ?_ ?_
                    rotate_left
                    · intro w'
                      go_simp
                      with_reducible rfl
                    rotate_left
                    · simp only [Act.put, List.setIfInBounds_toArray, List.set_cons_zero, List.set_cons_succ, i64_w, i32_w]
                      rfl
                    refine pure_ (i := 6) (N := some 71) (v := ?_) (a' := ?_) #[true, true, true, true, false, true, true, false, false, false, false, false, false, false, false, false, false, false] rfl rfl (any_of HT_.out (by kernel_rfl)) (fun _ _ _ h => h) (Or.inl ⟨by rfl, ?_⟩) ?_ ?_
                    rotate_left
                    · intro w'
                      go_simp
                      with_reducible rfl
                    rotate_left
                    · simp only [Act.put, List.setIfInBounds_toArray, List.set_cons_zero, List.set_cons_succ, i64_w, i32_w]
                      rfl
                    refine pure_ (i := 7) (N := some 72) (v := ?_) (a' := ?_) #[true, true, true, true, false, true, true, true, false, false, false, false, false, false, false, false, false, false] rfl rfl (any_of HT_.out (by kernel_rfl)) (fun _ _ _ h => h) (Or.inl ⟨by rfl, ?_⟩) ?_ ?_
                    rotate_left
                    · intro w'
                      go_simp
                      with_reducible rfl
                    rotate_left
                    · simp only [Act.put, List.setIfInBounds_toArray, List.set_cons_zero, List.set_cons_succ, i64_w, i32_w]
                      rfl
                    refine pure_ (i := 9) (N := some 74) (v := ?_) (a' := ?_) #[true, true, true, true, false, true, true, true, false, true, false, false, false, false, false, false, false, false] rfl rfl (any_of HT_.out (by kernel_rfl)) (fun _ _ _ h => h) (Or.inl ⟨by rfl, ?_⟩) ?_ ?_
                    rotate_left
                    · intro w'
                      go_simp
                      with_reducible rfl
                    rotate_left
                    · simp only [Act.put, List.setIfInBounds_toArray, List.set_cons_zero, List.set_cons_succ, i64_w, i32_w]
                      rfl
                    refine take_ (i := 4) (N := some 69) (v := ?_) (a' := ?_) #[true, true, true, true, true, true, true, true, false, true, false, false, false, false, false, false, false, false] rfl rfl (take_ofW HT_.out HW_.out (by kernel_rfl)) (fun _ _ _ h => h) (Or.inl ⟨by rfl, ?_⟩) hHeld ?_ ?_
                    rotate_left
                    · rintro w' ⟨s0, s1, s2, s3, s4, s5⟩
                      go_simp
                      with_reducible rfl
                    rotate_left
                    · simp only [Act.put, List.setIfInBounds_toArray, List.set_cons_zero, List.set_cons_succ, i64_w, i32_w]
                      rfl
                    refine take_ (i := 8) (N := some 73) (v := ?_) (a' := ?_) #[true, true, true, true, true, true, true, true, true, true, false, false, false, false, false, false, false, false] rfl rfl (take_ofW HT_.out HW_.out (by kernel_rfl)) (fun _ _ _ h => h) (Or.inl ⟨by rfl, ?_⟩) hHeld ?_ ?_
                    rotate_left
                    · rintro w' ⟨s0, s1, s2, s3, s4, s5⟩
                      go_simp
                      with_reducible rfl
                    rotate_left
                    · simp only [Act.put, List.setIfInBounds_toArray, List.set_cons_zero, List.set_cons_succ, i64_w, i32_w]
                      rfl
                    refine pure_ (i := 10) (N := some 75) (v := ?_) (a' := ?_) #[true, true, true, true, true, true, true, true, true, true, true, false, false, false, false, false, false, false] rfl rfl (any_of HT_.out (by kernel_rfl)) (fun _ _ _ h => h) (Or.inl ⟨by rfl, ?_⟩) ?_ ?_
                    rotate_left
                    · intro w'
                      go_simp
                      with_reducible rfl
                    rotate_left
                    · simp only [Act.put, List.setIfInBounds_toArray, List.set_cons_zero, List.set_cons_succ, i64_w, i32_w]
                      rfl
                    refine take_ (i := 11) (N := some 76) (v := ?_) (a' := ?_) #[true, true, true, true, true, true, true, true, true, true, true, true, false, false, false, false, false, false] rfl rfl (take_ofW HT_.out HW_.out (by kernel_rfl)) (fun _ _ _ h => h) (Or.inl ⟨by rfl, ?_⟩) hHeld ?_ ?_
                    rotate_left
                    · rintro w' ⟨s0, s1, s2, s3, s4, s5⟩
                      go_simp
                      with_reducible rfl
                    rotate_left
                    · simp only [Act.put, List.setIfInBounds_toArray, List.set_cons_zero, List.set_cons_succ, i64_w, i32_w]
                      rfl
                    refine pure_ (i := 12) (N := some 77) (v := ?_) (a' := ?_) #[true, true, true, true, true, true, true, true, true, true, true, true, true, false, false, false, false, false] rfl rfl (any_of HT_.out (by kernel_rfl)) (fun _ _ _ h => h) (Or.inl ⟨by rfl, ?_⟩) ?_ ?_
                    rotate_left
                    · intro w'
                      go_simp
                      with_reducible rfl
                    rotate_left
                    · simp only [Act.put, List.setIfInBounds_toArray, List.set_cons_zero, List.set_cons_succ, i64_w, i32_w]
                      rfl
                    refine pure_ (i := 13) (N := some 78) (v := ?_) (a' := ?_) #[true, true, true, true, true, true, true, true, true, true, true, true, true, true, false, false, false, false] rfl rfl (any_of HT_.out (by kernel_rfl)) (fun _ _ _ h => h) (Or.inl ⟨by rfl, ?_⟩) ?_ ?_
                    rotate_left
                    · intro w'
                      go_simp
                      with_reducible rfl
                    rotate_left
                    · simp only [Act.put, List.setIfInBounds_toArray, List.set_cons_zero, List.set_cons_succ, i64_w, i32_w]
                      rfl
                    refine pure_ (i := 14) (N := some 79) (v := ?_) (a' := ?_) #[true, true, true, true, true, true, true, true, true, true, true, true, true, true, true, false, false, false] rfl rfl (any_of HT_.out (by kernel_rfl)) (fun _ _ _ h => h) (Or.inl ⟨by rfl, ?_⟩) ?_ ?_
                    rotate_left
                    · intro w'
                      go_simp
                      with_reducible rfl
                    rotate_left
                    · simp only [Act.put, List.setIfInBounds_toArray, List.set_cons_zero, List.set_cons_succ, i64_w, i32_w]
                      rfl
                    refine take_ (i := 15) (N := some 80) (v := ?_) (a' := ?_) #[true, true, true, true, true, true, true, true, true, true, true, true, true, true, true, true, false, false] rfl rfl (take_ofW HT_.out HW_.out (by kernel_rfl)) (fun _ _ _ h => h) (Or.inl ⟨by rfl, ?_⟩) hHeld ?_ ?_
                    rotate_left
                    · rintro w' ⟨s0, s1, s2, s3, s4, s5⟩
                      go_simp
                      with_reducible rfl
                    rotate_left
                    · simp only [Act.put, List.setIfInBounds_toArray, List.set_cons_zero, List.set_cons_succ, i64_w, i32_w]
                      rfl
                    refine one_ (i := 16) (N := some 9) #[true, true, true, true, true, true, true, true, true, true, true, true, true, true, true, true, true, false] rfl rfl (one_of HT_.out (by kernel_rfl)) (by decide) (fun K hK => ?_)
                    refine box_step ?hg (N := 9) ?hd (cs := #[.int .i64 0, .int .i64 0]) (t := 77) ?hr ?_; (case hd => rfl); (case hg => rfl); (case hr => first | (go_simp; done) | (go_simp; rfl))
                    intro gb411 hg w52 hbox hb
                    have HS2_ := (hb.cell (World.block_lt_of_cell? _ _ (hHeld.2.2.1))).trans (hHeld.2.2.1)
                    have HS4_ := (hb.cell (World.block_lt_of_cell? _ _ (hHeld.2.2.2.2.1))).trans (hHeld.2.2.2.2.1)
                    have HS5_ := (hb.cell (World.block_lt_of_cell? _ _ (hHeld.2.2.2.2.2))).trans (hHeld.2.2.2.2.2)
                    have n0_ := Aside0.mk (Kd.S_below (Kd.S_elderB (by (with_reducible repeat (first | apply Kd.S_alloc | apply Kd.S_drewN | apply Kd.S_drew)); exact HO_5.out) gb411 (Nat.le_of_eq hg.symm)) hb)
                    have n1_ := Aside0.mk (Kd.R_below (Kd.R_elderB (by (with_reducible repeat (first | apply Kd.R_alloc | apply Kd.R_drewN | apply Kd.R_drew)); exact HL408_0.out) gb411 (Nat.le_of_eq hg.symm)) hb)
                    have n2_ := Aside0.mk (blk_below (g := gb394) (o := .cells #[.slice (some ad409) l0_0.length c0_0, .slice A0_1 l0_1.length c0_1] 60 (0, 0)) (by (with_reducible repeat (first | refine blk_drewN ?_ _ | refine blk_drew ?_ | refine blk_alloc ?_ _)); exact BK394.out) hb)
                    have n3_ := Aside0.mk (Kd.C_below (by repeat (first | (with_reducible exact HR408_0.out) | (with_reducible refine Kd.C_alloc ?_ _) | (with_reducible refine Kd.C_drewN ?_ _) | (with_reducible refine Kd.C_drew ?_) | exact HR408_0.out)) hb)
                    have n4_ := Aside0.mk (pw_cell_below hb HX408_0.out)
                    have n5_ := Aside0.mk (below_step (by repeat (first | (with_reducible first | exact HB.out | apply below_alloc | apply pw_below_drewN | apply below_drew1 | refine below_set ?_ GE394.out) | exact HB.out)) hb)
                    have n6_ := Aside0.mk (hbox)
                    have n7_ := Aside0.mk ((by rw [hg]; exact (below_size (by repeat (first | (with_reducible first | exact HB.out | apply below_alloc | apply pw_below_drewN | apply below_drew1 | refine below_set ?_ GE394.out) | exact HB.out))) : w.heap.size ≤ gb411))
                    have n8_ := Aside0.mk ((by rw [hg]; exact (below_size (by repeat (first | (with_reducible first | exact HB.out | apply below_alloc | apply pw_below_drewN | apply below_drew1 | refine below_set ?_ GE394.out) | exact HB.out))) : w.heap.size ≤ gb411))
                    have n9_ := Aside0.mk ((by rw [hg]; exact Nat.ne_of_lt (blk_lt (g := gb394) (o := .cells #[.slice (some ad409) l0_0.length c0_0, .slice A0_1 l0_1.length c0_1] 60 (0, 0)) (by (with_reducible repeat (first | refine blk_drewN ?_ _ | refine blk_drew ?_ | refine blk_alloc ?_ _)); exact BK394.out)) : gb394 ≠ gb411))
                    have n10_ := Aside0.mk ((by rw [hg]; exact Nat.ne_of_gt (blk_lt (g := gb394) (o := .cells #[.slice (some ad409) l0_0.length c0_0, .slice A0_1 l0_1.length c0_1] 60 (0, 0)) (by (with_reducible repeat (first | refine blk_drewN ?_ _ | refine blk_drew ?_ | refine blk_alloc ?_ _)); exact BK394.out)) : gb411 ≠ gb394))
                    clear HO_5
                    clear HL408_0
                    clear BK394
                    clear HR408_0
                    clear HX408_0
                    clear HB
                    have HO_5 := n0_
                    have HL408_0 := n1_
                    have BK394 := n2_
                    have HR408_0 := n3_
                    have HX408_0 := n4_
                    have HB := n5_
                    have BK411 := n6_
                    have GW411 := n7_
                    have GE411 := n8_
                    have NB394_411 := n9_
                    have NB411_394 := n10_
                    clear n0_ n1_ n2_ n3_ n4_ n5_ n6_ n7_ n8_ n9_ n10_
                    clear hb hbox hg
                    refine hK.out _ _ ⟨(blk_cell BK394.out 0).trans rfl, (blk_cell BK394.out 1).trans rfl, HS2_, ((HB.out.cell (World.block_lt_of_cell? w _ hw409_0)).trans hw409_0), HS4_, HS5_⟩ (fun hHeld => ?_)
                    clear hK K
                    refine norm_ (a' := ?_) ?_ ?_
                    rotate_left
                    · show Act.put _ (some 9) _ = _
                      simp only [Act.put, List.setIfInBounds_toArray, List.set_cons_zero, List.set_cons_succ, i64_w, i32_w]
                      rfl
                    refine one_ (i := 17) (N := none) #[true, true, true, true, true, true, true, true, true, true, true, true, true, true, true, true, true, true] rfl rfl (one_of HT_.out (by kernel_rfl)) (by decide) (fun K hK => ?_)
                    have hs53 : w52.cell? ⟨gb411, 0, none⟩ = some (.int .i64 0) := (blk_cell BK411.out 0).trans rfl
                    have hfs53 := blk_frozen BK411.out 0
                    have hns53_0 := NB394_411.out
                    have hms53_0 := NB411_394.out
                    have hs54 : w52.cell? ⟨gb411, 1, none⟩ = some (.int .i64 0) := (blk_cell BK411.out 1).trans rfl
                    have hfs54 := blk_frozen BK411.out 1
                    have hns54_0 := NB394_411.out
                    have hms54_0 := NB411_394.out
                    refine skip_ (w1 := ?_) (by rfl) rfl ?_ ?_
                    rotate_left
                    · go_simp
                      rfl
                    refine hK.out _ _ ⟨((cell_far (p := ⟨gb411, _, none⟩) NB394_411.out _).trans (((cell_far (p := ⟨gb411, _, none⟩) NB394_411.out _).trans (hHeld.1)))), ((cell_far (p := ⟨gb411, _, none⟩) NB394_411.out _).trans (((cell_far (p := ⟨gb411, _, none⟩) NB394_411.out _).trans (hHeld.2.1)))), ((cell_far (p := ⟨gb411, _, none⟩) (by first | exact Kd.own_blk (Kd.S_away HO_5.out (fun _ hk => hk.2)) | (rw [add_block]; exact Kd.own_blk (Kd.S_away HO_5.out (fun _ hk => hk.2))) | (show (Addr.add _ _).block ≠ _; rw [add_block]; exact Kd.own_blk (Kd.S_away HO_5.out (fun _ hk => hk.2))) | (dsimp only; exact Kd.own_blk (Kd.S_away HO_5.out (fun _ hk => hk.2)))) _).trans (((cell_far (p := ⟨gb411, _, none⟩) (by first | exact Kd.own_blk (Kd.S_away HO_5.out (fun _ hk => hk.2)) | (rw [add_block]; exact Kd.own_blk (Kd.S_away HO_5.out (fun _ hk => hk.2))) | (show (Addr.add _ _).block ≠ _; rw [add_block]; exact Kd.own_blk (Kd.S_away HO_5.out (fun _ hk => hk.2))) | (dsimp only; exact Kd.own_blk (Kd.S_away HO_5.out (fun _ hk => hk.2)))) _).trans (hHeld.2.2.1)))), ((cell_far (p := ⟨gb411, _, none⟩) (by first | exact Nat.ne_of_lt (Nat.lt_of_lt_of_le (by have := World.block_lt_of_cell? _ _ hw409_0; first | rwa [add_block] at this | exact this) GW411.out) | (rw [add_block]; exact Nat.ne_of_lt (Nat.lt_of_lt_of_le (by have := World.block_lt_of_cell? _ _ hw409_0; first | rwa [add_block] at this | exact this) GW411.out)) | (show (Addr.add _ _).block ≠ _; rw [add_block]; exact Nat.ne_of_lt (Nat.lt_of_lt_of_le (by have := World.block_lt_of_cell? _ _ hw409_0; first | rwa [add_block] at this | exact this) GW411.out)) | (dsimp only; exact Nat.ne_of_lt (Nat.lt_of_lt_of_le (by have := World.block_lt_of_cell? _ _ hw409_0; first | rwa [add_block] at this | exact this) GW411.out))) _).trans (((cell_far (p := ⟨gb411, _, none⟩) (by first | exact Nat.ne_of_lt (Nat.lt_of_lt_of_le (by have := World.block_lt_of_cell? _ _ hw409_0; first | rwa [add_block] at this | exact this) GW411.out) | (rw [add_block]; exact Nat.ne_of_lt (Nat.lt_of_lt_of_le (by have := World.block_lt_of_cell? _ _ hw409_0; first | rwa [add_block] at this | exact this) GW411.out)) | (show (Addr.add _ _).block ≠ _; rw [add_block]; exact Nat.ne_of_lt (Nat.lt_of_lt_of_le (by have := World.block_lt_of_cell? _ _ hw409_0; first | rwa [add_block] at this | exact this) GW411.out)) | (dsimp only; exact Nat.ne_of_lt (Nat.lt_of_lt_of_le (by have := World.block_lt_of_cell? _ _ hw409_0; first | rwa [add_block] at this | exact this) GW411.out))) _).trans (hHeld.2.2.2.1)))), ((cell_far (p := ⟨gb411, _, none⟩) (by first | exact Kd.own_blk (Kd.R_away HL408_0.out (fun _ hk => hk.2)) | (rw [add_block]; exact Kd.own_blk (Kd.R_away HL408_0.out (fun _ hk => hk.2))) | (show (Addr.add _ _).block ≠ _; rw [add_block]; exact Kd.own_blk (Kd.R_away HL408_0.out (fun _ hk => hk.2))) | (dsimp only; exact Kd.own_blk (Kd.R_away HL408_0.out (fun _ hk => hk.2)))) _).trans (((cell_far (p := ⟨gb411, _, none⟩) (by first | exact Kd.own_blk (Kd.R_away HL408_0.out (fun _ hk => hk.2)) | (rw [add_block]; exact Kd.own_blk (Kd.R_away HL408_0.out (fun _ hk => hk.2))) | (show (Addr.add _ _).block ≠ _; rw [add_block]; exact Kd.own_blk (Kd.R_away HL408_0.out (fun _ hk => hk.2))) | (dsimp only; exact Kd.own_blk (Kd.R_away HL408_0.out (fun _ hk => hk.2)))) _).trans (hHeld.2.2.2.2.1)))), ((cell_far (p := ⟨gb411, _, none⟩) (by first | exact Kd.own_blk (Kd.R_away HL408_0.out (fun _ hk => hk.2)) | (rw [add_block]; exact Kd.own_blk (Kd.R_away HL408_0.out (fun _ hk => hk.2))) | (show (Addr.add _ _).block ≠ _; rw [add_block]; exact Kd.own_blk (Kd.R_away HL408_0.out (fun _ hk => hk.2))) | (dsimp only; exact Kd.own_blk (Kd.R_away HL408_0.out (fun _ hk => hk.2)))) _).trans (((cell_far (p := ⟨gb411, _, none⟩) (by first | exact Kd.own_blk (Kd.R_away HL408_0.out (fun _ hk => hk.2)) | (rw [add_block]; exact Kd.own_blk (Kd.R_away HL408_0.out (fun _ hk => hk.2))) | (show (Addr.add _ _).block ≠ _; rw [add_block]; exact Kd.own_blk (Kd.R_away HL408_0.out (fun _ hk => hk.2))) | (dsimp only; exact Kd.own_blk (Kd.R_away HL408_0.out (fun _ hk => hk.2)))) _).trans (hHeld.2.2.2.2.2))))⟩ (fun hHeld => ?_)
                    clear hK K
                    refine done_ (done_of HT_.out (by kernel_rfl)) ?_
                    have hnb55 := NB411_394.out
                    have hnc55 := NB394_411.out
                    have hcz56_0 : w52.cell? ⟨gb411, 0, none⟩ = some (.int .i64 0) := (blk_cell BK411.out 0).trans rfl
                    have hcz56_1 : w52.cell? ⟨gb411, 1, none⟩ = some (.int .i64 0) := (blk_cell BK411.out 1).trans rfl
                    have hfz56_0 := blk_frozen BK411.out 0
                    have hfz56_1 := blk_frozen BK411.out 1
                    try go_wp2
                    (try simp only [← hl5_3])
                    go_roundg kj33
                    case measure => have := HK1.out; have := HK2.out; have := HK3.out; have := HJ33.out; omega
                    case rel => exact ⟨(x5_3), (wrap64 (x8_3 + 1)), (by first | rfl | (simp; done) | (simp [*]; done)), H', ⟨by have := HK1.out; have := HK2.out; have := HK3.out; have := HJ33.out; omega⟩, ⟨by (try simp only [hl5_2]); (try simp only [hl5_3]); (with_reducible repeat (first | apply Kd.S_alloc | apply Kd.S_drewN | apply Kd.S_drew)); exact Kd.S_mono (Kd.S_far (p := ⟨gb411, 1, none⟩) (Kd.S_far (p := ⟨gb411, 0, none⟩) (Kd.S_mono HO_5.out (fun k_ hk => (⟨hk, hk.2⟩ : _ ∧ k_ ≠ gb411))) (fun _ hk => hk.2) (.int .i64 ((rd_T77 (rd_L7 x5_3 (ji42)) (ji47)).f0))) (fun _ hk => hk.2) (.int .i64 ((rd_T77 (rd_L7 x5_3 (ji42)) (ji47)).f1))) (fun _ hk => trivial)⟩, ⟨by (try simp only [hl5_2]); (try simp only [hl5_3]); (with_reducible repeat (first | refine blk_drewN ?_ _ | refine blk_drew ?_ | refine blk_alloc ?_ _)); refine blk_far ?_ NB394_411.out _; (with_reducible repeat (first | refine blk_drewN ?_ _ | refine blk_drew ?_ | refine blk_alloc ?_ _)); refine blk_far ?_ NB394_411.out _; (with_reducible repeat (first | refine blk_drewN ?_ _ | refine blk_drew ?_ | refine blk_alloc ?_ _)); exact BK394.out⟩, ⟨by repeat (first | (with_reducible first | exact HB.out | apply below_alloc | apply pw_below_drewN | apply below_drew1 | refine below_set ?_ GE394.out | refine below_set ?_ GE411.out) | exact HB.out)⟩⟩
      rw [if_pos c18] at H
      have c18b0 : (x6_1 == (l0_0.length : Int)) = true := beq_iff_eq.mpr c18
      have c18b1 : (x6_1 != (l0_0.length : Int)) = false := bne_eq_false_iff_eq.mpr c18
      clear c18
      by_cases c19 : 0 < ((rd_L7 y401 x6_1).length : Int)
      rotate_left
      · rw [if_neg c19] at H
        exact absurd H (by simp)
      rw [if_pos c19] at H
      have c19b0 : decide (0 < ((rd_L7 y401 x6_1).length : Int)) = true := decide_eq_true c19
      have c19b1 : decide (0 < (rd_L7 y401 x6_1).length) = true := decide_eq_true (by omega)
      clear c19
      obtain ⟨y403, hy403⟩ : ∃ y_ : List (S77), y_ = ((rd_L7 y401 x6_1).set (0 : Int).toNat (⟨1, 0⟩ : S77)) := ⟨_, rfl⟩
      replace H : (impl_purse_table.l0 k1 a1 (y401.set (x6_1 : Int).toNat y403) (wrap64 (x6_1 - 1)) l0_0 l0_1) = some r := by first | (rw [hy403]; with_reducible exact H) | (have H2_ := (Option.bind_some _ _).symm.trans H; rw [hy403]; with_reducible exact H2_) | (have H2_ := (Option.bind_some _ _).symm.trans H; with_reducible exact H2_) | with_reducible exact H | (rw [hy403]; exact H) | exact H
      have Ny403 := Aside0.mk hy403
      clear hy403
      obtain ⟨y405, hy405⟩ : ∃ y_ : List (List (S77)), y_ = (y401.set (x6_1 : Int).toNat y403) := ⟨_, rfl⟩
      replace H : (impl_purse_table.l0 k1 a1 y405 (wrap64 (x6_1 - 1)) l0_0 l0_1) = some r := by first | (rw [hy405]; with_reducible exact H) | (have H2_ := (Option.bind_some _ _).symm.trans H; rw [hy405]; with_reducible exact H2_) | (have H2_ := (Option.bind_some _ _).symm.trans H; with_reducible exact H2_) | with_reducible exact H | (rw [hy405]; exact H) | exact H
      have Ny405 := Aside0.mk hy405
      clear hy405
      have H' := Aside0.mk H
      clear H
      go_wp2_with (first | ((with_reducible refine gate_dst (N := 27) rfl ?_); refine Kd.R_make k77 _ 77 rfl (N := 27) rfl 78 _ _ rfl ji12 rfl rfl Try.underlying78 (.agg #[(.int .i64 0), (.int .i64 0)]) 16 info77 rfl (by decide) (by omega) z77 (ok := fun _ => True) (okp := fun _ => True) (k77_mkM _ _ _ z77 ) (fun _ hk => hk) trivial (of_decide_eq_true (by first | (with_reducible assumption) | assumption)) (Nat.le_trans (Nat.mul_le_mul_right _ (of_decide_eq_true (by first | (with_reducible assumption) | assumption) : ji12.toNat ≤ 17592186044416)) (by omega)) (Below.refl _ _) (Nat.le_refl _) ?_; intro v399 w21 ho22 hb hg_ hnew_; clear hg_ hnew_; (first | rw [← Ny398.out] at ho22 | (simp only [Int.reduceToNat] at ho22; rw [← Ny398.out] at ho22)); have n0_ := Aside0.mk (Kd.S_elder' (by (with_reducible repeat (first | apply Kd.S_alloc | apply Kd.S_drewN | apply Kd.S_drew)); exact HO_5.out) (Kd.R_base ho22) hb); have n1_ := Aside0.mk (Kd.R_lower ho22 (below_size (by repeat (first | (with_reducible first | exact HB.out | apply below_alloc | apply pw_below_drewN | apply below_drew1 | refine below_set ?_ GE394.out) | exact HB.out)))); have n2_ := Aside0.mk (blk_below (g := gb394) (o := .cells #[.slice A0_0 l0_0.length c0_0, .slice A0_1 l0_1.length c0_1] 60 (0, 0)) (by (with_reducible repeat (first | refine blk_drewN ?_ _ | refine blk_drew ?_ | refine blk_alloc ?_ _)); exact BK394.out) hb); have n3_ := Aside0.mk (below_step (by repeat (first | (with_reducible first | exact HB.out | apply below_alloc | apply pw_below_drewN | apply below_drew1 | refine below_set ?_ GE394.out) | exact HB.out)) hb); clear HO_5; clear BK394; clear HB; have HO_5 := n0_; have HO400 := n1_; have BK394 := n2_; have HB := n3_; clear n0_ n1_ n2_ n3_; clear hb ho22; have p17 : 0 ≤ (x6_1 : Int) := of_decide_eq_true (by first | (with_reducible assumption) | assumption); have q17 : (x6_1 : Int) < ((x5_1.length : Int) : Int) := of_decide_eq_true (by first | (with_reducible assumption) | assumption); obtain ⟨go17, co17, eo17, gb17, gl17, cl17, HG17⟩ := Kd.S_form HO_5.out (by omega); (first | cases eo17 | (injection eo17 with ea_ en_ ec_; (first | subst ea_ | (injection ea_ with ea_; subst ea_)); subst ec_; clear en_)); have GB17 := Aside0.mk gb17; have GG17 := Aside0.mk HG17; clear gb17 gl17 HG17; obtain ⟨_, ce17, hcl17, hM17, hcc17, hfr17, _, _⟩ := Kd.S_elem HO_5.out [] (x6_1 : Int) p17 q17; obtain ⟨ve17_0, rfl, ge17_0⟩ := id hM17; have hx17_0 := hcc17 0 _ rfl; have hf17_0 := hfr17 0; (try simp only [show ((Kd.slice 77 k77)).sz = 1 from rfl, Nat.mul_one, Nat.add_zero] at hx17_0); (try simp only [show ((Kd.slice 77 k77)).sz = 1 from rfl, Nat.mul_one, Nat.add_zero] at hf17_0); clear hcl17 hcc17 hfr17 hM17; replace p17 := eq_true p17; replace q17 := eq_true q17; have n_ := Aside0.mk (Kd.S_mono (ok' := (fun k_ => some k_ ≠ (v399 : Value).ownBlock)) HO_5.out (fun k_ hk => hk.2)); clear HO_5; have HO_5 := n_; clear n_; have HX23 := Aside0.mk (show Kd.S (Kd.slice 77 k77) 78 w21 w.heap.size (fun k_ => ((fun _ => True)) k_ ∧ ¬ ((fun k_ => some k_ = (v399 : Value).ownBlock)) k_) (.slice (some ⟨go17, 0, none⟩) x5_1.length co17) x5_1 from (by (with_reducible repeat (first | apply Kd.S_alloc | apply Kd.S_drewN | apply Kd.S_drew)); exact Kd.S_mono HO_5.out (fun k_ hk => ⟨trivial, fun e_ => hk e_⟩))); obtain ⟨oki23, ce23, hcl23, hM23, hcc23, hfr23, hoki23, hH23⟩ := Kd.S_elem HX23.out [] (x6_1 : Int) (of_decide_eq_true (by first | (with_reducible assumption) | assumption)) (by have h_ : (x6_1 : Int) < ((x5_1.length : Int) : Int) := of_decide_eq_true (by first | (with_reducible assumption) | assumption); first | exact h_ | (have e_ := (Kd.S_reads' HO_5.out).1; omega) | simpa using h_); obtain ⟨ve23_0, rfl, ge23_0⟩ := id hM23; have HP23 := Kd.S_seg hH23 (of_decide_eq_true (by first | (with_reducible assumption) | assumption)) (by have h_ : (x6_1 : Int) < ((x5_1.length : Int) : Int) := of_decide_eq_true (by first | (with_reducible assumption) | assumption); first | exact h_ | (have e_ := (Kd.S_reads' HO_5.out).1; omega) | simpa using h_) (seg := [v399]) (j := 0) (show 1 ≤ 1 from by decide) (x' := y398) (Kd.M_row (Kd.R_mono (Kd.R_tight rfl (Kd.R_mono (ok' := fun k_ => ((fun _ => True)) k_ ∧ k_ ≠ go17) (Kd.R_apart' (HO400.out) (Kd.S_typed HO_5.out) (by decide)) (fun k_ hk => ⟨trivial, fun e_ => (hk.2) (by rw [e_]; rfl)⟩))) (fun _ h_ => Or.inr (h_)))) (fun _ hk => hk) (fun k_ hk_ => ((Kd.R_mono (ok' := fun k_ => ((fun _ => True)) k_ ∧ k_ ≠ go17) (Kd.R_apart' (HO400.out) (Kd.S_typed HO_5.out) (by decide)) (fun k_ hk => ⟨trivial, fun e_ => (hk.2) (by rw [e_]; rfl)⟩))).1 k_ hk_.symm); have hx23_0 := hcc23 0 _ rfl; (try simp only [show ((Kd.slice 77 k77)).sz = 1 from rfl, Nat.mul_one, Nat.add_zero] at hx23_0); have hf23_0 := hfr23 0; (try simp only [show ((Kd.slice 77 k77)).sz = 1 from rfl, Nat.mul_one, Nat.add_zero] at hf23_0); clear hcl23 hcc23 hfr23 hM23 hoki23 hH23; (try simp only [show ((Kd.slice 77 k77)).sz = 1 from rfl, Nat.mul_one, Nat.add_zero] at HP23)) | ((with_reducible refine gate_store (t := 78) (p := 28) rfl ?_); refine store_event (t := 78) (p := 28) (v := ?vo_w24) (w1 := (w21.setCell ⟨go17, (x6_1 : Int).toNat, none⟩ (v399))) ?hg ?ho ?hn ?hr ?_; (case ho => rfl); (case hg => rfl); (case hn => rfl); (case hr => first | (go_simp; done) | (go_simp; rfl) | (obtain ⟨Az_, cz_, ez_⟩ := Kd.R_slice HO400.out; rw [ez_]; first | (go_simp; done) | (go_simp; rfl)) | (obtain ⟨Az_, cz_, ez_⟩ := Kd.S_slice HO400.out; rw [ez_]; first | (go_simp; done) | (go_simp; rfl)) | (obtain ⟨Az_, cz_, ez_⟩ := Kd.N_slice HO400.out; rw [ez_]; first | (go_simp; done) | (go_simp; rfl)) | (obtain ⟨Az_, cz_, ez_⟩ := Kd.Q_slice HO400.out; rw [ez_]; first | (go_simp; done) | (go_simp; rfl)) | (obtain ⟨Az_, cz_, ez_⟩ := Kd.V_slice HO400.out; rw [ez_]; first | (go_simp; done) | (go_simp; rfl))); intro w24 hw; have hg : w21.grownBy w24 (some go17) := (by rw [hw]; exact HP23.2); have hp_ : Kd.S (Kd.slice 77 k77) 78 w24 w.heap.size (fun _ => True) (.slice (some ⟨go17, 0, none⟩) x5_1.length co17) y401 := (by rw [hw, Ny401.out]; exact HP23.1); clear HP23; have n0_ := Aside0.mk (hp_); have n1_ := Aside0.mk (blk_grown (g := gb394) (o := .cells #[.slice A0_0 l0_0.length c0_0, .slice A0_1 l0_1.length c0_1] 60 (0, 0)) (by (with_reducible repeat (first | refine blk_drewN ?_ _ | refine blk_drew ?_ | refine blk_alloc ?_ _)); exact BK394.out) hg (Kd.S_ne HO_5.out BK394.out (by decide))); have n2_ := Aside0.mk ((by rw [hw]; exact below_set (HB.out) GB17.out : Below w.heap.size w w24)); clear HO_5; clear BK394; clear HB; clear HO400; have HO_5 := n0_; have BK394 := n1_; have HB := n2_; clear n0_ n1_ n2_; clear hg hw hp_; have hcz25_0 : w24.cell? ⟨gb394, 0, none⟩ = some (.slice A0_0 l0_0.length c0_0) := (blk_cell BK394.out 0).trans rfl; have hcz25_1 : w24.cell? ⟨gb394, 1, none⟩ = some (.slice A0_1 l0_1.length c0_1) := (blk_cell BK394.out 1).trans rfl; have hfz25_0 := blk_frozen BK394.out 0; have hfz25_1 := blk_frozen BK394.out 1; have p402 : 0 ≤ (x6_1 : Int) := of_decide_eq_true (by first | (with_reducible assumption) | assumption); have q402 : x6_1 < (y401.length : Int) := (by have h_ : (x6_1 : Int) < ((x5_1.length : Int) : Int) := of_decide_eq_true (by first | (with_reducible assumption) | assumption); first | (have e_ := (Kd.S_reads' HO_5.out).1; omega) | simpa only [Ny401.out, List.length_set] using h_); have ql402 : ((x6_1 : Int) < ((x5_1.length : Int) : Int)) = True := eq_true (of_decide_eq_true (by first | (with_reducible assumption) | assumption)); obtain ⟨ad402, A402_0, c402_0, e402, hx402_0, hl402_0, hi402_0⟩ := at_L7 (Kd.S_reads' HO_5.out).2.2 x6_1 p402 q402; obtain rfl : (⟨go17, 0, none⟩ : Addr) = ad402 := (by injection e402); obtain ⟨ce402, hce402, hMe402, hcc402⟩ := Kd.S_get HO_5.out [] x6_1 p402 (by first | exact q402 | exact of_decide_eq_true (by first | (with_reducible assumption) | assumption) | (have e_ := (Kd.S_reads' HO_5.out).1; omega)); obtain ⟨ve402_0, rfl, ge402_0⟩ := hMe402; have hv402_0 := hcc402 0 _ rfl; rw [Nat.add_zero, show ((Kd.slice 77 k77)).sz = 1 from rfl, Nat.mul_one] at hv402_0; replace hv402_0 := Option.some.inj (hv402_0.symm.trans hx402_0); rw [hv402_0] at ge402_0; have HL402_0 := Aside0.mk (show Kd.R k77 77 _ _ _ _ (rd_L7 y401 x6_1) from ge402_0); clear hv402_0 ge402_0; have HX402_0 := Aside0.mk hx402_0; clear hcc402 hce402; (first | simp only [add_plain] at hx402_0 | simp only [add_at] at hx402_0 | simp only [Addr.add, Nat.zero_add] at hx402_0 | skip); have HR402_0 := Aside0.mk hi402_0; have HC402_0 := Aside0.mk hl402_0; clear hi402_0 hl402_0; replace p402 := eq_true p402; replace q402 := eq_true q402; have p20 : 0 ≤ (0 : Int) := (by omega); have q20 : (0 : Int) < (((rd_L7 y401 x6_1).length : Int) : Int) := of_decide_eq_true (by first | (with_reducible assumption) | assumption); have qi20 : (0 < (rd_L7 y401 x6_1).length) = True := eq_true (by omega); obtain ⟨go20, co20, eo20, gb20, gl20, cl20, HG20⟩ := Kd.R_form HL402_0.out (by omega); (first | cases eo20 | (injection eo20 with ea_ en_ ec_; (first | subst ea_ | (injection ea_ with ea_; subst ea_)); subst ec_; clear en_)); have GB20 := Aside0.mk gb20; have GG20 := Aside0.mk HG20; clear gb20 gl20 HG20; obtain ⟨ce20, hcl20, hM20, hcc20, hfr20⟩ := Kd.R_elem HL402_0.out z77 (0 : Int) p20 q20; obtain rfl := k77_openM hM20; have hx20_0 : w24.cell? ⟨go20, (0 : Int).toNat * 2, none⟩ = some (.int .i64 ((rd_T77 (rd_L7 y401 x6_1) 0).f0)) := hcc20 0 _ rfl; have hx20_1 : w24.cell? ⟨go20, (0 : Int).toNat * 2 + 1, none⟩ = some (.int .i64 ((rd_T77 (rd_L7 y401 x6_1) 0).f1)) := hcc20 1 _ rfl; have hf20_0 : w24.frozen? ⟨go20, (0 : Int).toNat * 2, none⟩ = false := hfr20 0; have hf20_1 : w24.frozen? ⟨go20, (0 : Int).toNat * 2 + 1, none⟩ = false := hfr20 1; clear hcl20 hcc20 hfr20 hM20; (try rw [show ((0 : Int)).toNat = 0 from rfl] at hx20_0); (try simp only [Nat.reduceMul, Nat.zero_mul, Nat.zero_add, Nat.reduceAdd] at hx20_0); (try rw [show ((0 : Int)).toNat = 0 from rfl] at hf20_0); (try simp only [Nat.reduceMul, Nat.zero_mul, Nat.zero_add, Nat.reduceAdd] at hf20_0); (try rw [show ((0 : Int)).toNat = 0 from rfl] at hx20_1); (try simp only [Nat.reduceMul, Nat.zero_mul, Nat.zero_add, Nat.reduceAdd] at hx20_1); (try rw [show ((0 : Int)).toNat = 0 from rfl] at hf20_1); (try simp only [Nat.reduceMul, Nat.zero_mul, Nat.zero_add, Nat.reduceAdd] at hf20_1); replace p20 := eq_true p20; replace q20 := eq_true q20; have hq26 : (x6_1 : Int) < (y401.length : Int) := (by have h_ : (x6_1 : Int) < ((x5_1.length : Int) : Int) := of_decide_eq_true (by first | (with_reducible assumption) | assumption); first | exact h_ | (have e_ := (Kd.S_reads' HO_5.out).1; omega) | simpa only [Ny401.out, List.length_set] using h_); obtain ⟨oki26, ce26, hcl26, hM26, hcc26, hok26, hbk26⟩ := Kd.S_borrow HO_5.out [] (x6_1 : Int) (of_decide_eq_true (by first | (with_reducible assumption) | assumption)) (by first | exact hq26 | (have e_ := (Kd.S_reads' HO_5.out).1; omega)); obtain ⟨ve26_0, rfl, ge26_0⟩ := id hM26; have hv26 := hcc26 0 _ rfl; rw [Nat.add_zero, show ((Kd.slice 77 k77)).sz = 1 from rfl, Nat.mul_one] at hv26; replace hv26 := Option.some.inj (hv26.symm.trans HX402_0.out); subst hv26; clear hcc26 hcl26; replace ge26_0 := (show Kd.R k77 77 _ _ _ _ (rd_L7 y401 x6_1) from ge26_0); obtain ⟨cf26, hcl26, hN26, hcc26, hfr26⟩ := Kd.R_elem ge26_0 z77 (0 : Int) (by omega) (by have h_ : (0 : Int) < (((rd_L7 y401 x6_1).length : Int) : Int) := of_decide_eq_true (by first | (with_reducible assumption) | assumption); first | exact h_ | (have e_ := (Kd.R_reads' HR402_0.out).1; omega) | simpa using h_); obtain rfl := k77_openM hN26; have HP26 := Kd.R_seg ge26_0 (0 : Int) (by omega) (by have h_ : (0 : Int) < (((rd_L7 y401 x6_1).length : Int) : Int) := of_decide_eq_true (by first | (with_reducible assumption) | assumption); first | exact h_ | (have e_ := (Kd.R_reads' HR402_0.out).1; omega) | simpa using h_) (seg := [.int .i64 1, .int .i64 0]) (j := 0) hcl26 hcc26 (show 2 ≤ 2 from by decide) (x' := (⟨1, 0⟩ : S77)) (k77_mkM _ _ _ (⟨1, 0⟩ : S77)) (fun _ hk => hk); clear hcl26 hcc26 hfr26 hN26) | ((with_reducible refine gate_store (t := 77) (p := 39) rfl ?_); refine store_event (t := 77) (p := 39) (v := ?vo_w27) (w1 := ((w24.setCell ⟨go20, 0, none⟩ (.int .i64 1)).setCell ⟨go20, 1, none⟩ (.int .i64 0))) ?hg ?ho ?hn ?hr ?_; (case ho => rfl); (case hg => rfl); (case hn => rfl); (case hr => first | (go_simp; done) | (go_simp; rfl)); intro w27 hw; have hg : w24.grownBy w27 (some go20) := (by rw [hw]; exact HP26.2); have hz_ : Kd.R k77 77 w27 w.heap.size oki26 (.slice (some ⟨go20, 0, none⟩) (rd_L7 y401 x6_1).length c402_0) y403 := (by rw [hw, Ny403.out]; exact HP26.1); have hp_ : Kd.S (Kd.slice 77 k77) 78 w27 w.heap.size (fun _ => True) (.slice (some ⟨go17, 0, none⟩) x5_1.length co17) y405 := (by rw [Ny405.out]; exact hbk26 hg (fun k_ e_ => by injection e_ with e_; subst e_; exact ge26_0.1 _ rfl) (Kd.M_row hz_)); have hm_ := Kd.R_mono hz_ hok26; clear HP26 hbk26; have n0_ := Aside0.mk (hp_); have n1_ := Aside0.mk (blk_grown (g := gb394) (o := .cells #[.slice A0_0 l0_0.length c0_0, .slice A0_1 l0_1.length c0_1] 60 (0, 0)) (by (with_reducible repeat (first | refine blk_drewN ?_ _ | refine blk_drew ?_ | refine blk_alloc ?_ _)); exact BK394.out) hg (Kd.R_ne HL402_0.out BK394.out (by decide))); have n2_ := Aside0.mk ((by rw [hw]; exact below_set (below_set (HB.out) GB20.out) GB20.out : Below w.heap.size w w27)); have n3_ := Aside0.mk (hm_); have n4_ := Aside0.mk ((Kd.R_reads' hm_).2.1); clear HO_5; clear BK394; clear HB; clear HL402_0; have HO_5 := n0_; have BK394 := n1_; have HB := n2_; have HL429 := n3_; have HC404 := n4_; clear n0_ n1_ n2_ n3_ n4_; clear hg hw hp_ hz_ hm_ hok26))
      go_roundg k1
      case measure => have := HK1.out; omega
      case rel => exact ⟨(y405), (wrap64 (x6_1 - 1)), (by first | rfl | (simp; done) | (simp [*]; done)), H', ⟨by have := HK1.out; omega⟩, ⟨by (with_reducible repeat (first | apply Kd.S_alloc | apply Kd.S_drewN | apply Kd.S_drew)); exact HO_5.out⟩, ⟨by (with_reducible repeat (first | refine blk_drewN ?_ _ | refine blk_drew ?_ | refine blk_alloc ?_ _)); exact BK394.out⟩, ⟨by repeat (first | (with_reducible first | exact HB.out | apply below_alloc | apply pw_below_drewN | apply below_drew1 | refine below_set ?_ GE394.out) | exact HB.out)⟩⟩
end Go.Proofs.Ytnhcdfikjfjkoaa.P
