/- Each Go function that the laws of this seat come to, as a plain Lean function, and the proof that a call of it returns what that function tells; no condition but those that each theorem states. Written by a program of this session over the kit's print. -/
import Derived.Test.YtaonlhjblocfkaaP0
import Derived.Test.YtaonlhjblocfkaaPslicesContainsFuncint64int64
namespace Go.Proofs.Ytaonlhjblocfkaa.P
open Go.RowKit Go.Proofs.YtaonlhjblocfkaaW.PrintWords Go.Proofs.YtaonlhjblocfkaaW.PrintLast Go.Proofs.YtaonlhjblocfkaaW.PrintMore
attribute [local go_sem] max2_int min2_int max_two min_two max_three min_three max_four min_four   -- for this text's walks alone
set_option linter.unusedVariables false
set_option linter.unusedSimpArgs false

/-! ### impl_payable: function 52, by hand -/
/-- Which amounts below n can be paid, one after the other. -/
def impl_payable.row (vs : List Int) : Nat → List Bool
  | 0 => []
  | n + 1 => impl_payable.row vs n ++ [decide (n = 0) || vs.any fun v => decide ((n : Int) ≥ v) && (impl_payable.row vs n).getD ((n : Int) - v).toNat false]
/-- Which amounts up to one can be paid, where all values are 1 to 500. -/
def impl_payable.f (l0 : List Int) (a1 : Int) : Option (List Bool) :=
  if (∀ v ∈ l0, 1 ≤ v ∧ v ≤ 500) ∧ 0 ≤ a1 ∧ a1 ≤ 1000000 then some (impl_payable.row l0 (a1 + 1).toNat) else none
theorem impl_payable.row_len (vs : List Int) (n : Nat) : (impl_payable.row vs n).length = n := by
  induction n with
  | zero => rfl
  | succ n ih => simp [impl_payable.row, ih]
/-- What lies in the list of n amounts when k rounds are over. -/
def impl_payable.cont (vs : List Int) (n k : Nat) : List Bool := if k = 0 then (List.replicate n false).set 0 true else impl_payable.row vs k ++ List.replicate (n - k) false
theorem impl_payable.cont_len (vs : List Int) (n k : Nat) (h : k ≤ n) : (impl_payable.cont vs n k).length = n := by
  unfold impl_payable.cont
  split
  · simp
  · simp [impl_payable.row_len]; omega
theorem impl_payable.cont_lo (vs : List Int) (n k j : Nat) (h : j < k) : (impl_payable.cont vs n k).getD j false = (impl_payable.row vs k).getD j false := by
  unfold impl_payable.cont
  rw [if_neg (by omega)]
  simp only [List.getD_eq_getElem?_getD]
  rw [List.getElem?_append_left (by rw [impl_payable.row_len]; exact h)]
theorem impl_payable.cont_at (vs : List Int) (n k : Nat) (h : k < n) : (impl_payable.cont vs n k).getD k false = decide (k = 0) := by
  unfold impl_payable.cont
  split
  · rename_i e; subst e; simp [List.getD_eq_getElem?_getD, h]
  · rename_i e
    simp only [List.getD_eq_getElem?_getD]
    rw [List.getElem?_append_right (by rw [impl_payable.row_len]; omega), impl_payable.row_len]
    simp [e, show k - k = 0 by omega, show 0 < n - k by omega]
theorem impl_payable.cont_set (vs : List Int) (n k : Nat) (h : k < n) : (impl_payable.cont vs n k).set k (decide (k = 0) || vs.any fun v => decide ((k : Int) ≥ v) && (impl_payable.row vs k).getD ((k : Int) - v).toNat false) = impl_payable.cont vs n (k + 1) := by
  unfold impl_payable.cont
  rw [if_neg (by omega : ¬ k + 1 = 0)]
  split
  · rename_i e; subst e
    obtain ⟨n, rfl⟩ : ∃ m, n = m + 1 := ⟨n - 1, by omega⟩
    simp [impl_payable.row, List.replicate_succ]
  · rename_i e
    rw [List.set_append_right _ _ (by rw [impl_payable.row_len]; omega), impl_payable.row_len, impl_payable.row]
    obtain ⟨d, hd⟩ : ∃ d, n - k = d + 1 := ⟨n - k - 1, by omega⟩
    rw [hd, show n - (k + 1) = d by omega, List.replicate_succ]
    simp
set_option maxHeartbeats 2000000 in
theorem impl_payable.closure (B1 B2 G : Nat) (n co : Nat) (at_ : Nat) (xs : List Bool) (v : Int) (W : World) (h1 : W.cell? ⟨B1, 0, none⟩ = some (.int .i64 (at_ : Int))) (h2 : W.cell? ⟨B2, 0, none⟩ = some (.slice (some ⟨G, 0, none⟩) n co))
    (hv : 1 ≤ v) (hv5 : v ≤ 500) (hat : at_ < n) (hn : n ≤ 1000001) (hc : ∀ j, j < at_ → W.cell? ⟨G, j, none⟩ = some (.bool (xs.getD j false))) :
    Calls Try.prog 71 #[.int .i64 v, .pointer (some ⟨B1, 0, none⟩), .pointer (some ⟨B2, 0, none⟩)] W fun e w' => e = .returned (.bool (decide ((at_ : Int) ≥ v) && xs.getD ((at_ : Int) - v).toNat false)) ∧ w' = W := by
  obtain ⟨u, rfl⟩ := Int.eq_ofNat_of_zero_le (show 0 ≤ v by omega)
  by_cases h : u ≤ at_
  · have hx := hc (at_ - u) (by omega)
    clear hc
    have e1 : ((at_ : Int) - (u : Int)).toNat = at_ - u := by omega
    have b1 : decide ((u : Int) ≤ (at_ : Int)) = true := by simpa using h
    have b2 : decide (u ≤ at_) = true := by simpa using h
    generalize hb : xs.getD (at_ - u) false = b at hx
    have HBX := Aside0.mk hb
    clear hb
    have hlo : (0 : Int) ≤ (at_ : Int) - (u : Int) := by omega
    have hhi : (at_ : Int) - (u : Int) < (n : Int) := by omega
    go_enter Try.func71, Try.ntmps71
    go_wp2
    go_ret
    exact ⟨by rw [e1, HBX.out]; simp [h], rfl⟩
  · have b1 : decide ((u : Int) ≤ (at_ : Int)) = false := by simpa using h
    have b2 : decide (u ≤ at_) = false := by simpa using h
    clear hc
    go_enter Try.func71, Try.ntmps71
    go_wp2
    go_ret
    exact ⟨by simp [h], rfl⟩
set_option maxHeartbeats 4000000 in
set_option maxRecDepth 100000 in
theorem impl_payable.calls (A0 : Option Addr) (c0 : Nat) (l0 : List Int) (a1 : Int) (r : List Bool) (w : World) (hr0 : Kd.C (Kd.int .i64) w A0 l0.length l0) (hc0 : l0.length ≤ c0) (h : impl_payable.f l0 a1 = some r) :
    Calls Try.prog 52 #[.slice A0 l0.length c0, .int .i64 a1] w fun e w' => ∃ v0_ : Value, e = .returned v0_ ∧ Kd.R Kd.bool 4 w' w.heap.size (fun _ => True) v0_ r ∧ Below w.heap.size w w' := by
  unfold impl_payable.f at h
  split at h
  case isFalse => cases h
  case isTrue hcond =>
  obtain ⟨hvs, h0, h1⟩ := hcond
  obtain rfl := Option.some.inj h
  obtain ⟨m, rfl⟩ := Int.eq_ofNat_of_zero_le h0
  obtain ⟨n, hn⟩ : ∃ n, n = m + 1 := ⟨_, rfl⟩
  have e1 : ((m : Int) + 1).toNat = n := by omega
  rw [e1]
  have HR0 := Aside0.mk hr0
  have HV := Aside0.mk hvs
  clear h hr0 hvs hc0 e1
  have hjiw : wrap64 ((m : Int) + 1) = (n : Int) := by rw [hn]; unfold wrap64; omega
  have hjiw2 : IntKind.i64.wrap ((m : Int) + 1) = (n : Int) := (i64_w _).trans hjiw
  have hn0 : 0 < n := by omega
  have hn1 : n ≤ 1000001 := by omega
  have HN := Aside0.mk hn
  clear hn
  go_enter Try.func52, Try.ntmps52
  go_wp2_with (first | ((with_reducible refine gate_dst (N := 9) rfl ?_); refine Kd.R_make Kd.bool _ 4 rfl (N := 9) rfl 48 _ _ rfl (n : Int) rfl rfl Try.underlying48 (.bool false) 1 info4 rfl (by decide) (by omega) false (ok := fun _ => True) (okp := fun _ => True) rfl (fun _ hk => hk) trivial (by omega) (by omega) (Below.refl _ _) (Nat.le_refl _) ?_; intro v1 w1 ho hb hg_ hnew_; clear hg_ hnew_; obtain ⟨go, co, eo, gb, gl, cl, HG⟩ := Kd.R_form ho (by simp; omega); have hl : (List.replicate ((n : Int)).toNat false).length = n := (by simp); rw [hl] at eo; subst eo; have HO := Aside0.mk ho; have HB := Aside0.mk hb; have GB := Aside0.mk gb; have hx0 := (Kd.R_celln false ho 0 (by omega) (by omega)).1; have hf0 := (Kd.R_celln false ho 0 (by omega) (by omega)).2; simp only [Int.toNat_zero] at hx0 hf0; clear ho hb gb HG hl))
  obtain ⟨B, hB⟩ : ∃ B, B = w1.heap.size := ⟨_, rfl⟩
  rw [← hB]
  have HBX : Aside0 (((w1.setCell ⟨go, 0, none⟩ (.bool true)).alloc (.cells #[.slice (some ⟨go, 0, none⟩) n co] 48)).heap[B]? = some (.cells #[.slice (some ⟨go, 0, none⟩) n co] 48 (0, 0))) := by
    rw [hB]
    have h_ := heap_alloc_new (w1.setCell ⟨go, 0, none⟩ (.bool true)) (.cells #[.slice (some ⟨go, 0, none⟩) n co] 48)
    rw [World.size_setCell] at h_
    exact ⟨h_⟩
  have HO2 : Aside0 (Kd.R Kd.bool 4 ((w1.setCell ⟨go, 0, none⟩ (.bool true)).alloc (.cells #[.slice (some ⟨go, 0, none⟩) n co] 48)) w.heap.size (fun _ => True) (.slice (some ⟨go, 0, none⟩) n co) (impl_payable.cont l0 n 0)) := by
    have h_ := (Kd.R_putg HO.out 0 true).1
    simp only [Int.toNat_natCast, Int.toNat_zero] at h_
    exact ⟨Kd.R_alloc h_ _⟩
  have HB2 : Aside0 (Below w.heap.size w ((w1.setCell ⟨go, 0, none⟩ (.bool true)).alloc (.cells #[.slice (some ⟨go, 0, none⟩) n co] 48))) := ⟨below_alloc (below_set HB.out GB.out) _⟩
  have HGB : Aside0 (w.heap.size ≤ B ∧ B ≠ go) := by rw [hB]; exact ⟨HB.out.size, by omega⟩
  have HBq := Aside0.mk hB
  clear hB HO HB gl hx0 hf0
  go_loopg [6, 14] n (fun gg _ s14 wr => ∃ kk : Nat, kk ≤ n ∧ n - kk ≤ gg ∧ s14 = .int .i64 kk ∧ Aside0 (Kd.R Kd.bool 4 wr w.heap.size (fun _ => True) (.slice (some ⟨go, 0, none⟩) n co) (impl_payable.cont l0 n kk)) ∧ Aside0 (wr.heap[B]? = some (.cells #[.slice (some ⟨go, 0, none⟩) n co] 48 (0, 0))) ∧ Aside0 (Below w.heap.size w wr))
  case atStart => exact ⟨0, Nat.zero_le _, by omega, rfl, HO2, HBX, HB2⟩
  case round =>
    clear HBX HO2 HB2
    obtain ⟨kk, hkk, hg, rfl, HO, HX, HB⟩ := hrel
    have hcB : wr.cell? ⟨B, 0, none⟩ = some (.slice (some ⟨go, 0, none⟩) n co) := blk_cell HX.out 0
    by_cases hlt : kk < n
    · have hltz : (kk : Int) < (n : Int) := by omega
      have hBlt : B < wr.heap.size := blk_lt HX.out
      have hgo : go < wr.heap.size := Kd.R_lt HO.out go rfl
      go_wp2_with fail
      obtain ⟨Wd, hWd⟩ : ∃ W, W = (wr.alloc (.cells #[.int .i64 (kk : Int)] 3)).drew := ⟨_, rfl⟩
      have hcell : ∀ p : Addr, p.block < wr.heap.size → Wd.cell? p = wr.cell? p := fun p hp => by rw [hWd]; exact World.cell?_alloc_lt _ _ _ hp
      have HXd : Aside0 (Wd.heap[B]? = some (.cells #[.slice (some ⟨go, 0, none⟩) n co] 48 (0, 0))) := by
        rw [hWd]; exact ⟨(Below.heap_alloc wr _ B hBlt).trans HX.out⟩
      have HOd : Aside0 (Kd.R Kd.bool 4 Wd w.heap.size (fun _ => True) (.slice (some ⟨go, 0, none⟩) n co) (impl_payable.cont l0 n kk)) := by
        rw [hWd]; exact ⟨Kd.R_drew (Kd.R_alloc HO.out _)⟩
      have HBd : Aside0 (Below w.heap.size w Wd) := by rw [hWd]; exact ⟨below_drew (below_alloc HB.out _)⟩
      have hca : Wd.cell? ⟨wr.heap.size, 0, none⟩ = some (.int .i64 (kk : Int)) := by
        rw [hWd]; exact World.cell?_alloc_new _ _ _ _
      have hcB' : Wd.cell? ⟨B, 0, none⟩ = some (.slice (some ⟨go, 0, none⟩) n co) := blk_cell HXd.out 0
      obtain ⟨hx, hf⟩ := Kd.R_celln false HOd.out (kk : Int) (by omega) hltz
      have hxv : rdOf false (impl_payable.cont l0 n kk) (kk : Int) = decide (kk = 0) := by
        show (impl_payable.cont l0 n kk).getD ((kk : Int)).toNat false = _
        rw [Int.toNat_natCast]; exact impl_payable.cont_at l0 n kk hlt
      rw [hxv, Int.toNat_natCast] at hx
      rw [Int.toNat_natCast] at hf
      have HPut := Aside0.mk (Kd.R_putg HOd.out (kk : Int))
      have HRd := Aside0.mk (Kd.C_below HR0.out HBd.out)
      have HPre : Aside0 (∀ j, j < kk → Wd.cell? ⟨go, j, none⟩ = some (.bool ((impl_payable.row l0 kk).getD j false))) := ⟨fun j hj => by
        have h_ := (Kd.R_celln false HOd.out (j : Int) (by omega) (by omega)).1
        rw [Int.toNat_natCast] at h_
        rw [h_]
        show some (Value.bool ((impl_payable.cont l0 n kk).getD ((j : Int)).toNat false)) = _
        rw [Int.toNat_natCast, impl_payable.cont_lo l0 n kk j hj]⟩
      obtain ⟨Ba, hBa⟩ : ∃ b, b = wr.heap.size := ⟨_, rfl⟩
      rw [← hBa] at hca ⊢
      refine wp_region_still_tail 12 (by kernel_rfl) (by kernel_rfl) ?_
      rw [show ({ wr.alloc (.cells #[.int .i64 (kk : Int)] 3) with drawn := (wr.alloc (.cells #[.int .i64 (kk : Int)] 3)).drawn + 1 } : World) = Wd from hWd.symm]
      have HWd := Aside0.mk hWd
      clear hWd hcell HX HO HB hcB hBlt hgo hBa hxv
      simp only [List.take_succ_cons, List.take_zero, List.drop_succ_cons, List.drop_zero]
      have fin : ∀ bb : Bool, bb = (decide (kk = 0) || l0.any fun v => decide ((kk : Int) ≥ v) && (impl_payable.row l0 kk).getD ((kk : Int) - v).toNat false) →
          Kd.R Kd.bool 4 (Wd.setCell ⟨go, kk, none⟩ (.bool bb)) w.heap.size (fun _ => True) (.slice (some ⟨go, 0, none⟩) n co) (impl_payable.cont l0 n (kk + 1)) := fun bb hbb => by
        have h_ := (HPut.out bb).1
        rw [Int.toNat_natCast] at h_
        rw [← impl_payable.cont_set l0 n kk hlt, ← hbb]
        exact h_
      have HF := Aside0.mk fin
      clear fin HPut
      by_cases hk : kk = 0
      · rw [show decide (kk = 0) = true from decide_eq_true hk] at hx
        have HK := Aside0.mk hk
        clear hk
        repeat still_step
        refine wpStill_nil ?_
        go_wp2
        go_roundg (n - (kk + 1))
        case measure => omega
        case rel =>
          refine ⟨kk + 1, by omega, by omega, by go_num, ⟨HF.out true (by rw [decide_eq_true HK.out]; rfl)⟩, ⟨blk_far HXd.out (by have := HGB.out.2; exact this) _⟩, ⟨below_set HBd.out GB.out⟩⟩
      · rw [show decide (kk = 0) = false from decide_eq_false hk] at hx
        have HK := Aside0.mk hk
        clear hk
        have C := slices_ContainsFunc_int64_int64.calls (fun a b => b = a) (fun _ => rfl) (fun a b c h k => k.trans h) (fun a b h => by rw [h]; exact Below.refl _ _) 71 #[.pointer (some ⟨Ba, 0, none⟩), .pointer (some ⟨B, 0, none⟩)]
          (fun v => decide ((kk : Int) ≥ v) && (impl_payable.row l0 kk).getD ((kk : Int) - v).toNat false) A0 c0 l0 Wd HRd.out (enters_of Try.func71 (by kernel_rfl) rfl)
          (fun W x hx_ hW => by
            rw [hW]
            have hv_ := HV.out x hx_
            exact impl_payable.closure Ba B go n co kk (impl_payable.row l0 kk) x Wd hca hcB' hv_.1 hv_.2 hlt hn1 HPre.out)
        have HF2 : Aside0 (Kd.R Kd.bool 4 (Wd.setCell ⟨go, kk, none⟩ (.bool (l0.any fun v => decide ((kk : Int) ≥ v) && (impl_payable.row l0 kk).getD ((kk : Int) - v).toNat false))) w.heap.size (fun _ => True) (.slice (some ⟨go, 0, none⟩) n co) (impl_payable.cont l0 n (kk + 1))) := ⟨HF.out _ (by rw [decide_eq_false HK.out, Bool.false_or])⟩
        clear HF
        generalize (l0.any fun v => decide ((kk : Int) ≥ v) && (impl_payable.row l0 kk).getD ((kk : Int) - v).toNat false) = bb at C HF2
        repeat still_step
        still_call C
        repeat still_step
        refine wpStill_nil ?_
        go_wp2
        go_roundg (n - (kk + 1))
        case measure => omega
        case rel =>
          refine ⟨kk + 1, by omega, by omega, by go_num, HF2, ⟨blk_far HXd.out (by have := HGB.out.2; exact this) _⟩, ⟨below_set HBd.out GB.out⟩⟩
    · have hltz : ¬ (kk : Int) < (n : Int) := by omega
      obtain rfl : kk = n := by omega
      go_wp2
      go_ret
      refine ⟨_, rfl, ?_, HB.out⟩
      have h_ := HO.out
      unfold impl_payable.cont at h_
      rw [if_neg (by omega), Nat.sub_self, List.replicate_zero, List.append_nil] at h_
      exact h_

end Go.Proofs.Ytaonlhjblocfkaa.P
