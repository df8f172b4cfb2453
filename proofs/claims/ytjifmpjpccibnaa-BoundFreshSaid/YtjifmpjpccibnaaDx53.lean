/- What Go functions of the program compute, each as a Lean function with its contract: written by a program of this session; some by hand. (No condition.) -/
import Derived.Test.YtjifmpjpccibnaaDx0
import Derived.Test.YtjifmpjpccibnaaDx23
import Derived.Test.YtjifmpjpccibnaaDx50
import Derived.Test.YtjifmpjpccibnaaDx51
namespace Go.Proofs.Ytjifmpjpccibnaa.D
open Go.RowKit Go.Proofs.YtjifmpjpccibnaaW.PrintWords Go.Proofs.YtjifmpjpccibnaaW.PrintLast Go.Proofs.YtjifmpjpccibnaaW.PrintMore
attribute [local go_sem] max2_int min2_int max_two min_two max_three min_three max_four min_four   -- for this text's walks alone
set_option linter.unusedVariables false
set_option linter.unusedSimpArgs false

/-! ### slipwaylaw9_BoundFresh: function 5 -/
mutual
def slipwaylaw9_BoundFresh.l0 : Nat → List Int → Int → Int → List (S42) → List (S53) → Int → Int → Option (Bool)
  | 0, _, _, _, _, _, _, _ => none
  | k + 1, x0, x1, x2, x7, x8, x9, x10 => if x10 < x9 then ((slipwayref1_Digits.f k x10).bind fun t226 => (if 1 + t226.size ≤ 9223372036854775807 then (if 0 ≤ x10 then (if x10 < (x0.length : Int) then (if x7.length < 5864062014805 then ((slipwayref1_Digits.f k x10).bind fun t231 => (if 1 + t231.size ≤ 9223372036854775807 then (if ((⟨#[109]⟩ : ByteArray) ++ t231).size + 4 ≤ 9223372036854775807 then ((some (([(⟨((⟨#[109]⟩ : ByteArray) ++ t231) ++ (⟨#[46, 100, 108, 108]⟩ : ByteArray), rd x0 x10⟩ : S53)] : List (S53)) : List (S53))).bind fun y233 => (if y233.length + x8.length < 5864062014805 then (slipwaylaw9_BoundFresh.l0 k x0 x1 x2 (x7 ++ [(⟨(⟨#[77]⟩ : ByteArray) ++ t226, rd x0 x10⟩ : S42)]) (y233 ++ x8) x9 (wrap64 (x10 + 1))) else (none))) else (none)) else (none))) else (none)) else (none)) else (none)) else (none))) else ((bound_Fresh.f k x7 x8).bind fun t239 => (if t239 = true then (slipwaylaw9_BoundFresh.j1 k x1 x2 x7 x8 x9 (x9 == 0)) else (slipwaylaw9_BoundFresh.j1 k x1 x2 x7 x8 x9 true)))
def slipwaylaw9_BoundFresh.j1 : Nat → Int → Int → List (S42) → List (S53) → Int → Bool → Option (Bool)
  | 0, _, _, _, _, _, _ => none
  | k + 1, x1, x2, x7, x8, x9, x52 => if x52 = true then (if x9 = 0 then ((bound_Fresh.f k ([] : List (S42)) ([] : List (S53))).bind fun t240 => (if t240 = true then ((slipwaylaw9_awake.f k).bind fun t241 => (some t241)) else (some false))) else (some false)) else (if x9 = 0 then (none) else ((some (([] : List (S53)) : List (S53))).bind fun y242 => (if y242.length + x8.length < 5864062014805 then ((some (y242 ++ x8 : List (S53))).bind fun y245 => (if 0 ≤ (Int.tmod (Go.bits .and .i64 x1 255) x9) then (if (Int.tmod (Go.bits .and .i64 x1 255) x9) < (y245.length : Int) then ((some (([] : List (S53)) : List (S53))).bind fun y250 => (if (Int.tmod (Go.bits .and .i64 x1 255) x9) ≤ (x8.length : Int) then ((some (x8.take ((Int.tmod (Go.bits .and .i64 x1 255) x9) : Int).toNat : List (S53))).bind fun y253 => (if y250.length + y253.length < 5864062014805 then ((some (y250 ++ y253 : List (S53))).bind fun y257 => (if 0 ≤ (wrap64 ((Int.tmod (Go.bits .and .i64 x1 255) x9) + 1)) then (if (wrap64 ((Int.tmod (Go.bits .and .i64 x1 255) x9) + 1)) ≤ (x8.length : Int) then ((some (x8.drop ((wrap64 ((Int.tmod (Go.bits .and .i64 x1 255) x9) + 1)) : Int).toNat : List (S53))).bind fun y260 => (if y257.length + y260.length < 5864062014805 then ((bound_Fresh.f k x7 (y245.set ((Int.tmod (Go.bits .and .i64 x1 255) x9) : Int).toNat (⟨(rd_T53 y245 (Int.tmod (Go.bits .and .i64 x1 255) x9)).f0, Go.bits .xor .i64 ((rd_T53 y245 (Int.tmod (Go.bits .and .i64 x1 255) x9)).f1) (Go.bits .or .i64 x2 1)⟩ : S53))).bind fun t267 => (if t267 = true then (some false) else ((bound_Fresh.f k x7 (y257 ++ y260)).bind fun t268 => (if t268 = true then (some false) else ((slipwaylaw9_awake.f k).bind fun t269 => (some t269)))))) else (none))) else (none)) else (none))) else (none))) else (none))) else (none)) else (none))) else (none))))
end
def slipwaylaw9_BoundFresh.f (k : Nat) (l0 : List Int) (a1 : Int) (a2 : Int) : Option (Bool) := slipwaylaw9_BoundFresh.l0 k l0 a1 a2 ([] : List (S42)) ([] : List (S53)) (mn (l0.length : Int) 20) 0
theorem slipwaylaw9_BoundFresh.mono_l : ∀ k, (∀ y0 y1 y2 y3 y4 y5 y6, LeO (slipwaylaw9_BoundFresh.l0 k y0 y1 y2 y3 y4 y5 y6) (slipwaylaw9_BoundFresh.l0 (k + 1) y0 y1 y2 y3 y4 y5 y6)) ∧ (∀ y0 y1 y2 y3 y4 y5, LeO (slipwaylaw9_BoundFresh.j1 k y0 y1 y2 y3 y4 y5) (slipwaylaw9_BoundFresh.j1 (k + 1) y0 y1 y2 y3 y4 y5))
  | 0 => ⟨fun _ _ _ _ _ _ _ r h => by simp [slipwaylaw9_BoundFresh.l0] at h, fun _ _ _ _ _ _ r h => by simp [slipwaylaw9_BoundFresh.j1] at h⟩
  | k + 1 => by
    obtain ⟨ih0, ih1⟩ := slipwaylaw9_BoundFresh.mono_l k
    refine ⟨?_, ?_⟩
    · intro y0 y1 y2 y3 y4 y5 y6
      unfold slipwaylaw9_BoundFresh.l0
      repeat' first
      | (with_reducible exact ih0 _ _ _ _ _ _ _)
      | (with_reducible exact ih1 _ _ _ _ _ _)
      | (with_reducible exact bound_Fresh.mono _ _ _)
      | (with_reducible exact slipwaylaw9_awake.mono _)
      | (with_reducible exact slipwayref1_Digits.mono _ _)
      | (with_reducible exact LeO.refl _)
      | (with_reducible exact LeO.none _)
      | (with_reducible refine LeO.ite ?_ ?_)
      | (with_reducible refine LeO.bind ?_ (fun _ => ?_))
      | exact ih0 _ _ _ _ _ _ _
      | exact ih1 _ _ _ _ _ _
      | exact bound_Fresh.mono _ _ _
      | exact slipwaylaw9_awake.mono _
      | exact slipwayref1_Digits.mono _ _
      | exact LeO.none _
      | refine LeO.ite ?_ ?_
      | refine LeO.bind ?_ (fun _ => ?_)
    · intro y0 y1 y2 y3 y4 y5
      unfold slipwaylaw9_BoundFresh.j1
      repeat' first
      | (with_reducible exact ih0 _ _ _ _ _ _ _)
      | (with_reducible exact ih1 _ _ _ _ _ _)
      | (with_reducible exact bound_Fresh.mono _ _ _)
      | (with_reducible exact slipwaylaw9_awake.mono _)
      | (with_reducible exact slipwayref1_Digits.mono _ _)
      | (with_reducible exact LeO.refl _)
      | (with_reducible exact LeO.none _)
      | (with_reducible refine LeO.ite ?_ ?_)
      | (with_reducible refine LeO.bind ?_ (fun _ => ?_))
      | exact ih0 _ _ _ _ _ _ _
      | exact ih1 _ _ _ _ _ _
      | exact bound_Fresh.mono _ _ _
      | exact slipwaylaw9_awake.mono _
      | exact slipwayref1_Digits.mono _ _
      | exact LeO.none _
      | refine LeO.ite ?_ ?_
      | refine LeO.bind ?_ (fun _ => ?_)
theorem slipwaylaw9_BoundFresh.mono : ∀ a0 a1 a2 k, LeO (slipwaylaw9_BoundFresh.f k a0 a1 a2) (slipwaylaw9_BoundFresh.f (k + 1) a0 a1 a2) := by
  intro a0 a1 a2 k
  obtain ⟨ih0, ih1⟩ := slipwaylaw9_BoundFresh.mono_l k
  unfold slipwaylaw9_BoundFresh.f
  repeat' first
      | (with_reducible exact ih0 _ _ _ _ _ _ _)
      | (with_reducible exact ih1 _ _ _ _ _ _)
      | (with_reducible exact bound_Fresh.mono _ _ _)
      | (with_reducible exact slipwaylaw9_awake.mono _)
      | (with_reducible exact slipwayref1_Digits.mono _ _)
      | (with_reducible exact LeO.refl _)
      | (with_reducible exact LeO.none _)
      | (with_reducible refine LeO.ite ?_ ?_)
      | (with_reducible refine LeO.bind ?_ (fun _ => ?_))
      | exact ih0 _ _ _ _ _ _ _
      | exact ih1 _ _ _ _ _ _
      | exact bound_Fresh.mono _ _ _
      | exact slipwaylaw9_awake.mono _
      | exact slipwayref1_Digits.mono _ _
      | exact LeO.none _
      | refine LeO.ite ?_ ?_
      | refine LeO.bind ?_ (fun _ => ?_)
def slipwaylaw9_BoundFresh.T7 : Bool × List (List Nat × List Nat) := (true, [([], []), ([], []), ([1], [1]), ([2], [2]), ([], []), ([], []), ([4, 5], [4, 5]), ([6], [6]), ([3, 7], [3, 7]), ([8], [8]), ([0, 9, 2], [0, 9]), ([10, 10, 0, 1, 2, 3, 4, 5, 6, 7, 8, 9, 10], [0, 10])])
def slipwaylaw9_BoundFresh.B7 : List Nat := [0, 0, 2, 6, 0, 0, 48, 112, 254, 510, 1023, 2047]
theorem slipwaylaw9_BoundFresh.tab7 : rtab .any (opsOf Try.f5 7) = slipwaylaw9_BoundFresh.T7 := by kernel_rfl
theorem slipwaylaw9_BoundFresh.bits7 : waitsOk slipwaylaw9_BoundFresh.T7.2 slipwaylaw9_BoundFresh.B7 = true := by kernel_rfl
def slipwaylaw9_BoundFresh.T8 : Bool × List (List Nat × List Nat) := (true, [([], []), ([0], [0]), ([1], [1]), ([2], [2]), ([], []), ([], []), ([4, 5], [4, 5]), ([6], [6]), ([3, 7], [3, 7]), ([8], [8]), ([], []), ([9, 10, 1], [9, 10]), ([11, 11, 0, 1, 2, 3, 4, 5, 6, 7, 8, 9, 10, 11], [10, 11])])
def slipwaylaw9_BoundFresh.B8 : List Nat := [0, 1, 3, 7, 0, 0, 48, 112, 255, 511, 0, 2047, 4095]
theorem slipwaylaw9_BoundFresh.tab8 : rtab .any (opsOf Try.f5 8) = slipwaylaw9_BoundFresh.T8 := by kernel_rfl
theorem slipwaylaw9_BoundFresh.bits8 : waitsOk slipwaylaw9_BoundFresh.T8.2 slipwaylaw9_BoundFresh.B8 = true := by kernel_rfl
def slipwaylaw9_BoundFresh.T14 : Bool × List (List Nat × List Nat) := (true, [([], []), ([], []), ([], []), ([1, 2], [1, 2]), ([0, 3], [0, 3]), ([], []), ([], []), ([6], [6]), ([5, 7], [5, 7]), ([4, 8, 4], [4, 8]), ([9, 9, 0, 1, 2, 3, 4, 5, 6, 7, 8, 9], [9])])
def slipwaylaw9_BoundFresh.B14 : List Nat := [0, 0, 0, 6, 15, 0, 0, 64, 224, 511, 1023]
theorem slipwaylaw9_BoundFresh.tab14 : rtab .any (opsOf Try.f5 14) = slipwaylaw9_BoundFresh.T14 := by kernel_rfl
theorem slipwaylaw9_BoundFresh.bits14 : waitsOk slipwaylaw9_BoundFresh.T14.2 slipwaylaw9_BoundFresh.B14 = true := by kernel_rfl
set_option maxHeartbeats 8000000 in
set_option maxRecDepth 100000 in
theorem slipwaylaw9_BoundFresh.calls (k : Nat) (A0 : Option Addr) (c0 : Nat) (l0 : List Int) (a1 : Int) (a2 : Int) (r : Bool) (w : World) (hr0 : Kd.C (Kd.int .i64) w A0 l0.length l0) (hc0 : l0.length ≤ c0) (h : slipwaylaw9_BoundFresh.f k l0 a1 a2 = some r) :
    Calls Try.prog 5 #[.slice A0 l0.length c0, .int .i64 a1, .int .i64 a2] w fun e w' => e = .returned (.bool r) ∧ Below w.heap.size w w' := by
  have hu42 := Try.underlying42
  have hu53 := Try.underlying53
  have HR0 := Aside0.mk hr0
  have HC0 := Aside0.mk hc0
  clear hr0 hc0
  have HB := Aside0.mk (Below.refl w.heap.size w)
  have H : (slipwaylaw9_BoundFresh.l0 k l0 a1 a2 ([] : List (S42)) ([] : List (S53)) (mn (l0.length : Int) 20) 0) = some r := h
  clear h
  obtain ⟨ji4, hji4⟩ : ∃ j_ : Int, (mn (l0.length : Int) 20) = j_ := ⟨_, rfl⟩
  replace H : (slipwaylaw9_BoundFresh.l0 k l0 a1 a2 ([] : List (S42)) ([] : List (S53)) ji4 0) = some r := by first | (rw [hji4] at H; exact H) | (simp only [hji4] at H ⊢; exact H)
  (try (have hji4h : ji4 ≤ 20 := by (rw [← hji4]; unfold mn; (repeat' split) <;> omega)))
  (try (have hji4g : ji4 ≤ 64 := by omega))
  (try (have hji4l : 0 ≤ ji4 := by (rw [← hji4]; unfold mn; (repeat' split) <;> omega)))
  (try (have hji4m : 0 ≤ ji4 := by omega))
  have hji4_ : (if 20 < (l0.length : Int) then 20 else (l0.length : Int)) = ji4 := hji4
  have H' := Aside0.mk H
  clear H
  go_enter Try.func5, Try.ntmps5
  go_wp2
  go_loopg [7, 8, 10] k (fun kq v7 v8 v10 w' => ∃ (x7_1 : List (S42)) (x8_1 : List (S53)) (x10_1 : Int), v10 = .int .i64 x10_1 ∧ Aside0 (slipwaylaw9_BoundFresh.l0 kq l0 a1 a2 x7_1 x8_1 ji4 x10_1 = some r) ∧ Aside0 (kq ≤ k) ∧ Aside0 (Kd.R k42 42 w' w.heap.size (fun _ => True) v7 x7_1) ∧ Aside0 (Kd.R k53 53 w' w.heap.size (fun _ => True) v8 x8_1) ∧ Aside0 (Below w.heap.size w w'))
  case atStart => exact ⟨(([] : List (S42))), (([] : List (S53))), (0), (by first | rfl | (simp; done) | (simp [*]; done)), H', ⟨Nat.le_refl _⟩, ⟨by first | exact Kd.R_nil _ _ _ _ _ | exact Kd.N_nil _ _ _ _ _ | exact Kd.V_nil _ _ _ _ _ | exact Kd.Q_nil _ _ _ _ _ | exact Kd.S_nil _ _ _ _ _⟩, ⟨by first | exact Kd.R_nil _ _ _ _ _ | exact Kd.N_nil _ _ _ _ _ | exact Kd.V_nil _ _ _ _ _ | exact Kd.Q_nil _ _ _ _ _ | exact Kd.S_nil _ _ _ _ _⟩, ⟨by repeat (first | (with_reducible first | exact HB.out | apply below_alloc | apply pw_below_drewN | apply below_drew1) | exact HB.out)⟩⟩
  case round =>
    clear H'
    try clear p2
    obtain ⟨x7_1, x8_1, x10_1, rfl, HA, HK1, HO_7, HO_8, HB⟩ := hrel
    cases gk with
    | zero => exact absurd HA.out (by simp [slipwaylaw9_BoundFresh.l0])
    | succ k1 =>
      have H := HA.out
      clear HA
      simp only [slipwaylaw9_BoundFresh.l0] at H
      by_cases c5 : x10_1 < ji4
      · rw [if_pos c5] at H
        have c5b0 : decide (x10_1 < ji4) = true := decide_eq_true c5
        clear c5
        replace H := Option.bind_eq_some_iff.mp H
        obtain ⟨t226, A60, H⟩ := H
        replace H : (if 1 + t226.size ≤ 9223372036854775807 then (if 0 ≤ x10_1 then (if x10_1 < (l0.length : Int) then (if x7_1.length < 5864062014805 then ((slipwayref1_Digits.f k1 x10_1).bind fun t231 => (if 1 + t231.size ≤ 9223372036854775807 then (if ((⟨#[109]⟩ : ByteArray) ++ t231).size + 4 ≤ 9223372036854775807 then ((some (([(⟨((⟨#[109]⟩ : ByteArray) ++ t231) ++ (⟨#[46, 100, 108, 108]⟩ : ByteArray), rd l0 x10_1⟩ : S53)] : List (S53)) : List (S53))).bind fun y233 => (if y233.length + x8_1.length < 5864062014805 then (slipwaylaw9_BoundFresh.l0 k1 l0 a1 a2 (x7_1 ++ [(⟨(⟨#[77]⟩ : ByteArray) ++ t226, rd l0 x10_1⟩ : S42)]) (y233 ++ x8_1) ji4 (wrap64 (x10_1 + 1))) else (none))) else (none)) else (none))) else (none)) else (none)) else (none)) else (none)) = some r := H
        have A6 := Aside0.mk A60
        clear A60
        by_cases c7 : 1 + t226.size ≤ 9223372036854775807
        · rw [if_pos c7] at H
          have c7b0 := eq_true c7
          have c7b1 : decide (1 + t226.size ≤ 9223372036854775807) = true := decide_eq_true c7
          try have c7b2 : (9223372036854775807 < 1 + t226.size) = False := eq_false (Nat.not_lt.2 c7)
          by_cases c8 : 0 ≤ x10_1
          · rw [if_pos c8] at H
            have c8b0 : decide (0 ≤ x10_1) = true := decide_eq_true c8
            clear c8
            by_cases c9 : x10_1 < (l0.length : Int)
            · rw [if_pos c9] at H
              have c9b0 : decide (x10_1 < (l0.length : Int)) = true := decide_eq_true c9
              clear c9
              by_cases c10 : x7_1.length < 5864062014805
              · rw [if_pos c10] at H
                have LMc10 := Aside0.mk c10
                clear c10
                obtain ⟨y228, hy228⟩ : ∃ y_ : List (S42), y_ = (x7_1 ++ [(⟨(⟨#[77]⟩ : ByteArray) ++ t226, rd l0 x10_1⟩ : S42)]) := ⟨_, rfl⟩
                replace H : ((slipwayref1_Digits.f k1 x10_1).bind fun t231 => (if 1 + t231.size ≤ 9223372036854775807 then (if ((⟨#[109]⟩ : ByteArray) ++ t231).size + 4 ≤ 9223372036854775807 then ((some (([(⟨((⟨#[109]⟩ : ByteArray) ++ t231) ++ (⟨#[46, 100, 108, 108]⟩ : ByteArray), rd l0 x10_1⟩ : S53)] : List (S53)) : List (S53))).bind fun y233 => (if y233.length + x8_1.length < 5864062014805 then (slipwaylaw9_BoundFresh.l0 k1 l0 a1 a2 y228 (y233 ++ x8_1) ji4 (wrap64 (x10_1 + 1))) else (none))) else (none)) else (none))) = some r := by first | (rw [hy228]; with_reducible exact H) | (have H2_ := (Option.bind_some _ _).symm.trans H; rw [hy228]; with_reducible exact H2_) | (have H2_ := (Option.bind_some _ _).symm.trans H; with_reducible exact H2_) | with_reducible exact H | (rw [hy228]; exact H) | exact H
                have Ny228 := Aside0.mk hy228
                clear hy228
                replace H := Option.bind_eq_some_iff.mp H
                obtain ⟨t231, A110, H⟩ := H
                replace H : (if 1 + t231.size ≤ 9223372036854775807 then (if ((⟨#[109]⟩ : ByteArray) ++ t231).size + 4 ≤ 9223372036854775807 then ((some (([(⟨((⟨#[109]⟩ : ByteArray) ++ t231) ++ (⟨#[46, 100, 108, 108]⟩ : ByteArray), rd l0 x10_1⟩ : S53)] : List (S53)) : List (S53))).bind fun y233 => (if y233.length + x8_1.length < 5864062014805 then (slipwaylaw9_BoundFresh.l0 k1 l0 a1 a2 y228 (y233 ++ x8_1) ji4 (wrap64 (x10_1 + 1))) else (none))) else (none)) else (none)) = some r := H
                have A11 := Aside0.mk A110
                clear A110
                by_cases c12 : 1 + t231.size ≤ 9223372036854775807
                · rw [if_pos c12] at H
                  have c12b0 := eq_true c12
                  have c12b1 : decide (1 + t231.size ≤ 9223372036854775807) = true := decide_eq_true c12
                  try have c12b2 : (9223372036854775807 < 1 + t231.size) = False := eq_false (Nat.not_lt.2 c12)
                  by_cases c13 : ((⟨#[109]⟩ : ByteArray) ++ t231).size + 4 ≤ 9223372036854775807
                  · rw [if_pos c13] at H
                    have c13b0 := eq_true c13
                    have c13b1 : decide (((⟨#[109]⟩ : ByteArray) ++ t231).size + 4 ≤ 9223372036854775807) = true := decide_eq_true c13
                    try have c13b2 : (9223372036854775807 < ((⟨#[109]⟩ : ByteArray) ++ t231).size + 4) = False := eq_false (Nat.not_lt.2 c13)
                    try have c13b5 : (9223372036854775807 < 1 + t231.size + 4) = False := eq_false (Nat.not_lt.2 (by have h_ := c13; simp only [ByteArray.size_append] at h_; exact h_))
                    obtain ⟨y233, hy233⟩ : ∃ y_ : List (S53), y_ = (([(⟨((⟨#[109]⟩ : ByteArray) ++ t231) ++ (⟨#[46, 100, 108, 108]⟩ : ByteArray), rd l0 x10_1⟩ : S53)] : List (S53))) := ⟨_, rfl⟩
                    replace H : (if y233.length + x8_1.length < 5864062014805 then (slipwaylaw9_BoundFresh.l0 k1 l0 a1 a2 y228 (y233 ++ x8_1) ji4 (wrap64 (x10_1 + 1))) else (none)) = some r := by first | (rw [hy233]; with_reducible exact H) | (have H2_ := (Option.bind_some _ _).symm.trans H; rw [hy233]; with_reducible exact H2_) | (have H2_ := (Option.bind_some _ _).symm.trans H; with_reducible exact H2_) | with_reducible exact H | (rw [hy233]; exact H) | exact H
                    have Ny233 := Aside0.mk hy233
                    clear hy233
                    by_cases c14 : y233.length + x8_1.length < 5864062014805
                    · rw [if_pos c14] at H
                      have LMc14 := Aside0.mk c14
                      clear c14
                      obtain ⟨y236, hy236⟩ : ∃ y_ : List (S53), y_ = (y233 ++ x8_1) := ⟨_, rfl⟩
                      replace H : (slipwaylaw9_BoundFresh.l0 k1 l0 a1 a2 y228 y236 ji4 (wrap64 (x10_1 + 1))) = some r := by first | (rw [hy236]; with_reducible exact H) | (have H2_ := (Option.bind_some _ _).symm.trans H; rw [hy236]; with_reducible exact H2_) | (have H2_ := (Option.bind_some _ _).symm.trans H; with_reducible exact H2_) | with_reducible exact H | (rw [hy236]; exact H) | exact H
                      have Ny236 := Aside0.mk hy236
                      clear hy236
                      have H' := Aside0.mk H
                      clear H
                      try go_wp2
                      have n0_ := Aside0.mk (Kd.R_drew HO_7.out)
                      have n1_ := Aside0.mk (Kd.R_drew HO_8.out)
                      have n2_ := Aside0.mk (below_drew1 HB.out)
                      clear HO_7
                      clear HO_8
                      clear HB
                      have HO_7 := n0_
                      have HO_8 := n1_
                      have HB := n2_
                      clear n0_ n1_ n2_
                      have p227 : 0 ≤ (x10_1 : Int) := of_decide_eq_true (by first | (with_reducible assumption) | assumption)
                      have q227 : x10_1 < (l0.length : Int) := of_decide_eq_true (by first | (with_reducible assumption) | assumption)
                      obtain ⟨ad227, e227, hx227_0⟩ := Kd.at_int HR0.out x10_1 p227 q227
                      have hw227_0 := hx227_0
                      cases e227
                      replace hx227_0 := (HB.out.cell (World.block_lt_of_cell? w _ hx227_0)).trans hx227_0
                      replace p227 := eq_true p227
                      replace q227 := eq_true q227
                      refine start_ (n := 12) (S := fun w' => w'.cell? (ad227.add (x10_1).toNat) = some (.int .i64 (rd l0 x10_1))) (ds := []) #[false, false, false, false, false, false, false, false, false, false, false, false] (by kernel_rfl) rfl rfl (((HB.out.cell (World.block_lt_of_cell? w _ hw227_0)).trans hw227_0)) (fun hHeld => ?_); refine with_tabW slipwaylaw9_BoundFresh.tab7 slipwaylaw9_BoundFresh.bits7 (fun HT_ HW_ => ?_)
                      generalize wr.drew = w15 at HO_7 HO_8 HB hx227_0 hHeld ⊢
                      refine pure_ (i := 0) (N := some 22) (v := ?_) (a' := ?_) #[true, false, false, false, false, false, false, false, false, false, false, false] rfl rfl (any_of HT_.out (by kernel_rfl)) (fun _ _ _ h => h) (Or.inl ⟨by rfl, ?_⟩) ?_ ?_
                      rotate_left
                      · intro w'
                        go_simp
                        with_reducible rfl
                      rotate_left
                      · simp only [Act.put, List.setIfInBounds_toArray, List.set_cons_zero, List.set_cons_succ, i64_w, i32_w]
                        rfl
                      refine pure_ (i := 1) (N := some 23) (v := ?_) (a' := ?_) #[true, true, false, false, false, false, false, false, false, false, false, false] rfl rfl (any_of HT_.out (by kernel_rfl)) (fun _ _ _ h => h) (Or.inl ⟨by rfl, ?_⟩) ?_ ?_
                      rotate_left
                      · intro w'
                        go_simp
                        with_reducible rfl
                      rotate_left
                      · simp only [Act.put, List.setIfInBounds_toArray, List.set_cons_zero, List.set_cons_succ, i64_w, i32_w]
                        rfl
                      refine pure_ (i := 4) (N := some 26) (v := ?_) (a' := ?_) #[true, true, false, false, true, false, false, false, false, false, false, false] rfl rfl (any_of HT_.out (by kernel_rfl)) (fun _ _ _ h => h) (Or.inl ⟨by rfl, ?_⟩) ?_ ?_
                      rotate_left
                      · intro w'
                        go_simp
                        with_reducible rfl
                      rotate_left
                      · simp only [Act.put, List.setIfInBounds_toArray, List.set_cons_zero, List.set_cons_succ, i64_w, i32_w]
                        rfl
                      refine pure_ (i := 5) (N := some 27) (v := ?_) (a' := ?_) #[true, true, false, false, true, true, false, false, false, false, false, false] rfl rfl (any_of HT_.out (by kernel_rfl)) (fun _ _ _ h => h) (Or.inl ⟨by rfl, ?_⟩) ?_ ?_
                      rotate_left
                      · intro w'
                        go_simp
                        with_reducible rfl
                      rotate_left
                      · simp only [Act.put, List.setIfInBounds_toArray, List.set_cons_zero, List.set_cons_succ, i64_w, i32_w]
                        rfl
                      refine pure_ (i := 6) (N := some 28) (v := ?_) (a' := ?_) #[true, true, false, false, true, true, true, false, false, false, false, false] rfl rfl (any_of HT_.out (by kernel_rfl)) (fun _ _ _ h => h) (Or.inl ⟨by rfl, ?_⟩) ?_ ?_
                      rotate_left
                      · intro w'
                        go_simp
                        with_reducible rfl
                      rotate_left
                      · simp only [Act.put, List.setIfInBounds_toArray, List.set_cons_zero, List.set_cons_succ, i64_w, i32_w]
                        rfl
                      refine take_ (i := 7) (N := some 29) (v := ?_) (a' := ?_) #[true, true, false, false, true, true, true, true, false, false, false, false] rfl rfl (take_ofW HT_.out HW_.out (by kernel_rfl)) (fun _ _ _ h => h) (Or.inl ⟨by rfl, ?_⟩) hHeld ?_ ?_
                      rotate_left
                      · intro w' s0
                        go_simp
                        with_reducible rfl
                      rotate_left
                      · simp only [Act.put, List.setIfInBounds_toArray, List.set_cons_zero, List.set_cons_succ, i64_w, i32_w]
                        rfl
                      refine one_ (i := 2) (N := some 24) #[true, true, true, false, true, true, true, true, false, false, false, false] rfl rfl (one_of HT_.out (by kernel_rfl)) (by decide) (fun K hK => ?_)
                      refine goes_ Try.func22 (by kernel_rfl) rfl #[.int .i64 x10_1] (by rfl) rfl rfl (by (try simp only [List.map_toArray, List.map_cons, List.map_nil]); first | done | rfl | (simp only [List.length_drop, List.length_take]; rfl)) ?_
                      with_reducible refine (slipwayref1_Digits.calls k1 x10_1 t226 _ A6.out).mono ?_
                      rintro e w' ⟨rfl, ⟨nd, rfl⟩⟩
                      refine ⟨_, rfl, ?_⟩
                      refine hK.out _ _ (((HB.out.cell (World.block_lt_of_cell? w _ hw227_0)).trans hw227_0)) (fun hHeld => ?_)
                      clear hK K
                      refine norm_ (a' := ?_) ?_ ?_
                      rotate_left
                      · show Act.put _ (some 24) _ = _
                        simp only [Act.put, List.setIfInBounds_toArray, List.set_cons_zero, List.set_cons_succ, i64_w, i32_w]
                        rfl
                      refine pure_ (i := 3) (N := some 25) (v := ?_) (a' := ?_) #[true, true, true, true, true, true, true, true, false, false, false, false] rfl rfl (any_of HT_.out (by kernel_rfl)) (fun _ _ _ h => h) (Or.inl ⟨by rfl, ?_⟩) ?_ ?_
                      rotate_left
                      · intro w'
                        go_simp
                        with_reducible rfl
                      rotate_left
                      · simp only [Act.put, List.setIfInBounds_toArray, List.set_cons_zero, List.set_cons_succ, i64_w, i32_w]
                        rfl
                      refine pure_ (i := 8) (N := some 30) (v := ?_) (a' := ?_) #[true, true, true, true, true, true, true, true, true, false, false, false] rfl rfl (any_of HT_.out (by kernel_rfl)) (fun _ _ _ h => h) (Or.inl ⟨by rfl, ?_⟩) ?_ ?_
                      rotate_left
                      · intro w'
                        go_simp
                        with_reducible rfl
                      rotate_left
                      · simp only [Act.put, List.setIfInBounds_toArray, List.set_cons_zero, List.set_cons_succ, i64_w, i32_w]
                        rfl
                      refine one_ (i := 9) (N := some 31) #[true, true, true, true, true, true, true, true, true, true, false, false] rfl rfl (one_of HT_.out (by kernel_rfl)) (by decide) (fun K hK => ?_)
                      refine value_ (w1 := ?_) (v := ?_) (by rfl) rfl ?_ ?_
                      rotate_left 2
                      · go_simp
                        constructor
                        · rfl
                        · rfl
                      refine hK.out _ _ ((World.cell?_alloc_lt _ _ _ (World.block_lt_of_cell? _ _ (((HB.out.cell (World.block_lt_of_cell? w _ hw227_0)).trans hw227_0)))).trans (((HB.out.cell (World.block_lt_of_cell? w _ hw227_0)).trans hw227_0))) (fun hHeld => ?_)
                      clear hK K
                      refine norm_ (a' := ?_) ?_ ?_
                      rotate_left
                      · show Act.put _ (some 31) _ = _
                        simp only [Act.put, List.setIfInBounds_toArray, List.set_cons_zero, List.set_cons_succ, i64_w, i32_w]
                        rfl
                      refine one_ (i := 10) (N := some 32) #[true, true, true, true, true, true, true, true, true, true, true, false] rfl rfl (one_of HT_.out (by kernel_rfl)) (by decide) (fun K hK => ?_)
                      refine Kd.R_append_step k42 (w0 := w) w.heap.size (by rfl) (.tmp 22) (.tmp 31) 39 42 (.agg #[(.string ⟨#[]⟩), (.int .i64 0)]) 24 rfl Try.underlying39 info42 rfl (by decide) (by omega) u7 x7_1 (⟨(⟨#[77]⟩ : ByteArray) ++ t226, rd l0 x10_1⟩ : S42) [.string ((⟨#[77]⟩ : ByteArray) ++ t226), .int .i64 (rd l0 x10_1)] (fun _ => True) (fun _ => False) rfl rfl ?aP (fun _ hk => hk.elim) ?aF ?aO ?aB ?aS ?aL ?_
                      (case aP => exact k42_mkM _ _ _ (⟨(⟨#[77]⟩ : ByteArray) ++ t226, rd l0 x10_1⟩ : S42))
                      (case aB => exact (by repeat (first | (with_reducible first | exact HB.out | apply below_alloc | apply pw_below_drewN | apply below_drew1) | exact HB.out)))
                      (case aF => exact (fun _ _ => trivial))
                      (case aO => exact (by (with_reducible repeat (first | apply Kd.R_alloc | apply Kd.R_drewN | apply Kd.R_drew)); exact HO_7.out))
                      (case aS => exact (below_size (by repeat (first | (with_reducible first | exact HB.out | apply below_alloc | apply pw_below_drewN | apply below_drew1) | exact HB.out))))
                      (case aL => have := LMc10.out; omega)
                      intro v229 w16 ho hb hg hat
                      rw [← Ny228.out] at ho
                      have n0_ := Aside0.mk (Kd.R_over' (by (with_reducible repeat (first | apply Kd.R_alloc | apply Kd.R_drewN | apply Kd.R_drew)); exact HO_8.out) (Kd.R_typed (by (with_reducible repeat (first | apply Kd.R_alloc | apply Kd.R_drewN | apply Kd.R_drew)); exact HO_7.out)) (by decide) hg)
                      have n1_ := Aside0.mk (hb)
                      have n2_ := Aside0.mk (ho)
                      clear HO_8
                      clear HB
                      clear HO_7
                      have HO_8 := n0_
                      have HB := n1_
                      have HO230 := n2_
                      clear n0_ n1_ n2_
                      clear ho hb hg hat
                      refine hK.out _ _ (((HB.out.cell (World.block_lt_of_cell? w _ hw227_0)).trans hw227_0)) (fun hHeld => ?_)
                      clear hK K
                      refine norm_ (a' := ?_) ?_ ?_
                      rotate_left
                      · show Act.put _ (some 32) _ = _
                        simp only [Act.put, List.setIfInBounds_toArray, List.set_cons_zero, List.set_cons_succ, i64_w, i32_w]
                        rfl
                      refine pure_ (i := 11) (N := some 7) (v := ?_) (a' := ?_) #[true, true, true, true, true, true, true, true, true, true, true, true] rfl rfl (any_of HT_.out (by kernel_rfl)) (fun _ _ _ h => h) (Or.inl ⟨by rfl, ?_⟩) ?_ ?_
                      rotate_left
                      · intro w'
                        go_simp
                        with_reducible rfl
                      rotate_left
                      · simp only [Act.put, List.setIfInBounds_toArray, List.set_cons_zero, List.set_cons_succ, i64_w, i32_w]
                        rfl
                      refine done_ (done_of HT_.out (by kernel_rfl)) ?_
                      try go_wp2
                      have n0_ := Aside0.mk (Kd.R_drew HO_8.out)
                      have n1_ := Aside0.mk (Kd.R_drew HO230.out)
                      have n2_ := Aside0.mk (below_drew1 HB.out)
                      clear HO_8
                      clear HO230
                      clear HB
                      have HO_8 := n0_
                      have HO230 := n1_
                      have HB := n2_
                      clear n0_ n1_ n2_
                      have p232 : 0 ≤ (x10_1 : Int) := of_decide_eq_true (by first | (with_reducible assumption) | assumption)
                      have q232 : x10_1 < (l0.length : Int) := of_decide_eq_true (by first | (with_reducible assumption) | assumption)
                      obtain ⟨ad232, e232, hx232_0⟩ := Kd.at_int HR0.out x10_1 p232 q232
                      have hw232_0 := hx232_0
                      obtain rfl : ad227 = ad232 := (by injection e232)
                      replace hx232_0 := (HB.out.cell (World.block_lt_of_cell? w _ hx232_0)).trans hx232_0
                      replace p232 := eq_true p232
                      replace q232 := eq_true q232
                      refine start_ (n := 13) (S := fun w' => w'.cell? (ad227.add (x10_1).toNat) = some (.int .i64 (rd l0 x10_1))) (ds := []) #[false, false, false, false, false, false, false, false, false, false, false, false, false] (by kernel_rfl) rfl rfl (((HB.out.cell (World.block_lt_of_cell? w _ hw232_0)).trans hw232_0)) (fun hHeld => ?_); refine with_tabW slipwaylaw9_BoundFresh.tab8 slipwaylaw9_BoundFresh.bits8 (fun HT_ HW_ => ?_)
                      generalize w16.drew = w17 at HO_8 HO230 HB hx232_0 hHeld ⊢
                      refine pure_ (i := 0) (N := some 33) (v := ?_) (a' := ?_) #[true, false, false, false, false, false, false, false, false, false, false, false, false] rfl rfl (any_of HT_.out (by kernel_rfl)) (fun _ _ _ h => h) (Or.inl ⟨by rfl, ?_⟩) ?_ ?_
                      rotate_left
                      · intro w'
                        go_simp
                        with_reducible rfl
                      rotate_left
                      · simp only [Act.put, List.setIfInBounds_toArray, List.set_cons_zero, List.set_cons_succ, i64_w, i32_w]
                        rfl
                      refine pure_ (i := 4) (N := some 37) (v := ?_) (a' := ?_) #[true, false, false, false, true, false, false, false, false, false, false, false, false] rfl rfl (any_of HT_.out (by kernel_rfl)) (fun _ _ _ h => h) (Or.inl ⟨by rfl, ?_⟩) ?_ ?_
                      rotate_left
                      · intro w'
                        go_simp
                        with_reducible rfl
                      rotate_left
                      · simp only [Act.put, List.setIfInBounds_toArray, List.set_cons_zero, List.set_cons_succ, i64_w, i32_w]
                        rfl
                      refine pure_ (i := 5) (N := some 38) (v := ?_) (a' := ?_) #[true, false, false, false, true, true, false, false, false, false, false, false, false] rfl rfl (any_of HT_.out (by kernel_rfl)) (fun _ _ _ h => h) (Or.inl ⟨by rfl, ?_⟩) ?_ ?_
                      rotate_left
                      · intro w'
                        go_simp
                        with_reducible rfl
                      rotate_left
                      · simp only [Act.put, List.setIfInBounds_toArray, List.set_cons_zero, List.set_cons_succ, i64_w, i32_w]
                        rfl
                      refine pure_ (i := 6) (N := some 39) (v := ?_) (a' := ?_) #[true, false, false, false, true, true, true, false, false, false, false, false, false] rfl rfl (any_of HT_.out (by kernel_rfl)) (fun _ _ _ h => h) (Or.inl ⟨by rfl, ?_⟩) ?_ ?_
                      rotate_left
                      · intro w'
                        go_simp
                        with_reducible rfl
                      rotate_left
                      · simp only [Act.put, List.setIfInBounds_toArray, List.set_cons_zero, List.set_cons_succ, i64_w, i32_w]
                        rfl
                      refine pure_ (i := 10) (N := some 43) (v := ?_) (a' := ?_) #[true, false, false, false, true, true, true, false, false, false, true, false, false] rfl rfl (any_of HT_.out (by kernel_rfl)) (fun _ _ _ h => h) (Or.inl ⟨by rfl, ?_⟩) ?_ ?_
                      rotate_left
                      · intro w'
                        go_simp
                        with_reducible rfl
                      rotate_left
                      · simp only [Act.put, List.setIfInBounds_toArray, List.set_cons_zero, List.set_cons_succ, i64_w, i32_w]
                        rfl
                      refine take_ (i := 7) (N := some 40) (v := ?_) (a' := ?_) #[true, false, false, false, true, true, true, true, false, false, true, false, false] rfl rfl (take_ofW HT_.out HW_.out (by kernel_rfl)) (fun _ _ _ h => h) (Or.inl ⟨by rfl, ?_⟩) hHeld ?_ ?_
                      rotate_left
                      · intro w' s0
                        go_simp
                        with_reducible rfl
                      rotate_left
                      · simp only [Act.put, List.setIfInBounds_toArray, List.set_cons_zero, List.set_cons_succ, i64_w, i32_w]
                        rfl
                      refine one_ (i := 1) (N := some 34) #[true, true, false, false, true, true, true, true, false, false, true, false, false] rfl rfl (one_of HT_.out (by kernel_rfl)) (by decide) (fun K hK => ?_)
                      refine goes_ Try.func22 (by kernel_rfl) rfl #[.int .i64 x10_1] (by rfl) rfl rfl (by (try simp only [List.map_toArray, List.map_cons, List.map_nil]); first | done | rfl | (simp only [List.length_drop, List.length_take]; rfl)) ?_
                      with_reducible refine (slipwayref1_Digits.calls k1 x10_1 t231 _ A11.out).mono ?_
                      rintro e w' ⟨rfl, ⟨nd, rfl⟩⟩
                      refine ⟨_, rfl, ?_⟩
                      refine hK.out _ _ (((HB.out.cell (World.block_lt_of_cell? w _ hw232_0)).trans hw232_0)) (fun hHeld => ?_)
                      clear hK K
                      refine norm_ (a' := ?_) ?_ ?_
                      rotate_left
                      · show Act.put _ (some 34) _ = _
                        simp only [Act.put, List.setIfInBounds_toArray, List.set_cons_zero, List.set_cons_succ, i64_w, i32_w]
                        rfl
                      refine pure_ (i := 2) (N := some 35) (v := ?_) (a' := ?_) #[true, true, true, false, true, true, true, true, false, false, true, false, false] rfl rfl (any_of HT_.out (by kernel_rfl)) (fun _ _ _ h => h) (Or.inl ⟨by rfl, ?_⟩) ?_ ?_
                      rotate_left
                      · intro w'
                        go_simp
                        with_reducible rfl
                      rotate_left
                      · simp only [Act.put, List.setIfInBounds_toArray, List.set_cons_zero, List.set_cons_succ, i64_w, i32_w]
                        rfl
                      refine pure_ (i := 3) (N := some 36) (v := ?_) (a' := ?_) #[true, true, true, true, true, true, true, true, false, false, true, false, false] rfl rfl (any_of HT_.out (by kernel_rfl)) (fun _ _ _ h => h) (Or.inl ⟨by rfl, ?_⟩) ?_ ?_
                      rotate_left
                      · intro w'
                        go_simp
                        with_reducible rfl
                      rotate_left
                      · simp only [Act.put, List.setIfInBounds_toArray, List.set_cons_zero, List.set_cons_succ, i64_w, i32_w]
                        rfl
                      refine pure_ (i := 8) (N := some 41) (v := ?_) (a' := ?_) #[true, true, true, true, true, true, true, true, true, false, true, false, false] rfl rfl (any_of HT_.out (by kernel_rfl)) (fun _ _ _ h => h) (Or.inl ⟨by rfl, ?_⟩) ?_ ?_
                      rotate_left
                      · intro w'
                        go_simp
                        with_reducible rfl
                      rotate_left
                      · simp only [Act.put, List.setIfInBounds_toArray, List.set_cons_zero, List.set_cons_succ, i64_w, i32_w]
                        rfl
                      refine one_ (i := 9) (N := some 42) #[true, true, true, true, true, true, true, true, true, true, true, false, false] rfl rfl (one_of HT_.out (by kernel_rfl)) (by decide) (fun K hK => ?_)
                      refine Kd.R_lit_step k53 _ 53 ?hg (N := 42) ?hd (xs := ([(⟨((⟨#[109]⟩ : ByteArray) ++ t231) ++ (⟨#[46, 100, 108, 108]⟩ : ByteArray), rd l0 x10_1⟩ : S53)] : List (S53))) (inner := [.string (((⟨#[109]⟩ : ByteArray) ++ t231) ++ (⟨#[46, 100, 108, 108]⟩ : ByteArray)), .int .i64 (rd l0 x10_1)]) (ok := fun _ => True) (okp := fun _ => True) ?hr ?hp (fun _ hk => hk) trivial (Below.refl _ _) (Nat.le_refl _) (by simp) ?_; (case hd => rfl); (case hg => rfl); (case hr => first | (go_simp; done) | (go_simp; rfl)); (case hp => exact (Reps.c2 (show Kd.M k53 _ _ _ (⟨((⟨#[109]⟩ : ByteArray) ++ t231) ++ (⟨#[46, 100, 108, 108]⟩ : ByteArray), rd l0 x10_1⟩ : S53) [.string (((⟨#[109]⟩ : ByteArray) ++ t231) ++ (⟨#[46, 100, 108, 108]⟩ : ByteArray)), .int .i64 (rd l0 x10_1)] from (k53_mkM _ _ _ (⟨((⟨#[109]⟩ : ByteArray) ++ t231) ++ (⟨#[46, 100, 108, 108]⟩ : ByteArray), rd l0 x10_1⟩ : S53) )) (Reps.none _ _)))
                      intro v234 w18 ho19 hb hg_ hnew_
                      clear hg_ hnew_
                      (first | rw [← Ny233.out] at ho19 | (simp only [Int.reduceToNat] at ho19; rw [← Ny233.out] at ho19))
                      have n0_ := Aside0.mk (Kd.R_elder' (by (with_reducible repeat (first | apply Kd.R_alloc | apply Kd.R_drewN | apply Kd.R_drew)); exact HO_8.out) (Kd.R_base ho19) hb)
                      have n1_ := Aside0.mk (Kd.R_below (by (with_reducible repeat (first | apply Kd.R_alloc | apply Kd.R_drewN | apply Kd.R_drew)); exact HO230.out) hb)
                      have n2_ := Aside0.mk (Kd.R_lower (Kd.R_new' ho19 (Kd.R_lt (by (with_reducible repeat (first | apply Kd.R_alloc | apply Kd.R_drewN | apply Kd.R_drew)); exact HO_8.out))) (below_size (by repeat (first | (with_reducible first | exact HB.out | apply below_alloc | apply pw_below_drewN | apply below_drew1) | exact HB.out))))
                      have n3_ := Aside0.mk (below_step (by repeat (first | (with_reducible first | exact HB.out | apply below_alloc | apply pw_below_drewN | apply below_drew1) | exact HB.out)) hb)
                      clear HO_8
                      clear HO230
                      clear HB
                      have HO_8 := n0_
                      have HO230 := n1_
                      have HO235 := n2_
                      have HB := n3_
                      clear n0_ n1_ n2_ n3_
                      clear hb ho19
                      obtain ⟨Ao21, co21, eo21⟩ := Kd.R_slice HO_8.out
                      (first | subst eo21 | (injection eo21 with f1_ f2_ f3_; have f4_ := f1_.symm; have f5_ := f3_.symm; clear f1_ f2_ f3_; subst f4_; subst f5_))
                      refine hK.out _ _ (((HB.out.cell (World.block_lt_of_cell? w _ hw232_0)).trans hw232_0)) (fun hHeld => ?_)
                      clear hK K
                      refine norm_ (a' := ?_) ?_ ?_
                      rotate_left
                      · show Act.put _ (some 42) _ = _
                        simp only [Act.put, List.setIfInBounds_toArray, List.set_cons_zero, List.set_cons_succ, i64_w, i32_w]
                        rfl
                      refine one_ (i := 11) (N := some 44) #[true, true, true, true, true, true, true, true, true, true, true, true, false] rfl rfl (one_of HT_.out (by kernel_rfl)) (by decide) (fun K hK => ?_)
                      refine Kd.R_append_rows_step k53 (w0 := w) w.heap.size (by rfl) (.tmp 42) (.tmp 43) 52 53 (.agg #[(.string ⟨#[]⟩), (.int .i64 0)]) 24 rfl Try.underlying52 info53 rfl (by decide) (by omega) v234 y233 x8_1 _ _ _ (fun k_ => some k_ ≠ (.slice Ao21 x8_1.length co21 : Value).ownBlock) (fun _ => False) rfl rfl ?aO ?aR (fun _ _ h => h) (fun _ h => h.elim) ?aF ?aB ?aS ?aL ?_
                      (case aR => repeat (first | exact (Kd.R_reads' HO_8.out).2.2 | (with_reducible refine Kd.C_alloc ?_ _) | (with_reducible refine Kd.C_drewN ?_ _) | (with_reducible refine Kd.C_drew ?_)))
                      (case aB => exact (by repeat (first | (with_reducible first | exact HB.out | apply below_alloc | apply pw_below_drewN | apply below_drew1) | exact HB.out)))
                      (case aF => exact (fun k_ hk => Kd.fresh' (Kd.R_lt (by (with_reducible repeat (first | apply Kd.R_alloc | apply Kd.R_drewN | apply Kd.R_drew)); exact HO_8.out)) k_ hk))
                      (case aO => exact (by (with_reducible repeat (first | apply Kd.R_alloc | apply Kd.R_drewN | apply Kd.R_drew)); exact Kd.R_mono HO235.out (fun _ hk => hk.2)))
                      (case aS => exact (below_size (by repeat (first | (with_reducible first | exact HB.out | apply below_alloc | apply pw_below_drewN | apply below_drew1) | exact HB.out))))
                      (case aL => have := LMc14.out; omega)
                      intro v237 w20 ho hb hg hat
                      rw [← Ny236.out] at ho
                      have n0_ := Aside0.mk (Kd.R_after (ok := (fun _ => True)) (by (with_reducible repeat (first | apply Kd.R_alloc | apply Kd.R_drewN | apply Kd.R_drew)); exact HO_8.out) hg hat)
                      have n1_ := Aside0.mk (Kd.R_over' (by (with_reducible repeat (first | apply Kd.R_alloc | apply Kd.R_drewN | apply Kd.R_drew)); exact HO230.out) (Kd.R_typed (by (with_reducible repeat (first | apply Kd.R_alloc | apply Kd.R_drewN | apply Kd.R_drew)); exact HO235.out)) (by decide) hg)
                      have n2_ := Aside0.mk (hb)
                      have n3_ := Aside0.mk (ho)
                      clear HO_8
                      clear HO230
                      clear HB
                      clear HO235
                      have HO_8 := n0_
                      have HO230 := n1_
                      have HB := n2_
                      have HO238 := n3_
                      clear n0_ n1_ n2_ n3_
                      clear ho hb hg hat
                      refine hK.out _ _ (((HB.out.cell (World.block_lt_of_cell? w _ hw232_0)).trans hw232_0)) (fun hHeld => ?_)
                      clear hK K
                      refine norm_ (a' := ?_) ?_ ?_
                      rotate_left
                      · show Act.put _ (some 44) _ = _
                        simp only [Act.put, List.setIfInBounds_toArray, List.set_cons_zero, List.set_cons_succ, i64_w, i32_w]
                        rfl
                      refine pure_ (i := 12) (N := some 8) (v := ?_) (a' := ?_) #[true, true, true, true, true, true, true, true, true, true, true, true, true] rfl rfl (any_of HT_.out (by kernel_rfl)) (fun _ _ _ h => h) (Or.inl ⟨by rfl, ?_⟩) ?_ ?_
                      rotate_left
                      · intro w'
                        go_simp
                        with_reducible rfl
                      rotate_left
                      · simp only [Act.put, List.setIfInBounds_toArray, List.set_cons_zero, List.set_cons_succ, i64_w, i32_w]
                        rfl
                      refine done_ (done_of HT_.out (by kernel_rfl)) ?_
                      try go_wp2
                      go_roundg k1
                      case measure => have := HK1.out; omega
                      case rel => exact ⟨(y228), (y236), (wrap64 (x10_1 + 1)), (by first | rfl | (simp; done) | (simp [*]; done)), H', ⟨by have := HK1.out; omega⟩, ⟨by (with_reducible repeat (first | apply Kd.R_alloc | apply Kd.R_drewN | apply Kd.R_drew)); exact HO230.out⟩, ⟨by (with_reducible repeat (first | apply Kd.R_alloc | apply Kd.R_drewN | apply Kd.R_drew)); exact Kd.R_mono HO238.out (fun _ hk => trivial)⟩, ⟨by repeat (first | (with_reducible first | exact HB.out | apply below_alloc | apply pw_below_drewN | apply below_drew1) | exact HB.out)⟩⟩
                    · rw [if_neg c14] at H
                      exact absurd H (by simp)
                  · rw [if_neg c13] at H
                    exact absurd H (by simp)
                · rw [if_neg c12] at H
                  exact absurd H (by simp)
              · rw [if_neg c10] at H
                exact absurd H (by simp)
            · rw [if_neg c9] at H
              exact absurd H (by simp)
          · rw [if_neg c8] at H
            exact absurd H (by simp)
        · rw [if_neg c7] at H
          exact absurd H (by simp)
      · rw [if_neg c5] at H
        have c5b0 : decide (x10_1 < ji4) = false := decide_eq_false c5
        clear c5
        have HC22 := Aside0.mk H
        clear H
        go_upto_region 9 with (fail)
        go_cut [52] (fun v52 wc => ∃ (kq : Nat) (x52_21 : Bool), v52 = .bool x52_21 ∧ Aside0 (slipwaylaw9_BoundFresh.j1 kq a1 a2 x7_1 x8_1 ji4 x52_21 = some r) ∧ Aside0 (kq ≤ k1) ∧ Aside0 (Kd.R k42 42 wc w.heap.size (fun _ => True) u7 x7_1) ∧ Aside0 (Kd.R k53 53 wc w.heap.size (fun _ => True) u8 x8_1) ∧ Aside0 (Below w.heap.size w wc))
        case first =>
          have H := HC22.out
          clear HC22
          replace H := Option.bind_eq_some_iff.mp H
          obtain ⟨t239, A230, H⟩ := H
          replace H : (if t239 = true then (slipwaylaw9_BoundFresh.j1 k1 a1 a2 x7_1 x8_1 ji4 (ji4 == 0)) else (slipwaylaw9_BoundFresh.j1 k1 a1 a2 x7_1 x8_1 ji4 true)) = some r := H
          have A23 := Aside0.mk A230
          clear A230
          by_cases c24 : t239 = true
          · subst c24
            have H1 : (slipwaylaw9_BoundFresh.j1 k1 a1 a2 x7_1 x8_1 ji4 (ji4 == 0)) = some r := by rw [if_pos rfl] at H; exact H
            clear H
            have H := H1
            clear H1
            have H' := Aside0.mk H
            clear H
            obtain ⟨Ao25, co25, eo25⟩ := Kd.R_slice HO_7.out
            subst eo25
            obtain ⟨Ao26, co26, eo26⟩ := Kd.R_slice HO_8.out
            subst eo26
            go_wp2_with (first | ((with_reducible refine gate_callee (f := 27) rfl ?_); refine goesL_ (some 47) rfl rfl Try.func27 (by kernel_rfl) rfl #[.slice Ao25 x7_1.length co25, .slice Ao26 x8_1.length co26] rfl (by (try simp only [List.map_toArray, List.map_cons, List.map_nil]); first | done | rfl | (simp only [List.length_drop, List.length_take]; rfl)) ?_; (with_reducible refine (bound_Fresh.calls k1 _ _ x7_1 _ _ x8_1 true _ ?side1 ?side2 ?side3 ?side4 A23.out).mono ?_); (case side1 => repeat (first | exact (Kd.R_reads' HO_7.out).2.2 | (with_reducible refine Kd.C_alloc ?_ _) | (with_reducible refine Kd.C_drewN ?_ _) | (with_reducible refine Kd.C_drew ?_))); (case side2 => exact (Kd.R_reads' HO_7.out).2.1); (case side3 => repeat (first | exact (Kd.R_reads' HO_8.out).2.2 | (with_reducible refine Kd.C_alloc ?_ _) | (with_reducible refine Kd.C_drewN ?_ _) | (with_reducible refine Kd.C_drew ?_))); (case side4 => exact (Kd.R_reads' HO_8.out).2.1); rintro e w27 ⟨rfl, hb⟩; refine ⟨_, rfl, ?_⟩; have n0_ := Aside0.mk (Kd.R_below (by (with_reducible repeat (first | apply Kd.R_alloc | apply Kd.R_drewN | apply Kd.R_drew)); exact HO_7.out) hb); have n1_ := Aside0.mk (Kd.R_below (by (with_reducible repeat (first | apply Kd.R_alloc | apply Kd.R_drewN | apply Kd.R_drew)); exact HO_8.out) hb); have n2_ := Aside0.mk (below_step (by repeat (first | (with_reducible first | exact HB.out | apply below_alloc | apply pw_below_drewN | apply below_drew1) | exact HB.out)) hb); clear HO_7; clear HO_8; clear HB; have HO_7 := n0_; have HO_8 := n1_; have HB := n2_; clear n0_ n1_ n2_; (try clear hb); (try clear hb2); (try clear hk); (try clear hi)))
            go_meet
            case rel => exact ⟨_, ((ji4 == 0)), (by first | rfl | (simp; done) | (simp only [← hji4] <;> (first | rfl | simp)) | (simp [*]; done)), H', ⟨by have := HK1.out; first | omega | exact Nat.le_refl _⟩, ⟨by (with_reducible repeat (first | apply Kd.R_alloc | apply Kd.R_drewN | apply Kd.R_drew)); exact HO_7.out⟩, ⟨by (with_reducible repeat (first | apply Kd.R_alloc | apply Kd.R_drewN | apply Kd.R_drew)); exact HO_8.out⟩, ⟨by repeat (first | (with_reducible first | exact HB.out | apply below_alloc | apply pw_below_drewN | apply below_drew1) | exact HB.out)⟩⟩
          · replace c24 := Bool.eq_false_iff.mpr c24
            subst c24
            have H1 : (slipwaylaw9_BoundFresh.j1 k1 a1 a2 x7_1 x8_1 ji4 true) = some r := by rw [if_neg (show ¬ (false = true) by decide)] at H; exact H
            clear H
            have H := H1
            clear H1
            have H' := Aside0.mk H
            clear H
            obtain ⟨Ao28, co28, eo28⟩ := Kd.R_slice HO_7.out
            subst eo28
            obtain ⟨Ao29, co29, eo29⟩ := Kd.R_slice HO_8.out
            subst eo29
            go_wp2_with (first | ((with_reducible refine gate_callee (f := 27) rfl ?_); refine goesL_ (some 47) rfl rfl Try.func27 (by kernel_rfl) rfl #[.slice Ao28 x7_1.length co28, .slice Ao29 x8_1.length co29] rfl (by (try simp only [List.map_toArray, List.map_cons, List.map_nil]); first | done | rfl | (simp only [List.length_drop, List.length_take]; rfl)) ?_; (with_reducible refine (bound_Fresh.calls k1 _ _ x7_1 _ _ x8_1 false _ ?side1 ?side2 ?side3 ?side4 A23.out).mono ?_); (case side1 => repeat (first | exact (Kd.R_reads' HO_7.out).2.2 | (with_reducible refine Kd.C_alloc ?_ _) | (with_reducible refine Kd.C_drewN ?_ _) | (with_reducible refine Kd.C_drew ?_))); (case side2 => exact (Kd.R_reads' HO_7.out).2.1); (case side3 => repeat (first | exact (Kd.R_reads' HO_8.out).2.2 | (with_reducible refine Kd.C_alloc ?_ _) | (with_reducible refine Kd.C_drewN ?_ _) | (with_reducible refine Kd.C_drew ?_))); (case side4 => exact (Kd.R_reads' HO_8.out).2.1); rintro e w30 ⟨rfl, hb⟩; refine ⟨_, rfl, ?_⟩; have n0_ := Aside0.mk (Kd.R_below (by (with_reducible repeat (first | apply Kd.R_alloc | apply Kd.R_drewN | apply Kd.R_drew)); exact HO_7.out) hb); have n1_ := Aside0.mk (Kd.R_below (by (with_reducible repeat (first | apply Kd.R_alloc | apply Kd.R_drewN | apply Kd.R_drew)); exact HO_8.out) hb); have n2_ := Aside0.mk (below_step (by repeat (first | (with_reducible first | exact HB.out | apply below_alloc | apply pw_below_drewN | apply below_drew1) | exact HB.out)) hb); clear HO_7; clear HO_8; clear HB; have HO_7 := n0_; have HO_8 := n1_; have HB := n2_; clear n0_ n1_ n2_; (try clear hb); (try clear hb2); (try clear hk); (try clear hi)))
            go_meet
            case rel => exact ⟨_, (true), (by first | rfl | (simp; done) | (simp [*]; done)), H', ⟨by have := HK1.out; first | omega | exact Nat.le_refl _⟩, ⟨by (with_reducible repeat (first | apply Kd.R_alloc | apply Kd.R_drewN | apply Kd.R_drew)); exact HO_7.out⟩, ⟨by (with_reducible repeat (first | apply Kd.R_alloc | apply Kd.R_drewN | apply Kd.R_drew)); exact HO_8.out⟩, ⟨by repeat (first | (with_reducible first | exact HB.out | apply below_alloc | apply pw_below_drewN | apply below_drew1) | exact HB.out)⟩⟩
        case rest =>
          clear HC22
          try clear c1
          try clear c2
          try clear p2
          try clear q2
          try clear hx2
          try clear c5
          try clear c5b0
          try clear p6
          try clear c7
          try clear c7b0
          try clear c7b1
          try clear c7b2
          try clear c8
          try clear c8b0
          try clear c9
          try clear c9b0
          try clear c10
          try clear c12
          try clear c12b0
          try clear c12b1
          try clear c12b2
          try clear c13
          try clear c13b0
          try clear c13b1
          try clear c13b2
          try clear c14
          try clear c22
          try clear p22
          try clear q22
          try clear hx22
          try clear p23
          try clear q23
          try clear hx23
          try clear c24
          try clear c27
          try clear hx227_0
          try clear hx232_0
          try clear p2
          try clear p227
          try clear p232
          try clear q227
          try clear q232
          obtain ⟨kq, x52_21, rfl, HA, HJ21, HO_7, HO_8, HB⟩ := hcut
          cases kq with
          | zero => exact absurd HA.out (by simp [slipwaylaw9_BoundFresh.j1])
          | succ kj21 =>
            have H := HA.out
            clear HA
            simp only [slipwaylaw9_BoundFresh.j1] at H
            by_cases c31 : x52_21 = true
            · subst c31
              have H1 : (if ji4 = 0 then ((bound_Fresh.f kj21 ([] : List (S42)) ([] : List (S53))).bind fun t240 => (if t240 = true then ((slipwaylaw9_awake.f kj21).bind fun t241 => (some t241)) else (some false))) else (some false)) = some r := by rw [if_pos rfl] at H; exact H
              clear H
              have H := H1
              clear H1
              by_cases c32 : ji4 = 0
              · rw [if_pos c32] at H
                have c32b0 : (ji4 == 0) = true := beq_iff_eq.mpr c32
                have c32b1 : (ji4 != 0) = false := bne_eq_false_iff_eq.mpr c32
                clear c32
                replace H := Option.bind_eq_some_iff.mp H
                obtain ⟨t240, A330, H⟩ := H
                replace H : (if t240 = true then ((slipwaylaw9_awake.f kj21).bind fun t241 => (some t241)) else (some false)) = some r := H
                have A33 := Aside0.mk A330
                clear A330
                by_cases c34 : t240 = true
                · subst c34
                  have H1 : ((slipwaylaw9_awake.f kj21).bind fun t241 => (some t241)) = some r := by rw [if_pos rfl] at H; exact H
                  clear H
                  have H := H1
                  clear H1
                  replace H := Option.bind_eq_some_iff.mp H
                  obtain ⟨t241, A350, H⟩ := H
                  replace H : (some t241) = some r := H
                  have A35 := Aside0.mk A350
                  clear A350
                  obtain rfl := Option.some.inj H
                  go_wp2_with (first | (go_at_call 27; (refine (bound_Fresh.calls kj21 _ _ ([] : List (S42)) _ _ ([] : List (S53)) true _ ?side1 ?side2 ?side3 ?side4 A33.out).mono ?_); (case side1 => exact Kd.C_nil _ _); (case side2 => exact Nat.le_refl _); (case side3 => exact Kd.C_nil _ _); (case side4 => exact Nat.le_refl _); rintro e w36 ⟨rfl, hb⟩; have n0_ := Aside0.mk (Kd.R_below (by (with_reducible repeat (first | apply Kd.R_alloc | apply Kd.R_drewN | apply Kd.R_drew)); exact HO_7.out) hb); have n1_ := Aside0.mk (Kd.R_below (by (with_reducible repeat (first | apply Kd.R_alloc | apply Kd.R_drewN | apply Kd.R_drew)); exact HO_8.out) hb); have n2_ := Aside0.mk (below_step (by repeat (first | (with_reducible first | exact HB.out | apply below_alloc | apply pw_below_drewN | apply below_drew1) | exact HB.out)) hb); clear HO_7; clear HO_8; clear HB; have HO_7 := n0_; have HO_8 := n1_; have HB := n2_; clear n0_ n1_ n2_; (try clear hb); (try clear hb2); (try clear hk); (try clear hi)) | (go_at_call 26; (with_reducible refine (slipwaylaw9_awake.calls kj21  t241 _ A35.out).mono ?_); rintro e w37 ⟨rfl, hb⟩; have n0_ := Aside0.mk (Kd.R_below (by (with_reducible repeat (first | apply Kd.R_alloc | apply Kd.R_drewN | apply Kd.R_drew)); exact HO_7.out) hb); have n1_ := Aside0.mk (Kd.R_below (by (with_reducible repeat (first | apply Kd.R_alloc | apply Kd.R_drewN | apply Kd.R_drew)); exact HO_8.out) hb); have n2_ := Aside0.mk (below_step (by repeat (first | (with_reducible first | exact HB.out | apply below_alloc | apply pw_below_drewN | apply below_drew1) | exact HB.out)) hb); clear HO_7; clear HO_8; clear HB; have HO_7 := n0_; have HO_8 := n1_; have HB := n2_; clear n0_ n1_ n2_; (try clear hb); (try clear hb2); (try clear hk); (try clear hi)))
                  go_ret
                  exact ⟨by first | rfl | (simp [errW_none, errW_some] <;> rfl) | (simp only [← hji4]; first | rfl | (simp [errW_none, errW_some] <;> rfl)) | (simp [*, errW_none, errW_some] <;> rfl), by repeat (first | (with_reducible first | exact HB.out | apply below_alloc | apply pw_below_drewN | apply below_drew1) | exact HB.out)⟩
                · replace c34 := Bool.eq_false_iff.mpr c34
                  subst c34
                  have H1 : (some false) = some r := by rw [if_neg (show ¬ (false = true) by decide)] at H; exact H
                  clear H
                  have H := H1
                  clear H1
                  obtain rfl := Option.some.inj H
                  go_wp2_with (first | (go_at_call 27; (refine (bound_Fresh.calls kj21 _ _ ([] : List (S42)) _ _ ([] : List (S53)) false _ ?side1 ?side2 ?side3 ?side4 A33.out).mono ?_); (case side1 => exact Kd.C_nil _ _); (case side2 => exact Nat.le_refl _); (case side3 => exact Kd.C_nil _ _); (case side4 => exact Nat.le_refl _); rintro e w38 ⟨rfl, hb⟩; have n0_ := Aside0.mk (Kd.R_below (by (with_reducible repeat (first | apply Kd.R_alloc | apply Kd.R_drewN | apply Kd.R_drew)); exact HO_7.out) hb); have n1_ := Aside0.mk (Kd.R_below (by (with_reducible repeat (first | apply Kd.R_alloc | apply Kd.R_drewN | apply Kd.R_drew)); exact HO_8.out) hb); have n2_ := Aside0.mk (below_step (by repeat (first | (with_reducible first | exact HB.out | apply below_alloc | apply pw_below_drewN | apply below_drew1) | exact HB.out)) hb); clear HO_7; clear HO_8; clear HB; have HO_7 := n0_; have HO_8 := n1_; have HB := n2_; clear n0_ n1_ n2_; (try clear hb); (try clear hb2); (try clear hk); (try clear hi)))
                  go_ret
                  exact ⟨by first | rfl | (simp [errW_none, errW_some] <;> rfl) | (simp only [← hji4]; first | rfl | (simp [errW_none, errW_some] <;> rfl)) | (simp [*, errW_none, errW_some] <;> rfl), by repeat (first | (with_reducible first | exact HB.out | apply below_alloc | apply pw_below_drewN | apply below_drew1) | exact HB.out)⟩
              · rw [if_neg c32] at H
                have c32b0 : (ji4 == 0) = false := beq_eq_false_iff_ne.mpr c32
                have c32b1 : (ji4 != 0) = true := bne_iff_ne.mpr c32
                obtain rfl := Option.some.inj H
                go_wp2
                go_ret
                exact ⟨by first | rfl | (simp [errW_none, errW_some] <;> rfl) | (simp only [← hji4]; first | rfl | (simp [errW_none, errW_some] <;> rfl)) | (simp [*, errW_none, errW_some] <;> rfl), by repeat (first | (with_reducible first | exact HB.out | apply below_alloc | apply pw_below_drewN | apply below_drew1) | exact HB.out)⟩
            · replace c31 := Bool.eq_false_iff.mpr c31
              subst c31
              have H1 : (if ji4 = 0 then (none) else ((some (([] : List (S53)) : List (S53))).bind fun y242 => (if y242.length + x8_1.length < 5864062014805 then ((some (y242 ++ x8_1 : List (S53))).bind fun y245 => (if 0 ≤ (Int.tmod (Go.bits .and .i64 a1 255) ji4) then (if (Int.tmod (Go.bits .and .i64 a1 255) ji4) < (y245.length : Int) then ((some (([] : List (S53)) : List (S53))).bind fun y250 => (if (Int.tmod (Go.bits .and .i64 a1 255) ji4) ≤ (x8_1.length : Int) then ((some (x8_1.take ((Int.tmod (Go.bits .and .i64 a1 255) ji4) : Int).toNat : List (S53))).bind fun y253 => (if y250.length + y253.length < 5864062014805 then ((some (y250 ++ y253 : List (S53))).bind fun y257 => (if 0 ≤ (wrap64 ((Int.tmod (Go.bits .and .i64 a1 255) ji4) + 1)) then (if (wrap64 ((Int.tmod (Go.bits .and .i64 a1 255) ji4) + 1)) ≤ (x8_1.length : Int) then ((some (x8_1.drop ((wrap64 ((Int.tmod (Go.bits .and .i64 a1 255) ji4) + 1)) : Int).toNat : List (S53))).bind fun y260 => (if y257.length + y260.length < 5864062014805 then ((bound_Fresh.f kj21 x7_1 (y245.set ((Int.tmod (Go.bits .and .i64 a1 255) ji4) : Int).toNat (⟨(rd_T53 y245 (Int.tmod (Go.bits .and .i64 a1 255) ji4)).f0, Go.bits .xor .i64 ((rd_T53 y245 (Int.tmod (Go.bits .and .i64 a1 255) ji4)).f1) (Go.bits .or .i64 a2 1)⟩ : S53))).bind fun t267 => (if t267 = true then (some false) else ((bound_Fresh.f kj21 x7_1 (y257 ++ y260)).bind fun t268 => (if t268 = true then (some false) else ((slipwaylaw9_awake.f kj21).bind fun t269 => (some t269)))))) else (none))) else (none)) else (none))) else (none))) else (none))) else (none)) else (none))) else (none)))) = some r := by rw [if_neg (show ¬ (false = true) by decide)] at H; exact H
              clear H
              have H := H1
              clear H1
              by_cases c39 : ji4 = 0
              · rw [if_pos c39] at H
                exact absurd H (by simp)
              · rw [if_neg c39] at H
                have c39b0 : (ji4 == 0) = false := beq_eq_false_iff_ne.mpr c39
                have c39b1 : (ji4 != 0) = true := bne_iff_ne.mpr c39
                obtain ⟨y242, hy242⟩ : ∃ y_ : List (S53), y_ = (([] : List (S53))) := ⟨_, rfl⟩
                replace H : (if y242.length + x8_1.length < 5864062014805 then ((some (y242 ++ x8_1 : List (S53))).bind fun y245 => (if 0 ≤ (Int.tmod (Go.bits .and .i64 a1 255) ji4) then (if (Int.tmod (Go.bits .and .i64 a1 255) ji4) < (y245.length : Int) then ((some (([] : List (S53)) : List (S53))).bind fun y250 => (if (Int.tmod (Go.bits .and .i64 a1 255) ji4) ≤ (x8_1.length : Int) then ((some (x8_1.take ((Int.tmod (Go.bits .and .i64 a1 255) ji4) : Int).toNat : List (S53))).bind fun y253 => (if y250.length + y253.length < 5864062014805 then ((some (y250 ++ y253 : List (S53))).bind fun y257 => (if 0 ≤ (wrap64 ((Int.tmod (Go.bits .and .i64 a1 255) ji4) + 1)) then (if (wrap64 ((Int.tmod (Go.bits .and .i64 a1 255) ji4) + 1)) ≤ (x8_1.length : Int) then ((some (x8_1.drop ((wrap64 ((Int.tmod (Go.bits .and .i64 a1 255) ji4) + 1)) : Int).toNat : List (S53))).bind fun y260 => (if y257.length + y260.length < 5864062014805 then ((bound_Fresh.f kj21 x7_1 (y245.set ((Int.tmod (Go.bits .and .i64 a1 255) ji4) : Int).toNat (⟨(rd_T53 y245 (Int.tmod (Go.bits .and .i64 a1 255) ji4)).f0, Go.bits .xor .i64 ((rd_T53 y245 (Int.tmod (Go.bits .and .i64 a1 255) ji4)).f1) (Go.bits .or .i64 a2 1)⟩ : S53))).bind fun t267 => (if t267 = true then (some false) else ((bound_Fresh.f kj21 x7_1 (y257 ++ y260)).bind fun t268 => (if t268 = true then (some false) else ((slipwaylaw9_awake.f kj21).bind fun t269 => (some t269)))))) else (none))) else (none)) else (none))) else (none))) else (none))) else (none)) else (none))) else (none)) = some r := by first | (rw [hy242]; with_reducible exact H) | (have H2_ := (Option.bind_some _ _).symm.trans H; rw [hy242]; with_reducible exact H2_) | (have H2_ := (Option.bind_some _ _).symm.trans H; with_reducible exact H2_) | with_reducible exact H | (rw [hy242]; exact H) | exact H
                have Ny242 := Aside0.mk hy242
                clear hy242
                by_cases c40 : y242.length + x8_1.length < 5864062014805
                · rw [if_pos c40] at H
                  have LMc40 := Aside0.mk c40
                  clear c40
                  obtain ⟨y245, hy245⟩ : ∃ y_ : List (S53), y_ = (y242 ++ x8_1) := ⟨_, rfl⟩
                  replace H : (if 0 ≤ (Int.tmod (Go.bits .and .i64 a1 255) ji4) then (if (Int.tmod (Go.bits .and .i64 a1 255) ji4) < (y245.length : Int) then ((some (([] : List (S53)) : List (S53))).bind fun y250 => (if (Int.tmod (Go.bits .and .i64 a1 255) ji4) ≤ (x8_1.length : Int) then ((some (x8_1.take ((Int.tmod (Go.bits .and .i64 a1 255) ji4) : Int).toNat : List (S53))).bind fun y253 => (if y250.length + y253.length < 5864062014805 then ((some (y250 ++ y253 : List (S53))).bind fun y257 => (if 0 ≤ (wrap64 ((Int.tmod (Go.bits .and .i64 a1 255) ji4) + 1)) then (if (wrap64 ((Int.tmod (Go.bits .and .i64 a1 255) ji4) + 1)) ≤ (x8_1.length : Int) then ((some (x8_1.drop ((wrap64 ((Int.tmod (Go.bits .and .i64 a1 255) ji4) + 1)) : Int).toNat : List (S53))).bind fun y260 => (if y257.length + y260.length < 5864062014805 then ((bound_Fresh.f kj21 x7_1 (y245.set ((Int.tmod (Go.bits .and .i64 a1 255) ji4) : Int).toNat (⟨(rd_T53 y245 (Int.tmod (Go.bits .and .i64 a1 255) ji4)).f0, Go.bits .xor .i64 ((rd_T53 y245 (Int.tmod (Go.bits .and .i64 a1 255) ji4)).f1) (Go.bits .or .i64 a2 1)⟩ : S53))).bind fun t267 => (if t267 = true then (some false) else ((bound_Fresh.f kj21 x7_1 (y257 ++ y260)).bind fun t268 => (if t268 = true then (some false) else ((slipwaylaw9_awake.f kj21).bind fun t269 => (some t269)))))) else (none))) else (none)) else (none))) else (none))) else (none))) else (none)) else (none)) = some r := by first | (rw [hy245]; with_reducible exact H) | (have H2_ := (Option.bind_some _ _).symm.trans H; rw [hy245]; with_reducible exact H2_) | (have H2_ := (Option.bind_some _ _).symm.trans H; with_reducible exact H2_) | with_reducible exact H | (rw [hy245]; exact H) | exact H
                  have Ny245 := Aside0.mk hy245
                  clear hy245
                  obtain ⟨ji41, hji41⟩ : ∃ j_ : Int, (Int.tmod (Go.bits .and .i64 a1 255) ji4) = j_ := ⟨_, rfl⟩
                  replace H : (if 0 ≤ (ji41) then (if (ji41) < (y245.length : Int) then ((some (([] : List (S53)) : List (S53))).bind fun y250 => (if (ji41) ≤ (x8_1.length : Int) then ((some (x8_1.take ((ji41) : Int).toNat : List (S53))).bind fun y253 => (if y250.length + y253.length < 5864062014805 then ((some (y250 ++ y253 : List (S53))).bind fun y257 => (if 0 ≤ (wrap64 ((ji41) + 1)) then (if (wrap64 ((ji41) + 1)) ≤ (x8_1.length : Int) then ((some (x8_1.drop ((wrap64 ((ji41) + 1)) : Int).toNat : List (S53))).bind fun y260 => (if y257.length + y260.length < 5864062014805 then ((bound_Fresh.f kj21 x7_1 (y245.set ((ji41) : Int).toNat (⟨(rd_T53 y245 (ji41)).f0, Go.bits .xor .i64 ((rd_T53 y245 (ji41)).f1) (Go.bits .or .i64 a2 1)⟩ : S53))).bind fun t267 => (if t267 = true then (some false) else ((bound_Fresh.f kj21 x7_1 (y257 ++ y260)).bind fun t268 => (if t268 = true then (some false) else ((slipwaylaw9_awake.f kj21).bind fun t269 => (some t269)))))) else (none))) else (none)) else (none))) else (none))) else (none))) else (none)) else (none)) = some r := by first | (rw [hji41] at H; exact H) | (simp only [hji41] at H ⊢; exact H)
                  by_cases c42 : 0 ≤ (ji41)
                  · rw [if_pos c42] at H
                    have c42b0 : decide (0 ≤ (ji41)) = true := decide_eq_true c42
                    clear c42
                    by_cases c43 : (ji41) < (y245.length : Int)
                    · rw [if_pos c43] at H
                      have c43b0 : decide ((ji41) < (y245.length : Int)) = true := decide_eq_true c43
                      clear c43
                      obtain ⟨y249, hy249⟩ : ∃ y_ : List (S53), y_ = (y245.set ((ji41) : Int).toNat (⟨(rd_T53 y245 (ji41)).f0, Go.bits .xor .i64 ((rd_T53 y245 (ji41)).f1) (Go.bits .or .i64 a2 1)⟩ : S53)) := ⟨_, rfl⟩
                      replace H : ((some (([] : List (S53)) : List (S53))).bind fun y250 => (if (ji41) ≤ (x8_1.length : Int) then ((some (x8_1.take ((ji41) : Int).toNat : List (S53))).bind fun y253 => (if y250.length + y253.length < 5864062014805 then ((some (y250 ++ y253 : List (S53))).bind fun y257 => (if 0 ≤ (wrap64 ((ji41) + 1)) then (if (wrap64 ((ji41) + 1)) ≤ (x8_1.length : Int) then ((some (x8_1.drop ((wrap64 ((ji41) + 1)) : Int).toNat : List (S53))).bind fun y260 => (if y257.length + y260.length < 5864062014805 then ((bound_Fresh.f kj21 x7_1 y249).bind fun t267 => (if t267 = true then (some false) else ((bound_Fresh.f kj21 x7_1 (y257 ++ y260)).bind fun t268 => (if t268 = true then (some false) else ((slipwaylaw9_awake.f kj21).bind fun t269 => (some t269)))))) else (none))) else (none)) else (none))) else (none))) else (none))) = some r := by first | (rw [hy249]; with_reducible exact H) | (have H2_ := (Option.bind_some _ _).symm.trans H; rw [hy249]; with_reducible exact H2_) | (have H2_ := (Option.bind_some _ _).symm.trans H; with_reducible exact H2_) | with_reducible exact H | (rw [hy249]; exact H) | exact H
                      have Ny249 := Aside0.mk hy249
                      clear hy249
                      obtain ⟨y250, hy250⟩ : ∃ y_ : List (S53), y_ = (([] : List (S53))) := ⟨_, rfl⟩
                      replace H : (if (ji41) ≤ (x8_1.length : Int) then ((some (x8_1.take ((ji41) : Int).toNat : List (S53))).bind fun y253 => (if y250.length + y253.length < 5864062014805 then ((some (y250 ++ y253 : List (S53))).bind fun y257 => (if 0 ≤ (wrap64 ((ji41) + 1)) then (if (wrap64 ((ji41) + 1)) ≤ (x8_1.length : Int) then ((some (x8_1.drop ((wrap64 ((ji41) + 1)) : Int).toNat : List (S53))).bind fun y260 => (if y257.length + y260.length < 5864062014805 then ((bound_Fresh.f kj21 x7_1 y249).bind fun t267 => (if t267 = true then (some false) else ((bound_Fresh.f kj21 x7_1 (y257 ++ y260)).bind fun t268 => (if t268 = true then (some false) else ((slipwaylaw9_awake.f kj21).bind fun t269 => (some t269)))))) else (none))) else (none)) else (none))) else (none))) else (none)) = some r := by first | (rw [hy250]; with_reducible exact H) | (have H2_ := (Option.bind_some _ _).symm.trans H; rw [hy250]; with_reducible exact H2_) | (have H2_ := (Option.bind_some _ _).symm.trans H; with_reducible exact H2_) | with_reducible exact H | (rw [hy250]; exact H) | exact H
                      have Ny250 := Aside0.mk hy250
                      clear hy250
                      have c45b0 := eq_true (of_decide_eq_true (by first | (with_reducible assumption) | assumption) : 0 ≤ (ji41))
                      by_cases c46 : (ji41) ≤ (x8_1.length : Int)
                      · rw [if_pos c46] at H
                        have c46b0 := eq_true c46
                        have c46b1 : decide ((ji41) ≤ (x8_1.length : Int)) = true := decide_eq_true c46
                        clear c46
                        obtain ⟨y253, hy253⟩ : ∃ y_ : List (S53), y_ = (x8_1.take ((ji41) : Int).toNat) := ⟨_, rfl⟩
                        replace H : (if y250.length + y253.length < 5864062014805 then ((some (y250 ++ y253 : List (S53))).bind fun y257 => (if 0 ≤ (wrap64 ((ji41) + 1)) then (if (wrap64 ((ji41) + 1)) ≤ (x8_1.length : Int) then ((some (x8_1.drop ((wrap64 ((ji41) + 1)) : Int).toNat : List (S53))).bind fun y260 => (if y257.length + y260.length < 5864062014805 then ((bound_Fresh.f kj21 x7_1 y249).bind fun t267 => (if t267 = true then (some false) else ((bound_Fresh.f kj21 x7_1 (y257 ++ y260)).bind fun t268 => (if t268 = true then (some false) else ((slipwaylaw9_awake.f kj21).bind fun t269 => (some t269)))))) else (none))) else (none)) else (none))) else (none)) = some r := by first | (rw [hy253]; with_reducible exact H) | (have H2_ := (Option.bind_some _ _).symm.trans H; rw [hy253]; with_reducible exact H2_) | (have H2_ := (Option.bind_some _ _).symm.trans H; with_reducible exact H2_) | with_reducible exact H | (rw [hy253]; exact H) | exact H
                        have Ny253 := Aside0.mk hy253
                        clear hy253
                        by_cases c47 : y250.length + y253.length < 5864062014805
                        · rw [if_pos c47] at H
                          have LMc47 := Aside0.mk c47
                          clear c47
                          obtain ⟨y257, hy257⟩ : ∃ y_ : List (S53), y_ = (y250 ++ y253) := ⟨_, rfl⟩
                          replace H : (if 0 ≤ (wrap64 ((ji41) + 1)) then (if (wrap64 ((ji41) + 1)) ≤ (x8_1.length : Int) then ((some (x8_1.drop ((wrap64 ((ji41) + 1)) : Int).toNat : List (S53))).bind fun y260 => (if y257.length + y260.length < 5864062014805 then ((bound_Fresh.f kj21 x7_1 y249).bind fun t267 => (if t267 = true then (some false) else ((bound_Fresh.f kj21 x7_1 (y257 ++ y260)).bind fun t268 => (if t268 = true then (some false) else ((slipwaylaw9_awake.f kj21).bind fun t269 => (some t269)))))) else (none))) else (none)) else (none)) = some r := by first | (rw [hy257]; with_reducible exact H) | (have H2_ := (Option.bind_some _ _).symm.trans H; rw [hy257]; with_reducible exact H2_) | (have H2_ := (Option.bind_some _ _).symm.trans H; with_reducible exact H2_) | with_reducible exact H | (rw [hy257]; exact H) | exact H
                          have Ny257 := Aside0.mk hy257
                          clear hy257
                          obtain ⟨ji48, hji48⟩ : ∃ j_ : Int, (wrap64 ((ji41) + 1)) = j_ := ⟨_, rfl⟩
                          replace H : (if 0 ≤ (ji48) then (if (ji48) ≤ (x8_1.length : Int) then ((some (x8_1.drop ((ji48) : Int).toNat : List (S53))).bind fun y260 => (if y257.length + y260.length < 5864062014805 then ((bound_Fresh.f kj21 x7_1 y249).bind fun t267 => (if t267 = true then (some false) else ((bound_Fresh.f kj21 x7_1 (y257 ++ y260)).bind fun t268 => (if t268 = true then (some false) else ((slipwaylaw9_awake.f kj21).bind fun t269 => (some t269)))))) else (none))) else (none)) else (none)) = some r := by first | (rw [hji48] at H; exact H) | (simp only [hji48] at H ⊢; exact H)
                          have hji48w : (IntKind.i64.wrap ((ji41) + 1)) = ji48 := (i64_w _).trans hji48
                          by_cases c49 : 0 ≤ (ji48)
                          · rw [if_pos c49] at H
                            have c49b0 := eq_true c49
                            have c49b1 : decide (0 ≤ (ji48)) = true := decide_eq_true c49
                            clear c49
                            by_cases c50 : (ji48) ≤ (x8_1.length : Int)
                            · rw [if_pos c50] at H
                              have c50b0 := eq_true c50
                              have c50b1 : decide ((ji48) ≤ (x8_1.length : Int)) = true := decide_eq_true c50
                              clear c50
                              obtain ⟨y260, hy260⟩ : ∃ y_ : List (S53), y_ = (x8_1.drop ((ji48) : Int).toNat) := ⟨_, rfl⟩
                              replace H : (if y257.length + y260.length < 5864062014805 then ((bound_Fresh.f kj21 x7_1 y249).bind fun t267 => (if t267 = true then (some false) else ((bound_Fresh.f kj21 x7_1 (y257 ++ y260)).bind fun t268 => (if t268 = true then (some false) else ((slipwaylaw9_awake.f kj21).bind fun t269 => (some t269)))))) else (none)) = some r := by first | (rw [hy260]; with_reducible exact H) | (have H2_ := (Option.bind_some _ _).symm.trans H; rw [hy260]; with_reducible exact H2_) | (have H2_ := (Option.bind_some _ _).symm.trans H; with_reducible exact H2_) | with_reducible exact H | (rw [hy260]; exact H) | exact H
                              have Ny260 := Aside0.mk hy260
                              clear hy260
                              by_cases c51 : y257.length + y260.length < 5864062014805
                              · rw [if_pos c51] at H
                                have LMc51 := Aside0.mk c51
                                clear c51
                                obtain ⟨y264, hy264⟩ : ∃ y_ : List (S53), y_ = (y257 ++ y260) := ⟨_, rfl⟩
                                replace H : ((bound_Fresh.f kj21 x7_1 y249).bind fun t267 => (if t267 = true then (some false) else ((bound_Fresh.f kj21 x7_1 y264).bind fun t268 => (if t268 = true then (some false) else ((slipwaylaw9_awake.f kj21).bind fun t269 => (some t269)))))) = some r := by first | (rw [hy264]; with_reducible exact H) | (have H2_ := (Option.bind_some _ _).symm.trans H; rw [hy264]; with_reducible exact H2_) | (have H2_ := (Option.bind_some _ _).symm.trans H; with_reducible exact H2_) | with_reducible exact H | (rw [hy264]; exact H) | exact H
                                have Ny264 := Aside0.mk hy264
                                clear hy264
                                replace H := Option.bind_eq_some_iff.mp H
                                obtain ⟨t267, A520, H⟩ := H
                                replace H : (if t267 = true then (some false) else ((bound_Fresh.f kj21 x7_1 y264).bind fun t268 => (if t268 = true then (some false) else ((slipwaylaw9_awake.f kj21).bind fun t269 => (some t269))))) = some r := H
                                have A52 := Aside0.mk A520
                                clear A520
                                by_cases c53 : t267 = true
                                · subst c53
                                  have H1 : (some false) = some r := by rw [if_pos rfl] at H; exact H
                                  clear H
                                  have H := H1
                                  clear H1
                                  obtain rfl := Option.some.inj H
                                  try go_wp2_with (first | ((with_reducible refine gate_dst (N := 65) rfl ?_); refine Kd.R_lit k53 _ 53 ?hg (N := 65) ?hd (xs := ([] : List (S53))) (inner := []) (ok := fun _ => True) (okp := fun _ => True) ?hr ?hp (fun _ hk => hk) trivial (Below.refl _ _) (Nat.le_refl _) (by simp) ?_; (case hd => rfl); (case hg => rfl); (case hr => first | (go_simp; done) | (go_simp; rfl)); (case hp => exact (Reps.none _ _)); intro v243 w54 ho55 hb hg_ hnew_; clear hg_ hnew_; (first | rw [← Ny242.out] at ho55 | (simp only [Int.reduceToNat] at ho55; rw [← Ny242.out] at ho55)); have n0_ := Aside0.mk (Kd.R_below (by (with_reducible repeat (first | apply Kd.R_alloc | apply Kd.R_drewN | apply Kd.R_drew)); exact HO_7.out) hb); have n1_ := Aside0.mk (Kd.R_elder' (by (with_reducible repeat (first | apply Kd.R_alloc | apply Kd.R_drewN | apply Kd.R_drew)); exact HO_8.out) (Kd.R_base ho55) hb); have n2_ := Aside0.mk (Kd.R_lower (Kd.R_new' ho55 (Kd.R_lt (by (with_reducible repeat (first | apply Kd.R_alloc | apply Kd.R_drewN | apply Kd.R_drew)); exact HO_8.out))) (below_size (by repeat (first | (with_reducible first | exact HB.out | apply below_alloc | apply pw_below_drewN | apply below_drew1) | exact HB.out)))); have n3_ := Aside0.mk (below_step (by repeat (first | (with_reducible first | exact HB.out | apply below_alloc | apply pw_below_drewN | apply below_drew1) | exact HB.out)) hb); clear HO_7; clear HO_8; clear HB; have HO_7 := n0_; have HO_8 := n1_; have HO244 := n2_; have HB := n3_; clear n0_ n1_ n2_ n3_; clear hb ho55; obtain ⟨Ao57, co57, eo57⟩ := Kd.R_slice HO_8.out; subst eo57) | ((with_reducible refine gate_builtin (b := .append) (xs := #[.tmp 65, .tmp 66]) rfl ?_); at_builtin; refine Kd.R_append_rows k53 (w0 := w) w.heap.size rfl (.tmp 65) (.tmp 66) 52 53 (.agg #[(.string ⟨#[]⟩), (.int .i64 0)]) 24 rfl Try.underlying52 info53 rfl (by decide) (by omega) v243 y242 x8_1 _ _ _ (fun k_ => some k_ ≠ (.slice Ao57 x8_1.length co57 : Value).ownBlock) (fun _ => False) rfl rfl ?aO ?aR (fun _ _ h => h) (fun _ h => h.elim) ?aF ?aB ?aS ?aL ?_; (case aR => repeat (first | exact (Kd.R_reads' HO_8.out).2.2 | (with_reducible refine Kd.C_alloc ?_ _) | (with_reducible refine Kd.C_drewN ?_ _) | (with_reducible refine Kd.C_drew ?_))); (case aB => exact (by repeat (first | (with_reducible first | exact HB.out | apply below_alloc | apply pw_below_drewN | apply below_drew1) | exact HB.out))); (case aF => exact (fun k_ hk => Kd.fresh' (Kd.R_lt (by (with_reducible repeat (first | apply Kd.R_alloc | apply Kd.R_drewN | apply Kd.R_drew)); exact HO_8.out)) k_ hk)); (case aO => exact (by (with_reducible repeat (first | apply Kd.R_alloc | apply Kd.R_drewN | apply Kd.R_drew)); exact Kd.R_mono HO244.out (fun _ hk => hk.2))); (case aS => exact (below_size (by repeat (first | (with_reducible first | exact HB.out | apply below_alloc | apply pw_below_drewN | apply below_drew1) | exact HB.out)))); (case aL => have := LMc40.out; omega); intro v246 w56 ho hb hg hat; rw [← Ny245.out] at ho; have n0_ := Aside0.mk (Kd.R_over' (by (with_reducible repeat (first | apply Kd.R_alloc | apply Kd.R_drewN | apply Kd.R_drew)); exact HO_7.out) (Kd.R_typed (by (with_reducible repeat (first | apply Kd.R_alloc | apply Kd.R_drewN | apply Kd.R_drew)); exact HO244.out)) (by decide) hg); have n1_ := Aside0.mk (Kd.R_after (ok := (fun _ => True)) (by (with_reducible repeat (first | apply Kd.R_alloc | apply Kd.R_drewN | apply Kd.R_drew)); exact HO_8.out) hg hat); have n2_ := Aside0.mk (hb); have n3_ := Aside0.mk (ho); clear HO_7; clear HO_8; clear HB; clear HO244; have HO_7 := n0_; have HO_8 := n1_; have HB := n2_; have HO247 := n3_; clear n0_ n1_ n2_ n3_; clear ho hb hg hat; obtain ⟨Ao58, co58, eo58⟩ := Kd.R_slice HO247.out; subst eo58; have p248 : 0 ≤ ((ji41) : Int) := of_decide_eq_true (by first | (with_reducible assumption) | assumption); have q248 : (ji41) < (y245.length : Int) := of_decide_eq_true (by first | (with_reducible assumption) | assumption); obtain ⟨ad248, e248, hx248_0, hx248_1⟩ := at_T53 (Kd.R_reads' HO247.out).2.2 (ji41) p248 q248; cases e248; replace p248 := eq_true p248; replace q248 := eq_true q248; have p44 : 0 ≤ ((ji41) : Int) := of_decide_eq_true (by first | (with_reducible assumption) | assumption); have q44 : ((ji41) : Int) < ((y245.length : Int) : Int) := of_decide_eq_true (by first | (with_reducible assumption) | assumption); obtain ⟨go44, co44, eo44, gb44, gl44, cl44, HG44⟩ := Kd.R_form HO247.out (by omega); (first | cases eo44 | (injection eo44 with ea_ en_ ec_; (first | subst ea_ | (injection ea_ with ea_; subst ea_)); subst ec_; clear en_)); have GB44 := Aside0.mk gb44; have GG44 := Aside0.mk HG44; clear gb44 gl44 HG44; (first | simp only [add_plain] at hx248_0 | skip); (first | simp only [add_plain] at hx248_1 | skip); obtain ⟨ce44, hcl44, hM44, hcc44, hfr44⟩ := Kd.R_elem HO247.out z53 ((ji41) : Int) p44 q44; obtain rfl := k53_openM hM44; have hx44_0 : w56.cell? ⟨go44, ((ji41) : Int).toNat * 2, none⟩ = some (.string ((rd_T53 y245 (ji41)).f0)) := hcc44 0 _ rfl; have hx44_1 : w56.cell? ⟨go44, ((ji41) : Int).toNat * 2 + 1, none⟩ = some (.int .i64 ((rd_T53 y245 (ji41)).f1)) := hcc44 1 _ rfl; have hf44_0 : w56.frozen? ⟨go44, ((ji41) : Int).toNat * 2, none⟩ = false := hfr44 0; have hf44_1 : w56.frozen? ⟨go44, ((ji41) : Int).toNat * 2 + 1, none⟩ = false := hfr44 1; clear hcl44 hcc44 hfr44 hM44; replace p44 := eq_true p44; replace q44 := eq_true q44; have HX59 := Aside0.mk (show Kd.R k53 53 w56 w.heap.size (fun k_ => some k_ ≠ (.slice Ao57 x8_1.length co57 : Value).ownBlock) (.slice (some ⟨go44, 0, none⟩) y245.length co58) y245 from (by (with_reducible repeat (first | apply Kd.R_alloc | apply Kd.R_drewN | apply Kd.R_drew)); exact HO247.out)); obtain ⟨ce59, hcl59, hM59, hcc59, hfr59⟩ := Kd.R_elem HX59.out z53 ((ji41) : Int) (of_decide_eq_true (by first | (with_reducible assumption) | assumption)) (by have h_ : ((ji41) : Int) < ((y245.length : Int) : Int) := of_decide_eq_true (by first | (with_reducible assumption) | assumption); first | exact h_ | (have e_ := (Kd.R_reads' HO247.out).1; omega) | simpa using h_); obtain rfl := k53_openM hM59; have HP59 := Kd.R_seg HX59.out ((ji41) : Int) (of_decide_eq_true (by first | (with_reducible assumption) | assumption)) (by have h_ : ((ji41) : Int) < ((y245.length : Int) : Int) := of_decide_eq_true (by first | (with_reducible assumption) | assumption); first | exact h_ | (have e_ := (Kd.R_reads' HO247.out).1; omega) | simpa using h_) (seg := [.int .i64 (Go.bits .xor .i64 ((rd_T53 y245 (ji41)).f1) (Go.bits .or .i64 a2 1))]) (j := 1) hcl59 hcc59 (show 2 ≤ 2 from by decide) (x' := (⟨(rd_T53 y245 (ji41)).f0, Go.bits .xor .i64 ((rd_T53 y245 (ji41)).f1) (Go.bits .or .i64 a2 1)⟩ : S53)) (k53_mkM _ _ _ (⟨(rd_T53 y245 (ji41)).f0, Go.bits .xor .i64 ((rd_T53 y245 (ji41)).f1) (Go.bits .or .i64 a2 1)⟩ : S53) ) (fun _ hk => hk); have hx59_1 := hcc59 1 _ rfl; (try simp only [show (k53).sz = 2 from rfl, Nat.mul_one, Nat.add_zero] at hx59_1); have hf59_1 := hfr59 1; (try simp only [show (k53).sz = 2 from rfl, Nat.mul_one, Nat.add_zero] at hf59_1); clear hcl59 hcc59 hfr59 hM59) | ((with_reducible refine gate_store (t := 3) (p := 79) rfl ?_); refine store_event (t := 3) (p := 79) (v := ?vo_w60) (w1 := (w56.setCell ⟨go44, ((ji41) : Int).toNat * 2 + 1, none⟩ (.int .i64 (Go.bits .xor .i64 ((rd_T53 y245 (ji41)).f1) (Go.bits .or .i64 a2 1))))) ?hg ?ho ?hn ?hr ?_; (case ho => rfl); (case hg => rfl); (case hn => rfl); (case hr => first | (go_simp; done) | (go_simp; rfl)); intro w60 hw; have hg : w56.grownBy w60 (some go44) := (by rw [hw]; exact HP59.2); have hp_ : Kd.R k53 53 w60 w.heap.size (fun k_ => some k_ ≠ (.slice Ao57 x8_1.length co57 : Value).ownBlock) (.slice (some ⟨go44, 0, none⟩) y245.length co58) y249 := (by rw [hw, Ny249.out]; exact HP59.1); clear HP59; have n0_ := Aside0.mk (Kd.R_over' (v := (.slice (some ⟨go44, 0, none⟩) y245.length co58)) (by (with_reducible repeat (first | apply Kd.R_alloc | apply Kd.R_drewN | apply Kd.R_drew)); exact HO_7.out) (Kd.R_typed HO247.out) (by decide) hg); have n1_ := Aside0.mk (Kd.R_after (v := (.slice (some ⟨go44, 0, none⟩) y245.length co58)) (v1 := (.slice (some ⟨go44, 0, none⟩) y245.length co58)) (ok := (fun _ => True)) (by (with_reducible repeat (first | apply Kd.R_alloc | apply Kd.R_drewN | apply Kd.R_drew)); exact HO_8.out) hg (.inl rfl)); have n2_ := Aside0.mk (hp_); have n3_ := Aside0.mk ((by rw [hw]; exact below_set (HB.out) GB44.out : Below w.heap.size w w60)); clear HO_7; clear HO_8; clear HO247; clear HB; have HO_7 := n0_; have HO_8 := n1_; have HO247 := n2_; have HB := n3_; clear n0_ n1_ n2_ n3_; clear hg hw hp_))
                                  have n0_ := Aside0.mk (Kd.R_drew HO_7.out)
                                  have n1_ := Aside0.mk (Kd.R_drew HO_8.out)
                                  have n2_ := Aside0.mk (Kd.R_drew HO247.out)
                                  have n3_ := Aside0.mk (below_drew1 HB.out)
                                  clear HO_7
                                  clear HO_8
                                  clear HO247
                                  clear HB
                                  have HO_7 := n0_
                                  have HO_8 := n1_
                                  have HO247 := n2_
                                  have HB := n3_
                                  clear n0_ n1_ n2_ n3_
                                  have q62 : ((ji41) : Int) ≤ ((x8_1.length : Int) : Int) := of_decide_eq_true (by first | (with_reducible assumption) | assumption)
                                  obtain ⟨i062, hi062, _, hsz62, _⟩ := info_parts info53
                                  have hroom62 : x8_1.length ≤ co57 := (Kd.R_reads' HO_8.out).2.1
                                  have hC62 : Kd.C k53 _ Ao57 x8_1.length x8_1 := (Kd.R_reads' HO_8.out).2.2
                                  have hcut62 := cut_to (P := Try.prog) 52 53 .i64 Try.underlying52 hi062 Ao57 x8_1.length co57 (ji41) (of_decide_eq_true (by first | (with_reducible assumption) | assumption)) q62 hroom62
                                  have hr62 := Kd.C_take (m := ((ji41) : Int).toNat) hC62 (by omega)
                                  have hy62 : y253.length = ((ji41) : Int).toNat := (by rw [Ny253.out, List.length_take]; omega)
                                  rw [← Ny253.out] at hr62
                                  rw [← hy62] at hcut62
                                  have HR256 := Aside0.mk hr62
                                  have HC256 := Aside0.mk (show y253.length ≤ co57 from by omega)
                                  clear hr62 hC62 hroom62 hi062 hsz62
                                  have KY62 := Aside0.mk hy62
                                  clear hy62
                                  have KL62 := Aside0.mk (show ((ji41) : Int).toNat ≤ x8_1.length from by omega)
                                  replace q62 := eq_true q62
                                  have q63 : ((ji48) : Int) ≤ ((x8_1.length : Int) : Int) := of_decide_eq_true (by first | (with_reducible assumption) | assumption)
                                  obtain ⟨i063, hi063, _, hsz63, _⟩ := info_parts info53
                                  have hroom63 : x8_1.length ≤ co57 := (Kd.R_reads' HO_8.out).2.1
                                  have hC63 : Kd.C k53 _ Ao57 x8_1.length x8_1 := (Kd.R_reads' HO_8.out).2.2
                                  have q063 : (0 : Int) ≤ ((ji48) : Int) := of_decide_eq_true (by first | (with_reducible assumption) | assumption)
                                  have hcut63 := cut_from (P := Try.prog) 52 53 .i64 Try.underlying52 hi063 2 hsz63 Ao57 x8_1.length co57 (ji48) q063 q63
                                  have hr63 := Kd.C_drop (m := ((ji48) : Int).toNat) (c := co57) hC63 (by omega) hroom63
                                  obtain ⟨A63, hA63⟩ : ∃ A1, A1 = (if co57 = ((ji48) : Int).toNat then Ao57 else (Ao57 : Option Addr).map (·.add (((ji48) : Int).toNat * 2))) := ⟨_, rfl⟩
                                  obtain ⟨c63, hc63⟩ : ∃ c1, c1 = co57 - ((ji48) : Int).toNat := ⟨_, rfl⟩
                                  have hy63 : y260.length = x8_1.length - ((ji48) : Int).toNat := (by rw [Ny260.out, List.length_drop] <;> omega)
                                  rw [show (x8_1).drop ((ji48) : Int).toNat = y260 from Ny260.out.symm] at hr63
                                  replace hr63 : Kd.C k53 _ A63 y260.length y260 := (by rw [hA63]; exact hr63)
                                  rw [← hy63, ← hA63, ← hc63] at hcut63
                                  have HR263 := Aside0.mk hr63
                                  have HC263 := Aside0.mk (show y260.length ≤ c63 from by rw [hy63, hc63]; exact Nat.sub_le_sub_right hroom63 _)
                                  clear hr63 hC63 hroom63 hi063 hsz63 hc63
                                  have KY63 := Aside0.mk hy63
                                  have KA63 := Aside0.mk hA63
                                  clear hy63 hA63
                                  have KL63 := Aside0.mk (show ((ji48) : Int).toNat ≤ x8_1.length from by omega)
                                  replace q63 := eq_true q63
                                  refine start_ (n := 11) (S := fun w' => True) (ds := []) #[false, false, false, false, false, false, false, false, false, false, false] (by kernel_rfl) rfl rfl trivial (fun hHeld => ?_); refine with_tabW slipwaylaw9_BoundFresh.tab14 slipwaylaw9_BoundFresh.bits14 (fun HT_ HW_ => ?_)
                                  generalize w60.drew = w61 at HO_7 HO_8 HO247 HB HR256 HR263 hHeld ⊢
                                  refine pure_ (i := 1) (N := some 81) (v := ?_) (a' := ?_) #[false, true, false, false, false, false, false, false, false, false, false] rfl rfl (any_of HT_.out (by kernel_rfl)) (fun _ _ _ h => h) (Or.inl ⟨by rfl, ?_⟩) ?_ ?_
                                  rotate_left
                                  · intro w'
                                    go_simp
                                    with_reducible rfl
                                  rotate_left
                                  · simp only [Act.put, List.setIfInBounds_toArray, List.set_cons_zero, List.set_cons_succ, i64_w, i32_w]
                                    rfl
                                  refine pure_ (i := 2) (N := some 82) (v := ?_) (a' := ?_) #[false, true, true, false, false, false, false, false, false, false, false] rfl rfl (any_of HT_.out (by kernel_rfl)) (fun _ _ _ h => h) (Or.inl ⟨by rfl, ?_⟩) ?_ ?_
                                  rotate_left
                                  · intro w'
                                    go_simp
                                    with_reducible rfl
                                  rotate_left
                                  · simp only [Act.put, List.setIfInBounds_toArray, List.set_cons_zero, List.set_cons_succ, i64_w, i32_w]
                                    rfl
                                  refine pure_ (i := 3) (N := some 83) (v := ?_) (a' := ?_) #[false, true, true, true, false, false, false, false, false, false, false] rfl rfl (any_of HT_.out (by kernel_rfl)) (fun _ _ _ h => h) (Or.inl ⟨by rfl, ?_⟩) ?_ ?_
                                  rotate_left
                                  · intro w'
                                    go_simp
                                    with_reducible rfl
                                  rotate_left
                                  · simp only [Act.put, List.setIfInBounds_toArray, List.set_cons_zero, List.set_cons_succ, i64_w, i32_w]
                                    rfl
                                  refine pure_ (i := 5) (N := some 85) (v := ?_) (a' := ?_) #[false, true, true, true, false, true, false, false, false, false, false] rfl rfl (any_of HT_.out (by kernel_rfl)) (fun _ _ _ h => h) (Or.inl ⟨by rfl, ?_⟩) ?_ ?_
                                  rotate_left
                                  · intro w'
                                    go_simp
                                    with_reducible rfl
                                  rotate_left
                                  · simp only [Act.put, List.setIfInBounds_toArray, List.set_cons_zero, List.set_cons_succ, i64_w, i32_w]
                                    rfl
                                  refine pure_ (i := 6) (N := some 86) (v := ?_) (a' := ?_) #[false, true, true, true, false, true, true, false, false, false, false] rfl rfl (any_of HT_.out (by kernel_rfl)) (fun _ _ _ h => h) (Or.inl ⟨by rfl, ?_⟩) ?_ ?_
                                  rotate_left
                                  · intro w'
                                    go_simp
                                    with_reducible rfl
                                  rotate_left
                                  · simp only [Act.put, List.setIfInBounds_toArray, List.set_cons_zero, List.set_cons_succ, i64_w, i32_w]
                                    rfl
                                  refine pure_ (i := 7) (N := some 87) (v := ?_) (a' := ?_) #[false, true, true, true, false, true, true, true, false, false, false] rfl rfl (any_of HT_.out (by kernel_rfl)) (fun _ _ _ h => h) (Or.inl ⟨by rfl, ?_⟩) ?_ ?_
                                  rotate_left
                                  · intro w'
                                    go_simp
                                    with_reducible rfl
                                  rotate_left
                                  · simp only [Act.put, List.setIfInBounds_toArray, List.set_cons_zero, List.set_cons_succ, i64_w, i32_w]
                                    rfl
                                  refine pure_ (i := 8) (N := some 88) (v := ?_) (a' := ?_) #[false, true, true, true, false, true, true, true, true, false, false] rfl rfl (any_of HT_.out (by kernel_rfl)) (fun _ _ _ h => h) (Or.inl ⟨by rfl, ?_⟩) ?_ ?_
                                  rotate_left
                                  · intro w'
                                    go_simp
                                    with_reducible rfl
                                  rotate_left
                                  · simp only [Act.put, List.setIfInBounds_toArray, List.set_cons_zero, List.set_cons_succ, i64_w, i32_w]
                                    rfl
                                  refine one_ (i := 0) (N := some 80) #[true, true, true, true, false, true, true, true, true, false, false] rfl rfl (one_of HT_.out (by kernel_rfl)) (by decide) (fun K hK => ?_)
                                  refine Kd.R_lit_step k53 _ 53 ?hg (N := 80) ?hd (xs := ([] : List (S53))) (inner := []) (ok := fun _ => True) (okp := fun _ => True) ?hr ?hp (fun _ hk => hk) trivial (Below.refl _ _) (Nat.le_refl _) (by simp) ?_; (case hd => rfl); (case hg => rfl); (case hr => first | (go_simp; done) | (go_simp; rfl)); (case hp => exact (Reps.none _ _))
                                  intro v251 w64 ho65 hb hg_ hnew_
                                  clear hg_ hnew_
                                  (first | rw [← Ny250.out] at ho65 | (simp only [Int.reduceToNat] at ho65; rw [← Ny250.out] at ho65))
                                  have n0_ := Aside0.mk (Kd.R_below (by (with_reducible repeat (first | apply Kd.R_alloc | apply Kd.R_drewN | apply Kd.R_drew)); exact HO_7.out) hb)
                                  have n1_ := Aside0.mk (Kd.R_elder' (by (with_reducible repeat (first | apply Kd.R_alloc | apply Kd.R_drewN | apply Kd.R_drew)); exact HO_8.out) (Kd.R_base ho65) hb)
                                  have n2_ := Aside0.mk (Kd.R_elder' (by (with_reducible repeat (first | apply Kd.R_alloc | apply Kd.R_drewN | apply Kd.R_drew)); exact HO247.out) (Kd.R_base ho65) hb)
                                  have n3_ := Aside0.mk (Kd.R_lower (Kd.R_new' (Kd.R_new' ho65 (Kd.R_lt (by (with_reducible repeat (first | apply Kd.R_alloc | apply Kd.R_drewN | apply Kd.R_drew)); exact HO_8.out))) (Kd.R_lt (by (with_reducible repeat (first | apply Kd.R_alloc | apply Kd.R_drewN | apply Kd.R_drew)); exact HO247.out))) (below_size (by repeat (first | (with_reducible first | exact HB.out | apply below_alloc | apply pw_below_drewN | apply below_drew1) | exact HB.out))))
                                  have n4_ := Aside0.mk (Kd.C_below (by repeat (first | (with_reducible exact HR256.out) | (with_reducible refine Kd.C_alloc ?_ _) | (with_reducible refine Kd.C_drewN ?_ _) | (with_reducible refine Kd.C_drew ?_) | exact HR256.out)) hb)
                                  have n5_ := Aside0.mk (Kd.C_below (by repeat (first | (with_reducible exact HR263.out) | (with_reducible refine Kd.C_alloc ?_ _) | (with_reducible refine Kd.C_drewN ?_ _) | (with_reducible refine Kd.C_drew ?_) | exact HR263.out)) hb)
                                  have n6_ := Aside0.mk (below_step (by repeat (first | (with_reducible first | exact HB.out | apply below_alloc | apply pw_below_drewN | apply below_drew1) | exact HB.out)) hb)
                                  clear HO_7
                                  clear HO_8
                                  clear HO247
                                  clear HR256
                                  clear HR263
                                  clear HB
                                  have HO_7 := n0_
                                  have HO_8 := n1_
                                  have HO247 := n2_
                                  have HO252 := n3_
                                  have HR256 := n4_
                                  have HR263 := n5_
                                  have HB := n6_
                                  clear n0_ n1_ n2_ n3_ n4_ n5_ n6_
                                  clear hb ho65
                                  refine hK.out _ _ trivial (fun hHeld => ?_)
                                  clear hK K
                                  refine norm_ (a' := ?_) ?_ ?_
                                  rotate_left
                                  · show Act.put _ (some 80) _ = _
                                    simp only [Act.put, List.setIfInBounds_toArray, List.set_cons_zero, List.set_cons_succ, i64_w, i32_w]
                                    rfl
                                  refine one_ (i := 4) (N := some 84) #[true, true, true, true, true, true, true, true, true, false, false] rfl rfl (one_of HT_.out (by kernel_rfl)) (by decide) (fun K hK => ?_)
                                  refine Kd.R_append_rows_step k53 (w0 := w) w.heap.size (by rfl) (.tmp 80) (.tmp 83) 52 53 (.agg #[(.string ⟨#[]⟩), (.int .i64 0)]) 24 rfl Try.underlying52 info53 rfl (by decide) (by omega) v251 y250 y253 _ _ _ (fun k_ => some k_ ≠ (.slice Ao57 x8_1.length co57 : Value).ownBlock ∧ some k_ ≠ (.slice (some ⟨go44, 0, none⟩) y245.length co58 : Value).ownBlock) (fun _ => False) rfl rfl ?aO ?aR (fun _ _ h => h) (fun _ h => h.elim) ?aF ?aB ?aS ?aL ?_
                                  (case aR => repeat (first | exact (by repeat (first | (with_reducible exact HR256.out) | (with_reducible refine Kd.C_alloc ?_ _) | (with_reducible refine Kd.C_drewN ?_ _) | (with_reducible refine Kd.C_drew ?_) | exact HR256.out)) | (with_reducible refine Kd.C_alloc ?_ _) | (with_reducible refine Kd.C_drewN ?_ _) | (with_reducible refine Kd.C_drew ?_)))
                                  (case aB => exact (by repeat (first | (with_reducible first | exact HB.out | apply below_alloc | apply pw_below_drewN | apply below_drew1) | exact HB.out)))
                                  (case aF => exact (fun k_ hk => ⟨Kd.fresh' (Kd.R_lt (by (with_reducible repeat (first | apply Kd.R_alloc | apply Kd.R_drewN | apply Kd.R_drew)); exact HO_8.out)) k_ hk, Kd.fresh' (Kd.R_lt (by (with_reducible repeat (first | apply Kd.R_alloc | apply Kd.R_drewN | apply Kd.R_drew)); exact HO247.out)) k_ hk⟩))
                                  (case aO => exact (by (with_reducible repeat (first | apply Kd.R_alloc | apply Kd.R_drewN | apply Kd.R_drew)); exact Kd.R_mono HO252.out (fun _ hk => ⟨hk.1.2, hk.2⟩)))
                                  (case aS => exact (below_size (by repeat (first | (with_reducible first | exact HB.out | apply below_alloc | apply pw_below_drewN | apply below_drew1) | exact HB.out))))
                                  (case aL => have := LMc47.out; omega)
                                  intro v258 w66 ho hb hg hat
                                  rw [← Ny257.out] at ho
                                  have n0_ := Aside0.mk (Kd.R_over' (by (with_reducible repeat (first | apply Kd.R_alloc | apply Kd.R_drewN | apply Kd.R_drew)); exact HO_7.out) (Kd.R_typed (by (with_reducible repeat (first | apply Kd.R_alloc | apply Kd.R_drewN | apply Kd.R_drew)); exact HO252.out)) (by decide) hg)
                                  have n1_ := Aside0.mk (Kd.R_after (ok := (fun k_ => some k_ ≠ (.slice (some ⟨go44, 0, none⟩) y245.length co58 : Value).ownBlock)) (by (with_reducible repeat (first | apply Kd.R_alloc | apply Kd.R_drewN | apply Kd.R_drew)); exact Kd.R_mono HO_8.out (fun _ hk => ⟨hk.1.2, hk.2⟩)) hg hat)
                                  have n2_ := Aside0.mk (Kd.R_after (ok := (fun k_ => some k_ ≠ (.slice Ao57 x8_1.length co57 : Value).ownBlock)) (by (with_reducible repeat (first | apply Kd.R_alloc | apply Kd.R_drewN | apply Kd.R_drew)); exact HO247.out) hg hat)
                                  have n3_ := Aside0.mk (hb)
                                  have n4_ := Aside0.mk ((show Kd.C k53 w66 Ao57 y253.length y253 from by rw [Ny253.out]; exact Kd.C_take (m := ((ji41) : Int).toNat) ((Kd.R_reads' (Kd.R_after (ok := (fun k_ => some k_ ≠ (.slice (some ⟨go44, 0, none⟩) y245.length co58 : Value).ownBlock)) (by (with_reducible repeat (first | apply Kd.R_alloc | apply Kd.R_drewN | apply Kd.R_drew)); exact Kd.R_mono HO_8.out (fun _ hk => ⟨hk.1.2, hk.2⟩)) hg hat)).2.2) KL62.out))
                                  have n5_ := Aside0.mk ((show Kd.C k53 w66 A63 y260.length y260 from by rw [Ny260.out, KA63.out]; exact Kd.C_drop (m := ((ji48) : Int).toNat) (c := co57) ((Kd.R_reads' (Kd.R_after (ok := (fun k_ => some k_ ≠ (.slice (some ⟨go44, 0, none⟩) y245.length co58 : Value).ownBlock)) (by (with_reducible repeat (first | apply Kd.R_alloc | apply Kd.R_drewN | apply Kd.R_drew)); exact Kd.R_mono HO_8.out (fun _ hk => ⟨hk.1.2, hk.2⟩)) hg hat)).2.2) KL63.out ((Kd.R_reads' (Kd.R_after (ok := (fun k_ => some k_ ≠ (.slice (some ⟨go44, 0, none⟩) y245.length co58 : Value).ownBlock)) (by (with_reducible repeat (first | apply Kd.R_alloc | apply Kd.R_drewN | apply Kd.R_drew)); exact Kd.R_mono HO_8.out (fun _ hk => ⟨hk.1.2, hk.2⟩)) hg hat)).2.1)))
                                  have n6_ := Aside0.mk (ho)
                                  clear HO_7
                                  clear HO_8
                                  clear HO247
                                  clear HB
                                  clear HR256
                                  clear HR263
                                  clear HO252
                                  have HO_7 := n0_
                                  have HO_8 := n1_
                                  have HO247 := n2_
                                  have HB := n3_
                                  have HR256 := n4_
                                  have HR263 := n5_
                                  have HO259 := n6_
                                  clear n0_ n1_ n2_ n3_ n4_ n5_ n6_
                                  clear ho hb hg hat
                                  refine hK.out _ _ trivial (fun hHeld => ?_)
                                  clear hK K
                                  refine norm_ (a' := ?_) ?_ ?_
                                  rotate_left
                                  · show Act.put _ (some 84) _ = _
                                    simp only [Act.put, List.setIfInBounds_toArray, List.set_cons_zero, List.set_cons_succ, i64_w, i32_w]
                                    rfl
                                  refine one_ (i := 9) (N := some 89) #[true, true, true, true, true, true, true, true, true, true, false] rfl rfl (one_of HT_.out (by kernel_rfl)) (by decide) (fun K hK => ?_)
                                  refine Kd.R_append_rows_step k53 (w0 := w) w.heap.size (by rfl) (.tmp 84) (.tmp 88) 52 53 (.agg #[(.string ⟨#[]⟩), (.int .i64 0)]) 24 rfl Try.underlying52 info53 rfl (by decide) (by omega) v258 y257 y260 _ _ _ (fun k_ => some k_ ≠ (.slice Ao57 x8_1.length co57 : Value).ownBlock ∧ some k_ ≠ (.slice (some ⟨go44, 0, none⟩) y245.length co58 : Value).ownBlock) (fun _ => False) rfl rfl ?aO ?aR (fun _ _ h => h) (fun _ h => h.elim) ?aF ?aB ?aS ?aL ?_
                                  (case aR => repeat (first | exact (by repeat (first | (with_reducible exact HR263.out) | (with_reducible refine Kd.C_alloc ?_ _) | (with_reducible refine Kd.C_drewN ?_ _) | (with_reducible refine Kd.C_drew ?_) | exact HR263.out)) | (with_reducible refine Kd.C_alloc ?_ _) | (with_reducible refine Kd.C_drewN ?_ _) | (with_reducible refine Kd.C_drew ?_)))
                                  (case aB => exact (by repeat (first | (with_reducible first | exact HB.out | apply below_alloc | apply pw_below_drewN | apply below_drew1) | exact HB.out)))
                                  (case aF => exact (fun k_ hk => ⟨Kd.fresh' (Kd.R_lt (by (with_reducible repeat (first | apply Kd.R_alloc | apply Kd.R_drewN | apply Kd.R_drew)); exact HO_8.out)) k_ hk, Kd.fresh' (Kd.R_lt (by (with_reducible repeat (first | apply Kd.R_alloc | apply Kd.R_drewN | apply Kd.R_drew)); exact HO247.out)) k_ hk⟩))
                                  (case aO => exact (by (with_reducible repeat (first | apply Kd.R_alloc | apply Kd.R_drewN | apply Kd.R_drew)); exact HO259.out))
                                  (case aS => exact (below_size (by repeat (first | (with_reducible first | exact HB.out | apply below_alloc | apply pw_below_drewN | apply below_drew1) | exact HB.out))))
                                  (case aL => have := LMc51.out; omega)
                                  intro v265 w67 ho hb hg hat
                                  rw [← Ny264.out] at ho
                                  have n0_ := Aside0.mk (Kd.R_over' (by (with_reducible repeat (first | apply Kd.R_alloc | apply Kd.R_drewN | apply Kd.R_drew)); exact HO_7.out) (Kd.R_typed (by (with_reducible repeat (first | apply Kd.R_alloc | apply Kd.R_drewN | apply Kd.R_drew)); exact HO259.out)) (by decide) hg)
                                  have n1_ := Aside0.mk (Kd.R_after (ok := (fun k_ => some k_ ≠ (.slice (some ⟨go44, 0, none⟩) y245.length co58 : Value).ownBlock)) (by (with_reducible repeat (first | apply Kd.R_alloc | apply Kd.R_drewN | apply Kd.R_drew)); exact HO_8.out) hg hat)
                                  have n2_ := Aside0.mk (Kd.R_after (ok := (fun k_ => some k_ ≠ (.slice Ao57 x8_1.length co57 : Value).ownBlock)) (by (with_reducible repeat (first | apply Kd.R_alloc | apply Kd.R_drewN | apply Kd.R_drew)); exact HO247.out) hg hat)
                                  have n3_ := Aside0.mk (hb)
                                  have n4_ := Aside0.mk ((show Kd.C k53 w67 Ao57 y253.length y253 from by rw [Ny253.out]; exact Kd.C_take (m := ((ji41) : Int).toNat) ((Kd.R_reads' (Kd.R_after (ok := (fun k_ => some k_ ≠ (.slice (some ⟨go44, 0, none⟩) y245.length co58 : Value).ownBlock)) (by (with_reducible repeat (first | apply Kd.R_alloc | apply Kd.R_drewN | apply Kd.R_drew)); exact HO_8.out) hg hat)).2.2) KL62.out))
                                  have n5_ := Aside0.mk ((show Kd.C k53 w67 A63 y260.length y260 from by rw [Ny260.out, KA63.out]; exact Kd.C_drop (m := ((ji48) : Int).toNat) (c := co57) ((Kd.R_reads' (Kd.R_after (ok := (fun k_ => some k_ ≠ (.slice (some ⟨go44, 0, none⟩) y245.length co58 : Value).ownBlock)) (by (with_reducible repeat (first | apply Kd.R_alloc | apply Kd.R_drewN | apply Kd.R_drew)); exact HO_8.out) hg hat)).2.2) KL63.out ((Kd.R_reads' (Kd.R_after (ok := (fun k_ => some k_ ≠ (.slice (some ⟨go44, 0, none⟩) y245.length co58 : Value).ownBlock)) (by (with_reducible repeat (first | apply Kd.R_alloc | apply Kd.R_drewN | apply Kd.R_drew)); exact HO_8.out) hg hat)).2.1)))
                                  have n6_ := Aside0.mk (ho)
                                  clear HO_7
                                  clear HO_8
                                  clear HO247
                                  clear HB
                                  clear HR256
                                  clear HR263
                                  clear HO259
                                  have HO_7 := n0_
                                  have HO_8 := n1_
                                  have HO247 := n2_
                                  have HB := n3_
                                  have HR256 := n4_
                                  have HR263 := n5_
                                  have HO266 := n6_
                                  clear n0_ n1_ n2_ n3_ n4_ n5_ n6_
                                  clear ho hb hg hat
                                  refine hK.out _ _ trivial (fun hHeld => ?_)
                                  clear hK K
                                  refine norm_ (a' := ?_) ?_ ?_
                                  rotate_left
                                  · show Act.put _ (some 89) _ = _
                                    simp only [Act.put, List.setIfInBounds_toArray, List.set_cons_zero, List.set_cons_succ, i64_w, i32_w]
                                    rfl
                                  refine pure_ (i := 10) (N := some 13) (v := ?_) (a' := ?_) #[true, true, true, true, true, true, true, true, true, true, true] rfl rfl (any_of HT_.out (by kernel_rfl)) (fun _ _ _ h => h) (Or.inl ⟨by rfl, ?_⟩) ?_ ?_
                                  rotate_left
                                  · intro w'
                                    go_simp
                                    with_reducible rfl
                                  rotate_left
                                  · simp only [Act.put, List.setIfInBounds_toArray, List.set_cons_zero, List.set_cons_succ, i64_w, i32_w]
                                    rfl
                                  refine done_ (done_of HT_.out (by kernel_rfl)) ?_
                                  obtain ⟨Ao68, co68, eo68⟩ := Kd.R_slice HO_7.out
                                  subst eo68
                                  try go_wp2_with (first | ((with_reducible refine gate_callee (f := 27) rfl ?_); refine goesL_ (some 92) rfl rfl Try.func27 (by kernel_rfl) rfl #[.slice Ao68 x7_1.length co68, .slice (some ⟨go44, 0, none⟩) y249.length co58] rfl (by (try simp only [List.map_toArray, List.map_cons, List.map_nil]); first | done | (rw [show y249.length = y245.length from (Kd.R_reads' HO247.out).1.symm] <;> rfl) | rfl | (simp only [List.length_drop, List.length_take]; rfl)) ?_; (with_reducible refine (bound_Fresh.calls kj21 _ _ x7_1 _ _ y249 true _ ?side1 ?side2 ?side3 ?side4 A52.out).mono ?_); (case side1 => repeat (first | exact (Kd.R_reads' HO_7.out).2.2 | (with_reducible refine Kd.C_alloc ?_ _) | (with_reducible refine Kd.C_drewN ?_ _) | (with_reducible refine Kd.C_drew ?_))); (case side2 => exact (Kd.R_reads' HO_7.out).2.1); (case side3 => repeat (first | exact (Kd.R_reads' HO247.out).2.2 | (with_reducible refine Kd.C_alloc ?_ _) | (with_reducible refine Kd.C_drewN ?_ _) | (with_reducible refine Kd.C_drew ?_))); (case side4 => rw [show y249.length = y245.length from (Kd.R_reads' HO247.out).1.symm]; exact (Kd.R_reads' HO247.out).2.1); rintro e w69 ⟨rfl, hb⟩; refine ⟨_, rfl, ?_⟩; have n0_ := Aside0.mk (Kd.R_below (by (with_reducible repeat (first | apply Kd.R_alloc | apply Kd.R_drewN | apply Kd.R_drew)); exact HO_7.out) hb); have n1_ := Aside0.mk (Kd.R_below (by (with_reducible repeat (first | apply Kd.R_alloc | apply Kd.R_drewN | apply Kd.R_drew)); exact HO_8.out) hb); have n2_ := Aside0.mk (Kd.R_below (by (with_reducible repeat (first | apply Kd.R_alloc | apply Kd.R_drewN | apply Kd.R_drew)); exact HO247.out) hb); have n3_ := Aside0.mk (Kd.R_below (by (with_reducible repeat (first | apply Kd.R_alloc | apply Kd.R_drewN | apply Kd.R_drew)); exact HO266.out) hb); have n4_ := Aside0.mk (Kd.C_below (by repeat (first | (with_reducible exact HR256.out) | (with_reducible refine Kd.C_alloc ?_ _) | (with_reducible refine Kd.C_drewN ?_ _) | (with_reducible refine Kd.C_drew ?_) | exact HR256.out)) hb); have n5_ := Aside0.mk (Kd.C_below (by repeat (first | (with_reducible exact HR263.out) | (with_reducible refine Kd.C_alloc ?_ _) | (with_reducible refine Kd.C_drewN ?_ _) | (with_reducible refine Kd.C_drew ?_) | exact HR263.out)) hb); have n6_ := Aside0.mk (below_step (by repeat (first | (with_reducible first | exact HB.out | apply below_alloc | apply pw_below_drewN | apply below_drew1) | exact HB.out)) hb); clear HO_7; clear HO_8; clear HO247; clear HO266; clear HR256; clear HR263; clear HB; have HO_7 := n0_; have HO_8 := n1_; have HO247 := n2_; have HO266 := n3_; have HR256 := n4_; have HR263 := n5_; have HB := n6_; clear n0_ n1_ n2_ n3_ n4_ n5_ n6_; (try clear hb); (try clear hb2); (try clear hk); (try clear hi)))
                                  go_ret
                                  exact ⟨by first | rfl | (simp [errW_none, errW_some] <;> rfl) | (simp only [← hji4, ← hji41, ← hji48]; first | rfl | (simp [errW_none, errW_some] <;> rfl)) | (simp [*, errW_none, errW_some] <;> rfl), by repeat (first | (with_reducible first | exact HB.out | apply below_alloc | apply pw_below_drewN | apply below_drew1) | exact HB.out)⟩
                                · replace c53 := Bool.eq_false_iff.mpr c53
                                  subst c53
                                  have H1 : ((bound_Fresh.f kj21 x7_1 y264).bind fun t268 => (if t268 = true then (some false) else ((slipwaylaw9_awake.f kj21).bind fun t269 => (some t269)))) = some r := by rw [if_neg (show ¬ (false = true) by decide)] at H; exact H
                                  clear H
                                  have H := H1
                                  clear H1
                                  replace H := Option.bind_eq_some_iff.mp H
                                  obtain ⟨t268, A700, H⟩ := H
                                  replace H : (if t268 = true then (some false) else ((slipwaylaw9_awake.f kj21).bind fun t269 => (some t269))) = some r := H
                                  have A70 := Aside0.mk A700
                                  clear A700
                                  by_cases c71 : t268 = true
                                  · subst c71
                                    have H1 : (some false) = some r := by rw [if_pos rfl] at H; exact H
                                    clear H
                                    have H := H1
                                    clear H1
                                    obtain rfl := Option.some.inj H
                                    try go_wp2_with (first | ((with_reducible refine gate_dst (N := 65) rfl ?_); refine Kd.R_lit k53 _ 53 ?hg (N := 65) ?hd (xs := ([] : List (S53))) (inner := []) (ok := fun _ => True) (okp := fun _ => True) ?hr ?hp (fun _ hk => hk) trivial (Below.refl _ _) (Nat.le_refl _) (by simp) ?_; (case hd => rfl); (case hg => rfl); (case hr => first | (go_simp; done) | (go_simp; rfl)); (case hp => exact (Reps.none _ _)); intro v243 w72 ho73 hb hg_ hnew_; clear hg_ hnew_; (first | rw [← Ny242.out] at ho73 | (simp only [Int.reduceToNat] at ho73; rw [← Ny242.out] at ho73)); have n0_ := Aside0.mk (Kd.R_below (by (with_reducible repeat (first | apply Kd.R_alloc | apply Kd.R_drewN | apply Kd.R_drew)); exact HO_7.out) hb); have n1_ := Aside0.mk (Kd.R_elder' (by (with_reducible repeat (first | apply Kd.R_alloc | apply Kd.R_drewN | apply Kd.R_drew)); exact HO_8.out) (Kd.R_base ho73) hb); have n2_ := Aside0.mk (Kd.R_lower (Kd.R_new' ho73 (Kd.R_lt (by (with_reducible repeat (first | apply Kd.R_alloc | apply Kd.R_drewN | apply Kd.R_drew)); exact HO_8.out))) (below_size (by repeat (first | (with_reducible first | exact HB.out | apply below_alloc | apply pw_below_drewN | apply below_drew1) | exact HB.out)))); have n3_ := Aside0.mk (below_step (by repeat (first | (with_reducible first | exact HB.out | apply below_alloc | apply pw_below_drewN | apply below_drew1) | exact HB.out)) hb); clear HO_7; clear HO_8; clear HB; have HO_7 := n0_; have HO_8 := n1_; have HO244 := n2_; have HB := n3_; clear n0_ n1_ n2_ n3_; clear hb ho73; obtain ⟨Ao75, co75, eo75⟩ := Kd.R_slice HO_8.out; subst eo75) | ((with_reducible refine gate_builtin (b := .append) (xs := #[.tmp 65, .tmp 66]) rfl ?_); at_builtin; refine Kd.R_append_rows k53 (w0 := w) w.heap.size rfl (.tmp 65) (.tmp 66) 52 53 (.agg #[(.string ⟨#[]⟩), (.int .i64 0)]) 24 rfl Try.underlying52 info53 rfl (by decide) (by omega) v243 y242 x8_1 _ _ _ (fun k_ => some k_ ≠ (.slice Ao75 x8_1.length co75 : Value).ownBlock) (fun _ => False) rfl rfl ?aO ?aR (fun _ _ h => h) (fun _ h => h.elim) ?aF ?aB ?aS ?aL ?_; (case aR => repeat (first | exact (Kd.R_reads' HO_8.out).2.2 | (with_reducible refine Kd.C_alloc ?_ _) | (with_reducible refine Kd.C_drewN ?_ _) | (with_reducible refine Kd.C_drew ?_))); (case aB => exact (by repeat (first | (with_reducible first | exact HB.out | apply below_alloc | apply pw_below_drewN | apply below_drew1) | exact HB.out))); (case aF => exact (fun k_ hk => Kd.fresh' (Kd.R_lt (by (with_reducible repeat (first | apply Kd.R_alloc | apply Kd.R_drewN | apply Kd.R_drew)); exact HO_8.out)) k_ hk)); (case aO => exact (by (with_reducible repeat (first | apply Kd.R_alloc | apply Kd.R_drewN | apply Kd.R_drew)); exact Kd.R_mono HO244.out (fun _ hk => hk.2))); (case aS => exact (below_size (by repeat (first | (with_reducible first | exact HB.out | apply below_alloc | apply pw_below_drewN | apply below_drew1) | exact HB.out)))); (case aL => have := LMc40.out; omega); intro v246 w74 ho hb hg hat; rw [← Ny245.out] at ho; have n0_ := Aside0.mk (Kd.R_over' (by (with_reducible repeat (first | apply Kd.R_alloc | apply Kd.R_drewN | apply Kd.R_drew)); exact HO_7.out) (Kd.R_typed (by (with_reducible repeat (first | apply Kd.R_alloc | apply Kd.R_drewN | apply Kd.R_drew)); exact HO244.out)) (by decide) hg); have n1_ := Aside0.mk (Kd.R_after (ok := (fun _ => True)) (by (with_reducible repeat (first | apply Kd.R_alloc | apply Kd.R_drewN | apply Kd.R_drew)); exact HO_8.out) hg hat); have n2_ := Aside0.mk (hb); have n3_ := Aside0.mk (ho); clear HO_7; clear HO_8; clear HB; clear HO244; have HO_7 := n0_; have HO_8 := n1_; have HB := n2_; have HO247 := n3_; clear n0_ n1_ n2_ n3_; clear ho hb hg hat; obtain ⟨Ao76, co76, eo76⟩ := Kd.R_slice HO247.out; subst eo76; have p248 : 0 ≤ ((ji41) : Int) := of_decide_eq_true (by first | (with_reducible assumption) | assumption); have q248 : (ji41) < (y245.length : Int) := of_decide_eq_true (by first | (with_reducible assumption) | assumption); obtain ⟨ad248, e248, hx248_0, hx248_1⟩ := at_T53 (Kd.R_reads' HO247.out).2.2 (ji41) p248 q248; cases e248; replace p248 := eq_true p248; replace q248 := eq_true q248; have p44 : 0 ≤ ((ji41) : Int) := of_decide_eq_true (by first | (with_reducible assumption) | assumption); have q44 : ((ji41) : Int) < ((y245.length : Int) : Int) := of_decide_eq_true (by first | (with_reducible assumption) | assumption); obtain ⟨go44, co44, eo44, gb44, gl44, cl44, HG44⟩ := Kd.R_form HO247.out (by omega); (first | cases eo44 | (injection eo44 with ea_ en_ ec_; (first | subst ea_ | (injection ea_ with ea_; subst ea_)); subst ec_; clear en_)); have GB44 := Aside0.mk gb44; have GG44 := Aside0.mk HG44; clear gb44 gl44 HG44; (first | simp only [add_plain] at hx248_0 | skip); (first | simp only [add_plain] at hx248_1 | skip); obtain ⟨ce44, hcl44, hM44, hcc44, hfr44⟩ := Kd.R_elem HO247.out z53 ((ji41) : Int) p44 q44; obtain rfl := k53_openM hM44; have hx44_0 : w74.cell? ⟨go44, ((ji41) : Int).toNat * 2, none⟩ = some (.string ((rd_T53 y245 (ji41)).f0)) := hcc44 0 _ rfl; have hx44_1 : w74.cell? ⟨go44, ((ji41) : Int).toNat * 2 + 1, none⟩ = some (.int .i64 ((rd_T53 y245 (ji41)).f1)) := hcc44 1 _ rfl; have hf44_0 : w74.frozen? ⟨go44, ((ji41) : Int).toNat * 2, none⟩ = false := hfr44 0; have hf44_1 : w74.frozen? ⟨go44, ((ji41) : Int).toNat * 2 + 1, none⟩ = false := hfr44 1; clear hcl44 hcc44 hfr44 hM44; replace p44 := eq_true p44; replace q44 := eq_true q44; have HX77 := Aside0.mk (show Kd.R k53 53 w74 w.heap.size (fun k_ => some k_ ≠ (.slice Ao75 x8_1.length co75 : Value).ownBlock) (.slice (some ⟨go44, 0, none⟩) y245.length co76) y245 from (by (with_reducible repeat (first | apply Kd.R_alloc | apply Kd.R_drewN | apply Kd.R_drew)); exact HO247.out)); obtain ⟨ce77, hcl77, hM77, hcc77, hfr77⟩ := Kd.R_elem HX77.out z53 ((ji41) : Int) (of_decide_eq_true (by first | (with_reducible assumption) | assumption)) (by have h_ : ((ji41) : Int) < ((y245.length : Int) : Int) := of_decide_eq_true (by first | (with_reducible assumption) | assumption); first | exact h_ | (have e_ := (Kd.R_reads' HO247.out).1; omega) | simpa using h_); obtain rfl := k53_openM hM77; have HP77 := Kd.R_seg HX77.out ((ji41) : Int) (of_decide_eq_true (by first | (with_reducible assumption) | assumption)) (by have h_ : ((ji41) : Int) < ((y245.length : Int) : Int) := of_decide_eq_true (by first | (with_reducible assumption) | assumption); first | exact h_ | (have e_ := (Kd.R_reads' HO247.out).1; omega) | simpa using h_) (seg := [.int .i64 (Go.bits .xor .i64 ((rd_T53 y245 (ji41)).f1) (Go.bits .or .i64 a2 1))]) (j := 1) hcl77 hcc77 (show 2 ≤ 2 from by decide) (x' := (⟨(rd_T53 y245 (ji41)).f0, Go.bits .xor .i64 ((rd_T53 y245 (ji41)).f1) (Go.bits .or .i64 a2 1)⟩ : S53)) (k53_mkM _ _ _ (⟨(rd_T53 y245 (ji41)).f0, Go.bits .xor .i64 ((rd_T53 y245 (ji41)).f1) (Go.bits .or .i64 a2 1)⟩ : S53) ) (fun _ hk => hk); have hx77_1 := hcc77 1 _ rfl; (try simp only [show (k53).sz = 2 from rfl, Nat.mul_one, Nat.add_zero] at hx77_1); have hf77_1 := hfr77 1; (try simp only [show (k53).sz = 2 from rfl, Nat.mul_one, Nat.add_zero] at hf77_1); clear hcl77 hcc77 hfr77 hM77) | ((with_reducible refine gate_store (t := 3) (p := 79) rfl ?_); refine store_event (t := 3) (p := 79) (v := ?vo_w78) (w1 := (w74.setCell ⟨go44, ((ji41) : Int).toNat * 2 + 1, none⟩ (.int .i64 (Go.bits .xor .i64 ((rd_T53 y245 (ji41)).f1) (Go.bits .or .i64 a2 1))))) ?hg ?ho ?hn ?hr ?_; (case ho => rfl); (case hg => rfl); (case hn => rfl); (case hr => first | (go_simp; done) | (go_simp; rfl)); intro w78 hw; have hg : w74.grownBy w78 (some go44) := (by rw [hw]; exact HP77.2); have hp_ : Kd.R k53 53 w78 w.heap.size (fun k_ => some k_ ≠ (.slice Ao75 x8_1.length co75 : Value).ownBlock) (.slice (some ⟨go44, 0, none⟩) y245.length co76) y249 := (by rw [hw, Ny249.out]; exact HP77.1); clear HP77; have n0_ := Aside0.mk (Kd.R_over' (v := (.slice (some ⟨go44, 0, none⟩) y245.length co76)) (by (with_reducible repeat (first | apply Kd.R_alloc | apply Kd.R_drewN | apply Kd.R_drew)); exact HO_7.out) (Kd.R_typed HO247.out) (by decide) hg); have n1_ := Aside0.mk (Kd.R_after (v := (.slice (some ⟨go44, 0, none⟩) y245.length co76)) (v1 := (.slice (some ⟨go44, 0, none⟩) y245.length co76)) (ok := (fun _ => True)) (by (with_reducible repeat (first | apply Kd.R_alloc | apply Kd.R_drewN | apply Kd.R_drew)); exact HO_8.out) hg (.inl rfl)); have n2_ := Aside0.mk (hp_); have n3_ := Aside0.mk ((by rw [hw]; exact below_set (HB.out) GB44.out : Below w.heap.size w w78)); clear HO_7; clear HO_8; clear HO247; clear HB; have HO_7 := n0_; have HO_8 := n1_; have HO247 := n2_; have HB := n3_; clear n0_ n1_ n2_ n3_; clear hg hw hp_))
                                    have n0_ := Aside0.mk (Kd.R_drew HO_7.out)
                                    have n1_ := Aside0.mk (Kd.R_drew HO_8.out)
                                    have n2_ := Aside0.mk (Kd.R_drew HO247.out)
                                    have n3_ := Aside0.mk (below_drew1 HB.out)
                                    clear HO_7
                                    clear HO_8
                                    clear HO247
                                    clear HB
                                    have HO_7 := n0_
                                    have HO_8 := n1_
                                    have HO247 := n2_
                                    have HB := n3_
                                    clear n0_ n1_ n2_ n3_
                                    have q80 : ((ji41) : Int) ≤ ((x8_1.length : Int) : Int) := of_decide_eq_true (by first | (with_reducible assumption) | assumption)
                                    obtain ⟨i080, hi080, _, hsz80, _⟩ := info_parts info53
                                    have hroom80 : x8_1.length ≤ co75 := (Kd.R_reads' HO_8.out).2.1
                                    have hC80 : Kd.C k53 _ Ao75 x8_1.length x8_1 := (Kd.R_reads' HO_8.out).2.2
                                    have hcut80 := cut_to (P := Try.prog) 52 53 .i64 Try.underlying52 hi080 Ao75 x8_1.length co75 (ji41) (of_decide_eq_true (by first | (with_reducible assumption) | assumption)) q80 hroom80
                                    have hr80 := Kd.C_take (m := ((ji41) : Int).toNat) hC80 (by omega)
                                    have hy80 : y253.length = ((ji41) : Int).toNat := (by rw [Ny253.out, List.length_take]; omega)
                                    rw [← Ny253.out] at hr80
                                    rw [← hy80] at hcut80
                                    have HR256 := Aside0.mk hr80
                                    have HC256 := Aside0.mk (show y253.length ≤ co75 from by omega)
                                    clear hr80 hC80 hroom80 hi080 hsz80
                                    have KY80 := Aside0.mk hy80
                                    clear hy80
                                    have KL80 := Aside0.mk (show ((ji41) : Int).toNat ≤ x8_1.length from by omega)
                                    replace q80 := eq_true q80
                                    have q81 : ((ji48) : Int) ≤ ((x8_1.length : Int) : Int) := of_decide_eq_true (by first | (with_reducible assumption) | assumption)
                                    obtain ⟨i081, hi081, _, hsz81, _⟩ := info_parts info53
                                    have hroom81 : x8_1.length ≤ co75 := (Kd.R_reads' HO_8.out).2.1
                                    have hC81 : Kd.C k53 _ Ao75 x8_1.length x8_1 := (Kd.R_reads' HO_8.out).2.2
                                    have q081 : (0 : Int) ≤ ((ji48) : Int) := of_decide_eq_true (by first | (with_reducible assumption) | assumption)
                                    have hcut81 := cut_from (P := Try.prog) 52 53 .i64 Try.underlying52 hi081 2 hsz81 Ao75 x8_1.length co75 (ji48) q081 q81
                                    have hr81 := Kd.C_drop (m := ((ji48) : Int).toNat) (c := co75) hC81 (by omega) hroom81
                                    obtain ⟨A81, hA81⟩ : ∃ A1, A1 = (if co75 = ((ji48) : Int).toNat then Ao75 else (Ao75 : Option Addr).map (·.add (((ji48) : Int).toNat * 2))) := ⟨_, rfl⟩
                                    obtain ⟨c81, hc81⟩ : ∃ c1, c1 = co75 - ((ji48) : Int).toNat := ⟨_, rfl⟩
                                    have hy81 : y260.length = x8_1.length - ((ji48) : Int).toNat := (by rw [Ny260.out, List.length_drop] <;> omega)
                                    rw [show (x8_1).drop ((ji48) : Int).toNat = y260 from Ny260.out.symm] at hr81
                                    replace hr81 : Kd.C k53 _ A81 y260.length y260 := (by rw [hA81]; exact hr81)
                                    rw [← hy81, ← hA81, ← hc81] at hcut81
                                    have HR263 := Aside0.mk hr81
                                    have HC263 := Aside0.mk (show y260.length ≤ c81 from by rw [hy81, hc81]; exact Nat.sub_le_sub_right hroom81 _)
                                    clear hr81 hC81 hroom81 hi081 hsz81 hc81
                                    have KY81 := Aside0.mk hy81
                                    have KA81 := Aside0.mk hA81
                                    clear hy81 hA81
                                    have KL81 := Aside0.mk (show ((ji48) : Int).toNat ≤ x8_1.length from by omega)
                                    replace q81 := eq_true q81
                                    refine start_ (n := 11) (S := fun w' => True) (ds := []) #[false, false, false, false, false, false, false, false, false, false, false] (by kernel_rfl) rfl rfl trivial (fun hHeld => ?_); refine with_tabW slipwaylaw9_BoundFresh.tab14 slipwaylaw9_BoundFresh.bits14 (fun HT_ HW_ => ?_)
                                    generalize w78.drew = w79 at HO_7 HO_8 HO247 HB HR256 HR263 hHeld ⊢
                                    refine pure_ (i := 1) (N := some 81) (v := ?_) (a' := ?_) #[false, true, false, false, false, false, false, false, false, false, false] rfl rfl (any_of HT_.out (by kernel_rfl)) (fun _ _ _ h => h) (Or.inl ⟨by rfl, ?_⟩) ?_ ?_
                                    rotate_left
                                    · intro w'
                                      go_simp
                                      with_reducible rfl
                                    rotate_left
                                    · simp only [Act.put, List.setIfInBounds_toArray, List.set_cons_zero, List.set_cons_succ, i64_w, i32_w]
                                      rfl
                                    refine pure_ (i := 2) (N := some 82) (v := ?_) (a' := ?_) #[false, true, true, false, false, false, false, false, false, false, false] rfl rfl (any_of HT_.out (by kernel_rfl)) (fun _ _ _ h => h) (Or.inl ⟨by rfl, ?_⟩) ?_ ?_
                                    rotate_left
                                    · intro w'
                                      go_simp
                                      with_reducible rfl
                                    rotate_left
                                    · simp only [Act.put, List.setIfInBounds_toArray, List.set_cons_zero, List.set_cons_succ, i64_w, i32_w]
                                      rfl
                                    refine pure_ (i := 3) (N := some 83) (v := ?_) (a' := ?_) #[false, true, true, true, false, false, false, false, false, false, false] rfl rfl (any_of HT_.out (by kernel_rfl)) (fun _ _ _ h => h) (Or.inl ⟨by rfl, ?_⟩) ?_ ?_
                                    rotate_left
                                    · intro w'
                                      go_simp
                                      with_reducible rfl
                                    rotate_left
                                    · simp only [Act.put, List.setIfInBounds_toArray, List.set_cons_zero, List.set_cons_succ, i64_w, i32_w]
                                      rfl
                                    refine pure_ (i := 5) (N := some 85) (v := ?_) (a' := ?_) #[false, true, true, true, false, true, false, false, false, false, false] rfl rfl (any_of HT_.out (by kernel_rfl)) (fun _ _ _ h => h) (Or.inl ⟨by rfl, ?_⟩) ?_ ?_
                                    rotate_left
                                    · intro w'
                                      go_simp
                                      with_reducible rfl
                                    rotate_left
                                    · simp only [Act.put, List.setIfInBounds_toArray, List.set_cons_zero, List.set_cons_succ, i64_w, i32_w]
                                      rfl
                                    refine pure_ (i := 6) (N := some 86) (v := ?_) (a' := ?_) #[false, true, true, true, false, true, true, false, false, false, false] rfl rfl (any_of HT_.out (by kernel_rfl)) (fun _ _ _ h => h) (Or.inl ⟨by rfl, ?_⟩) ?_ ?_
                                    rotate_left
                                    · intro w'
                                      go_simp
                                      with_reducible rfl
                                    rotate_left
                                    · simp only [Act.put, List.setIfInBounds_toArray, List.set_cons_zero, List.set_cons_succ, i64_w, i32_w]
                                      rfl
                                    refine pure_ (i := 7) (N := some 87) (v := ?_) (a' := ?_) #[false, true, true, true, false, true, true, true, false, false, false] rfl rfl (any_of HT_.out (by kernel_rfl)) (fun _ _ _ h => h) (Or.inl ⟨by rfl, ?_⟩) ?_ ?_
                                    rotate_left
                                    · intro w'
                                      go_simp
                                      with_reducible rfl
                                    rotate_left
                                    · simp only [Act.put, List.setIfInBounds_toArray, List.set_cons_zero, List.set_cons_succ, i64_w, i32_w]
                                      rfl
                                    refine pure_ (i := 8) (N := some 88) (v := ?_) (a' := ?_) #[false, true, true, true, false, true, true, true, true, false, false] rfl rfl (any_of HT_.out (by kernel_rfl)) (fun _ _ _ h => h) (Or.inl ⟨by rfl, ?_⟩) ?_ ?_
                                    rotate_left
                                    · intro w'
                                      go_simp
                                      with_reducible rfl
                                    rotate_left
                                    · simp only [Act.put, List.setIfInBounds_toArray, List.set_cons_zero, List.set_cons_succ, i64_w, i32_w]
                                      rfl
                                    refine one_ (i := 0) (N := some 80) #[true, true, true, true, false, true, true, true, true, false, false] rfl rfl (one_of HT_.out (by kernel_rfl)) (by decide) (fun K hK => ?_)
                                    refine Kd.R_lit_step k53 _ 53 ?hg (N := 80) ?hd (xs := ([] : List (S53))) (inner := []) (ok := fun _ => True) (okp := fun _ => True) ?hr ?hp (fun _ hk => hk) trivial (Below.refl _ _) (Nat.le_refl _) (by simp) ?_; (case hd => rfl); (case hg => rfl); (case hr => first | (go_simp; done) | (go_simp; rfl)); (case hp => exact (Reps.none _ _))
                                    intro v251 w82 ho83 hb hg_ hnew_
                                    clear hg_ hnew_
                                    (first | rw [← Ny250.out] at ho83 | (simp only [Int.reduceToNat] at ho83; rw [← Ny250.out] at ho83))
                                    have n0_ := Aside0.mk (Kd.R_below (by (with_reducible repeat (first | apply Kd.R_alloc | apply Kd.R_drewN | apply Kd.R_drew)); exact HO_7.out) hb)
                                    have n1_ := Aside0.mk (Kd.R_elder' (by (with_reducible repeat (first | apply Kd.R_alloc | apply Kd.R_drewN | apply Kd.R_drew)); exact HO_8.out) (Kd.R_base ho83) hb)
                                    have n2_ := Aside0.mk (Kd.R_elder' (by (with_reducible repeat (first | apply Kd.R_alloc | apply Kd.R_drewN | apply Kd.R_drew)); exact HO247.out) (Kd.R_base ho83) hb)
                                    have n3_ := Aside0.mk (Kd.R_lower (Kd.R_new' (Kd.R_new' ho83 (Kd.R_lt (by (with_reducible repeat (first | apply Kd.R_alloc | apply Kd.R_drewN | apply Kd.R_drew)); exact HO_8.out))) (Kd.R_lt (by (with_reducible repeat (first | apply Kd.R_alloc | apply Kd.R_drewN | apply Kd.R_drew)); exact HO247.out))) (below_size (by repeat (first | (with_reducible first | exact HB.out | apply below_alloc | apply pw_below_drewN | apply below_drew1) | exact HB.out))))
                                    have n4_ := Aside0.mk (Kd.C_below (by repeat (first | (with_reducible exact HR256.out) | (with_reducible refine Kd.C_alloc ?_ _) | (with_reducible refine Kd.C_drewN ?_ _) | (with_reducible refine Kd.C_drew ?_) | exact HR256.out)) hb)
                                    have n5_ := Aside0.mk (Kd.C_below (by repeat (first | (with_reducible exact HR263.out) | (with_reducible refine Kd.C_alloc ?_ _) | (with_reducible refine Kd.C_drewN ?_ _) | (with_reducible refine Kd.C_drew ?_) | exact HR263.out)) hb)
                                    have n6_ := Aside0.mk (below_step (by repeat (first | (with_reducible first | exact HB.out | apply below_alloc | apply pw_below_drewN | apply below_drew1) | exact HB.out)) hb)
                                    clear HO_7
                                    clear HO_8
                                    clear HO247
                                    clear HR256
                                    clear HR263
                                    clear HB
                                    have HO_7 := n0_
                                    have HO_8 := n1_
                                    have HO247 := n2_
                                    have HO252 := n3_
                                    have HR256 := n4_
                                    have HR263 := n5_
                                    have HB := n6_
                                    clear n0_ n1_ n2_ n3_ n4_ n5_ n6_
                                    clear hb ho83
                                    refine hK.out _ _ trivial (fun hHeld => ?_)
                                    clear hK K
                                    refine norm_ (a' := ?_) ?_ ?_
                                    rotate_left
                                    · show Act.put _ (some 80) _ = _
                                      simp only [Act.put, List.setIfInBounds_toArray, List.set_cons_zero, List.set_cons_succ, i64_w, i32_w]
                                      rfl
                                    refine one_ (i := 4) (N := some 84) #[true, true, true, true, true, true, true, true, true, false, false] rfl rfl (one_of HT_.out (by kernel_rfl)) (by decide) (fun K hK => ?_)
                                    refine Kd.R_append_rows_step k53 (w0 := w) w.heap.size (by rfl) (.tmp 80) (.tmp 83) 52 53 (.agg #[(.string ⟨#[]⟩), (.int .i64 0)]) 24 rfl Try.underlying52 info53 rfl (by decide) (by omega) v251 y250 y253 _ _ _ (fun k_ => some k_ ≠ (.slice Ao75 x8_1.length co75 : Value).ownBlock ∧ some k_ ≠ (.slice (some ⟨go44, 0, none⟩) y245.length co76 : Value).ownBlock) (fun _ => False) rfl rfl ?aO ?aR (fun _ _ h => h) (fun _ h => h.elim) ?aF ?aB ?aS ?aL ?_
                                    (case aR => repeat (first | exact (by repeat (first | (with_reducible exact HR256.out) | (with_reducible refine Kd.C_alloc ?_ _) | (with_reducible refine Kd.C_drewN ?_ _) | (with_reducible refine Kd.C_drew ?_) | exact HR256.out)) | (with_reducible refine Kd.C_alloc ?_ _) | (with_reducible refine Kd.C_drewN ?_ _) | (with_reducible refine Kd.C_drew ?_)))
                                    (case aB => exact (by repeat (first | (with_reducible first | exact HB.out | apply below_alloc | apply pw_below_drewN | apply below_drew1) | exact HB.out)))
                                    (case aF => exact (fun k_ hk => ⟨Kd.fresh' (Kd.R_lt (by (with_reducible repeat (first | apply Kd.R_alloc | apply Kd.R_drewN | apply Kd.R_drew)); exact HO_8.out)) k_ hk, Kd.fresh' (Kd.R_lt (by (with_reducible repeat (first | apply Kd.R_alloc | apply Kd.R_drewN | apply Kd.R_drew)); exact HO247.out)) k_ hk⟩))
                                    (case aO => exact (by (with_reducible repeat (first | apply Kd.R_alloc | apply Kd.R_drewN | apply Kd.R_drew)); exact Kd.R_mono HO252.out (fun _ hk => ⟨hk.1.2, hk.2⟩)))
                                    (case aS => exact (below_size (by repeat (first | (with_reducible first | exact HB.out | apply below_alloc | apply pw_below_drewN | apply below_drew1) | exact HB.out))))
                                    (case aL => have := LMc47.out; omega)
                                    intro v258 w84 ho hb hg hat
                                    rw [← Ny257.out] at ho
                                    have n0_ := Aside0.mk (Kd.R_over' (by (with_reducible repeat (first | apply Kd.R_alloc | apply Kd.R_drewN | apply Kd.R_drew)); exact HO_7.out) (Kd.R_typed (by (with_reducible repeat (first | apply Kd.R_alloc | apply Kd.R_drewN | apply Kd.R_drew)); exact HO252.out)) (by decide) hg)
                                    have n1_ := Aside0.mk (Kd.R_after (ok := (fun k_ => some k_ ≠ (.slice (some ⟨go44, 0, none⟩) y245.length co76 : Value).ownBlock)) (by (with_reducible repeat (first | apply Kd.R_alloc | apply Kd.R_drewN | apply Kd.R_drew)); exact Kd.R_mono HO_8.out (fun _ hk => ⟨hk.1.2, hk.2⟩)) hg hat)
                                    have n2_ := Aside0.mk (Kd.R_after (ok := (fun k_ => some k_ ≠ (.slice Ao75 x8_1.length co75 : Value).ownBlock)) (by (with_reducible repeat (first | apply Kd.R_alloc | apply Kd.R_drewN | apply Kd.R_drew)); exact HO247.out) hg hat)
                                    have n3_ := Aside0.mk (hb)
                                    have n4_ := Aside0.mk ((show Kd.C k53 w84 Ao75 y253.length y253 from by rw [Ny253.out]; exact Kd.C_take (m := ((ji41) : Int).toNat) ((Kd.R_reads' (Kd.R_after (ok := (fun k_ => some k_ ≠ (.slice (some ⟨go44, 0, none⟩) y245.length co76 : Value).ownBlock)) (by (with_reducible repeat (first | apply Kd.R_alloc | apply Kd.R_drewN | apply Kd.R_drew)); exact Kd.R_mono HO_8.out (fun _ hk => ⟨hk.1.2, hk.2⟩)) hg hat)).2.2) KL80.out))
                                    have n5_ := Aside0.mk ((show Kd.C k53 w84 A81 y260.length y260 from by rw [Ny260.out, KA81.out]; exact Kd.C_drop (m := ((ji48) : Int).toNat) (c := co75) ((Kd.R_reads' (Kd.R_after (ok := (fun k_ => some k_ ≠ (.slice (some ⟨go44, 0, none⟩) y245.length co76 : Value).ownBlock)) (by (with_reducible repeat (first | apply Kd.R_alloc | apply Kd.R_drewN | apply Kd.R_drew)); exact Kd.R_mono HO_8.out (fun _ hk => ⟨hk.1.2, hk.2⟩)) hg hat)).2.2) KL81.out ((Kd.R_reads' (Kd.R_after (ok := (fun k_ => some k_ ≠ (.slice (some ⟨go44, 0, none⟩) y245.length co76 : Value).ownBlock)) (by (with_reducible repeat (first | apply Kd.R_alloc | apply Kd.R_drewN | apply Kd.R_drew)); exact Kd.R_mono HO_8.out (fun _ hk => ⟨hk.1.2, hk.2⟩)) hg hat)).2.1)))
                                    have n6_ := Aside0.mk (ho)
                                    clear HO_7
                                    clear HO_8
                                    clear HO247
                                    clear HB
                                    clear HR256
                                    clear HR263
                                    clear HO252
                                    have HO_7 := n0_
                                    have HO_8 := n1_
                                    have HO247 := n2_
                                    have HB := n3_
                                    have HR256 := n4_
                                    have HR263 := n5_
                                    have HO259 := n6_
                                    clear n0_ n1_ n2_ n3_ n4_ n5_ n6_
                                    clear ho hb hg hat
                                    refine hK.out _ _ trivial (fun hHeld => ?_)
                                    clear hK K
                                    refine norm_ (a' := ?_) ?_ ?_
                                    rotate_left
                                    · show Act.put _ (some 84) _ = _
                                      simp only [Act.put, List.setIfInBounds_toArray, List.set_cons_zero, List.set_cons_succ, i64_w, i32_w]
                                      rfl
                                    refine one_ (i := 9) (N := some 89) #[true, true, true, true, true, true, true, true, true, true, false] rfl rfl (one_of HT_.out (by kernel_rfl)) (by decide) (fun K hK => ?_)
                                    refine Kd.R_append_rows_step k53 (w0 := w) w.heap.size (by rfl) (.tmp 84) (.tmp 88) 52 53 (.agg #[(.string ⟨#[]⟩), (.int .i64 0)]) 24 rfl Try.underlying52 info53 rfl (by decide) (by omega) v258 y257 y260 _ _ _ (fun k_ => some k_ ≠ (.slice Ao75 x8_1.length co75 : Value).ownBlock ∧ some k_ ≠ (.slice (some ⟨go44, 0, none⟩) y245.length co76 : Value).ownBlock) (fun _ => False) rfl rfl ?aO ?aR (fun _ _ h => h) (fun _ h => h.elim) ?aF ?aB ?aS ?aL ?_
                                    (case aR => repeat (first | exact (by repeat (first | (with_reducible exact HR263.out) | (with_reducible refine Kd.C_alloc ?_ _) | (with_reducible refine Kd.C_drewN ?_ _) | (with_reducible refine Kd.C_drew ?_) | exact HR263.out)) | (with_reducible refine Kd.C_alloc ?_ _) | (with_reducible refine Kd.C_drewN ?_ _) | (with_reducible refine Kd.C_drew ?_)))
                                    (case aB => exact (by repeat (first | (with_reducible first | exact HB.out | apply below_alloc | apply pw_below_drewN | apply below_drew1) | exact HB.out)))
                                    (case aF => exact (fun k_ hk => ⟨Kd.fresh' (Kd.R_lt (by (with_reducible repeat (first | apply Kd.R_alloc | apply Kd.R_drewN | apply Kd.R_drew)); exact HO_8.out)) k_ hk, Kd.fresh' (Kd.R_lt (by (with_reducible repeat (first | apply Kd.R_alloc | apply Kd.R_drewN | apply Kd.R_drew)); exact HO247.out)) k_ hk⟩))
                                    (case aO => exact (by (with_reducible repeat (first | apply Kd.R_alloc | apply Kd.R_drewN | apply Kd.R_drew)); exact HO259.out))
                                    (case aS => exact (below_size (by repeat (first | (with_reducible first | exact HB.out | apply below_alloc | apply pw_below_drewN | apply below_drew1) | exact HB.out))))
                                    (case aL => have := LMc51.out; omega)
                                    intro v265 w85 ho hb hg hat
                                    rw [← Ny264.out] at ho
                                    have n0_ := Aside0.mk (Kd.R_over' (by (with_reducible repeat (first | apply Kd.R_alloc | apply Kd.R_drewN | apply Kd.R_drew)); exact HO_7.out) (Kd.R_typed (by (with_reducible repeat (first | apply Kd.R_alloc | apply Kd.R_drewN | apply Kd.R_drew)); exact HO259.out)) (by decide) hg)
                                    have n1_ := Aside0.mk (Kd.R_after (ok := (fun k_ => some k_ ≠ (.slice (some ⟨go44, 0, none⟩) y245.length co76 : Value).ownBlock)) (by (with_reducible repeat (first | apply Kd.R_alloc | apply Kd.R_drewN | apply Kd.R_drew)); exact HO_8.out) hg hat)
                                    have n2_ := Aside0.mk (Kd.R_after (ok := (fun k_ => some k_ ≠ (.slice Ao75 x8_1.length co75 : Value).ownBlock)) (by (with_reducible repeat (first | apply Kd.R_alloc | apply Kd.R_drewN | apply Kd.R_drew)); exact HO247.out) hg hat)
                                    have n3_ := Aside0.mk (hb)
                                    have n4_ := Aside0.mk ((show Kd.C k53 w85 Ao75 y253.length y253 from by rw [Ny253.out]; exact Kd.C_take (m := ((ji41) : Int).toNat) ((Kd.R_reads' (Kd.R_after (ok := (fun k_ => some k_ ≠ (.slice (some ⟨go44, 0, none⟩) y245.length co76 : Value).ownBlock)) (by (with_reducible repeat (first | apply Kd.R_alloc | apply Kd.R_drewN | apply Kd.R_drew)); exact HO_8.out) hg hat)).2.2) KL80.out))
                                    have n5_ := Aside0.mk ((show Kd.C k53 w85 A81 y260.length y260 from by rw [Ny260.out, KA81.out]; exact Kd.C_drop (m := ((ji48) : Int).toNat) (c := co75) ((Kd.R_reads' (Kd.R_after (ok := (fun k_ => some k_ ≠ (.slice (some ⟨go44, 0, none⟩) y245.length co76 : Value).ownBlock)) (by (with_reducible repeat (first | apply Kd.R_alloc | apply Kd.R_drewN | apply Kd.R_drew)); exact HO_8.out) hg hat)).2.2) KL81.out ((Kd.R_reads' (Kd.R_after (ok := (fun k_ => some k_ ≠ (.slice (some ⟨go44, 0, none⟩) y245.length co76 : Value).ownBlock)) (by (with_reducible repeat (first | apply Kd.R_alloc | apply Kd.R_drewN | apply Kd.R_drew)); exact HO_8.out) hg hat)).2.1)))
                                    have n6_ := Aside0.mk (ho)
                                    clear HO_7
                                    clear HO_8
                                    clear HO247
                                    clear HB
                                    clear HR256
                                    clear HR263
                                    clear HO259
                                    have HO_7 := n0_
                                    have HO_8 := n1_
                                    have HO247 := n2_
                                    have HB := n3_
                                    have HR256 := n4_
                                    have HR263 := n5_
                                    have HO266 := n6_
                                    clear n0_ n1_ n2_ n3_ n4_ n5_ n6_
                                    clear ho hb hg hat
                                    refine hK.out _ _ trivial (fun hHeld => ?_)
                                    clear hK K
                                    refine norm_ (a' := ?_) ?_ ?_
                                    rotate_left
                                    · show Act.put _ (some 89) _ = _
                                      simp only [Act.put, List.setIfInBounds_toArray, List.set_cons_zero, List.set_cons_succ, i64_w, i32_w]
                                      rfl
                                    refine pure_ (i := 10) (N := some 13) (v := ?_) (a' := ?_) #[true, true, true, true, true, true, true, true, true, true, true] rfl rfl (any_of HT_.out (by kernel_rfl)) (fun _ _ _ h => h) (Or.inl ⟨by rfl, ?_⟩) ?_ ?_
                                    rotate_left
                                    · intro w'
                                      go_simp
                                      with_reducible rfl
                                    rotate_left
                                    · simp only [Act.put, List.setIfInBounds_toArray, List.set_cons_zero, List.set_cons_succ, i64_w, i32_w]
                                      rfl
                                    refine done_ (done_of HT_.out (by kernel_rfl)) ?_
                                    obtain ⟨Ao86, co86, eo86⟩ := Kd.R_slice HO_7.out
                                    subst eo86
                                    try go_wp2_with (first | ((with_reducible refine gate_callee (f := 27) rfl ?_); refine goesL_ (some 92) rfl rfl Try.func27 (by kernel_rfl) rfl #[.slice Ao86 x7_1.length co86, .slice (some ⟨go44, 0, none⟩) y249.length co76] rfl (by (try simp only [List.map_toArray, List.map_cons, List.map_nil]); first | done | (rw [show y249.length = y245.length from (Kd.R_reads' HO247.out).1.symm] <;> rfl) | rfl | (simp only [List.length_drop, List.length_take]; rfl)) ?_; (with_reducible refine (bound_Fresh.calls kj21 _ _ x7_1 _ _ y249 false _ ?side1 ?side2 ?side3 ?side4 A52.out).mono ?_); (case side1 => repeat (first | exact (Kd.R_reads' HO_7.out).2.2 | (with_reducible refine Kd.C_alloc ?_ _) | (with_reducible refine Kd.C_drewN ?_ _) | (with_reducible refine Kd.C_drew ?_))); (case side2 => exact (Kd.R_reads' HO_7.out).2.1); (case side3 => repeat (first | exact (Kd.R_reads' HO247.out).2.2 | (with_reducible refine Kd.C_alloc ?_ _) | (with_reducible refine Kd.C_drewN ?_ _) | (with_reducible refine Kd.C_drew ?_))); (case side4 => rw [show y249.length = y245.length from (Kd.R_reads' HO247.out).1.symm]; exact (Kd.R_reads' HO247.out).2.1); rintro e w87 ⟨rfl, hb⟩; refine ⟨_, rfl, ?_⟩; have n0_ := Aside0.mk (Kd.R_below (by (with_reducible repeat (first | apply Kd.R_alloc | apply Kd.R_drewN | apply Kd.R_drew)); exact HO_7.out) hb); have n1_ := Aside0.mk (Kd.R_below (by (with_reducible repeat (first | apply Kd.R_alloc | apply Kd.R_drewN | apply Kd.R_drew)); exact HO_8.out) hb); have n2_ := Aside0.mk (Kd.R_below (by (with_reducible repeat (first | apply Kd.R_alloc | apply Kd.R_drewN | apply Kd.R_drew)); exact HO247.out) hb); have n3_ := Aside0.mk (Kd.R_below (by (with_reducible repeat (first | apply Kd.R_alloc | apply Kd.R_drewN | apply Kd.R_drew)); exact HO266.out) hb); have n4_ := Aside0.mk (Kd.C_below (by repeat (first | (with_reducible exact HR256.out) | (with_reducible refine Kd.C_alloc ?_ _) | (with_reducible refine Kd.C_drewN ?_ _) | (with_reducible refine Kd.C_drew ?_) | exact HR256.out)) hb); have n5_ := Aside0.mk (Kd.C_below (by repeat (first | (with_reducible exact HR263.out) | (with_reducible refine Kd.C_alloc ?_ _) | (with_reducible refine Kd.C_drewN ?_ _) | (with_reducible refine Kd.C_drew ?_) | exact HR263.out)) hb); have n6_ := Aside0.mk (below_step (by repeat (first | (with_reducible first | exact HB.out | apply below_alloc | apply pw_below_drewN | apply below_drew1) | exact HB.out)) hb); clear HO_7; clear HO_8; clear HO247; clear HO266; clear HR256; clear HR263; clear HB; have HO_7 := n0_; have HO_8 := n1_; have HO247 := n2_; have HO266 := n3_; have HR256 := n4_; have HR263 := n5_; have HB := n6_; clear n0_ n1_ n2_ n3_ n4_ n5_ n6_; (try clear hb); (try clear hb2); (try clear hk); (try clear hi); obtain ⟨Ao88, co88, eo88⟩ := Kd.R_slice HO266.out; subst eo88) | (go_at_call 27; (with_reducible refine (bound_Fresh.calls kj21 _ _ x7_1 _ _ y264 true _ ?side1 ?side2 ?side3 ?side4 A70.out).mono ?_); (case side1 => repeat (first | exact (Kd.R_reads' HO_7.out).2.2 | (with_reducible refine Kd.C_alloc ?_ _) | (with_reducible refine Kd.C_drewN ?_ _) | (with_reducible refine Kd.C_drew ?_))); (case side2 => exact (Kd.R_reads' HO_7.out).2.1); (case side3 => repeat (first | exact (Kd.R_reads' HO266.out).2.2 | (with_reducible refine Kd.C_alloc ?_ _) | (with_reducible refine Kd.C_drewN ?_ _) | (with_reducible refine Kd.C_drew ?_))); (case side4 => exact (Kd.R_reads' HO266.out).2.1); rintro e w89 ⟨rfl, hb⟩; have n0_ := Aside0.mk (Kd.R_below (by (with_reducible repeat (first | apply Kd.R_alloc | apply Kd.R_drewN | apply Kd.R_drew)); exact HO_7.out) hb); have n1_ := Aside0.mk (Kd.R_below (by (with_reducible repeat (first | apply Kd.R_alloc | apply Kd.R_drewN | apply Kd.R_drew)); exact HO_8.out) hb); have n2_ := Aside0.mk (Kd.R_below (by (with_reducible repeat (first | apply Kd.R_alloc | apply Kd.R_drewN | apply Kd.R_drew)); exact HO247.out) hb); have n3_ := Aside0.mk (Kd.R_below (by (with_reducible repeat (first | apply Kd.R_alloc | apply Kd.R_drewN | apply Kd.R_drew)); exact HO266.out) hb); have n4_ := Aside0.mk (Kd.C_below (by repeat (first | (with_reducible exact HR256.out) | (with_reducible refine Kd.C_alloc ?_ _) | (with_reducible refine Kd.C_drewN ?_ _) | (with_reducible refine Kd.C_drew ?_) | exact HR256.out)) hb); have n5_ := Aside0.mk (Kd.C_below (by repeat (first | (with_reducible exact HR263.out) | (with_reducible refine Kd.C_alloc ?_ _) | (with_reducible refine Kd.C_drewN ?_ _) | (with_reducible refine Kd.C_drew ?_) | exact HR263.out)) hb); have n6_ := Aside0.mk (below_step (by repeat (first | (with_reducible first | exact HB.out | apply below_alloc | apply pw_below_drewN | apply below_drew1) | exact HB.out)) hb); clear HO_7; clear HO_8; clear HO247; clear HO266; clear HR256; clear HR263; clear HB; have HO_7 := n0_; have HO_8 := n1_; have HO247 := n2_; have HO266 := n3_; have HR256 := n4_; have HR263 := n5_; have HB := n6_; clear n0_ n1_ n2_ n3_ n4_ n5_ n6_; (try clear hb); (try clear hb2); (try clear hk); (try clear hi)))
                                    go_ret
                                    exact ⟨by first | rfl | (simp [errW_none, errW_some] <;> rfl) | (simp only [← hji4, ← hji41, ← hji48]; first | rfl | (simp [errW_none, errW_some] <;> rfl)) | (simp [*, errW_none, errW_some] <;> rfl), by repeat (first | (with_reducible first | exact HB.out | apply below_alloc | apply pw_below_drewN | apply below_drew1) | exact HB.out)⟩
                                  · replace c71 := Bool.eq_false_iff.mpr c71
                                    subst c71
                                    have H1 : ((slipwaylaw9_awake.f kj21).bind fun t269 => (some t269)) = some r := by rw [if_neg (show ¬ (false = true) by decide)] at H; exact H
                                    clear H
                                    have H := H1
                                    clear H1
                                    replace H := Option.bind_eq_some_iff.mp H
                                    obtain ⟨t269, A900, H⟩ := H
                                    replace H : (some t269) = some r := H
                                    have A90 := Aside0.mk A900
                                    clear A900
                                    obtain rfl := Option.some.inj H
                                    try go_wp2_with (first | ((with_reducible refine gate_dst (N := 65) rfl ?_); refine Kd.R_lit k53 _ 53 ?hg (N := 65) ?hd (xs := ([] : List (S53))) (inner := []) (ok := fun _ => True) (okp := fun _ => True) ?hr ?hp (fun _ hk => hk) trivial (Below.refl _ _) (Nat.le_refl _) (by simp) ?_; (case hd => rfl); (case hg => rfl); (case hr => first | (go_simp; done) | (go_simp; rfl)); (case hp => exact (Reps.none _ _)); intro v243 w91 ho92 hb hg_ hnew_; clear hg_ hnew_; (first | rw [← Ny242.out] at ho92 | (simp only [Int.reduceToNat] at ho92; rw [← Ny242.out] at ho92)); have n0_ := Aside0.mk (Kd.R_below (by (with_reducible repeat (first | apply Kd.R_alloc | apply Kd.R_drewN | apply Kd.R_drew)); exact HO_7.out) hb); have n1_ := Aside0.mk (Kd.R_elder' (by (with_reducible repeat (first | apply Kd.R_alloc | apply Kd.R_drewN | apply Kd.R_drew)); exact HO_8.out) (Kd.R_base ho92) hb); have n2_ := Aside0.mk (Kd.R_lower (Kd.R_new' ho92 (Kd.R_lt (by (with_reducible repeat (first | apply Kd.R_alloc | apply Kd.R_drewN | apply Kd.R_drew)); exact HO_8.out))) (below_size (by repeat (first | (with_reducible first | exact HB.out | apply below_alloc | apply pw_below_drewN | apply below_drew1) | exact HB.out)))); have n3_ := Aside0.mk (below_step (by repeat (first | (with_reducible first | exact HB.out | apply below_alloc | apply pw_below_drewN | apply below_drew1) | exact HB.out)) hb); clear HO_7; clear HO_8; clear HB; have HO_7 := n0_; have HO_8 := n1_; have HO244 := n2_; have HB := n3_; clear n0_ n1_ n2_ n3_; clear hb ho92; obtain ⟨Ao94, co94, eo94⟩ := Kd.R_slice HO_8.out; subst eo94) | ((with_reducible refine gate_builtin (b := .append) (xs := #[.tmp 65, .tmp 66]) rfl ?_); at_builtin; refine Kd.R_append_rows k53 (w0 := w) w.heap.size rfl (.tmp 65) (.tmp 66) 52 53 (.agg #[(.string ⟨#[]⟩), (.int .i64 0)]) 24 rfl Try.underlying52 info53 rfl (by decide) (by omega) v243 y242 x8_1 _ _ _ (fun k_ => some k_ ≠ (.slice Ao94 x8_1.length co94 : Value).ownBlock) (fun _ => False) rfl rfl ?aO ?aR (fun _ _ h => h) (fun _ h => h.elim) ?aF ?aB ?aS ?aL ?_; (case aR => repeat (first | exact (Kd.R_reads' HO_8.out).2.2 | (with_reducible refine Kd.C_alloc ?_ _) | (with_reducible refine Kd.C_drewN ?_ _) | (with_reducible refine Kd.C_drew ?_))); (case aB => exact (by repeat (first | (with_reducible first | exact HB.out | apply below_alloc | apply pw_below_drewN | apply below_drew1) | exact HB.out))); (case aF => exact (fun k_ hk => Kd.fresh' (Kd.R_lt (by (with_reducible repeat (first | apply Kd.R_alloc | apply Kd.R_drewN | apply Kd.R_drew)); exact HO_8.out)) k_ hk)); (case aO => exact (by (with_reducible repeat (first | apply Kd.R_alloc | apply Kd.R_drewN | apply Kd.R_drew)); exact Kd.R_mono HO244.out (fun _ hk => hk.2))); (case aS => exact (below_size (by repeat (first | (with_reducible first | exact HB.out | apply below_alloc | apply pw_below_drewN | apply below_drew1) | exact HB.out)))); (case aL => have := LMc40.out; omega); intro v246 w93 ho hb hg hat; rw [← Ny245.out] at ho; have n0_ := Aside0.mk (Kd.R_over' (by (with_reducible repeat (first | apply Kd.R_alloc | apply Kd.R_drewN | apply Kd.R_drew)); exact HO_7.out) (Kd.R_typed (by (with_reducible repeat (first | apply Kd.R_alloc | apply Kd.R_drewN | apply Kd.R_drew)); exact HO244.out)) (by decide) hg); have n1_ := Aside0.mk (Kd.R_after (ok := (fun _ => True)) (by (with_reducible repeat (first | apply Kd.R_alloc | apply Kd.R_drewN | apply Kd.R_drew)); exact HO_8.out) hg hat); have n2_ := Aside0.mk (hb); have n3_ := Aside0.mk (ho); clear HO_7; clear HO_8; clear HB; clear HO244; have HO_7 := n0_; have HO_8 := n1_; have HB := n2_; have HO247 := n3_; clear n0_ n1_ n2_ n3_; clear ho hb hg hat; obtain ⟨Ao95, co95, eo95⟩ := Kd.R_slice HO247.out; subst eo95; have p248 : 0 ≤ ((ji41) : Int) := of_decide_eq_true (by first | (with_reducible assumption) | assumption); have q248 : (ji41) < (y245.length : Int) := of_decide_eq_true (by first | (with_reducible assumption) | assumption); obtain ⟨ad248, e248, hx248_0, hx248_1⟩ := at_T53 (Kd.R_reads' HO247.out).2.2 (ji41) p248 q248; cases e248; replace p248 := eq_true p248; replace q248 := eq_true q248; have p44 : 0 ≤ ((ji41) : Int) := of_decide_eq_true (by first | (with_reducible assumption) | assumption); have q44 : ((ji41) : Int) < ((y245.length : Int) : Int) := of_decide_eq_true (by first | (with_reducible assumption) | assumption); obtain ⟨go44, co44, eo44, gb44, gl44, cl44, HG44⟩ := Kd.R_form HO247.out (by omega); (first | cases eo44 | (injection eo44 with ea_ en_ ec_; (first | subst ea_ | (injection ea_ with ea_; subst ea_)); subst ec_; clear en_)); have GB44 := Aside0.mk gb44; have GG44 := Aside0.mk HG44; clear gb44 gl44 HG44; (first | simp only [add_plain] at hx248_0 | skip); (first | simp only [add_plain] at hx248_1 | skip); obtain ⟨ce44, hcl44, hM44, hcc44, hfr44⟩ := Kd.R_elem HO247.out z53 ((ji41) : Int) p44 q44; obtain rfl := k53_openM hM44; have hx44_0 : w93.cell? ⟨go44, ((ji41) : Int).toNat * 2, none⟩ = some (.string ((rd_T53 y245 (ji41)).f0)) := hcc44 0 _ rfl; have hx44_1 : w93.cell? ⟨go44, ((ji41) : Int).toNat * 2 + 1, none⟩ = some (.int .i64 ((rd_T53 y245 (ji41)).f1)) := hcc44 1 _ rfl; have hf44_0 : w93.frozen? ⟨go44, ((ji41) : Int).toNat * 2, none⟩ = false := hfr44 0; have hf44_1 : w93.frozen? ⟨go44, ((ji41) : Int).toNat * 2 + 1, none⟩ = false := hfr44 1; clear hcl44 hcc44 hfr44 hM44; replace p44 := eq_true p44; replace q44 := eq_true q44; have HX96 := Aside0.mk (show Kd.R k53 53 w93 w.heap.size (fun k_ => some k_ ≠ (.slice Ao94 x8_1.length co94 : Value).ownBlock) (.slice (some ⟨go44, 0, none⟩) y245.length co95) y245 from (by (with_reducible repeat (first | apply Kd.R_alloc | apply Kd.R_drewN | apply Kd.R_drew)); exact HO247.out)); obtain ⟨ce96, hcl96, hM96, hcc96, hfr96⟩ := Kd.R_elem HX96.out z53 ((ji41) : Int) (of_decide_eq_true (by first | (with_reducible assumption) | assumption)) (by have h_ : ((ji41) : Int) < ((y245.length : Int) : Int) := of_decide_eq_true (by first | (with_reducible assumption) | assumption); first | exact h_ | (have e_ := (Kd.R_reads' HO247.out).1; omega) | simpa using h_); obtain rfl := k53_openM hM96; have HP96 := Kd.R_seg HX96.out ((ji41) : Int) (of_decide_eq_true (by first | (with_reducible assumption) | assumption)) (by have h_ : ((ji41) : Int) < ((y245.length : Int) : Int) := of_decide_eq_true (by first | (with_reducible assumption) | assumption); first | exact h_ | (have e_ := (Kd.R_reads' HO247.out).1; omega) | simpa using h_) (seg := [.int .i64 (Go.bits .xor .i64 ((rd_T53 y245 (ji41)).f1) (Go.bits .or .i64 a2 1))]) (j := 1) hcl96 hcc96 (show 2 ≤ 2 from by decide) (x' := (⟨(rd_T53 y245 (ji41)).f0, Go.bits .xor .i64 ((rd_T53 y245 (ji41)).f1) (Go.bits .or .i64 a2 1)⟩ : S53)) (k53_mkM _ _ _ (⟨(rd_T53 y245 (ji41)).f0, Go.bits .xor .i64 ((rd_T53 y245 (ji41)).f1) (Go.bits .or .i64 a2 1)⟩ : S53) ) (fun _ hk => hk); have hx96_1 := hcc96 1 _ rfl; (try simp only [show (k53).sz = 2 from rfl, Nat.mul_one, Nat.add_zero] at hx96_1); have hf96_1 := hfr96 1; (try simp only [show (k53).sz = 2 from rfl, Nat.mul_one, Nat.add_zero] at hf96_1); clear hcl96 hcc96 hfr96 hM96) | ((with_reducible refine gate_store (t := 3) (p := 79) rfl ?_); refine store_event (t := 3) (p := 79) (v := ?vo_w97) (w1 := (w93.setCell ⟨go44, ((ji41) : Int).toNat * 2 + 1, none⟩ (.int .i64 (Go.bits .xor .i64 ((rd_T53 y245 (ji41)).f1) (Go.bits .or .i64 a2 1))))) ?hg ?ho ?hn ?hr ?_; (case ho => rfl); (case hg => rfl); (case hn => rfl); (case hr => first | (go_simp; done) | (go_simp; rfl)); intro w97 hw; have hg : w93.grownBy w97 (some go44) := (by rw [hw]; exact HP96.2); have hp_ : Kd.R k53 53 w97 w.heap.size (fun k_ => some k_ ≠ (.slice Ao94 x8_1.length co94 : Value).ownBlock) (.slice (some ⟨go44, 0, none⟩) y245.length co95) y249 := (by rw [hw, Ny249.out]; exact HP96.1); clear HP96; have n0_ := Aside0.mk (Kd.R_over' (v := (.slice (some ⟨go44, 0, none⟩) y245.length co95)) (by (with_reducible repeat (first | apply Kd.R_alloc | apply Kd.R_drewN | apply Kd.R_drew)); exact HO_7.out) (Kd.R_typed HO247.out) (by decide) hg); have n1_ := Aside0.mk (Kd.R_after (v := (.slice (some ⟨go44, 0, none⟩) y245.length co95)) (v1 := (.slice (some ⟨go44, 0, none⟩) y245.length co95)) (ok := (fun _ => True)) (by (with_reducible repeat (first | apply Kd.R_alloc | apply Kd.R_drewN | apply Kd.R_drew)); exact HO_8.out) hg (.inl rfl)); have n2_ := Aside0.mk (hp_); have n3_ := Aside0.mk ((by rw [hw]; exact below_set (HB.out) GB44.out : Below w.heap.size w w97)); clear HO_7; clear HO_8; clear HO247; clear HB; have HO_7 := n0_; have HO_8 := n1_; have HO247 := n2_; have HB := n3_; clear n0_ n1_ n2_ n3_; clear hg hw hp_))
                                    have n0_ := Aside0.mk (Kd.R_drew HO_7.out)
                                    have n1_ := Aside0.mk (Kd.R_drew HO_8.out)
                                    have n2_ := Aside0.mk (Kd.R_drew HO247.out)
                                    have n3_ := Aside0.mk (below_drew1 HB.out)
                                    clear HO_7
                                    clear HO_8
                                    clear HO247
                                    clear HB
                                    have HO_7 := n0_
                                    have HO_8 := n1_
                                    have HO247 := n2_
                                    have HB := n3_
                                    clear n0_ n1_ n2_ n3_
                                    have q99 : ((ji41) : Int) ≤ ((x8_1.length : Int) : Int) := of_decide_eq_true (by first | (with_reducible assumption) | assumption)
                                    obtain ⟨i099, hi099, _, hsz99, _⟩ := info_parts info53
                                    have hroom99 : x8_1.length ≤ co94 := (Kd.R_reads' HO_8.out).2.1
                                    have hC99 : Kd.C k53 _ Ao94 x8_1.length x8_1 := (Kd.R_reads' HO_8.out).2.2
                                    have hcut99 := cut_to (P := Try.prog) 52 53 .i64 Try.underlying52 hi099 Ao94 x8_1.length co94 (ji41) (of_decide_eq_true (by first | (with_reducible assumption) | assumption)) q99 hroom99
                                    have hr99 := Kd.C_take (m := ((ji41) : Int).toNat) hC99 (by omega)
                                    have hy99 : y253.length = ((ji41) : Int).toNat := (by rw [Ny253.out, List.length_take]; omega)
                                    rw [← Ny253.out] at hr99
                                    rw [← hy99] at hcut99
                                    have HR256 := Aside0.mk hr99
                                    have HC256 := Aside0.mk (show y253.length ≤ co94 from by omega)
                                    clear hr99 hC99 hroom99 hi099 hsz99
                                    have KY99 := Aside0.mk hy99
                                    clear hy99
                                    have KL99 := Aside0.mk (show ((ji41) : Int).toNat ≤ x8_1.length from by omega)
                                    replace q99 := eq_true q99
                                    have q100 : ((ji48) : Int) ≤ ((x8_1.length : Int) : Int) := of_decide_eq_true (by first | (with_reducible assumption) | assumption)
                                    obtain ⟨i0100, hi0100, _, hsz100, _⟩ := info_parts info53
                                    have hroom100 : x8_1.length ≤ co94 := (Kd.R_reads' HO_8.out).2.1
                                    have hC100 : Kd.C k53 _ Ao94 x8_1.length x8_1 := (Kd.R_reads' HO_8.out).2.2
                                    have q0100 : (0 : Int) ≤ ((ji48) : Int) := of_decide_eq_true (by first | (with_reducible assumption) | assumption)
                                    have hcut100 := cut_from (P := Try.prog) 52 53 .i64 Try.underlying52 hi0100 2 hsz100 Ao94 x8_1.length co94 (ji48) q0100 q100
                                    have hr100 := Kd.C_drop (m := ((ji48) : Int).toNat) (c := co94) hC100 (by omega) hroom100
                                    obtain ⟨A100, hA100⟩ : ∃ A1, A1 = (if co94 = ((ji48) : Int).toNat then Ao94 else (Ao94 : Option Addr).map (·.add (((ji48) : Int).toNat * 2))) := ⟨_, rfl⟩
                                    obtain ⟨c100, hc100⟩ : ∃ c1, c1 = co94 - ((ji48) : Int).toNat := ⟨_, rfl⟩
                                    have hy100 : y260.length = x8_1.length - ((ji48) : Int).toNat := (by rw [Ny260.out, List.length_drop] <;> omega)
                                    rw [show (x8_1).drop ((ji48) : Int).toNat = y260 from Ny260.out.symm] at hr100
                                    replace hr100 : Kd.C k53 _ A100 y260.length y260 := (by rw [hA100]; exact hr100)
                                    rw [← hy100, ← hA100, ← hc100] at hcut100
                                    have HR263 := Aside0.mk hr100
                                    have HC263 := Aside0.mk (show y260.length ≤ c100 from by rw [hy100, hc100]; exact Nat.sub_le_sub_right hroom100 _)
                                    clear hr100 hC100 hroom100 hi0100 hsz100 hc100
                                    have KY100 := Aside0.mk hy100
                                    have KA100 := Aside0.mk hA100
                                    clear hy100 hA100
                                    have KL100 := Aside0.mk (show ((ji48) : Int).toNat ≤ x8_1.length from by omega)
                                    replace q100 := eq_true q100
                                    refine start_ (n := 11) (S := fun w' => True) (ds := []) #[false, false, false, false, false, false, false, false, false, false, false] (by kernel_rfl) rfl rfl trivial (fun hHeld => ?_); refine with_tabW slipwaylaw9_BoundFresh.tab14 slipwaylaw9_BoundFresh.bits14 (fun HT_ HW_ => ?_)
                                    generalize w97.drew = w98 at HO_7 HO_8 HO247 HB HR256 HR263 hHeld ⊢
                                    refine pure_ (i := 1) (N := some 81) (v := ?_) (a' := ?_) #[false, true, false, false, false, false, false, false, false, false, false] rfl rfl (any_of HT_.out (by kernel_rfl)) (fun _ _ _ h => h) (Or.inl ⟨by rfl, ?_⟩) ?_ ?_
                                    rotate_left
                                    · intro w'
                                      go_simp
                                      with_reducible rfl
                                    rotate_left
                                    · simp only [Act.put, List.setIfInBounds_toArray, List.set_cons_zero, List.set_cons_succ, i64_w, i32_w]
                                      rfl
                                    refine pure_ (i := 2) (N := some 82) (v := ?_) (a' := ?_) #[false, true, true, false, false, false, false, false, false, false, false] rfl rfl (any_of HT_.out (by kernel_rfl)) (fun _ _ _ h => h) (Or.inl ⟨by rfl, ?_⟩) ?_ ?_
                                    rotate_left
                                    · intro w'
                                      go_simp
                                      with_reducible rfl
                                    rotate_left
                                    · simp only [Act.put, List.setIfInBounds_toArray, List.set_cons_zero, List.set_cons_succ, i64_w, i32_w]
                                      rfl
                                    refine pure_ (i := 3) (N := some 83) (v := ?_) (a' := ?_) #[false, true, true, true, false, false, false, false, false, false, false] rfl rfl (any_of HT_.out (by kernel_rfl)) (fun _ _ _ h => h) (Or.inl ⟨by rfl, ?_⟩) ?_ ?_
                                    rotate_left
                                    · intro w'
                                      go_simp
                                      with_reducible rfl
                                    rotate_left
                                    · simp only [Act.put, List.setIfInBounds_toArray, List.set_cons_zero, List.set_cons_succ, i64_w, i32_w]
                                      rfl
                                    refine pure_ (i := 5) (N := some 85) (v := ?_) (a' := ?_) #[false, true, true, true, false, true, false, false, false, false, false] rfl rfl (any_of HT_.out (by kernel_rfl)) (fun _ _ _ h => h) (Or.inl ⟨by rfl, ?_⟩) ?_ ?_
                                    rotate_left
                                    · intro w'
                                      go_simp
                                      with_reducible rfl
                                    rotate_left
                                    · simp only [Act.put, List.setIfInBounds_toArray, List.set_cons_zero, List.set_cons_succ, i64_w, i32_w]
                                      rfl
                                    refine pure_ (i := 6) (N := some 86) (v := ?_) (a' := ?_) #[false, true, true, true, false, true, true, false, false, false, false] rfl rfl (any_of HT_.out (by kernel_rfl)) (fun _ _ _ h => h) (Or.inl ⟨by rfl, ?_⟩) ?_ ?_
                                    rotate_left
                                    · intro w'
                                      go_simp
                                      with_reducible rfl
                                    rotate_left
                                    · simp only [Act.put, List.setIfInBounds_toArray, List.set_cons_zero, List.set_cons_succ, i64_w, i32_w]
                                      rfl
                                    refine pure_ (i := 7) (N := some 87) (v := ?_) (a' := ?_) #[false, true, true, true, false, true, true, true, false, false, false] rfl rfl (any_of HT_.out (by kernel_rfl)) (fun _ _ _ h => h) (Or.inl ⟨by rfl, ?_⟩) ?_ ?_
                                    rotate_left
                                    · intro w'
                                      go_simp
                                      with_reducible rfl
                                    rotate_left
                                    · simp only [Act.put, List.setIfInBounds_toArray, List.set_cons_zero, List.set_cons_succ, i64_w, i32_w]
                                      rfl
                                    refine pure_ (i := 8) (N := some 88) (v := ?_) (a' := ?_) #[false, true, true, true, false, true, true, true, true, false, false] rfl rfl (any_of HT_.out (by kernel_rfl)) (fun _ _ _ h => h) (Or.inl ⟨by rfl, ?_⟩) ?_ ?_
                                    rotate_left
                                    · intro w'
                                      go_simp
                                      with_reducible rfl
                                    rotate_left
                                    · simp only [Act.put, List.setIfInBounds_toArray, List.set_cons_zero, List.set_cons_succ, i64_w, i32_w]
                                      rfl
                                    refine one_ (i := 0) (N := some 80) #[true, true, true, true, false, true, true, true, true, false, false] rfl rfl (one_of HT_.out (by kernel_rfl)) (by decide) (fun K hK => ?_)
                                    refine Kd.R_lit_step k53 _ 53 ?hg (N := 80) ?hd (xs := ([] : List (S53))) (inner := []) (ok := fun _ => True) (okp := fun _ => True) ?hr ?hp (fun _ hk => hk) trivial (Below.refl _ _) (Nat.le_refl _) (by simp) ?_; (case hd => rfl); (case hg => rfl); (case hr => first | (go_simp; done) | (go_simp; rfl)); (case hp => exact (Reps.none _ _))
                                    intro v251 w101 ho102 hb hg_ hnew_
                                    clear hg_ hnew_
                                    (first | rw [← Ny250.out] at ho102 | (simp only [Int.reduceToNat] at ho102; rw [← Ny250.out] at ho102))
                                    have n0_ := Aside0.mk (Kd.R_below (by (with_reducible repeat (first | apply Kd.R_alloc | apply Kd.R_drewN | apply Kd.R_drew)); exact HO_7.out) hb)
                                    have n1_ := Aside0.mk (Kd.R_elder' (by (with_reducible repeat (first | apply Kd.R_alloc | apply Kd.R_drewN | apply Kd.R_drew)); exact HO_8.out) (Kd.R_base ho102) hb)
                                    have n2_ := Aside0.mk (Kd.R_elder' (by (with_reducible repeat (first | apply Kd.R_alloc | apply Kd.R_drewN | apply Kd.R_drew)); exact HO247.out) (Kd.R_base ho102) hb)
                                    have n3_ := Aside0.mk (Kd.R_lower (Kd.R_new' (Kd.R_new' ho102 (Kd.R_lt (by (with_reducible repeat (first | apply Kd.R_alloc | apply Kd.R_drewN | apply Kd.R_drew)); exact HO_8.out))) (Kd.R_lt (by (with_reducible repeat (first | apply Kd.R_alloc | apply Kd.R_drewN | apply Kd.R_drew)); exact HO247.out))) (below_size (by repeat (first | (with_reducible first | exact HB.out | apply below_alloc | apply pw_below_drewN | apply below_drew1) | exact HB.out))))
                                    have n4_ := Aside0.mk (Kd.C_below (by repeat (first | (with_reducible exact HR256.out) | (with_reducible refine Kd.C_alloc ?_ _) | (with_reducible refine Kd.C_drewN ?_ _) | (with_reducible refine Kd.C_drew ?_) | exact HR256.out)) hb)
                                    have n5_ := Aside0.mk (Kd.C_below (by repeat (first | (with_reducible exact HR263.out) | (with_reducible refine Kd.C_alloc ?_ _) | (with_reducible refine Kd.C_drewN ?_ _) | (with_reducible refine Kd.C_drew ?_) | exact HR263.out)) hb)
                                    have n6_ := Aside0.mk (below_step (by repeat (first | (with_reducible first | exact HB.out | apply below_alloc | apply pw_below_drewN | apply below_drew1) | exact HB.out)) hb)
                                    clear HO_7
                                    clear HO_8
                                    clear HO247
                                    clear HR256
                                    clear HR263
                                    clear HB
                                    have HO_7 := n0_
                                    have HO_8 := n1_
                                    have HO247 := n2_
                                    have HO252 := n3_
                                    have HR256 := n4_
                                    have HR263 := n5_
                                    have HB := n6_
                                    clear n0_ n1_ n2_ n3_ n4_ n5_ n6_
                                    clear hb ho102
                                    refine hK.out _ _ trivial (fun hHeld => ?_)
                                    clear hK K
                                    refine norm_ (a' := ?_) ?_ ?_
                                    rotate_left
                                    · show Act.put _ (some 80) _ = _
                                      simp only [Act.put, List.setIfInBounds_toArray, List.set_cons_zero, List.set_cons_succ, i64_w, i32_w]
                                      rfl
                                    refine one_ (i := 4) (N := some 84) #[true, true, true, true, true, true, true, true, true, false, false] rfl rfl (one_of HT_.out (by kernel_rfl)) (by decide) (fun K hK => ?_)
                                    refine Kd.R_append_rows_step k53 (w0 := w) w.heap.size (by rfl) (.tmp 80) (.tmp 83) 52 53 (.agg #[(.string ⟨#[]⟩), (.int .i64 0)]) 24 rfl Try.underlying52 info53 rfl (by decide) (by omega) v251 y250 y253 _ _ _ (fun k_ => some k_ ≠ (.slice Ao94 x8_1.length co94 : Value).ownBlock ∧ some k_ ≠ (.slice (some ⟨go44, 0, none⟩) y245.length co95 : Value).ownBlock) (fun _ => False) rfl rfl ?aO ?aR (fun _ _ h => h) (fun _ h => h.elim) ?aF ?aB ?aS ?aL ?_
                                    (case aR => repeat (first | exact (by repeat (first | (with_reducible exact HR256.out) | (with_reducible refine Kd.C_alloc ?_ _) | (with_reducible refine Kd.C_drewN ?_ _) | (with_reducible refine Kd.C_drew ?_) | exact HR256.out)) | (with_reducible refine Kd.C_alloc ?_ _) | (with_reducible refine Kd.C_drewN ?_ _) | (with_reducible refine Kd.C_drew ?_)))
                                    (case aB => exact (by repeat (first | (with_reducible first | exact HB.out | apply below_alloc | apply pw_below_drewN | apply below_drew1) | exact HB.out)))
                                    (case aF => exact (fun k_ hk => ⟨Kd.fresh' (Kd.R_lt (by (with_reducible repeat (first | apply Kd.R_alloc | apply Kd.R_drewN | apply Kd.R_drew)); exact HO_8.out)) k_ hk, Kd.fresh' (Kd.R_lt (by (with_reducible repeat (first | apply Kd.R_alloc | apply Kd.R_drewN | apply Kd.R_drew)); exact HO247.out)) k_ hk⟩))
                                    (case aO => exact (by (with_reducible repeat (first | apply Kd.R_alloc | apply Kd.R_drewN | apply Kd.R_drew)); exact Kd.R_mono HO252.out (fun _ hk => ⟨hk.1.2, hk.2⟩)))
                                    (case aS => exact (below_size (by repeat (first | (with_reducible first | exact HB.out | apply below_alloc | apply pw_below_drewN | apply below_drew1) | exact HB.out))))
                                    (case aL => have := LMc47.out; omega)
                                    intro v258 w103 ho hb hg hat
                                    rw [← Ny257.out] at ho
                                    have n0_ := Aside0.mk (Kd.R_over' (by (with_reducible repeat (first | apply Kd.R_alloc | apply Kd.R_drewN | apply Kd.R_drew)); exact HO_7.out) (Kd.R_typed (by (with_reducible repeat (first | apply Kd.R_alloc | apply Kd.R_drewN | apply Kd.R_drew)); exact HO252.out)) (by decide) hg)
                                    have n1_ := Aside0.mk (Kd.R_after (ok := (fun k_ => some k_ ≠ (.slice (some ⟨go44, 0, none⟩) y245.length co95 : Value).ownBlock)) (by (with_reducible repeat (first | apply Kd.R_alloc | apply Kd.R_drewN | apply Kd.R_drew)); exact Kd.R_mono HO_8.out (fun _ hk => ⟨hk.1.2, hk.2⟩)) hg hat)
                                    have n2_ := Aside0.mk (Kd.R_after (ok := (fun k_ => some k_ ≠ (.slice Ao94 x8_1.length co94 : Value).ownBlock)) (by (with_reducible repeat (first | apply Kd.R_alloc | apply Kd.R_drewN | apply Kd.R_drew)); exact HO247.out) hg hat)
                                    have n3_ := Aside0.mk (hb)
                                    have n4_ := Aside0.mk ((show Kd.C k53 w103 Ao94 y253.length y253 from by rw [Ny253.out]; exact Kd.C_take (m := ((ji41) : Int).toNat) ((Kd.R_reads' (Kd.R_after (ok := (fun k_ => some k_ ≠ (.slice (some ⟨go44, 0, none⟩) y245.length co95 : Value).ownBlock)) (by (with_reducible repeat (first | apply Kd.R_alloc | apply Kd.R_drewN | apply Kd.R_drew)); exact Kd.R_mono HO_8.out (fun _ hk => ⟨hk.1.2, hk.2⟩)) hg hat)).2.2) KL99.out))
                                    have n5_ := Aside0.mk ((show Kd.C k53 w103 A100 y260.length y260 from by rw [Ny260.out, KA100.out]; exact Kd.C_drop (m := ((ji48) : Int).toNat) (c := co94) ((Kd.R_reads' (Kd.R_after (ok := (fun k_ => some k_ ≠ (.slice (some ⟨go44, 0, none⟩) y245.length co95 : Value).ownBlock)) (by (with_reducible repeat (first | apply Kd.R_alloc | apply Kd.R_drewN | apply Kd.R_drew)); exact Kd.R_mono HO_8.out (fun _ hk => ⟨hk.1.2, hk.2⟩)) hg hat)).2.2) KL100.out ((Kd.R_reads' (Kd.R_after (ok := (fun k_ => some k_ ≠ (.slice (some ⟨go44, 0, none⟩) y245.length co95 : Value).ownBlock)) (by (with_reducible repeat (first | apply Kd.R_alloc | apply Kd.R_drewN | apply Kd.R_drew)); exact Kd.R_mono HO_8.out (fun _ hk => ⟨hk.1.2, hk.2⟩)) hg hat)).2.1)))
                                    have n6_ := Aside0.mk (ho)
                                    clear HO_7
                                    clear HO_8
                                    clear HO247
                                    clear HB
                                    clear HR256
                                    clear HR263
                                    clear HO252
                                    have HO_7 := n0_
                                    have HO_8 := n1_
                                    have HO247 := n2_
                                    have HB := n3_
                                    have HR256 := n4_
                                    have HR263 := n5_
                                    have HO259 := n6_
                                    clear n0_ n1_ n2_ n3_ n4_ n5_ n6_
                                    clear ho hb hg hat
                                    refine hK.out _ _ trivial (fun hHeld => ?_)
                                    clear hK K
                                    refine norm_ (a' := ?_) ?_ ?_
                                    rotate_left
                                    · show Act.put _ (some 84) _ = _
                                      simp only [Act.put, List.setIfInBounds_toArray, List.set_cons_zero, List.set_cons_succ, i64_w, i32_w]
                                      rfl
                                    refine one_ (i := 9) (N := some 89) #[true, true, true, true, true, true, true, true, true, true, false] rfl rfl (one_of HT_.out (by kernel_rfl)) (by decide) (fun K hK => ?_)
                                    refine Kd.R_append_rows_step k53 (w0 := w) w.heap.size (by rfl) (.tmp 84) (.tmp 88) 52 53 (.agg #[(.string ⟨#[]⟩), (.int .i64 0)]) 24 rfl Try.underlying52 info53 rfl (by decide) (by omega) v258 y257 y260 _ _ _ (fun k_ => some k_ ≠ (.slice Ao94 x8_1.length co94 : Value).ownBlock ∧ some k_ ≠ (.slice (some ⟨go44, 0, none⟩) y245.length co95 : Value).ownBlock) (fun _ => False) rfl rfl ?aO ?aR (fun _ _ h => h) (fun _ h => h.elim) ?aF ?aB ?aS ?aL ?_
                                    (case aR => repeat (first | exact (by repeat (first | (with_reducible exact HR263.out) | (with_reducible refine Kd.C_alloc ?_ _) | (with_reducible refine Kd.C_drewN ?_ _) | (with_reducible refine Kd.C_drew ?_) | exact HR263.out)) | (with_reducible refine Kd.C_alloc ?_ _) | (with_reducible refine Kd.C_drewN ?_ _) | (with_reducible refine Kd.C_drew ?_)))
                                    (case aB => exact (by repeat (first | (with_reducible first | exact HB.out | apply below_alloc | apply pw_below_drewN | apply below_drew1) | exact HB.out)))
                                    (case aF => exact (fun k_ hk => ⟨Kd.fresh' (Kd.R_lt (by (with_reducible repeat (first | apply Kd.R_alloc | apply Kd.R_drewN | apply Kd.R_drew)); exact HO_8.out)) k_ hk, Kd.fresh' (Kd.R_lt (by (with_reducible repeat (first | apply Kd.R_alloc | apply Kd.R_drewN | apply Kd.R_drew)); exact HO247.out)) k_ hk⟩))
                                    (case aO => exact (by (with_reducible repeat (first | apply Kd.R_alloc | apply Kd.R_drewN | apply Kd.R_drew)); exact HO259.out))
                                    (case aS => exact (below_size (by repeat (first | (with_reducible first | exact HB.out | apply below_alloc | apply pw_below_drewN | apply below_drew1) | exact HB.out))))
                                    (case aL => have := LMc51.out; omega)
                                    intro v265 w104 ho hb hg hat
                                    rw [← Ny264.out] at ho
                                    have n0_ := Aside0.mk (Kd.R_over' (by (with_reducible repeat (first | apply Kd.R_alloc | apply Kd.R_drewN | apply Kd.R_drew)); exact HO_7.out) (Kd.R_typed (by (with_reducible repeat (first | apply Kd.R_alloc | apply Kd.R_drewN | apply Kd.R_drew)); exact HO259.out)) (by decide) hg)
                                    have n1_ := Aside0.mk (Kd.R_after (ok := (fun k_ => some k_ ≠ (.slice (some ⟨go44, 0, none⟩) y245.length co95 : Value).ownBlock)) (by (with_reducible repeat (first | apply Kd.R_alloc | apply Kd.R_drewN | apply Kd.R_drew)); exact HO_8.out) hg hat)
                                    have n2_ := Aside0.mk (Kd.R_after (ok := (fun k_ => some k_ ≠ (.slice Ao94 x8_1.length co94 : Value).ownBlock)) (by (with_reducible repeat (first | apply Kd.R_alloc | apply Kd.R_drewN | apply Kd.R_drew)); exact HO247.out) hg hat)
                                    have n3_ := Aside0.mk (hb)
                                    have n4_ := Aside0.mk ((show Kd.C k53 w104 Ao94 y253.length y253 from by rw [Ny253.out]; exact Kd.C_take (m := ((ji41) : Int).toNat) ((Kd.R_reads' (Kd.R_after (ok := (fun k_ => some k_ ≠ (.slice (some ⟨go44, 0, none⟩) y245.length co95 : Value).ownBlock)) (by (with_reducible repeat (first | apply Kd.R_alloc | apply Kd.R_drewN | apply Kd.R_drew)); exact HO_8.out) hg hat)).2.2) KL99.out))
                                    have n5_ := Aside0.mk ((show Kd.C k53 w104 A100 y260.length y260 from by rw [Ny260.out, KA100.out]; exact Kd.C_drop (m := ((ji48) : Int).toNat) (c := co94) ((Kd.R_reads' (Kd.R_after (ok := (fun k_ => some k_ ≠ (.slice (some ⟨go44, 0, none⟩) y245.length co95 : Value).ownBlock)) (by (with_reducible repeat (first | apply Kd.R_alloc | apply Kd.R_drewN | apply Kd.R_drew)); exact HO_8.out) hg hat)).2.2) KL100.out ((Kd.R_reads' (Kd.R_after (ok := (fun k_ => some k_ ≠ (.slice (some ⟨go44, 0, none⟩) y245.length co95 : Value).ownBlock)) (by (with_reducible repeat (first | apply Kd.R_alloc | apply Kd.R_drewN | apply Kd.R_drew)); exact HO_8.out) hg hat)).2.1)))
                                    have n6_ := Aside0.mk (ho)
                                    clear HO_7
                                    clear HO_8
                                    clear HO247
                                    clear HB
                                    clear HR256
                                    clear HR263
                                    clear HO259
                                    have HO_7 := n0_
                                    have HO_8 := n1_
                                    have HO247 := n2_
                                    have HB := n3_
                                    have HR256 := n4_
                                    have HR263 := n5_
                                    have HO266 := n6_
                                    clear n0_ n1_ n2_ n3_ n4_ n5_ n6_
                                    clear ho hb hg hat
                                    refine hK.out _ _ trivial (fun hHeld => ?_)
                                    clear hK K
                                    refine norm_ (a' := ?_) ?_ ?_
                                    rotate_left
                                    · show Act.put _ (some 89) _ = _
                                      simp only [Act.put, List.setIfInBounds_toArray, List.set_cons_zero, List.set_cons_succ, i64_w, i32_w]
                                      rfl
                                    refine pure_ (i := 10) (N := some 13) (v := ?_) (a' := ?_) #[true, true, true, true, true, true, true, true, true, true, true] rfl rfl (any_of HT_.out (by kernel_rfl)) (fun _ _ _ h => h) (Or.inl ⟨by rfl, ?_⟩) ?_ ?_
                                    rotate_left
                                    · intro w'
                                      go_simp
                                      with_reducible rfl
                                    rotate_left
                                    · simp only [Act.put, List.setIfInBounds_toArray, List.set_cons_zero, List.set_cons_succ, i64_w, i32_w]
                                      rfl
                                    refine done_ (done_of HT_.out (by kernel_rfl)) ?_
                                    obtain ⟨Ao105, co105, eo105⟩ := Kd.R_slice HO_7.out
                                    subst eo105
                                    try go_wp2_with (first | ((with_reducible refine gate_callee (f := 27) rfl ?_); refine goesL_ (some 92) rfl rfl Try.func27 (by kernel_rfl) rfl #[.slice Ao105 x7_1.length co105, .slice (some ⟨go44, 0, none⟩) y249.length co95] rfl (by (try simp only [List.map_toArray, List.map_cons, List.map_nil]); first | done | (rw [show y249.length = y245.length from (Kd.R_reads' HO247.out).1.symm] <;> rfl) | rfl | (simp only [List.length_drop, List.length_take]; rfl)) ?_; (with_reducible refine (bound_Fresh.calls kj21 _ _ x7_1 _ _ y249 false _ ?side1 ?side2 ?side3 ?side4 A52.out).mono ?_); (case side1 => repeat (first | exact (Kd.R_reads' HO_7.out).2.2 | (with_reducible refine Kd.C_alloc ?_ _) | (with_reducible refine Kd.C_drewN ?_ _) | (with_reducible refine Kd.C_drew ?_))); (case side2 => exact (Kd.R_reads' HO_7.out).2.1); (case side3 => repeat (first | exact (Kd.R_reads' HO247.out).2.2 | (with_reducible refine Kd.C_alloc ?_ _) | (with_reducible refine Kd.C_drewN ?_ _) | (with_reducible refine Kd.C_drew ?_))); (case side4 => rw [show y249.length = y245.length from (Kd.R_reads' HO247.out).1.symm]; exact (Kd.R_reads' HO247.out).2.1); rintro e w106 ⟨rfl, hb⟩; refine ⟨_, rfl, ?_⟩; have n0_ := Aside0.mk (Kd.R_below (by (with_reducible repeat (first | apply Kd.R_alloc | apply Kd.R_drewN | apply Kd.R_drew)); exact HO_7.out) hb); have n1_ := Aside0.mk (Kd.R_below (by (with_reducible repeat (first | apply Kd.R_alloc | apply Kd.R_drewN | apply Kd.R_drew)); exact HO_8.out) hb); have n2_ := Aside0.mk (Kd.R_below (by (with_reducible repeat (first | apply Kd.R_alloc | apply Kd.R_drewN | apply Kd.R_drew)); exact HO247.out) hb); have n3_ := Aside0.mk (Kd.R_below (by (with_reducible repeat (first | apply Kd.R_alloc | apply Kd.R_drewN | apply Kd.R_drew)); exact HO266.out) hb); have n4_ := Aside0.mk (Kd.C_below (by repeat (first | (with_reducible exact HR256.out) | (with_reducible refine Kd.C_alloc ?_ _) | (with_reducible refine Kd.C_drewN ?_ _) | (with_reducible refine Kd.C_drew ?_) | exact HR256.out)) hb); have n5_ := Aside0.mk (Kd.C_below (by repeat (first | (with_reducible exact HR263.out) | (with_reducible refine Kd.C_alloc ?_ _) | (with_reducible refine Kd.C_drewN ?_ _) | (with_reducible refine Kd.C_drew ?_) | exact HR263.out)) hb); have n6_ := Aside0.mk (below_step (by repeat (first | (with_reducible first | exact HB.out | apply below_alloc | apply pw_below_drewN | apply below_drew1) | exact HB.out)) hb); clear HO_7; clear HO_8; clear HO247; clear HO266; clear HR256; clear HR263; clear HB; have HO_7 := n0_; have HO_8 := n1_; have HO247 := n2_; have HO266 := n3_; have HR256 := n4_; have HR263 := n5_; have HB := n6_; clear n0_ n1_ n2_ n3_ n4_ n5_ n6_; (try clear hb); (try clear hb2); (try clear hk); (try clear hi); obtain ⟨Ao107, co107, eo107⟩ := Kd.R_slice HO266.out; subst eo107) | (go_at_call 27; (with_reducible refine (bound_Fresh.calls kj21 _ _ x7_1 _ _ y264 false _ ?side1 ?side2 ?side3 ?side4 A70.out).mono ?_); (case side1 => repeat (first | exact (Kd.R_reads' HO_7.out).2.2 | (with_reducible refine Kd.C_alloc ?_ _) | (with_reducible refine Kd.C_drewN ?_ _) | (with_reducible refine Kd.C_drew ?_))); (case side2 => exact (Kd.R_reads' HO_7.out).2.1); (case side3 => repeat (first | exact (Kd.R_reads' HO266.out).2.2 | (with_reducible refine Kd.C_alloc ?_ _) | (with_reducible refine Kd.C_drewN ?_ _) | (with_reducible refine Kd.C_drew ?_))); (case side4 => exact (Kd.R_reads' HO266.out).2.1); rintro e w108 ⟨rfl, hb⟩; have n0_ := Aside0.mk (Kd.R_below (by (with_reducible repeat (first | apply Kd.R_alloc | apply Kd.R_drewN | apply Kd.R_drew)); exact HO_7.out) hb); have n1_ := Aside0.mk (Kd.R_below (by (with_reducible repeat (first | apply Kd.R_alloc | apply Kd.R_drewN | apply Kd.R_drew)); exact HO_8.out) hb); have n2_ := Aside0.mk (Kd.R_below (by (with_reducible repeat (first | apply Kd.R_alloc | apply Kd.R_drewN | apply Kd.R_drew)); exact HO247.out) hb); have n3_ := Aside0.mk (Kd.R_below (by (with_reducible repeat (first | apply Kd.R_alloc | apply Kd.R_drewN | apply Kd.R_drew)); exact HO266.out) hb); have n4_ := Aside0.mk (Kd.C_below (by repeat (first | (with_reducible exact HR256.out) | (with_reducible refine Kd.C_alloc ?_ _) | (with_reducible refine Kd.C_drewN ?_ _) | (with_reducible refine Kd.C_drew ?_) | exact HR256.out)) hb); have n5_ := Aside0.mk (Kd.C_below (by repeat (first | (with_reducible exact HR263.out) | (with_reducible refine Kd.C_alloc ?_ _) | (with_reducible refine Kd.C_drewN ?_ _) | (with_reducible refine Kd.C_drew ?_) | exact HR263.out)) hb); have n6_ := Aside0.mk (below_step (by repeat (first | (with_reducible first | exact HB.out | apply below_alloc | apply pw_below_drewN | apply below_drew1) | exact HB.out)) hb); clear HO_7; clear HO_8; clear HO247; clear HO266; clear HR256; clear HR263; clear HB; have HO_7 := n0_; have HO_8 := n1_; have HO247 := n2_; have HO266 := n3_; have HR256 := n4_; have HR263 := n5_; have HB := n6_; clear n0_ n1_ n2_ n3_ n4_ n5_ n6_; (try clear hb); (try clear hb2); (try clear hk); (try clear hi)) | (go_at_call 26; (with_reducible refine (slipwaylaw9_awake.calls kj21  t269 _ A90.out).mono ?_); rintro e w109 ⟨rfl, hb⟩; have n0_ := Aside0.mk (Kd.R_below (by (with_reducible repeat (first | apply Kd.R_alloc | apply Kd.R_drewN | apply Kd.R_drew)); exact HO_7.out) hb); have n1_ := Aside0.mk (Kd.R_below (by (with_reducible repeat (first | apply Kd.R_alloc | apply Kd.R_drewN | apply Kd.R_drew)); exact HO_8.out) hb); have n2_ := Aside0.mk (Kd.R_below (by (with_reducible repeat (first | apply Kd.R_alloc | apply Kd.R_drewN | apply Kd.R_drew)); exact HO247.out) hb); have n3_ := Aside0.mk (Kd.R_below (by (with_reducible repeat (first | apply Kd.R_alloc | apply Kd.R_drewN | apply Kd.R_drew)); exact HO266.out) hb); have n4_ := Aside0.mk (Kd.C_below (by repeat (first | (with_reducible exact HR256.out) | (with_reducible refine Kd.C_alloc ?_ _) | (with_reducible refine Kd.C_drewN ?_ _) | (with_reducible refine Kd.C_drew ?_) | exact HR256.out)) hb); have n5_ := Aside0.mk (Kd.C_below (by repeat (first | (with_reducible exact HR263.out) | (with_reducible refine Kd.C_alloc ?_ _) | (with_reducible refine Kd.C_drewN ?_ _) | (with_reducible refine Kd.C_drew ?_) | exact HR263.out)) hb); have n6_ := Aside0.mk (below_step (by repeat (first | (with_reducible first | exact HB.out | apply below_alloc | apply pw_below_drewN | apply below_drew1) | exact HB.out)) hb); clear HO_7; clear HO_8; clear HO247; clear HO266; clear HR256; clear HR263; clear HB; have HO_7 := n0_; have HO_8 := n1_; have HO247 := n2_; have HO266 := n3_; have HR256 := n4_; have HR263 := n5_; have HB := n6_; clear n0_ n1_ n2_ n3_ n4_ n5_ n6_; (try clear hb); (try clear hb2); (try clear hk); (try clear hi)))
                                    go_ret
                                    exact ⟨by first | rfl | (simp [errW_none, errW_some] <;> rfl) | (simp only [← hji4, ← hji41, ← hji48]; first | rfl | (simp [errW_none, errW_some] <;> rfl)) | (simp [*, errW_none, errW_some] <;> rfl), by repeat (first | (with_reducible first | exact HB.out | apply below_alloc | apply pw_below_drewN | apply below_drew1) | exact HB.out)⟩
                              · rw [if_neg c51] at H
                                exact absurd H (by simp)
                            · rw [if_neg c50] at H
                              exact absurd H (by simp)
                          · rw [if_neg c49] at H
                            exact absurd H (by simp)
                        · rw [if_neg c47] at H
                          exact absurd H (by simp)
                      · rw [if_neg c46] at H
                        exact absurd H (by simp)
                    · rw [if_neg c43] at H
                      exact absurd H (by simp)
                  · rw [if_neg c42] at H
                    exact absurd H (by simp)
                · rw [if_neg c40] at H
                  exact absurd H (by simp)

/-- THE ONE PURE STATEMENT of slipwaylaw9_BoundFresh: yours. -/
def slipwaylaw9_BoundFresh.Pure : Prop := ∀ (l0 : List Int) (a1 : Int) (a2 : Int), l0.length ≤ maxLen → l0.length * 8 ≤ 140737488351232 → (∀ x ∈ l0, (Lit.int .i64 x).wf = true) → (Lit.int .i64 a1).wf = true → (Lit.int .i64 a2).wf = true → ∃ k, slipwaylaw9_BoundFresh.f k l0 a1 a2 = some true
theorem slipwaylaw9_BoundFresh.walk (P : slipwaylaw9_BoundFresh.Pure) (a0 : Option Addr) (len0 cap0 : Nat) (z0 : List Int) (a1 : Int) (a2 : Int) (w : World) (w0 : (a0 = none ∧ len0 = 0 ∧ cap0 = 0 ∧ z0 = []) ∨ ∃ x, a0 = some x ∧ len0 ≤ cap0 ∧ cap0 ≤ maxLen ∧ z0.length = cap0 ∧ (∀ i, i < z0.length → w.cell? (x.add i) = some (.int .i64 (z0.getD i 0))) ∧ ∀ n ∈ z0, (Lit.int .i64 n).wf = true) (y0 : len0 * 8 ≤ 140737488351232) (w1 : (Lit.int .i64 a1).wf = true) (w2 : (Lit.int .i64 a2).wf = true) :
    Calls Try.prog 5 #[.slice a0 len0 cap0, .int .i64 a1, .int .i64 a2] w fun e w' => e = .returned (.bool true) ∧ Below w.heap.size w w' := by
  obtain ⟨l0, rfl, hr0, hm0, hw0, hc0⟩ := ReadsInt.ofRowC w0
  obtain ⟨k, h⟩ := P l0 a1 a2 hm0 y0 hw0 w1 w2
  refine (slipwaylaw9_BoundFresh.calls k _ _ l0 a1 a2 true w (Kd.C_of_reads (d := (0 : Int)) (h1 := fun _ => rfl) hr0) hc0 h).mono ?_
  rintro e w' ⟨rfl, hd⟩
  exact ⟨rfl, hd⟩

end Go.Proofs.Ytjifmpjpccibnaa.D
