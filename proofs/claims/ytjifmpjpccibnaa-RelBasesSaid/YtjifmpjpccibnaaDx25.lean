/- What Go functions of the program compute, each as a Lean function with its contract: written by a program of this session; some by hand. (No condition.) -/
import Derived.Test.YtjifmpjpccibnaaDx0
namespace Go.Proofs.Ytjifmpjpccibnaa.D
open Go.RowKit Go.Proofs.YtjifmpjpccibnaaW.PrintWords Go.Proofs.YtjifmpjpccibnaaW.PrintLast Go.Proofs.YtjifmpjpccibnaaW.PrintMore
attribute [local go_sem] max2_int min2_int max_two min_two max_three min_three max_four min_four   -- for this text's walks alone
set_option linter.unusedVariables false
set_option linter.unusedSimpArgs false

/-! ### le_number: function 77 (given by hand) -/
open Go.Proofs.YtjifmpjpccibnaaE
def orLoop : List Int → Nat → Int → Int
  | [], _, v => v
  | c :: r, i, v => orLoop r (i + 1) (Go.bits .or .u64 v (shl .u64 (IntKind.u64.wrap c) (8 * (i : Int))))
def le_number.f (l0 : List Int) (a1 : Int) (a2 : Int) : Option (Int × Bool) :=
  if 1 ≤ a2 ∧ a2 ≤ 8 then
    if a1 < 0 then some (0, false) else if a1 > (l0.length : Int) then some (0, false) else if a2 > (l0.length : Int) - a1 then some (0, false)
    else some (orLoop ((l0.drop a1.toNat).take a2.toNat) 0 0, true)
  else none
theorem orLoop_drop (l : List Int) (k : Nat) (v : Int) (hk : k < l.length) : orLoop (l.drop k) k v = orLoop (l.drop (k + 1)) (k + 1) (Go.bits .or .u64 v (shl .u64 (IntKind.u64.wrap (rd l k)) (8 * (k : Int)))) := by
  have hr : rd l k = l[k] := by simp [rd, hk]
  rw [List.drop_eq_getElem_cons hk, orLoop, hr]
set_option maxHeartbeats 4000000 in
set_option maxRecDepth 100000 in
theorem le_number.calls (A0 : Option Addr) (c0 : Nat) (l0 : List Int) (a1 : Int) (a2 : Int) (r1 : Int) (r2 : Bool) (w : World) (hr0 : Kd.C (Kd.int .u8) w A0 l0.length l0) (hc0 : l0.length ≤ c0) (h : le_number.f l0 a1 a2 = some (r1, r2)) :
    Calls Try.prog 77 #[.slice A0 l0.length c0, .int .i64 a1, .int .i64 a2] w fun e w' => e = .returned (.tuple #[.int .u64 r1, .bool r2]) ∧ Drawn0 w w' := by
  have hR := Kd.reads_of_C (d := (0 : Int)) hr0
  have hn : l0.length ≤ 9223372036854775807 := hR.2.1
  have hnn : (0 : Int) ≤ (l0.length : Int) := by omega
  unfold le_number.f at h
  by_cases c9_ : ¬ (1 ≤ a2 ∧ a2 ≤ 8)
  · rw [if_neg c9_] at h; cases h
  have c0_ : 1 ≤ a2 ∧ a2 ≤ 8 := Decidable.not_not.mp c9_
  clear c9_
  rw [if_pos c0_] at h
  obtain ⟨b1, b2⟩ := c0_
  have HR := Aside0.mk hR
  clear hR hr0
  by_cases c3 : a1 < 0
  · rw [if_pos c3] at h
    simp only [Option.some.injEq, Prod.mk.injEq] at h
    obtain ⟨rfl, rfl⟩ := h
    have d3 : decide (a1 < 0) = true := decide_eq_true c3
    go_enter Try.func77, Try.ntmps77
    go_wp2
    go_ret2
    exact ⟨rfl, Drawn0.refl _⟩
  rw [if_neg c3] at h
  have d3 : decide (a1 < 0) = false := decide_eq_false c3
  by_cases c4 : a1 > (l0.length : Int)
  · rw [if_pos c4] at h
    simp only [Option.some.injEq, Prod.mk.injEq] at h
    obtain ⟨rfl, rfl⟩ := h
    have d4 : decide ((l0.length : Int) < a1) = true := decide_eq_true c4
    go_enter Try.func77, Try.ntmps77
    go_wp2
    go_ret2
    exact ⟨rfl, Drawn0.refl _⟩
  rw [if_neg c4] at h
  have d4 : decide ((l0.length : Int) < a1) = false := decide_eq_false c4
  obtain ⟨at_, rfl⟩ := Int.eq_ofNat_of_zero_le (show 0 ≤ a1 by omega)
  obtain ⟨n, rfl⟩ := Int.eq_ofNat_of_zero_le (show 0 ≤ a2 by omega)
  by_cases c5 : (n : Int) > (l0.length : Int) - (at_ : Int)
  · rw [if_pos c5] at h
    simp only [Option.some.injEq, Prod.mk.injEq] at h
    obtain ⟨rfl, rfl⟩ := h
    have d5 : decide ((l0.length : Int) - (at_ : Int) < (n : Int)) = true := decide_eq_true c5
    go_enter Try.func77, Try.ntmps77
    go_wp2
    go_ret2
    exact ⟨rfl, Drawn0.refl _⟩
  rw [if_neg c5] at h
  have d5 : decide ((l0.length : Int) - (at_ : Int) < (n : Int)) = false := decide_eq_false c5
  simp only [Option.some.injEq, Prod.mk.injEq, Int.toNat_natCast] at h
  obtain ⟨rfl, rfl⟩ := h
  obtain ⟨ad, rfl, hc⟩ := HR.out.2.2 (by omega)
  have hlen : ((l0.drop at_).take n).length = n := by simp; omega
  have hcs : ∀ j, j < n → w.cell? ((ad.add at_).add j) = some (.int .u8 (rd ((l0.drop at_).take n) (j : Int))) := by
    intro j hj
    have h1 := hc (at_ + j) (by omega)
    have h2 : (ad.add at_).add j = ad.add (at_ + j) := add_add ad at_ j
    rw [h2, h1]
    simp [rd, List.getD_eq_getElem?_getD, List.getElem?_take, hj]
  have HCS := Aside0.mk hcs
  have HLEN := Aside0.mk hlen
  have hc2 : ¬ (c0 = at_) := by omega
  have d4n : decide (l0.length < at_) = false := decide_eq_false (by omega)
  have hb3 : at_ + n ≤ l0.length := by omega
  have hb4 : at_ + n ≤ c0 := by omega
  have hb5 : at_ ≤ c0 := by omega
  clear HR hcs hc hlen c3 c4 c5
  generalize (l0.drop at_).take n = ds at *
  go_enter Try.func77, Try.ntmps77
  go_wp2
  have e32 : at_ + n - at_ = n := by omega
  rw [e32]
  go_loopw [8, 9, 10, 34] (fun v8 v9 v10 v34 wr => ∃ (k : Nat) (x : Int), k ≤ n ∧ v34 = .int .i64 k ∧ v8 = .int .u64 x ∧ (∃ y, v9 = y) ∧ (∃ y, v10 = y) ∧ Aside0 (orLoop (ds.drop k) k x = orLoop ds 0 0) ∧ Drawn0 w wr) (fun _ _ _ v34 _ => n - (intOf v34).toNat)
  case atStart => exact ⟨0, 0, Nat.zero_le _, rfl, rfl, ⟨_, rfl⟩, ⟨_, rfl⟩, ⟨rfl⟩, Drawn0.refl _⟩
  case round =>
    obtain ⟨k, x, hk, rfl, rfl, ⟨y9, rfl⟩, ⟨y10, rfl⟩, HF, ⟨m, rfl⟩⟩ := hrel
    by_cases hlt : k < n
    · have hx := HCS.out k hlt
      have HF2 := Aside0.mk ((orLoop_drop ds k x (by rw [HLEN.out]; exact hlt)).symm.trans HF.out)
      clear HF
      go_wp2
      go_roundw
      case rel =>
        refine ⟨k + 1, _, by omega, by go_num, rfl, ⟨_, rfl⟩, ⟨_, rfl⟩, ⟨?_⟩, by repeat (first | exact Drawn0.refl _ | apply Drawn0.step)⟩
        refine Eq.trans ?_ HF2.out
        have e8 : (8 * (k : Int)).toNat = 8 * k := by omega
        have e64 : min (8 * k) 64 = 8 * k := by omega
        simp only [shl, e8, IntKind.bits, e64]
      case measure => simp [intOf]; omega
    · go_wp2
      go_ret2
      exact ⟨by have := HF.out; rw [List.drop_of_length_le (by rw [HLEN.out]; omega)] at this; rw [← this]; rfl, by repeat (first | exact Drawn0.refl _ | apply Drawn0.step)⟩


end Go.Proofs.Ytjifmpjpccibnaa.D
