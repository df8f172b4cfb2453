/- What Go functions of the program compute, each as a Lean function with its contract: written by a program of this session; some by hand. (No condition.) -/
import Derived.Test.YtjifmpjpccibnaaDx0
import Derived.Test.YtjifmpjpccibnaaDx38
import Derived.Test.YtjifmpjpccibnaaDx39
namespace Go.Proofs.Ytjifmpjpccibnaa.D
open Go.RowKit Go.Proofs.YtjifmpjpccibnaaW.PrintWords Go.Proofs.YtjifmpjpccibnaaW.PrintLast Go.Proofs.YtjifmpjpccibnaaW.PrintMore
attribute [local go_sem] max2_int min2_int max_two min_two max_three min_three max_four min_four   -- for this text's walks alone
set_option linter.unusedVariables false
set_option linter.unusedSimpArgs false

/-! ### slipwayref1_Put: function 43 (given by hand) -/
open Go.Proofs.YtjifmpjpccibnaaE
def slipwayref1_Put.f (k : Nat) (a0 : ByteArray) (a1 : Int) (a2 : Int) (a3 : Int) : Option (ByteArray × Bool) :=
  if a0.size ≤ 4611686018427387904 then
    if a2 < 1 then some (a0, false) else if a2 > 8 then some (a0, false) else if a1 < 0 then some (a0, false) else if a1 > (a0.size : Int) then some (a0, false)
    else if a2 > (a0.size : Int) - a1 then some (a0, false)
    else (slipwayref1_Bytes.f k a3 a2).bind fun t => if t.size ≤ 8 then some ((a0.extract 0 a1.toNat ++ t) ++ a0.extract (a1 + a2).toNat a0.size, true) else none
  else none
theorem slipwayref1_Put.mono : ∀ a0 a1 a2 a3 k, LeO (slipwayref1_Put.f k a0 a1 a2 a3) (slipwayref1_Put.f (k + 1) a0 a1 a2 a3) := by
  intro a0 a1 a2 a3 k
  unfold slipwayref1_Put.f
  repeat' first
      | (with_reducible exact LeO.refl _)
      | (with_reducible refine LeO.ite ?_ ?_)
      | (with_reducible refine LeO.bind (slipwayref1_Bytes.mono _ _ _) (fun _ => ?_))
theorem put_below {w w1 : World} {m : Nat} (h : Below (w.drewN m).drew.heap.size (w.drewN m).drew w1) : Below w.heap.size w w1 := below_then (below_drew (pw_below_drewN (Below.refl _ _) m)) (Nat.le_refl _) h
theorem extract_size_ (a : ByteArray) (i j : Nat) : (a.extract i j).size = min j a.size - i := by simp
set_option maxHeartbeats 4000000 in
set_option maxRecDepth 100000 in
theorem slipwayref1_Put.calls (k : Nat) (a0 : ByteArray) (a1 : Int) (a2 : Int) (a3 : Int) (r1 : ByteArray) (r2 : Bool) (w : World) (h : slipwayref1_Put.f k a0 a1 a2 a3 = some (r1, r2)) :
    Calls Try.prog 43 #[.string a0, .int .i64 a1, .int .i64 a2, .int .u64 a3] w fun e w' => e = .returned (.tuple #[.string r1, .bool r2]) ∧ Below w.heap.size w w' := by
  unfold slipwayref1_Put.f at h
  by_cases c0 : ¬ (a0.size ≤ 4611686018427387904)
  · rw [if_neg c0] at h; cases h
  have c0' : a0.size ≤ 4611686018427387904 := Decidable.not_not.mp c0
  rw [if_pos c0'] at h
  clear c0
  have hnn : (0 : Int) ≤ (a0.size : Int) := by omega
  by_cases c1 : a2 < 1
  · rw [if_pos c1] at h
    simp only [Option.some.injEq, Prod.mk.injEq] at h
    obtain ⟨rfl, rfl⟩ := h
    have d1 : decide (a2 < 1) = true := decide_eq_true c1
    go_enter Try.func43, Try.ntmps43
    go_wp2
    go_ret2
    exact ⟨rfl, Below.refl _ _⟩
  rw [if_neg c1] at h
  have d1 : decide (a2 < 1) = false := decide_eq_false c1
  by_cases c2 : a2 > 8
  · rw [if_pos c2] at h
    simp only [Option.some.injEq, Prod.mk.injEq] at h
    obtain ⟨rfl, rfl⟩ := h
    have d2 : decide (8 < a2) = true := decide_eq_true c2
    go_enter Try.func43, Try.ntmps43
    go_wp2
    go_ret2
    exact ⟨rfl, Below.refl _ _⟩
  rw [if_neg c2] at h
  have d2 : decide (8 < a2) = false := decide_eq_false c2
  have hno : ∀ (hin : slipwayref1_In.f (a0.size : Int) a1 a2 = some false), Calls Try.prog 43 #[.string a0, .int .i64 a1, .int .i64 a2, .int .u64 a3] w fun e w' => e = .returned (.tuple #[.string a0, .bool false]) ∧ Below w.heap.size w w' := by
    intro hin
    have HIN := Aside0.mk hin
    clear hin
    go_enter Try.func43, Try.ntmps43
    go_wp2_with (go_at_call 60; refine (slipwayref1_In.calls _ _ _ _ _ HIN.out).mono ?_; rintro e w' ⟨rfl, ⟨m, rfl⟩⟩)
    go_ret2
    exact ⟨rfl, pw_below_drewN (Below.refl _ _) _⟩
  by_cases c3 : a1 < 0
  · rw [if_pos c3] at h
    simp only [Option.some.injEq, Prod.mk.injEq] at h
    obtain ⟨rfl, rfl⟩ := h
    exact hno (by unfold slipwayref1_In.f; rw [if_neg (by omega)])
  rw [if_neg c3] at h
  by_cases c4 : a1 > (a0.size : Int)
  · rw [if_pos c4] at h
    simp only [Option.some.injEq, Prod.mk.injEq] at h
    obtain ⟨rfl, rfl⟩ := h
    exact hno (by unfold slipwayref1_In.f; rw [if_pos (by omega), if_pos (by omega), if_neg (by omega)])
  rw [if_neg c4] at h
  have hw : wrap64 ((a0.size : Int) - a1) = (a0.size : Int) - a1 := by unfold wrap64; omega
  by_cases c5 : a2 > (a0.size : Int) - a1
  · rw [if_pos c5] at h
    simp only [Option.some.injEq, Prod.mk.injEq] at h
    obtain ⟨rfl, rfl⟩ := h
    exact hno (by unfold slipwayref1_In.f; rw [if_pos (by omega), if_pos (by omega), if_pos (by omega), hw, decide_eq_false (by omega)])
  rw [if_neg c5] at h
  have hin : slipwayref1_In.f (a0.size : Int) a1 a2 = some true := by unfold slipwayref1_In.f; rw [if_pos (by omega), if_pos (by omega), if_pos (by omega), hw, decide_eq_true (by omega)]
  have HIN := Aside0.mk hin
  clear hin hw hno
  replace h := Option.bind_eq_some_iff.mp h
  obtain ⟨t, ht, h⟩ := h
  have HT := Aside0.mk ht
  clear ht
  by_cases c6 : ¬ (t.size ≤ 8)
  · rw [if_neg c6] at h; cases h
  have c6' : t.size ≤ 8 := Decidable.not_not.mp c6
  rw [if_pos c6'] at h
  clear c6
  simp only [Option.some.injEq, Prod.mk.injEq] at h
  obtain ⟨rfl, rfl⟩ := h
  obtain ⟨at_, rfl⟩ := Int.eq_ofNat_of_zero_le (show 0 ≤ a1 by omega)
  obtain ⟨n, rfl⟩ := Int.eq_ofNat_of_zero_le (show 0 ≤ a2 by omega)
  have e1 : ((at_ : Int) + (n : Int)).toNat = at_ + n := by omega
  rw [e1, Int.toNat_natCast]
  have hb1 : at_ ≤ a0.size := by omega
  have hb2 : at_ + n ≤ a0.size := by omega
  have hb3 : ((at_ : Int) + (n : Int)) ≤ (a0.size : Int) := by omega
  have hs1 : (a0.extract 0 at_).size = at_ := by rw [extract_size_]; omega
  have hs2 : (a0.extract (at_ + n) a0.size).size = a0.size - (at_ + n) := by rw [extract_size_]; omega
  have g1 : (9223372036854775807 < at_ + t.size) = False := eq_false (by omega)
  have g2 : (9223372036854775807 < at_ + t.size + (a0.size - (at_ + n))) = False := eq_false (by omega)
  have g3 : IntKind.i64.wrap ((at_ : Int) + (n : Int)) = (at_ : Int) + (n : Int) := IntWalk.i64_in _ (by omega)
  have g4 : ((at_ : Int) + (n : Int)).toNat = at_ + n := e1
  have g5 : 0 ≤ ((at_ : Int) + (n : Int)) := by omega
  clear c1 c2 c3 c4 c5
  clear e1 hs1 hs2
  go_enter Try.func43, Try.ntmps43
  go_wp2_with (go_at_call 60; refine (slipwayref1_In.calls _ _ _ _ _ HIN.out).mono ?_; rintro e w' ⟨rfl, ⟨m, rfl⟩⟩)
  go_region_law (first | (go_simp; go_at_call 59; refine (slipwayref1_Bytes.calls k a3 (n : Int) t _ HT.out).mono ?_; rintro e w1 ⟨rfl, hb⟩; have HB1 := Aside0.mk hb; clear hb))
  all_goals
    go_wp2
    go_ret2
    exact ⟨rfl, put_below HB1.out⟩


end Go.Proofs.Ytjifmpjpccibnaa.D
