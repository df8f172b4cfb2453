/- What Go functions of the program compute, each as a Lean function with its contract: written by a program of this session; some by hand. (No condition.) -/
import Derived.Test.YtjifmpjpccibnaaDx0
namespace Go.Proofs.Ytjifmpjpccibnaa.D
open Go.RowKit Go.Proofs.YtjifmpjpccibnaaW.PrintWords Go.Proofs.YtjifmpjpccibnaaW.PrintLast Go.Proofs.YtjifmpjpccibnaaW.PrintMore
attribute [local go_sem] max2_int min2_int max_two min_two max_three min_three max_four min_four   -- for this text's walks alone
set_option linter.unusedVariables false
set_option linter.unusedSimpArgs false

/-! ### le_Zero: function 71 (given by hand) -/
open Go.Proofs.YtjifmpjpccibnaaE
theorem le_Zero_p.calls (c : Int) (w : World) : Calls Try.prog 82 #[.int .u8 c] w fun e w' => e = .returned (.bool (c != 0)) ∧ w = w' := by
  go_enter Try.func82, Try.ntmps82
  go_wp2
  go_ret
  exact ⟨rfl, rfl⟩

/-- The first place at which something is not nought. -/
def firstNot : List Int → Int → Int
  | [], _ => -1
  | x :: l, i => if x != 0 then i else firstNot l (i + 1)

theorem firstNot_drop (l : List Int) (k : Nat) (hk : k < l.length) : firstNot (l.drop k) k = if rd l k != 0 then (k : Int) else firstNot (l.drop (k + 1)) ((k + 1 : Nat) : Int) := by
  rw [List.drop_eq_getElem_cons hk, firstNot]
  have : rd l k = l[k] := by simp [rd, hk]
  rw [this]
  simp

set_option maxHeartbeats 400000 in
set_option maxRecDepth 100000 in
theorem le_Zero_i.calls (A0 : Option Addr) (c0 : Nat) (l0 : List Int) (w : World) (hr0 : Kd.C (Kd.int .u8) w A0 l0.length l0) (hc0 : l0.length ≤ c0) :
    Calls Try.prog 88 #[.slice A0 l0.length c0, .func (.func 82) #[] #[]] w fun e w' => e = .returned (.int .i64 (firstNot l0 0)) ∧ Drawn0 w w' := by
  have HR0 := Aside0.mk hr0
  have hn : l0.length ≤ 9223372036854775807 := (Kd.reads_of_C (d := (0 : Int)) hr0).2.1
  clear hr0
  go_enter Try.func88, Try.ntmps88
  go_wp2
  go_loopw [5, 8] (fun v5 v8 w' => ∃ k : Nat, k ≤ l0.length ∧ v8 = .int .i64 k ∧ (∃ x, v5 = x) ∧ Aside0 (firstNot l0 0 = firstNot (l0.drop k) k) ∧ Drawn0 w w') (fun _ v8 _ => l0.length - (intOf v8).toNat)
  case atStart => exact ⟨0, Nat.zero_le _, rfl, ⟨_, rfl⟩, ⟨rfl⟩, Drawn0.refl _⟩
  case round =>
    obtain ⟨k, hk, rfl, ⟨x, rfl⟩, HF, ⟨m, rfl⟩⟩ := hrel
    by_cases hlt : k < l0.length
    · have hl : (k : Int) < (l0.length : Int) := by omega
      obtain ⟨ad, e, hx⟩ := Kd.at_int HR0.out (k : Int) (by omega) (by omega)
      cases e
      rw [Int.toNat_natCast] at hx
      have HF2 := Aside0.mk (HF.out.trans (firstNot_drop l0 k hlt))
      clear HF
      rcases hb : (rd l0 (k : Int) != 0) with _ | _
      · have HB := Aside0.mk hb
        clear hb
        go_wp2_with (go_at_call 82; refine (le_Zero_p.calls _ _).mono ?_; rintro e w' ⟨rfl, rfl⟩; rw [HB.out])
        go_roundw
        case rel => exact ⟨k + 1, by omega, by go_num, ⟨_, rfl⟩, ⟨by have := HF2.out; rw [HB.out] at this; exact this⟩, by repeat (first | exact Drawn0.refl _ | apply Drawn0.step)⟩
        case measure => simp [intOf]; omega
      · have HB := Aside0.mk hb
        clear hb
        go_wp2_with (go_at_call 82; refine (le_Zero_p.calls _ _).mono ?_; rintro e w' ⟨rfl, rfl⟩; rw [HB.out])
        go_ret
        exact ⟨by have := HF2.out; rw [HB.out] at this; rw [this]; simp, by repeat (first | exact Drawn0.refl _ | apply Drawn0.step)⟩
    · go_wp2
      go_ret
      have hk2 : k = l0.length := by omega
      exact ⟨by rw [HF.out, hk2]; simp [firstNot], by repeat (first | exact Drawn0.refl _ | apply Drawn0.step)⟩

def le_Zero.f (l0 : List Int) : Option Bool := some (l0.all fun x => x == 0)
theorem firstNot_ge (l : List Int) : ∀ i : Int, 0 ≤ i → (l.all (fun x => x == 0)) = !decide (firstNot l i ≥ 0) := by
  induction l with
  | nil => intro i hi; simp [firstNot]
  | cons x l ih =>
    intro i hi
    by_cases hx : x = 0
    · subst hx
      have e : firstNot (0 :: l) i = firstNot l (i + 1) := by simp [firstNot]
      rw [e, List.all_cons]
      simpa using ih (i + 1) (by omega)
    · have e : firstNot (x :: l) i = i := by simp [firstNot, hx]
      rw [e, List.all_cons]
      simp [hx, hi]

theorem le_Zero_c.calls (A0 : Option Addr) (c0 : Nat) (l0 : List Int) (w : World) (hr0 : Kd.C (Kd.int .u8) w A0 l0.length l0) (hc0 : l0.length ≤ c0) :
    Calls Try.prog 81 #[.slice A0 l0.length c0, .func (.func 82) #[] #[]] w fun e w' => e = .returned (.bool (decide (firstNot l0 0 ≥ 0))) ∧ Drawn0 w w' := by
  have HR0 := Aside0.mk hr0
  clear hr0
  go_enter Try.func81, Try.ntmps81
  go_wp2_with (go_at_call 88; refine (le_Zero_i.calls _ _ l0 _ HR0.out hc0).mono ?_; rintro e w' ⟨rfl, ⟨m, rfl⟩⟩)
  go_ret
  exact ⟨rfl, by repeat (first | exact Drawn0.refl _ | apply Drawn0.step)⟩
theorem le_Zero.calls (A0 : Option Addr) (c0 : Nat) (l0 : List Int) (r : Bool) (w : World) (hr0 : Kd.C (Kd.int .u8) w A0 l0.length l0) (hc0 : l0.length ≤ c0) (h : le_Zero.f l0 = some r) :
    Calls Try.prog 71 #[.slice A0 l0.length c0] w fun e w' => e = .returned (.bool r) ∧ Drawn0 w w' := by
  have HR0 := Aside0.mk hr0
  clear hr0
  obtain rfl := Option.some.inj h
  clear h
  go_enter Try.func71, Try.ntmps71
  go_wp2_with (go_at_call 81; refine (le_Zero_c.calls _ _ l0 _ HR0.out hc0).mono ?_; rintro e w' ⟨rfl, ⟨m, rfl⟩⟩)
  go_ret
  exact ⟨by rw [firstNot_ge l0 0 (Int.le_refl 0)]; rfl, by repeat (first | exact Drawn0.refl _ | apply Drawn0.step)⟩


end Go.Proofs.Ytjifmpjpccibnaa.D
