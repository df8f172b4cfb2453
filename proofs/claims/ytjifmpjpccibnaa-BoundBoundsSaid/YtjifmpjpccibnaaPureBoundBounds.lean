/- BoundBounds holds: as many rows as the bound says may be, and no more; rows that belong to another one are told, too. (No condition.) -/
import Derived.Test.YtjifmpjpccibnaaDx52
import Derived.Test.YtjifmpjpccibnaaPc
namespace Go.Proofs.Ytjifmpjpccibnaa.Pure
open Go.RowKit Go.Proofs.Ytjifmpjpccibnaa.D Go.Proofs.YtjifmpjpccibnaaW.PrintWords Go.Proofs.YtjifmpjpccibnaaW.PrintLast Go.Proofs.YtjifmpjpccibnaaW.PrintMore Go.Proofs.YtjifmpjpccibnaaA Go.Proofs.Ytjifmpjpccibnaa.Pb
set_option linter.unusedVariables false
set_option maxRecDepth 100000

theorem dig_is (i k : Nat) (hi : i < 36) (hk : 5 ≤ k) : slipwayref1_Digits.f k (i : Int) = some (dig i) := by
  have h := (dig_ok i hi).1
  refine at_rounds (slipwayref1_Digits.mono (i : Int)) hk ?_
  obtain ⟨d, hd⟩ := Option.isSome_iff_exists.1 h
  simp [dig, hd]
theorem bbRows_succ (i : Nat) : bbRows (i + 1) = bbRows i ++ [⟨⟨#[109]⟩ ++ dig i, (i : Int) + 1⟩] := by simp [bbRows, List.range_succ]
theorem bbRows_len (n : Nat) : (bbRows n).length = n := by simp [bbRows]
theorem bbRows_take (n : Nat) (hn : 6 ≤ n) : (bbRows n).take 6 = bbRows 6 := by
  unfold bbRows
  rw [← List.map_take, List.take_range, Nat.min_eq_left hn]
theorem bbRows_size (n : Nat) (hn : n ≤ 36) : ∀ i : Nat, (rd_T42 (bbRows n) i).f0.size ≤ 100 := by
  intro i
  unfold rd_T42
  rw [Int.toNat_natCast, List.getD_eq_getElem?_getD]
  by_cases hi : i < n
  · have h2 := (dig_ok i (by omega)).2
    have h3 : (⟨#[109]⟩ : ByteArray).size = 1 := rfl
    simp [bbRows, hi, ByteArray.size_append]
    omega
  · have h0 : (⟨#[]⟩ : ByteArray).size = 0 := rfl
    simp [bbRows, hi, z42, h0]
theorem bb_steps (N : Nat) (hN : N ≤ 35) (a1 a2 : Int) (k : Nat) (hk : 5 ≤ k) : ∀ (j i : Nat), i + j = N → slipwaylaw9_BoundBounds.l0 (k + j) (N : Int) a1 a2 (bbRows i) (i : Int) = slipwaylaw9_BoundBounds.l0 k (N : Int) a1 a2 (bbRows N) (N : Int) := by
  intro j
  induction j with
  | zero => intro i h; obtain rfl : i = N := by omega
            rfl
  | succ j ih =>
    intro i h
    have hw : wrap64 ((i : Int) + 1) = ((i + 1 : Nat) : Int) := by unfold wrap64; omega
    have h2 := (dig_ok i (by omega)).2
    rw [show k + (j + 1) = (k + j) + 1 by omega]
    simp only [slipwaylaw9_BoundBounds.l0]
    rw [if_pos (by omega), dig_is i (k + j) (by omega) (by omega), Option.bind_some, if_pos (by omega), if_pos (by rw [bbRows_len]; omega), hw]
    rw [show (bbRows i ++ [(⟨⟨#[109]⟩ ++ dig i, ((i + 1 : Nat) : Int)⟩ : S42)]) = bbRows (i + 1) by rw [bbRows_succ]; simp]
    exact ih (i + 1) (by omega)
theorem awake9 : slipwaylaw9_awake.f 60 = some true := by decide +kernel
theorem dec6 (a b : Nat) : decide (((a + b : Nat) : Int) < 6) = decide (a + b < 6) := by
  rw [decide_eq_decide]; omega
theorem bb_j1 (N : Nat) (hN : 6 ≤ N) (a1 a2 : Int) (k : Nat) (hk : 200 ≤ k) : slipwaylaw9_BoundBounds.j1 (k + 1) a1 a2 (bbRows N) false = some true := by
  obtain ⟨n1, hn1, e1⟩ := i64_and a1 255 (by decide)
  obtain ⟨n2, hn2, e2⟩ := i64_and a2 3 (by decide)
  have e1' : Go.bits .and .i64 a1 255 = (n1 : Int) := e1
  have e2' : Go.bits .and .i64 a2 3 = (n2 : Int) := e2
  have et : Int.tmod (n1 : Int) 6 = ((n1 % 6 : Nat) : Int) := (Int.ofNat_tmod n1 6).symm
  have hk6 : n1 % 6 < 6 := Nat.mod_lt _ (by decide)
  obtain ⟨p, hp, hok⟩ := bbAll2 (n1 % 6) n2 hk6 (by omega)
  have hp' : bound_Parse.f k (img9 (bbRows 6) ((List.replicate 6 0).set (n1 % 6) (n2 : Int))) 16 0 = some p := at_rounds (bound_Parse.mono _ _ _) hk hp
  have hrd : rd ((List.replicate 6 0).set (n1 % 6) (n2 : Int)) ((n1 % 6 : Nat) : Int) = (n2 : Int) := by
    have e3 : (((n1 % 6 : Nat) : Int)).toNat = n1 % 6 := Int.toNat_natCast _
    rw [rd, e3, List.getD_eq_getElem?_getD, List.getElem?_set_self (by rw [List.length_replicate]; exact hk6)]
    rfl
  have hw : wrap64 (((n1 % 6 : Nat) : Int) + (n2 : Int)) = ((n1 % 6 + n2 : Nat) : Int) := by unfold wrap64; omega
  simp only [slipwaylaw9_BoundBounds.j1]
  rw [if_neg (by decide), if_pos (by rw [bbRows_len]; omega), Option.bind_some, if_pos (by omega), Option.bind_some]
  rw [e1', e2', et, if_pos (Int.natCast_nonneg _), if_pos (show ((n1 % 6 : Nat) : Int) < ((List.replicate 6 (0 : Int)).length : Int) by rw [List.length_replicate]; exact Int.ofNat_lt.mpr hk6), Option.bind_some, Int.toNat_natCast, show (6 : Int).toNat = 6 from rfl, bbRows_take N hN]
  rw [Made9 k (by omega) (bbRows 6) _ (bbRows_size 6 (by omega)), Option.bind_some, hp', Option.bind_some, hrd, hw]
  simp only [bbOk2, Bool.and_eq_true] at hok
  obtain ⟨o1, o2⟩ := hok
  have ed := dec6 (n1 % 6) n2
  rw [ed, if_pos o1]
  have haw : slipwaylaw9_awake.f k = some true := at_rounds slipwaylaw9_awake.mono (Nat.le_trans (by decide) hk) awake9
  by_cases h6 : n1 % 6 + n2 < 6
  · rw [if_pos (show ((n1 % 6 + n2 : Nat) : Int) < 6 from Int.ofNat_lt.mpr h6)]
    have o3 : slipwayref1_SameBounds.f 60 p.1 (bbRows 6) = some true := by
      rw [decide_eq_true h6] at o2
      simpa using o2
    have o4 : slipwayref1_SameBounds.f k p.1 (bbRows 6) = some true := at_rounds (slipwayref1_SameBounds.mono _ _) (Nat.le_trans (by decide) hk) o3
    rw [o4, Option.bind_some, if_pos rfl, haw, Option.bind_some]
  · rw [if_neg (show ¬ (((n1 % 6 + n2 : Nat) : Int) < 6) from fun h => h6 (Int.ofNat_lt.mp h)), haw, Option.bind_some]
theorem bb_main (N : Nat) (n0 : Nat) (hN : N = 28 + n0) (h7 : n0 < 8) (a1 a2 : Int) (k : Nat) (hk : 201 ≤ k) : slipwaylaw9_BoundBounds.l0 (k + 1) (N : Int) a1 a2 (bbRows N) (N : Int) = some true := by
  obtain ⟨p, hp, hok⟩ := bbAll1 n0 h7
  rw [← hN] at hp hok
  have hp' : bound_Parse.f k (img9 (bbRows N) []) 16 0 = some p := at_rounds (bound_Parse.mono _ _ _) (by omega) hp
  obtain ⟨k, rfl⟩ : ∃ m, k = m + 1 := ⟨k - 1, by omega⟩
  simp only [slipwaylaw9_BoundBounds.l0]
  rw [if_neg (by omega), Made9 (k + 1) (by omega) (bbRows N) _ (bbRows_size _ (by omega)), Option.bind_some, hp', Option.bind_some]
  simp only [bbOk, Bool.and_eq_true, Bool.not_eq_true'] at hok
  obtain ⟨o1, o2⟩ := hok
  rw [if_neg (by rw [o1]; decide)]
  by_cases h0 : p.2 = 0
  · rw [if_pos h0] at o2
    have o3 : slipwayref1_SameBounds.f 60 p.1 (bbRows N) = some true := by simpa using o2
    have o4 : slipwayref1_SameBounds.f (k + 1) p.1 (bbRows N) = some true := at_rounds (slipwayref1_SameBounds.mono _ _) (by omega) o3
    rw [if_pos h0, o4, Option.bind_some, if_pos rfl]
    exact bb_j1 _ (by omega) _ _ k (by omega)
  · rw [if_neg h0] at o2 ⊢
    simp only [Bool.and_eq_true, beq_iff_eq] at o2
    have ef : (((p.1.length : Nat) : Int) != 0) = false := by rw [o2.2]; rfl
    rw [if_pos o2.1, ef]
    exact bb_j1 _ (by omega) _ _ k (by omega)
theorem BoundBounds : slipwaylaw9_BoundBounds.Pure := by
  intro a0 a1 a2 _ _ _
  obtain ⟨n0, hn0, e0⟩ := i64_and a0 7 (by decide)
  have e0' : Go.bits .and .i64 a0 7 = (n0 : Int) := e0
  have hw : wrap64 ((n0 : Int) + 28) = ((28 + n0 : Nat) : Int) := by unfold wrap64; omega
  obtain ⟨k, hk⟩ : ∃ k : Nat, k = 202 := ⟨_, rfl⟩
  refine ⟨k + (28 + n0), ?_⟩
  unfold slipwaylaw9_BoundBounds.f
  rw [e0', hw]
  have hs := bb_steps (28 + n0) (by omega) a1 a2 k (by omega) (28 + n0) 0 (by omega)
  rw [show bbRows 0 = [] from rfl] at hs
  refine Eq.trans hs ?_
  obtain ⟨k, rfl⟩ : ∃ m, k = m + 1 := ⟨k - 1, by omega⟩
  exact bb_main _ n0 rfl (by omega) a1 a2 k (by omega)
end Go.Proofs.Ytjifmpjpccibnaa.Pure
