/- Plain laws: as many sites as the bound says. -/
import Derived.Test.YtjifmpjpccibnaaPd
import Derived.Test.YtjifmpjpccibnaaPe
namespace Go.Proofs.Ytjifmpjpccibnaa.Pf
open Go.RowKit Go.Proofs.YtjifmpjpccibnaaW.PrintWords Go.Proofs.YtjifmpjpccibnaaW.PrintLast Go.Proofs.YtjifmpjpccibnaaW.PrintMore Go.Proofs.Ytjifmpjpccibnaa.D Go.Proofs.Ytjifmpjpccibnaa.Pd Go.Proofs.Ytjifmpjpccibnaa.Pe
set_option linter.unusedVariables false

def rbEs (M : Nat) : Nat → List Nat
  | 0 => []
  | i + 1 => rbEs M i ++ ((12288 + 4 * i) :: (if i < M then [0] else []))
def outs (i : Nat) : List S60 := (List.range i).map fun j => ⟨3, ((4 * j : Nat) : Int)⟩
theorem outs_succ (i : Nat) : outs (i + 1) = outs i ++ [⟨3, ((4 * i : Nat) : Int)⟩] := by simp [outs, List.range_succ]
theorem outs_len (i : Nat) : (outs i).length = i := by simp [outs]
theorem rbEs_lt (M N : Nat) (hN : N ≤ 600) : ∀ v ∈ rbEs M N, v < 65536 := by
  induction N with
  | zero => intro v hv; cases hv
  | succ i ih =>
    intro v hv
    simp only [rbEs, List.mem_append, List.mem_cons] at hv
    rcases hv with hv | rfl | hv
    · exact ih (by omega) v hv
    · omega
    · split at hv
      · simp at hv; omega
      · cases hv
theorem rbEs_len (M N : Nat) : (rbEs M N).length ≤ 2 * N := by
  induction N with
  | zero => simp [rbEs]
  | succ i ih =>
    simp only [rbEs, List.length_append, List.length_cons]
    split <;> simp <;> omega
theorem entry_zero (n p : Nat) (out : List S60) (tk : List Int) : relEntry n p 0 out tk = (true, out, tk) := by simp [relEntry]
def tks (n i : Nat) : List Int := List.replicate (4 * i) 1 ++ List.replicate (n - 4 * i) 0
theorem tks_zero (n : Nat) : tks n 0 = List.replicate n 0 := by simp [tks]
theorem tks_drop (n i : Nat) (h : 4 * i + 4 ≤ n) : (tks n i).drop (4 * i) = 0 :: 0 :: 0 :: 0 :: List.replicate (n - 4 * (i + 1)) 0 := by
  have h1 : n - 4 * i = (n - 4 * (i + 1)) + 4 := by omega
  unfold tks
  rw [List.drop_append, List.drop_eq_nil_of_le (by simp), h1]
  simp [List.replicate_succ]
theorem tks_splice (n i : Nat) (h : 4 * i + 4 ≤ n) : splice (tks n i) (4 * i) (List.replicate 4 1) = tks n (i + 1) := by
  have h2 : (tks n i).take (4 * i) = List.replicate (4 * i) 1 := by
    unfold tks
    rw [List.take_append_of_le_length (by simp)]
    simp
  unfold splice
  rw [h2, List.length_replicate, ← List.drop_drop, tks_drop n i h]
  unfold tks
  rw [show List.replicate (4 * (i + 1)) (1 : Int) = List.replicate (4 * i) 1 ++ List.replicate 4 1 by rw [List.replicate_append_replicate]; rfl]
  simp [List.replicate_succ]
theorem entry_site (n i : Nat) (hn : 4 * i + 4 ≤ n) (hi : i < 512) : relEntry n 0 (12288 + 4 * i) (outs i) (tks n i) = (true, outs (i + 1), tks n (i + 1)) := by
  have h1 : (12288 + 4 * i) / 4096 = 3 := by omega
  have h2 : (12288 + 4 * i) % 4096 = 4 * i := by omega
  have h3 : relLong 3 = 4 := rfl
  unfold relEntry
  rw [h1, h2, h3, Nat.zero_add, if_neg (by omega), if_neg (by omega), if_neg (by omega), if_neg (by rw [outs_len]; omega), tks_drop n i hn, if_neg (by simp), tks_splice n i hn, outs_succ]
  rfl
theorem ents_few (n M : Nat) : ∀ i, i ≤ 512 → 4 * i ≤ n → entsL n 0 (rbEs M i) [] (List.replicate n 0) = (true, outs i, tks n i) := by
  intro i
  induction i with
  | zero => intro _ _; rw [tks_zero]; rfl
  | succ i ih =>
    intro hi hn
    rw [rbEs, entsL_append, ih (by omega) (by omega)]
    simp only [entsL, entry_site n i (by omega) (by omega)]
    split
    · simp only [entsL, entry_zero]
    · rfl
theorem rbEs_more (M d : Nat) : ∃ t, rbEs M (513 + d) = rbEs M 512 ++ (14336 :: t) := by
  induction d with
  | zero => exact ⟨_, rfl⟩
  | succ d ih =>
    obtain ⟨t, h⟩ := ih
    refine ⟨t ++ ((12288 + 4 * (513 + d)) :: (if 513 + d < M then [0] else [])), ?_⟩
    rw [show 513 + (d + 1) = (513 + d) + 1 by omega, rbEs, h]
    simp
theorem ents_many (n M : Nat) (hn : 2100 ≤ n) (t : List Nat) : (entsL n 0 (rbEs M 512 ++ (14336 :: t)) [] (List.replicate n 0)).1 = false := by
  rw [entsL_append, ents_few n M 512 (by omega) (by omega)]
  have h : relEntry n 0 14336 (outs 512) (tks n 512) = (false, outs 512, tks n 512) := by
    unfold relEntry
    rw [if_neg (by omega), if_neg (by decide), if_neg (by simp [relLong]; omega), if_pos (outs_len 512)]
  simp only [entsL, h]
end Go.Proofs.Ytjifmpjpccibnaa.Pf
