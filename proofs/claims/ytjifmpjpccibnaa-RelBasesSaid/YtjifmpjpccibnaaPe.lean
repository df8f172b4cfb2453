/- Plain laws of what rel.Sites computes. -/
import Derived.Test.YtjifmpjpccibnaaA
import Derived.Test.YtjifmpjpccibnaaDx59
namespace Go.Proofs.Ytjifmpjpccibnaa.Pe
open Go.RowKit Go.Proofs.YtjifmpjpccibnaaW.PrintWords Go.Proofs.YtjifmpjpccibnaaW.PrintLast Go.Proofs.YtjifmpjpccibnaaW.PrintMore Go.Proofs.Ytjifmpjpccibnaa.D
set_option linter.unusedVariables false

def longI (x : Int) : Int := if x = 3 then 4 else if x = 10 then 8 else 0
theorem long_is (x : Int) : rel_long.f x = some (longI x) := by
  unfold rel_long.f longI
  split
  · rfl
  · split <;> rfl
def sitesL : List S60 → List S74
  | [] => []
  | x :: r => if longI x.f0 > 0 then ⟨x.f1, longI x.f0⟩ :: sitesL r else sitesL r
theorem rd60 (l : List S60) (i : Nat) (hi : i < l.length) : l.drop i = rd_T60 l (i : Int) :: l.drop (i + 1) := by
  rw [List.drop_eq_getElem_cons hi]
  congr 1
  simp [rd_T60, hi]
theorem sites_l0 (l : List S60) (hl : l.length ≤ 1000000) (d : Nat) : ∀ (k i : Nat) (out : List S74), i ≤ l.length → l.length - i = d → d < k → out.length ≤ i →
    rel_Sites.l0 k out l (l.length : Int) (i : Int) = some (out ++ sitesL (l.drop i)) := by
  induction d with
  | zero =>
    intro k i out hi hd hk ho
    obtain ⟨k, rfl⟩ : ∃ m, k = m + 1 := ⟨k - 1, by omega⟩
    obtain rfl : i = l.length := by omega
    simp only [rel_Sites.l0]
    rw [if_neg (by omega), List.drop_length]
    simp [sitesL]
  | succ d ih =>
    intro k i out hi hd hk ho
    obtain ⟨k, rfl⟩ : ∃ m, k = m + 1 := ⟨k - 1, by omega⟩
    have hw1 : wrap64 ((i : Int) + 1) = ((i + 1 : Nat) : Int) := by unfold wrap64; omega
    simp only [rel_Sites.l0]
    rw [if_pos (by omega), if_pos (by omega), if_pos (by omega), long_is, Option.bind_some, hw1, rd60 l i (by omega)]
    by_cases hp : longI (rd_T60 l (i : Int)).f0 > 0
    · rw [if_pos hp, if_pos (by omega), ih k (i + 1) _ (by omega) (by omega) (by omega) (by simp; omega)]
      simp [sitesL, hp]
    · rw [if_neg hp, ih k (i + 1) _ (by omega) (by omega) (by omega) (by omega)]
      simp [sitesL, hp]
theorem sites_is (l : List S60) (hl : l.length ≤ 1000000) (k : Nat) (hk : l.length < k) : rel_Sites.f k l = some (sitesL l) := by
  have := sites_l0 l hl l.length k 0 [] (by omega) (by omega) hk (by simp)
  simpa [rel_Sites.f] using this
theorem sitesL_len (l : List S60) (h : ∀ x ∈ l, x.f0 = 3 ∨ x.f0 = 10) : (sitesL l).length = l.length := by
  induction l with
  | nil => rfl
  | cons x r ih =>
    have hx : longI x.f0 > 0 := by
      unfold longI
      rcases h x (by simp) with e | e <;> rw [e] <;> decide
    simp only [sitesL]
    rw [if_pos hx]
    simp [ih (fun y hy => h y (by simp [hy]))]
end Go.Proofs.Ytjifmpjpccibnaa.Pe
