/- Plain laws of what the references' Bytes and Put compute. -/
import Derived.Test.YtjifmpjpccibnaaA
import Derived.Test.YtjifmpjpccibnaaDx40
namespace Go.Proofs.Ytjifmpjpccibnaa.Pa
open Go.RowKit Go.Proofs.YtjifmpjpccibnaaW.PrintWords Go.Proofs.YtjifmpjpccibnaaW.PrintLast Go.Proofs.YtjifmpjpccibnaaW.PrintMore Go.Proofs.YtjifmpjpccibnaaA Go.Proofs.Ytjifmpjpccibnaa.D
set_option linter.unusedVariables false

theorem refBytes_l0 (v : Int) (hv : 0 ≤ v) (n : Nat) (hn : n ≤ 8) (d : Nat) : ∀ (k i : Nat), i ≤ n → n - i = d → d < k → slipwayref1_Bytes.l0 k v (n : Int) (strOfNums (leB v i)) (i : Int) = some (strOfNums (leB v n)) := by
  have hm : mn (n : Int) 8 = (n : Int) := by unfold mn; rw [if_neg (by omega)]
  induction d with
  | zero =>
    intro k i hi hd hk
    obtain ⟨k, rfl⟩ : ∃ m, k = m + 1 := ⟨k - 1, by omega⟩
    obtain rfl : i = n := by omega
    simp only [slipwayref1_Bytes.l0]
    rw [hm, if_neg (by omega)]
  | succ d ih =>
    intro k i hi hd hk
    obtain ⟨k, rfl⟩ : ∃ m, k = m + 1 := ⟨k - 1, by omega⟩
    have hw : wrap64 (8 * (i : Int)) = 8 * (i : Int) := by unfold wrap64; omega
    have hw1 : wrap64 ((i : Int) + 1) = ((i + 1 : Nat) : Int) := by unfold wrap64; omega
    have hs : shr .u64 v (8 * (i : Int)) = v / 2 ^ (8 * i) := by
      have e8 : (8 * (i : Int)).toNat = 8 * i := by omega
      have e64 : min (8 * i) 64 = 8 * i := by omega
      simp only [shr, e8, IntKind.bits, e64]
    simp only [slipwayref1_Bytes.l0]
    rw [hm, if_pos (by omega), hw, if_pos (by omega), hs, Option.bind_some, hw1]
    rw [if_pos (by rw [strOfNums_size, strOfNums_size, leB_length]; simp; omega)]
    rw [← str_append, ← leB_succ]
    exact ih k (i + 1) (by omega) (by omega) (by omega)
theorem refBytes (v : Int) (hv : 0 ≤ v) (n : Nat) (hn : n ≤ 8) (k : Nat) (hk : n < k) : slipwayref1_Bytes.f k v (n : Int) = some (strOfNums (leB v n)) := by
  have := refBytes_l0 v hv n hn n k 0 (Nat.zero_le _) (by omega) hk
  simpa [slipwayref1_Bytes.f, leB, strOfNums] using this
/-- Put is a splice. -/
theorem refPut (k : Nat) (b : List Int) (a n : Nat) (v : Int) (hv : 0 ≤ v) (h1 : 1 ≤ n) (h8 : n ≤ 8) (hl : b.length ≤ 1099511627776) (han : a + n ≤ b.length) (hk : n < k) :
    slipwayref1_Put.f k (strOfNums b) (a : Int) (n : Int) v = some (strOfNums (splice b a (leB v n)), true) := by
  unfold slipwayref1_Put.f
  rw [strOfNums_size, if_pos (by omega), if_neg (by omega), if_neg (by omega), if_neg (by omega), if_neg (by omega), if_neg (by omega), refBytes v hv n h8 k hk, Option.bind_some]
  rw [if_pos (by rw [strOfNums_size, leB_length]; omega)]
  have e1 : ((a : Int) + (n : Int)).toNat = a + n := by omega
  rw [e1, Int.toNat_natCast, str_extract, str_extract, ← str_append, ← str_append]
  unfold splice
  rw [leB_length]
  simp
end Go.Proofs.Ytjifmpjpccibnaa.Pa
