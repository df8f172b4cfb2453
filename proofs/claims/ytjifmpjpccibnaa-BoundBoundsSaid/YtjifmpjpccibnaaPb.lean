/- Plain laws of layer 9: what At lays, as a list of numbers. -/
import Derived.Test.YtjifmpjpccibnaaPa
import Derived.Test.YtjifmpjpccibnaaDx42
namespace Go.Proofs.Ytjifmpjpccibnaa.Pb
open Go.RowKit Go.Proofs.YtjifmpjpccibnaaW.PrintWords Go.Proofs.YtjifmpjpccibnaaW.PrintLast Go.Proofs.YtjifmpjpccibnaaW.PrintMore Go.Proofs.YtjifmpjpccibnaaA Go.Proofs.Ytjifmpjpccibnaa.D Go.Proofs.Ytjifmpjpccibnaa.Pa
set_option linter.unusedVariables false

def row9 (l1 : List S42) (l2 : List Int) (i : Nat) (b : List Int) : List Int :=
  splice (splice (splice b (16 + 8 * i) (leB (IntKind.u64.wrap (rd_T42 l1 i).f1) 4)) (20 + 8 * i) (leB (IntKind.u64.wrap ((b.length : Int) - 16)) 2)) (22 + 8 * i) (leB (IntKind.u64.wrap (at9More l2 i)) 2) ++ bytesOf (rd_T42 l1 i).f0 ++ [0]
def made9 (l1 : List S42) (l2 : List Int) : Nat → Nat → List Int → List Int
  | 0, _, b => b
  | m + 1, i, b => made9 l1 l2 m (i + 1) (row9 l1 l2 i b)
def img9 (l1 : List S42) (l2 : List Int) : List Int := made9 l1 l2 (min l1.length 34) 0 (List.replicate (24 + 8 * min l1.length 34) 0)

theorem u64_ge (x : Int) : 0 ≤ IntKind.u64.wrap x := by simp [IntKind.wrap, IntKind.bits, IntKind.signed]; omega
theorem row9_len (l1 : List S42) (l2 : List Int) (i : Nat) (b : List Int) (hb : 24 + 8 * i ≤ b.length) : (row9 l1 l2 i b).length = b.length + (rd_T42 l1 i).f0.size + 1 := by
  unfold row9
  rw [List.length_append, List.length_append, bytesOf_size]
  have l1_ : (splice b (16 + 8 * i) (leB (IntKind.u64.wrap (rd_T42 l1 i).f1) 4)).length = b.length := splice_len _ (by rw [leB_length]; omega)
  have l2_ : (splice (splice b (16 + 8 * i) (leB (IntKind.u64.wrap (rd_T42 l1 i).f1) 4)) (20 + 8 * i) (leB (IntKind.u64.wrap ((b.length : Int) - 16)) 2)).length = b.length := by
    rw [splice_len _ (by rw [leB_length]; omega), l1_]
  rw [splice_len _ (by rw [leB_length]; omega), l2_]
  simp
theorem row9_bytes (l1 : List S42) (l2 : List Int) (i : Nat) (b : List Int) (hb : Bytes b) : Bytes (row9 l1 l2 i b) := by
  unfold row9
  exact ((splice_bytes (splice_bytes (splice_bytes hb (leB_bytes _ _) _) (leB_bytes _ _) _) (leB_bytes _ _) _).append (Bytes.of _)).append (Bytes.cons (by omega) Bytes.nil)
theorem at9Row_is (k : Nat) (l1 : List S42) (l2 : List Int) (i : Nat) (b : List Int) (hk : 4 < k) (hB : Bytes b) (hb : 24 + 8 * i ≤ b.length) (hl : b.length ≤ 1000000) (hd : (rd_T42 l1 i).f0.size ≤ 100) :
    at9Row k l1 l2 i b = some (row9 l1 l2 i b) := by
  have e1 : (16 + 8 * (i : Int)) = ((16 + 8 * i : Nat) : Int) := by omega
  have e2 : (20 + 8 * (i : Int)) = ((20 + 8 * i : Nat) : Int) := by omega
  have e3 : (22 + 8 * (i : Int)) = ((22 + 8 * i : Nat) : Int) := by omega
  have l1_ : (splice b (16 + 8 * i) (leB (IntKind.u64.wrap (rd_T42 l1 i).f1) 4)).length = b.length := splice_len _ (by rw [leB_length]; omega)
  have l2_ : (splice (splice b (16 + 8 * i) (leB (IntKind.u64.wrap (rd_T42 l1 i).f1) 4)) (20 + 8 * i) (leB (IntKind.u64.wrap ((b.length : Int) - 16)) 2)).length = b.length := by
    rw [splice_len _ (by rw [leB_length]; omega), l1_]
  have l3_ : (splice (splice (splice b (16 + 8 * i) (leB (IntKind.u64.wrap (rd_T42 l1 i).f1) 4)) (20 + 8 * i) (leB (IntKind.u64.wrap ((b.length : Int) - 16)) 2)) (22 + 8 * i) (leB (IntKind.u64.wrap (at9More l2 i)) 2)).length = b.length := by
    rw [splice_len _ (by rw [leB_length]; omega), l2_]
  have h1 : slipwayref1_Put.f k (strOfNums b) ((16 + 8 * i : Nat) : Int) 4 _ = _ := refPut k b (16 + 8 * i) 4 (IntKind.u64.wrap (rd_T42 l1 i).f1) (u64_ge _) (by omega) (by omega) (by omega) (by omega) (by omega)
  have h2 : slipwayref1_Put.f k _ ((20 + 8 * i : Nat) : Int) 2 _ = _ := refPut k (splice b (16 + 8 * i) (leB (IntKind.u64.wrap (rd_T42 l1 i).f1) 4)) (20 + 8 * i) 2 (IntKind.u64.wrap ((b.length : Int) - 16)) (u64_ge _) (by omega) (by omega) (by omega) (by omega) (by omega)
  have h3 : slipwayref1_Put.f k _ ((22 + 8 * i : Nat) : Int) 2 _ = _ := refPut k (splice (splice b (16 + 8 * i) (leB (IntKind.u64.wrap (rd_T42 l1 i).f1) 4)) (20 + 8 * i) (leB (IntKind.u64.wrap ((b.length : Int) - 16)) 2)) (22 + 8 * i) 2 (IntKind.u64.wrap (at9More l2 i)) (u64_ge _) (by omega) (by omega) (by omega) (by omega) (by omega)
  unfold at9Row
  rw [if_pos (by omega), e1, e2, e3, h1, Option.bind_some, h2, Option.bind_some, h3, Option.bind_some]
  rw [if_pos (by rw [strOfNums_size, l3_]; omega), bytesOf_str (splice_bytes (splice_bytes (splice_bytes hB (leB_bytes _ _) _) (leB_bytes _ _) _) (leB_bytes _ _) _)]
  rfl
theorem at9Loop_is (k : Nat) (hk : 4 < k) (l1 : List S42) (l2 : List Int) (hd : ∀ i : Nat, (rd_T42 l1 i).f0.size ≤ 100) (m : Nat) : ∀ (i : Nat) (b : List Int), Bytes b → 24 + 8 * (i + m) ≤ b.length + 8 → b.length + 101 * m ≤ 1000000 → at9Loop k l1 l2 m i b = some (made9 l1 l2 m i b) := by
  induction m with
  | zero => intro i b _ _ _; rfl
  | succ m ih =>
    intro i b hB hb hl
    have hlen := row9_len l1 l2 i b (by omega)
    have hdi := hd i
    simp only [at9Loop, made9]
    rw [at9Row_is k l1 l2 i b hk hB (by omega) (by omega) hdi, Option.bind_some]
    exact ih (i + 1) _ (row9_bytes _ _ _ _ hB) (by omega) (by omega)
theorem Made9 (k : Nat) (hk : 4 < k) (l1 : List S42) (l2 : List Int) (hd : ∀ i : Nat, (rd_T42 l1 i).f0.size ≤ 100) : slipwaylaw9_Made.f k l1 l2 = some (img9 l1 l2) := by
  unfold slipwaylaw9_Made.f slipwaylaw9_At.f img9
  rw [if_pos rfl, at9Loop_is k hk l1 l2 hd _ _ _ (Bytes.replicate _) (by simp) (by simp; omega)]
  rfl
end Go.Proofs.Ytjifmpjpccibnaa.Pb
