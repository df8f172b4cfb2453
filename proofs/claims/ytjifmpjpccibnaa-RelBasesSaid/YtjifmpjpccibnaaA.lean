/- Plain lemmas: texts as lists of numbers. -/
import Derived.Test.YtjifmpjpccibnaaE
import Derived.Laws.CopyOwn
namespace Go.Proofs.YtjifmpjpccibnaaA
open Go.RowKit Go.Proofs.YtjifmpjpccibnaaW.PrintWords Go.Proofs.YtjifmpjpccibnaaW.PrintLast Go.Proofs.YtjifmpjpccibnaaW.PrintMore
set_option linter.unusedVariables false

/-- Numbers of bytes. -/
def Bytes (xs : List Int) : Prop := ∀ x ∈ xs, 0 ≤ x ∧ x ≤ 255
theorem Bytes.nil : Bytes [] := fun _ h => by cases h
theorem Bytes.cons {x : Int} {l : List Int} (h : 0 ≤ x ∧ x ≤ 255) (hl : Bytes l) : Bytes (x :: l) := by
  intro y hy
  rcases List.mem_cons.1 hy with rfl | hy
  · exact h
  · exact hl y hy
theorem Bytes.append {a b : List Int} (ha : Bytes a) (hb : Bytes b) : Bytes (a ++ b) := fun x hx => (List.mem_append.1 hx).elim (ha x) (hb x)
theorem Bytes.take {a : List Int} (ha : Bytes a) (n : Nat) : Bytes (a.take n) := fun x hx => ha x (List.mem_of_mem_take hx)
theorem Bytes.drop {a : List Int} (ha : Bytes a) (n : Nat) : Bytes (a.drop n) := fun x hx => ha x (List.mem_of_mem_drop hx)
theorem Bytes.replicate (n : Nat) : Bytes (List.replicate n 0) := fun x hx => by
  obtain rfl := List.eq_of_mem_replicate hx
  omega
theorem Bytes.of (s : ByteArray) : Bytes (bytesOf s) := fun x hx => by
  simp only [bytesOf, List.mem_map] at hx
  obtain ⟨b, _, rfl⟩ := hx
  have := b.toNat_lt
  omega

theorem bytesOf_str {xs : List Int} (h : Bytes xs) : bytesOf (strOfNums xs) = xs := by
  simp only [bytesOf, strOfNums, List.map_map]
  have : ∀ x ∈ xs, ((fun b : UInt8 => (b.toNat : Int)) ∘ fun n : Int => UInt8.ofNat n.toNat) x = x := by
    intro x hx
    obtain ⟨h0, h1⟩ := h x hx
    simp only [Function.comp, UInt8.toNat_ofNat']
    omega
  rw [List.map_congr_left this]
  simp
theorem str_bytesOf (s : ByteArray) : strOfNums (bytesOf s) = s := by
  apply ByteArray.ext
  apply Array.ext'
  simp only [strOfNums, bytesOf, List.map_map]
  simp [Function.comp_def]
theorem str_append (a b : List Int) : strOfNums (a ++ b) = strOfNums a ++ strOfNums b := by
  apply ByteArray.ext
  apply Array.ext'
  simp [strOfNums]
theorem bytesOf_append (a b : ByteArray) : bytesOf (a ++ b) = bytesOf a ++ bytesOf b := by simp [bytesOf]
theorem str_extract (xs : List Int) (i j : Nat) : (strOfNums xs).extract i j = strOfNums ((xs.take j).drop i) := by
  apply ByteArray.ext
  apply Array.ext'
  rw [Lib.extract_data]
  simp [strOfNums, List.drop_take]
theorem bytesOf_size (s : ByteArray) : (bytesOf s).length = s.size := bytesOf_length s
/-- The lowest n bytes of a number, the lowest first. -/
def leB (v : Int) (n : Nat) : List Int := (List.range n).map fun i => v / 2 ^ (8 * i) % 256
theorem leB_length (v : Int) (n : Nat) : (leB v n).length = n := by simp [leB]
theorem leB_succ (v : Int) (n : Nat) : leB v (n + 1) = leB v n ++ [v / 2 ^ (8 * n) % 256] := by simp [leB, List.range_succ]
theorem leB_bytes (v : Int) (n : Nat) : Bytes (leB v n) := by
  intro x hx
  simp only [leB, List.mem_map] at hx
  obtain ⟨i, _, rfl⟩ := hx
  omega
theorem splice_bytes {b c : List Int} (hb : Bytes b) (hc : Bytes c) (off : Nat) : Bytes (splice b off c) := by
  unfold splice
  exact (hb.take _).append (hc.append (hb.drop _))
theorem splice_len {b c : List Int} (off : Nat) (h : off + c.length ≤ b.length) : (splice b off c).length = b.length := length_splice _ _ _ h
/-- '&' with a number that is not below 0 leaves one between. -/
theorem i64_and (a : Int) (m : Nat) (hm : m < 9223372036854775808) : ∃ n : Nat, n ≤ m ∧ Go.bits .and .i64 a (m : Int) = (n : Int) := by
  refine ⟨(BitVec.ofInt 64 a).toNat &&& (BitVec.ofInt 64 (m : Int)).toNat, ?_, ?_⟩
  · refine Nat.le_trans Nat.and_le_right ?_
    rw [BitVec.ofInt_natCast, BitVec.toNat_ofNat]
    exact Nat.mod_le _ _
  · have h1 : (BitVec.ofInt 64 a).toNat &&& (BitVec.ofInt 64 (m : Int)).toNat ≤ m := by
      refine Nat.le_trans Nat.and_le_right ?_
      rw [BitVec.ofInt_natCast, BitVec.toNat_ofNat]
      exact Nat.mod_le _ _
    show IntKind.i64.wrap (((BitVec.ofInt 64 a &&& BitVec.ofInt 64 (m : Int)).toNat : Nat) : Int) = _
    rw [BitVec.toNat_and, IntKind.wrap_i64]
    omega
end Go.Proofs.YtjifmpjpccibnaaA
