/- Plain laws: numbers read and written in bytes; what rel.Apply computes. -/
import Derived.Test.YtjifmpjpccibnaaPe
import Derived.Test.YtjifmpjpccibnaaDx64
import Derived.Test.YtjifmpjpccibnaaDx69
import Derived.Test.YtjifmpjpccibnaaDx57
namespace Go.Proofs.Ytjifmpjpccibnaa.Pj
open Go.RowKit Go.Proofs.YtjifmpjpccibnaaW.PrintWords Go.Proofs.YtjifmpjpccibnaaW.PrintLast Go.Proofs.YtjifmpjpccibnaaW.PrintMore Go.Proofs.Ytjifmpjpccibnaa.D Go.Proofs.Ytjifmpjpccibnaa.Pe
set_option linter.unusedVariables false

abbrev leB := @YtjifmpjpccibnaaA.leB
theorem leN_append (l : List Int) (x : Int) : leN (l ++ [x]) = leN l + 256 ^ l.length * x.toNat := by
  induction l with
  | nil => simp [leN]
  | cons y l ih =>
    simp only [List.cons_append, leN, ih, List.length_cons, Nat.pow_succ]
    rw [Nat.mul_add, Nat.mul_comm (256 ^ l.length) 256, Nat.mul_assoc]
    omega
theorem leN_leB (V n : Nat) : leN (leB (V : Int) n) = V % 256 ^ n := by
  induction n with
  | zero => simp [YtjifmpjpccibnaaA.leB, leN, Nat.mod_one]
  | succ n ih =>
    have h1 : leB (V : Int) (n + 1) = leB (V : Int) n ++ [(V : Int) / 2 ^ (8 * n) % 256] := YtjifmpjpccibnaaA.leB_succ _ _
    have h2 : ((V : Int) / 2 ^ (8 * n) % 256).toNat = V / 256 ^ n % 256 := by
      rw [show (2 : Int) ^ (8 * n) = ((256 ^ n : Nat) : Int) by rw [Int.pow_mul]; simp]
      omega
    have h3 : (leB (V : Int) n).length = n := YtjifmpjpccibnaaA.leB_length _ _
    rw [h1, leN_append, ih, h2, h3, Nat.pow_succ, Nat.mod_mul]
theorem bytes_l0 (v : Int) (hv : 0 ≤ v) (n : Nat) (hn : n ≤ 8) (d : Nat) : ∀ (k i : Nat), i ≤ n → n - i = d → d < k → le_Bytes.l0 k v (leB v i) (n : Int) (i : Int) = some (leB v n) := by
  induction d with
  | zero =>
    intro k i hi hd hk
    obtain ⟨k, rfl⟩ : ∃ m, k = m + 1 := ⟨k - 1, by omega⟩
    obtain rfl : i = n := by omega
    simp only [le_Bytes.l0]
    rw [if_neg (by omega)]
  | succ d ih =>
    intro k i hi hd hk
    obtain ⟨k, rfl⟩ : ∃ m, k = m + 1 := ⟨k - 1, by omega⟩
    have hw : wrap64 (8 * (i : Int)) = 8 * (i : Int) := by unfold wrap64; omega
    have hw1 : wrap64 ((i : Int) + 1) = ((i + 1 : Nat) : Int) := by unfold wrap64; omega
    have hu : IntKind.u64.wrap (8 * (i : Int)) = 8 * (i : Int) := by simp only [IntKind.wrap, IntKind.bits, IntKind.signed]; simp; omega
    have hs : shr .u64 v (8 * (i : Int)) = v / 2 ^ (8 * i) := by
      have e8 : (8 * (i : Int)).toNat = 8 * i := by omega
      have e64 : min (8 * i) 64 = 8 * i := by omega
      simp only [shr, e8, IntKind.bits, e64]
    have hl : (leB v i).length = i := YtjifmpjpccibnaaA.leB_length _ _
    simp only [le_Bytes.l0]
    rw [if_pos (by omega), hw, hu, if_pos (by omega), if_pos (by rw [hl]; omega), hs, hw1, ← YtjifmpjpccibnaaA.leB_succ]
    exact ih k (i + 1) (by omega) (by omega) (by omega)
theorem bytes_is (v : Int) (hv : 0 ≤ v) (n : Nat) (hn : n ≤ 8) (k : Nat) (hk : n < k) : le_Bytes.f k v (n : Int) = some (leB v n) := by
  unfold le_Bytes.f
  have hm : mn (mx (n : Int) 0) 8 = (n : Int) := by unfold mn mx; split <;> split <;> omega
  rw [hm]
  have := bytes_l0 v hv n hn n k 0 (Nat.zero_le _) (by omega) hk
  simpa [YtjifmpjpccibnaaA.leB] using this
theorem put_is (k : Nat) (b : List Int) (q n : Nat) (v : Int) (hv : 0 ≤ v) (h1 : 1 ≤ n) (h8 : n ≤ 8) (h : q + n ≤ b.length) (hk : n < k) : le_Put.f k b (q : Int) (n : Int) v = some (true, splice b q (leB v n)) := by
  unfold le_Put.f
  rw [if_neg (by omega), if_neg (by omega), if_neg (by omega), if_neg (by omega), if_neg (by omega), bytes_is v hv n h8 k hk, Option.bind_some, Int.toNat_natCast]
  rw [List.take_of_length_le (by rw [YtjifmpjpccibnaaA.leB_length]; omega)]
/-- A number in bytes raised by so much. -/
def patch (X : Nat) (b : List Int) (q n : Nat) : List Int := splice b q (leB (((numAt b q n + X) % 18446744073709551616 : Nat) : Int) n)
def stepA (X : Nat) (b : List Int) (s : S74) : List Int := if 0 ≤ s.f0 ∧ s.f0 + s.f1 ≤ (b.length : Int) then patch X b s.f0.toNat s.f1.toNat else b
def Wide (l : List S74) : Prop := ∀ s ∈ l, s.f1 = 4 ∨ s.f1 = 8
theorem patch_len (X : Nat) (b : List Int) (q n : Nat) (h : q + n ≤ b.length) : (patch X b q n).length = b.length := length_splice _ _ _ (by rw [YtjifmpjpccibnaaA.leB_length]; exact h)
theorem splice_byteB {b c : List Int} (hb : byteB b = true) (hc : byteB c = true) (q : Nat) : byteB (splice b q c) = true := by
  unfold splice
  rw [byteB_append, byteB_append, byteB_take hb, hc, byteB_drop hb]
  rfl
theorem leB_byteB (v : Int) (n : Nat) : byteB (leB v n) = true := byteB_mem.2 (YtjifmpjpccibnaaA.leB_bytes v n)
theorem patch_byteB (X : Nat) (b : List Int) (q n : Nat) (hb : byteB b = true) : byteB (patch X b q n) = true := splice_byteB hb (leB_byteB _ _) q
theorem stepA_len (X : Nat) (b : List Int) (s : S74) (hs : s.f1 = 4 ∨ s.f1 = 8) : (stepA X b s).length = b.length := by
  unfold stepA
  split
  · exact patch_len X b _ _ (by omega)
  · rfl
theorem stepA_byteB (X : Nat) (b : List Int) (s : S74) (hb : byteB b = true) : byteB (stepA X b s) = true := by
  unfold stepA
  split
  · exact patch_byteB X b _ _ hb
  · exact hb
theorem in_is (n : Nat) (hn : n ≤ 1099511627776) (a m : Int) (hm : m = 4 ∨ m = 8) : le_In.f (n : Int) a m = some (decide (0 ≤ a ∧ a + m ≤ (n : Int))) := by
  unfold le_In.f
  by_cases h1 : a ≥ 0
  · rw [if_pos h1, if_pos (by omega)]
    by_cases h2 : a ≤ (n : Int)
    · rw [if_pos h2]
      congr 1
      rw [decide_eq_decide]
      have : wrap64 ((n : Int) - a) = (n : Int) - a := by unfold wrap64; omega
      rw [this]
      omega
    · rw [if_neg h2, decide_eq_false (by omega)]
  · rw [if_neg h1, decide_eq_false (by omega)]
theorem rd74 (l : List S74) (i : Nat) (hi : i < l.length) : l.drop i = rd_T74 l (i : Int) :: l.drop (i + 1) := by
  rw [List.drop_eq_getElem_cons hi]
  congr 1
  simp [rd_T74, hi]
theorem apply_l0 (X : Nat) (hX : X < 18446744073709551616) (l : List S74) (hw : Wide l) (hl : l.length ≤ 1000000) (d : Nat) : ∀ (k i : Nat) (b : List Int), byteB b = true → b.length ≤ 1099511627776 → i ≤ l.length → l.length - i = d → d + 10 < k →
    rel_Apply.l0 k (X : Int) b l (l.length : Int) (i : Int) = some ((l.drop i).foldl (stepA X) b) := by
  induction d with
  | zero =>
    intro k i b hb hbl hi hd hk
    obtain ⟨k, rfl⟩ : ∃ m, k = m + 1 := ⟨k - 1, by omega⟩
    obtain rfl : i = l.length := by omega
    simp only [rel_Apply.l0]
    rw [if_neg (by omega), List.drop_length]
    rfl
  | succ d ih =>
    intro k i b hb hbl hi hd hk
    obtain ⟨k, rfl⟩ : ∃ m, k = m + 1 := ⟨k - 1, by omega⟩
    have hw1 : wrap64 ((i : Int) + 1) = ((i + 1 : Nat) : Int) := by unfold wrap64; omega
    have hdr := rd74 l i (by omega)
    have hmem : rd_T74 l (i : Int) ∈ l := List.mem_of_mem_drop (i := i) (by rw [hdr]; simp)
    have hs := hw _ hmem
    rw [hdr, List.foldl_cons]
    have hsl := stepA_len X b (rd_T74 l (i : Int)) hs
    have hsb := stepA_byteB X b (rd_T74 l (i : Int)) hb
    have hih := ih k (i + 1) (stepA X b (rd_T74 l (i : Int))) hsb (by omega) (by omega) (by omega) (by omega)
    rw [← hih]
    simp only [rel_Apply.l0]
    rw [if_pos (by omega), if_pos (by omega), if_pos (by omega), in_is b.length hbl _ _ hs, Option.bind_some, hw1]
    generalize rd_T74 l (i : Int) = s at *
    by_cases hin : 0 ≤ s.f0 ∧ s.f0 + s.f1 ≤ (b.length : Int)
    · rw [decide_eq_true hin, if_pos rfl]
      obtain ⟨q, hq⟩ := Int.eq_ofNat_of_zero_le hin.1
      have hst : stepA X b s = patch X b q s.f1.toNat := by unfold stepA; rw [if_pos hin, hq, Int.toNat_natCast]
      have hu : ∀ z : Nat, IntKind.u64.wrap ((z : Nat) : Int) = ((z % 18446744073709551616 : Nat) : Int) := by
        intro z
        simp only [IntKind.wrap, IntKind.bits, IntKind.signed]
        simp
      by_cases h4 : s.f1 = 4
      · have hn := numAt_lt hb q 4
        have hsm : numAt b q 4 % 18446744073709551616 = numAt b q 4 := Nat.mod_eq_of_lt (by omega)
        rw [if_pos h4, hq, U32_is b hb q (by omega), Option.bind_some]
        simp only
        rw [hu, hsm, ← Int.natCast_add, hu, show (4 : Int) = ((4 : Nat) : Int) from rfl, put_is k b q 4 _ (by omega) (by omega) (by omega) (by omega) (by omega), Option.bind_some, hst, h4]
        rfl
      · have h8 : s.f1 = 8 := by omega
        have h64 := number_is b hb q 8 (by omega) (by omega) (by omega)
        rw [show ((8 : Nat) : Int) = 8 from rfl] at h64
        rw [if_neg h4, hq]
        unfold le_U64.f
        rw [h64, Option.bind_some, Option.bind_some]
        simp only
        rw [← Int.natCast_add, hu, show (8 : Int) = ((8 : Nat) : Int) from rfl, put_is k b q 8 _ (by omega) (by omega) (by omega) (by omega) (by omega), Option.bind_some, hst, h8]
        rfl
    · rw [decide_eq_false hin, if_neg (by simp)]
      have hst : stepA X b s = b := by unfold stepA; rw [if_neg hin]
      rw [hst]
theorem sites_wide (l : List S60) : Wide (sitesL l) := by
  induction l with
  | nil => intro s hs; cases hs
  | cons x r ih =>
    intro s hs
    simp only [sitesL] at hs
    split at hs
    · rename_i h
      rcases List.mem_cons.1 hs with rfl | hs
      · simp only
        unfold longI at h ⊢
        split
        · exact .inl rfl
        · split
          · exact .inr rfl
          · rename_i h1 h2
            rw [if_neg h1, if_neg h2] at h
            omega
      · exact ih s hs
    · exact ih s hs
theorem sites_le (l : List S60) : (sitesL l).length ≤ l.length := by
  induction l with
  | nil => exact Nat.le_refl _
  | cons x r ih =>
    simp only [sitesL]
    split <;> simp <;> omega
theorem apply_is (b : List Int) (hb : byteB b = true) (hbl : b.length ≤ 1000000) (l : List S60) (hl : l.length ≤ 1000) (X : Nat) (hX : X < 18446744073709551616) (k : Nat) (hk : 2000 ≤ k) :
    rel_Apply.f k b l (X : Int) = some ((sitesL l).foldl (stepA X) b) := by
  have h1 := sites_le l
  unfold rel_Apply.f slices_Clone_byte_byte.f
  rw [if_pos (by omega), Option.bind_some, sites_is l (by omega) k (by omega), Option.bind_some]
  have := apply_l0 X hX (sitesL l) (sites_wide l) (by omega) (sitesL l).length k 0 b hb (by omega) (Nat.zero_le _) (by omega) (by omega)
  simpa using this
theorem num_l0 (s : ByteArray) (a n : Nat) (h : a + n ≤ s.size) (hs : s.size ≤ 1000000) (hn : n ≤ 8) (d : Nat) : ∀ (k i : Nat) (v : Int), i ≤ n → n - i = d → d < k →
    slipwayref1_Num.l0 k s (a : Int) (n : Int) v (i : Int) = some (orLoop (((bytesOf s).drop (a + i)).take d) i v, true) := by
  induction d with
  | zero =>
    intro k i v hi hd hk
    obtain ⟨k, rfl⟩ : ∃ m, k = m + 1 := ⟨k - 1, by omega⟩
    obtain rfl : i = n := by omega
    simp only [slipwayref1_Num.l0]
    rw [if_neg (by omega)]
    rfl
  | succ d ih =>
    intro k i v hi hd hk
    obtain ⟨k, rfl⟩ : ∃ m, k = m + 1 := ⟨k - 1, by omega⟩
    have hw : wrap64 (8 * (i : Int)) = 8 * (i : Int) := by unfold wrap64; omega
    have hw1 : wrap64 ((i : Int) + 1) = ((i + 1 : Nat) : Int) := by unfold wrap64; omega
    have hw2 : wrap64 ((a : Int) + (i : Int)) = ((a + i : Nat) : Int) := by unfold wrap64; omega
    have hbl := bytesOf_length s
    have hdr : (bytesOf s).drop (a + i) = bt s ((a + i : Nat) : Int) :: (bytesOf s).drop (a + (i + 1)) := by
      rw [List.drop_eq_getElem_cons (by omega)]
      congr 1
      rw [← rd_bytesOf]
      simp only [rd, Int.toNat_natCast, List.getD_eq_getElem?_getD, List.getElem?_eq_getElem (show a + i < (bytesOf s).length by omega), Option.getD_some]
    simp only [slipwayref1_Num.l0]
    rw [if_pos (by omega), hw, hw1, hw2, if_pos (by omega), if_pos (by omega), if_pos (by omega), hdr, List.take_succ_cons, ih k (i + 1) _ (by omega) (by omega) (by omega)]
    rfl
theorem num_is (p : List Int) (hp : byteB p = true) (hl : p.length ≤ 1000000) (a n : Nat) (h1 : n ≤ 8) (h : a + n ≤ p.length) (k : Nat) (hk : 10 ≤ k) : slipwayref1_Num.f k (strOfNums p) (a : Int) (n : Int) = some ((numAt p a n : Int), true) := by
  have hsz : (strOfNums p).size = p.length := strOfNums_size p
  have hby : bytesOf (strOfNums p) = p := YtjifmpjpccibnaaA.bytesOf_str (byteB_mem.1 hp)
  unfold slipwayref1_Num.f slipwayref1_In.f
  have hw : wrap64 ((p.length : Int) - (a : Int)) = (p.length : Int) - (a : Int) := by unfold wrap64; omega
  rw [hsz, if_pos (by omega), if_pos (by omega), if_pos (by omega), Option.bind_some, hw, decide_eq_true (by omega), if_pos rfl]
  have h0 := num_l0 (strOfNums p) a n (by omega) (by omega) h1 n k 0 0 (Nat.zero_le _) (by omega) (by omega)
  rw [hby, Nat.add_zero] at h0
  have h2 := orLoop_is ((p.drop a).take n) 0 0 (byteB_take (byteB_drop hp a) n) (by simp; omega) (by simp)
  simp only [Nat.pow_zero, Nat.one_mul, Nat.zero_add, Int.natCast_zero] at h2
  rw [h2] at h0
  exact h0
end Go.Proofs.Ytjifmpjpccibnaa.Pj
