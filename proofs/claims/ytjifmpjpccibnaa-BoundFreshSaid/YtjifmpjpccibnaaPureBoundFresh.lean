/- BoundFresh holds: all is as it was bound just if each Dll, in any letters, has that number; one number turned, and it is not. (No condition.) -/
import Derived.Test.YtjifmpjpccibnaaDx53
import Derived.Test.YtjifmpjpccibnaaA
namespace Go.Proofs.Ytjifmpjpccibnaa.Pure
open Go.RowKit Go.Proofs.Ytjifmpjpccibnaa.D Go.Proofs.YtjifmpjpccibnaaW.PrintWords Go.Proofs.YtjifmpjpccibnaaW.PrintLast Go.Proofs.YtjifmpjpccibnaaW.PrintMore Go.Proofs.YtjifmpjpccibnaaA
set_option linter.unusedVariables false
set_option maxRecDepth 100000

def dig (i : Nat) : ByteArray := (slipwayref1_Digits.f 5 (i : Int)).getD ⟨#[]⟩
theorem dig_ok : ∀ i : Nat, i < 20 → (slipwayref1_Digits.f 5 (i : Int)).isSome = true ∧ (dig i).size ≤ 2 := by decide +kernel
theorem dig_is (i k : Nat) (hi : i < 20) (hk : 5 ≤ k) : slipwayref1_Digits.f k (i : Int) = some (dig i) := by
  have h := (dig_ok i hi).1
  refine at_rounds (slipwayref1_Digits.mono (i : Int)) hk ?_
  obtain ⟨d, hd⟩ := Option.isSome_iff_exists.1 h
  simp [dig, hd]
/-- The two kinds of names. -/
def nameL (i : Nat) : ByteArray := ⟨#[77]⟩ ++ dig i
def nameS (i : Nat) : ByteArray := (⟨#[109]⟩ ++ dig i) ++ ⟨#[46, 100, 108, 108]⟩
theorem same_all : ∀ i : Nat, i < 20 → ∀ j : Nat, j < 20 → fold_Same.f (nameS i) (nameL j) = some (i == j) := by decide +kernel
def toL (p : Nat × Int) : S42 := ⟨nameL p.1, p.2⟩
def toS (p : Nat × Int) : S53 := ⟨nameS p.1, p.2⟩
def Few (ps : List (Nat × Int)) : Prop := ∀ p ∈ ps, p.1 < 20
def look (ps : List (Nat × Int)) (j : Nat) : Int × Bool := match ps.find? (fun p => p.1 == j) with
  | some p => (p.2, true)
  | none => (0, false)
theorem rdS (ps : List (Nat × Int)) (i : Nat) (hi : i < ps.length) : rd_T53 (ps.map toS) (i : Int) = toS ps[i] := by
  simp [rd_T53, List.getD_eq_getElem?_getD, hi]
theorem rdL (ps : List (Nat × Int)) (i : Nat) (hi : i < ps.length) : rd_T42 (ps.map toL) (i : Int) = toL ps[i] := by
  simp [rd_T42, List.getD_eq_getElem?_getD, hi]
theorem wrap_nat (i : Nat) (hi : i < 1000000) : wrap64 ((i : Int) + 1) = ((i + 1 : Nat) : Int) := by unfold wrap64; omega

theorem stamp_l0 (ps : List (Nat × Int)) (hf : Few ps) (hl : ps.length ≤ 1000) (j : Nat) (hj : j < 20) (d : Nat) : ∀ (k i : Nat), i ≤ ps.length → ps.length - i = d → d < k →
    bound_stamp.l0 k (nameL j) (ps.map toS) (ps.length : Int) (i : Int) = some (look (ps.drop i) j) := by
  induction d with
  | zero =>
    intro k i hi hd hk
    obtain ⟨k, rfl⟩ : ∃ m, k = m + 1 := ⟨k - 1, by omega⟩
    obtain rfl : i = ps.length := by omega
    simp only [bound_stamp.l0]
    rw [if_neg (by omega), List.drop_length]
    rfl
  | succ d ih =>
    intro k i hi hd hk
    obtain ⟨k, rfl⟩ : ∃ m, k = m + 1 := ⟨k - 1, by omega⟩
    have hlt : i < ps.length := by omega
    have hs := same_all ps[i].1 (hf _ (List.getElem_mem hlt)) j hj
    simp only [bound_stamp.l0]
    rw [if_pos (by omega), if_pos (by omega), if_pos (by rw [List.length_map]; omega), rdS ps i hlt, show (toS ps[i]).f0 = nameS ps[i].1 from rfl, hs, Option.bind_some]
    rw [List.drop_eq_getElem_cons hlt]
    by_cases hij : ps[i].1 = j
    · rw [if_pos (by simpa using hij)]
      unfold look
      rw [List.find?_cons_of_pos (by simpa using hij)]
      rfl
    · rw [if_neg (by simpa using hij), wrap_nat i (by omega), ih k (i + 1) (by omega) (by omega) (by omega)]
      unfold look
      rw [List.find?_cons_of_neg (by simpa using hij)]
theorem stamp_is (ps : List (Nat × Int)) (hf : Few ps) (hl : ps.length ≤ 1000) (j : Nat) (hj : j < 20) (k : Nat) (hk : ps.length < k) : bound_stamp.f k (ps.map toS) (nameL j) = some (look ps j) := by
  unfold bound_stamp.f
  rw [List.length_map]
  exact stamp_l0 ps hf hl j hj ps.length k 0 (Nat.zero_le _) rfl hk

def fresh (qs ps : List (Nat × Int)) : Bool := qs.all fun q => look ps q.1 == (q.2, true)
theorem fresh_l0 (qs ps : List (Nat × Int)) (hq : Few qs) (hf : Few ps) (hl : ps.length ≤ 1000) (hm : qs.length ≤ 1000) (d : Nat) : ∀ (k i : Nat), i ≤ qs.length → qs.length - i = d → d + ps.length + 1 < k →
    bound_Fresh.l0 k (ps.map toS) (qs.map toL) (qs.length : Int) (i : Int) = some (fresh (qs.drop i) ps) := by
  induction d with
  | zero =>
    intro k i hi hd hk
    obtain ⟨k, rfl⟩ : ∃ m, k = m + 1 := ⟨k - 1, by omega⟩
    obtain rfl : i = qs.length := by omega
    simp only [bound_Fresh.l0]
    rw [if_neg (by omega), List.drop_length]
    rfl
  | succ d ih =>
    intro k i hi hd hk
    obtain ⟨k, rfl⟩ : ∃ m, k = m + 1 := ⟨k - 1, by omega⟩
    have hlt : i < qs.length := by omega
    have hs := stamp_is ps hf hl qs[i].1 (hq _ (List.getElem_mem hlt)) k (by omega)
    simp only [bound_Fresh.l0]
    rw [if_pos (by omega), if_pos (by omega), if_pos (by rw [List.length_map]; omega), rdL qs i hlt, show (toL qs[i]).f0 = nameL qs[i].1 from rfl, show (toL qs[i]).f1 = qs[i].2 from rfl, hs, Option.bind_some]
    rw [List.drop_eq_getElem_cons hlt]
    unfold fresh
    rw [List.all_cons]
    by_cases h1 : (look ps qs[i].1).2 = true
    · rw [if_pos h1]
      by_cases h2 : (look ps qs[i].1).1 = qs[i].2
      · rw [if_pos h2, wrap_nat i (by omega), ih k (i + 1) (by omega) (by omega) (by omega)]
        have h3 : (look ps qs[i].1 == (qs[i].2, true)) = true := by
          rw [beq_iff_eq]; exact Prod.ext h2 h1
        rw [h3]
        rfl
      · rw [if_neg h2]
        have h3 : (look ps qs[i].1 == (qs[i].2, true)) = false := by
          rw [beq_eq_false_iff_ne]; exact fun e => h2 (by rw [e])
        rw [h3]
        rfl
    · rw [if_neg h1]
      have h3 : (look ps qs[i].1 == (qs[i].2, true)) = false := by
        rw [beq_eq_false_iff_ne]; exact fun e => h1 (by rw [e])
      rw [h3]
      rfl
theorem fresh_is (qs ps : List (Nat × Int)) (hq : Few qs) (hf : Few ps) (hl : ps.length ≤ 1000) (hm : qs.length ≤ 1000) (k : Nat) (hk : qs.length + ps.length + 1 < k) : bound_Fresh.f k (qs.map toL) (ps.map toS) = some (fresh qs ps) := by
  unfold bound_Fresh.f
  rw [List.length_map]
  exact fresh_l0 qs ps hq hf hl hm qs.length k 0 (Nat.zero_le _) rfl hk

def qsOf (nums : List Int) : Nat → List (Nat × Int)
  | 0 => []
  | i + 1 => qsOf nums i ++ [(i, rd nums i)]
def psOf (nums : List Int) : Nat → List (Nat × Int)
  | 0 => []
  | i + 1 => (i, rd nums i) :: psOf nums i
theorem qsOf_len (nums : List Int) (n : Nat) : (qsOf nums n).length = n := by
  induction n with
  | zero => rfl
  | succ n ih => simp [qsOf, ih]
theorem psOf_len (nums : List Int) (n : Nat) : (psOf nums n).length = n := by
  induction n with
  | zero => rfl
  | succ n ih => simp [psOf, ih]
theorem qsOf_mem (nums : List Int) (n : Nat) (p : Nat × Int) : p ∈ qsOf nums n ↔ p.1 < n ∧ p.2 = rd nums p.1 := by
  induction n with
  | zero => simp [qsOf]
  | succ n ih =>
    simp only [qsOf, List.mem_append, List.mem_singleton, ih]
    constructor
    · rintro (⟨h1, h2⟩ | rfl)
      · exact ⟨by omega, h2⟩
      · exact ⟨by simp, rfl⟩
    · rintro ⟨h1, h2⟩
      by_cases h : p.1 = n
      · right; exact Prod.ext h (by rw [h2, h])
      · left; exact ⟨by omega, h2⟩
theorem psOf_mem (nums : List Int) (n : Nat) (p : Nat × Int) (h : p ∈ psOf nums n) : p.1 < n ∧ p.2 = rd nums p.1 := by
  induction n with
  | zero => simp [psOf] at h
  | succ n ih =>
    simp only [psOf, List.mem_cons] at h
    rcases h with rfl | h
    · exact ⟨by simp, rfl⟩
    · have := ih h; exact ⟨by omega, this.2⟩
theorem look_cons_pos (p : Nat × Int) (ps : List (Nat × Int)) (j : Nat) (h : p.1 = j) : look (p :: ps) j = (p.2, true) := by
  unfold look
  rw [List.find?_cons_of_pos (by simpa using h)]
theorem look_cons_neg (p : Nat × Int) (ps : List (Nat × Int)) (j : Nat) (h : p.1 ≠ j) : look (p :: ps) j = look ps j := by
  unfold look
  rw [List.find?_cons_of_neg (by simpa using h)]
theorem look_none (nums : List Int) (n j : Nat) (h : n ≤ j) : look (psOf nums n) j = (0, false) := by
  induction n with
  | zero => rfl
  | succ n ih => rw [psOf, look_cons_neg _ _ _ (show n ≠ j by omega), ih (by omega)]
theorem look_psOf (nums : List Int) (n j : Nat) (h : j < n) : look (psOf nums n) j = (rd nums j, true) := by
  induction n with
  | zero => omega
  | succ n ih =>
    rw [psOf]
    by_cases e : n = j
    · subst e; rw [look_cons_pos _ _ _ rfl]
    · rw [look_cons_neg _ _ _ e, ih (by omega)]
theorem psOf_at (nums : List Int) (n : Nat) : ∀ (k : Nat) (h : k < (psOf nums n).length), (psOf nums n)[k] = (n - 1 - k, rd nums ((n - 1 - k : Nat) : Int)) := by
  induction n with
  | zero => intro k h; simp [psOf] at h
  | succ n ih =>
    intro k h
    cases k with
    | zero => simp [psOf]
    | succ k =>
      have h2 : k < (psOf nums n).length := by simpa [psOf] using h
      have e : n + 1 - 1 - (k + 1) = n - 1 - k := by omega
      simp only [psOf, List.getElem_cons_succ, ih k h2, e]
theorem look_set (nums : List Int) (n : Nat) (v : Int) : ∀ k, k < n → look ((psOf nums n).set k (n - 1 - k, v)) (n - 1 - k) = (v, true) := by
  induction n with
  | zero => intro k h; omega
  | succ n ih =>
    intro k h
    cases k with
    | zero => rw [psOf, List.set_cons_zero, look_cons_pos _ _ _ rfl]
    | succ k =>
      have e : n + 1 - 1 - (k + 1) = n - 1 - k := by omega
      rw [psOf, List.set_cons_succ, look_cons_neg _ _ _ (show n ≠ _ by omega), e]
      exact ih k (by omega)
theorem look_gone (nums : List Int) (n : Nat) : ∀ k, k < n → look ((psOf nums n).take k ++ (psOf nums n).drop (k + 1)) (n - 1 - k) = (0, false) := by
  induction n with
  | zero => intro k h; omega
  | succ n ih =>
    intro k h
    cases k with
    | zero =>
      rw [psOf, List.take_zero, List.nil_append, List.drop_succ_cons, List.drop_zero]
      exact look_none _ _ _ (by omega)
    | succ k =>
      have e : n + 1 - 1 - (k + 1) = n - 1 - k := by omega
      rw [psOf, List.take_succ_cons, List.drop_succ_cons, List.cons_append, look_cons_neg _ _ _ (show n ≠ _ by omega), e]
      exact ih k (by omega)
theorem fresh_true (nums : List Int) (n : Nat) : fresh (qsOf nums n) (psOf nums n) = true := by
  unfold fresh
  rw [List.all_eq_true]
  intro q hq
  obtain ⟨h1, h2⟩ := (qsOf_mem nums n q).1 hq
  rw [look_psOf nums n q.1 h1, h2]
  simp
theorem fresh_false (nums : List Int) (n j : Nat) (hj : j < n) (ps : List (Nat × Int)) (h : look ps j ≠ (rd nums j, true)) : fresh (qsOf nums n) ps = false := by
  unfold fresh
  rw [List.all_eq_false]
  exact ⟨(j, rd nums j), (qsOf_mem nums n _).2 ⟨hj, rfl⟩, by simpa using h⟩
theorem bf_steps (nums : List Int) (a1 a2 : Int) (n : Nat) (hn : n ≤ 20) (hl : n ≤ nums.length) (k : Nat) (hk : 5 ≤ k) : ∀ (j i : Nat), i + j = n →
    slipwaylaw9_BoundFresh.l0 (k + j) nums a1 a2 ((qsOf nums i).map toL) ((psOf nums i).map toS) (n : Int) (i : Int) = slipwaylaw9_BoundFresh.l0 k nums a1 a2 ((qsOf nums n).map toL) ((psOf nums n).map toS) (n : Int) (n : Int) := by
  intro j
  induction j with
  | zero => intro i h; obtain rfl : i = n := by omega
            rfl
  | succ j ih =>
    intro i h
    have h2 := (dig_ok i (by omega)).2
    have h1 : (⟨#[109]⟩ : ByteArray).size = 1 := rfl
    rw [show k + (j + 1) = (k + j) + 1 by omega]
    simp only [slipwaylaw9_BoundFresh.l0]
    rw [if_pos (by omega), dig_is i (k + j) (by omega) (by omega), Option.bind_some, if_pos (by omega), if_pos (by omega), if_pos (by omega), if_pos (by rw [List.length_map, qsOf_len]; omega), Option.bind_some, if_pos (by omega), if_pos (by rw [ByteArray.size_append, h1]; omega), Option.bind_some]
    rw [if_pos (by rw [List.length_map, psOf_len]; simp; omega), wrap_nat i (by omega)]
    rw [show (List.map toL (qsOf nums i) ++ [(⟨⟨#[77]⟩ ++ dig i, rd nums i⟩ : S42)]) = (qsOf nums (i + 1)).map toL by rw [qsOf, List.map_append]; rfl]
    exact ih (i + 1) (by omega)
theorem nat_xor2 (a b : Nat) : (a ^^^ b) % 2 = (a + b) % 2 := by
  have h := Nat.testBit_xor a b 0
  simp only [Nat.testBit_zero] at h
  have ha : a % 2 = 0 ∨ a % 2 = 1 := by omega
  have hb : b % 2 = 0 ∨ b % 2 = 1 := by omega
  have hc : (a ^^^ b) % 2 = 0 ∨ (a ^^^ b) % 2 = 1 := by omega
  rcases ha with ha | ha <;> rcases hb with hb | hb <;> rcases hc with hc | hc <;> simp [ha, hb, hc] at h <;> omega
theorem nat_or1 (a : Nat) : (a ||| 1) % 2 = 1 := by
  have h := Nat.testBit_or a 1 0
  simp only [Nat.testBit_zero] at h
  have hc : (a ||| 1) % 2 = 0 ∨ (a ||| 1) % 2 = 1 := by omega
  rcases hc with hc | hc
  · simp [hc] at h
  · exact hc
theorem xor_ne (v x : Int) : Go.bits .xor .i64 v (Go.bits .or .i64 x 1) ≠ v := by
  intro h
  have h1 : Go.bits .or .i64 x 1 = IntKind.i64.wrap (((BitVec.ofInt 64 x ||| BitVec.ofInt 64 1).toNat : Nat) : Int) := rfl
  have h2 : Go.bits .xor .i64 v (Go.bits .or .i64 x 1) = IntKind.i64.wrap (((BitVec.ofInt 64 v ^^^ BitVec.ofInt 64 (Go.bits .or .i64 x 1)).toNat : Nat) : Int) := rfl
  rw [BitVec.toNat_or, IntKind.wrap_i64] at h1
  rw [h2, BitVec.toNat_xor, IntKind.wrap_i64] at h
  have e1 : (BitVec.ofInt 64 1).toNat = 1 := by decide
  rw [e1] at h1
  have h3 := nat_or1 (BitVec.ofInt 64 x).toNat
  have h4 := nat_xor2 (BitVec.ofInt 64 v).toNat (BitVec.ofInt 64 (Go.bits .or .i64 x 1)).toNat
  generalize Go.bits .or .i64 x 1 = m at *
  rw [BitVec.toNat_ofInt, BitVec.toNat_ofInt] at h4 h
  generalize (BitVec.ofInt 64 x).toNat ||| 1 = c at *
  generalize (v % ((2 ^ 64 : Nat) : Int)).toNat ^^^ (m % ((2 ^ 64 : Nat) : Int)).toNat = d at *
  have e64 : ((2 ^ 64 : Nat) : Int) = 18446744073709551616 := by decide
  rw [e64] at h4
  omega
theorem awake9 : slipwaylaw9_awake.f 60 = some true := by decide +kernel
theorem BoundFresh : slipwaylaw9_BoundFresh.Pure := by
  intro nums a1 a2 _ hlen _ _ _
  have hmn : mn (nums.length : Int) 20 = ((min nums.length 20 : Nat) : Int) := by unfold mn; split <;> omega
  obtain ⟨n, hn⟩ : ∃ n, min nums.length 20 = n := ⟨_, rfl⟩
  have hn1 : n ≤ 20 := by omega
  have hn2 : n ≤ nums.length := by omega
  obtain ⟨k, hk⟩ : ∃ k : Nat, k = 100 := ⟨_, rfl⟩
  refine ⟨(k + 2) + n, ?_⟩
  unfold slipwaylaw9_BoundFresh.f
  rw [hmn, hn]
  have hs := bf_steps nums a1 a2 n hn1 hn2 (k + 2) (by omega) n 0 (by omega)
  refine Eq.trans hs ?_
  clear hs hmn hn
  have fq : Few (qsOf nums n) := fun p hp => by have := ((qsOf_mem nums n p).1 hp).1; omega
  have fp : Few (psOf nums n) := fun p hp => by have := (psOf_mem nums n p hp).1; omega
  have lq := qsOf_len nums n
  have lp := psOf_len nums n
  have hF : bound_Fresh.f (k + 1) ((qsOf nums n).map toL) ((psOf nums n).map toS) = some true := by
    rw [fresh_is _ _ fq fp (by omega) (by omega) (k + 1) (by omega), fresh_true]
  have haw : slipwaylaw9_awake.f k = some true := at_rounds slipwaylaw9_awake.mono (by omega) awake9
  simp only [slipwaylaw9_BoundFresh.l0]
  rw [if_neg (by omega), hF, Option.bind_some, if_pos rfl]
  by_cases h0 : n = 0
  · subst h0
    simp only [slipwaylaw9_BoundFresh.j1]
    have hF0 : bound_Fresh.f k ([] : List S42) ([] : List S53) = some true := fresh_is [] [] (fun _ h => by cases h) (fun _ h => by cases h) (by simp) (by simp) k (by simp; omega)
    rw [if_pos (by decide), if_pos (by decide), hF0, Option.bind_some, if_pos rfl, haw, Option.bind_some]
  · obtain ⟨n1, hn1', e1⟩ := i64_and a1 255 (by decide)
    have e1' : Go.bits .and .i64 a1 255 = (n1 : Int) := e1
    have et : Int.tmod (n1 : Int) (n : Int) = ((n1 % n : Nat) : Int) := (Int.ofNat_tmod n1 n).symm
    have hkn : n1 % n < n := Nat.mod_lt _ (Nat.pos_of_ne_zero h0)
    obtain ⟨q, hq⟩ : ∃ q, n1 % n = q := ⟨_, rfl⟩
    rw [hq] at et hkn
    have E1 := Aside0.mk e1'
    have ET := Aside0.mk et
    clear e1 e1' et hq
    have eb : (((n : Nat) : Int) == 0) = false := by simpa using h0
    have hw := wrap_nat q (by omega)
    have hat := psOf_at nums n q (by omega)
    have hrd := rdS (psOf nums n) q (by omega)
    rw [hat] at hrd
    have hset : ((psOf nums n).map toS).set q (⟨(toS (n - 1 - q, rd nums ((n - 1 - q : Nat) : Int))).f0, Go.bits .xor .i64 (toS (n - 1 - q, rd nums ((n - 1 - q : Nat) : Int))).f1 (Go.bits .or .i64 a2 1)⟩ : S53)
        = ((psOf nums n).set q (n - 1 - q, Go.bits .xor .i64 (rd nums ((n - 1 - q : Nat) : Int)) (Go.bits .or .i64 a2 1))).map toS := by
      rw [List.map_set]; rfl
    have hgone : (([] : List S53) ++ ((psOf nums n).map toS).take q) ++ ((psOf nums n).map toS).drop (q + 1) = ((psOf nums n).take q ++ (psOf nums n).drop (q + 1)).map toS := by
      rw [List.nil_append, List.map_append, List.map_take, List.map_drop]
    have fp1 : Few ((psOf nums n).set q (n - 1 - q, Go.bits .xor .i64 (rd nums ((n - 1 - q : Nat) : Int)) (Go.bits .or .i64 a2 1))) := by
      intro p hp
      rcases List.mem_or_eq_of_mem_set hp with h | h
      · exact fp p h
      · rw [h]; show n - 1 - q < 20; omega
    have fp2 : Few ((psOf nums n).take q ++ (psOf nums n).drop (q + 1)) := by
      intro p hp
      rcases List.mem_append.1 hp with h | h
      · exact fp p (List.mem_of_mem_take h)
      · exact fp p (List.mem_of_mem_drop h)
    have hF1 : bound_Fresh.f k ((qsOf nums n).map toL) (((psOf nums n).set q (n - 1 - q, Go.bits .xor .i64 (rd nums ((n - 1 - q : Nat) : Int)) (Go.bits .or .i64 a2 1))).map toS) = some false := by
      rw [fresh_is _ _ fq fp1 (by rw [List.length_set]; omega) (by omega) k (by rw [List.length_set]; omega), fresh_false nums n (n - 1 - q) (by omega)]
      rw [look_set nums n _ q hkn]
      exact fun e => xor_ne _ _ (congrArg Prod.fst e)
    have hF2 : bound_Fresh.f k ((qsOf nums n).map toL) (((psOf nums n).take q ++ (psOf nums n).drop (q + 1)).map toS) = some false := by
      rw [fresh_is _ _ fq fp2 (by simp; omega) (by omega) k (by simp; omega), fresh_false nums n (n - 1 - q) (by omega)]
      rw [look_gone nums n q hkn]
      simp
    simp only [slipwaylaw9_BoundFresh.j1]
    have lm : ((psOf nums n).map toS).length = n := by rw [List.length_map]; exact lp
    rw [eb, if_neg (by decide), if_neg (by omega), Option.bind_some, if_pos (by simp; omega), Option.bind_some, List.nil_append, E1.out, ET.out]
    rw [if_pos (Int.natCast_nonneg q), if_pos (by rw [lm]; omega), Option.bind_some, if_pos (by rw [lm]; omega), Option.bind_some, Int.toNat_natCast, if_pos (by simp; omega), Option.bind_some, hw, if_pos (by omega), if_pos (by rw [lm]; omega), Option.bind_some, Int.toNat_natCast, if_pos (by simp; omega)]
    rw [hrd, hset, hF1, Option.bind_some, if_neg (by decide), hgone, hF2, Option.bind_some, if_neg (by decide), haw, Option.bind_some]
end Go.Proofs.Ytjifmpjpccibnaa.Pure
