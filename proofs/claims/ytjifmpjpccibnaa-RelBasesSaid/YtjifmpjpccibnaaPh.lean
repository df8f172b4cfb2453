/- Plain laws: sites that are apart; rows of sites that are the same. -/
import Derived.Test.YtjifmpjpccibnaaPg
import Derived.Test.YtjifmpjpccibnaaDx75
import Derived.Test.YtjifmpjpccibnaaDx73
namespace Go.Proofs.Ytjifmpjpccibnaa.Ph
open Go.RowKit Go.Proofs.YtjifmpjpccibnaaW.PrintWords Go.Proofs.YtjifmpjpccibnaaW.PrintLast Go.Proofs.YtjifmpjpccibnaaW.PrintMore Go.Proofs.Ytjifmpjpccibnaa.D Go.Proofs.Ytjifmpjpccibnaa.Pd Go.Proofs.Ytjifmpjpccibnaa.Pg
set_option linter.unusedVariables false

theorem rd60' (l : List S60) (i : Nat) (hi : i < l.length) : l.drop i = rd_T60 l (i : Int) :: l.drop (i + 1) := by
  rw [List.drop_eq_getElem_cons hi]
  congr 1
  simp [rd_T60, hi]
/-- A site is 8 bytes long, or 4. -/
def al (y : S60) : Int := if y.f0 = 10 then 8 else 4
def apOk (q n : Int) (y : S60) : Bool := decide (q + n ≤ y.f1) || decide (y.f1 + al y ≤ q)
def apSite (long : Nat) (x : S60) : S60 := ⟨if Go.bits .and .i64 x.f0 1 = 0 then 3 else 10, Int.tmod (Go.bits .and .i64 x.f1 16777215) (long : Int)⟩
def apStep (long : Nat) (out : List S60) (x : S60) : List S60 :=
  if decide ((apSite long x).f1 + al (apSite long x) ≤ (long : Int)) && out.all (apOk (apSite long x).f1 (al (apSite long x))) then out ++ [apSite long x] else out
def apartL (long : Nat) : List S60 → List S60 → List S60
  | [], out => out
  | x :: r, out => apartL long r (apStep long out x)
def InB (long : Nat) (out : List S60) : Prop := ∀ y ∈ out, (y.f0 = 3 ∨ y.f0 = 10) ∧ 0 ≤ y.f1 ∧ y.f1 + al y ≤ (long : Int)
theorem apStep_len (long : Nat) (out : List S60) (x : S60) : (apStep long out x).length ≤ out.length + 1 := by
  unfold apStep
  split <;> simp
theorem apSite_ok (long : Nat) (hl : 0 < long) (hl2 : long ≤ 1000000) (x : S60) : ((apSite long x).f0 = 3 ∨ (apSite long x).f0 = 10) ∧ 0 ≤ (apSite long x).f1 ∧ (apSite long x).f1 < (long : Int) := by
  obtain ⟨n, hn, hb⟩ := YtjifmpjpccibnaaA.i64_and x.f1 16777215 (by decide)
  have hb2 : Go.bits .and .i64 x.f1 16777215 = (n : Int) := hb
  have hf : (apSite long x).f1 = ((n % long : Nat) : Int) := by
    unfold apSite
    simp only
    rw [hb2, Int.tmod_eq_emod_of_nonneg (by omega)]
    simp
  refine ⟨?_, by rw [hf]; omega, ?_⟩
  · unfold apSite
    simp only
    split
    · exact .inl rfl
    · exact .inr rfl
  · rw [hf]
    have := Nat.mod_lt n hl
    omega
theorem apStep_inB (long : Nat) (hl : 0 < long) (hl2 : long ≤ 1000000) (out : List S60) (h : InB long out) (x : S60) : InB long (apStep long out x) := by
  unfold apStep
  split
  · rename_i hc
    simp only [Bool.and_eq_true, decide_eq_true_eq] at hc
    obtain ⟨h1, h2, h3⟩ := apSite_ok long hl hl2 x
    intro y hy
    rcases List.mem_append.1 hy with hy | hy
    · exact h y hy
    · simp at hy
      subst hy
      exact ⟨h1, h2, hc.1⟩
  · exact h
theorem apart_l1 (k : Nat) (l : List S60) (long : Nat) (hl : 0 < long) (hl2 : long ≤ 1000000) (out : List S60) (hb : InB long out) (ho : out.length ≤ 1000) (i : Int) (kd q : Int) (n : Int) (hq0 : 0 ≤ q) (hq1 : q < (long : Int)) (hn : n = 4 ∨ n = 8) (d : Nat) : ∀ (j : Nat) (ok : Bool), j ≤ out.length → out.length - j = d →
    slipwaylaw10_Apart.l1 (k + d + 1) l (long : Int) out i n ok (j : Int) kd q = slipwaylaw10_Apart.l0 k l (long : Int) (if (ok && (out.drop j).all (apOk q n)) = true then out ++ [⟨kd, q⟩] else out) (wrap64 (i + 1)) := by
  induction d with
  | zero =>
    intro j ok hj hd
    obtain rfl : j = out.length := by omega
    simp only [slipwaylaw10_Apart.l1]
    rw [if_neg (by omega), List.drop_length]
    cases ok
    · simp
    · rw [if_pos rfl, if_pos (by omega)]
      simp
  | succ d ih =>
    intro j ok hj hd
    have hw : wrap64 ((j : Int) + 1) = ((j + 1 : Nat) : Int) := by unfold wrap64; omega
    have hd1 := rd60' out j (by omega)
    have hmem : rd_T60 out (j : Int) ∈ out := by
      have : rd_T60 out (j : Int) ∈ out.drop j := by rw [hd1]; simp
      exact List.mem_of_mem_drop this
    obtain ⟨hk, hp0, hp1⟩ := hb _ hmem
    obtain ⟨f, hf⟩ : ∃ f, k + d + 1 = f := ⟨_, rfl⟩
    rw [hf] at ih
    rw [show k + (d + 1) + 1 = f + 1 by omega]
    simp only [slipwaylaw10_Apart.l1]
    rw [if_pos (by omega), if_pos (by omega), hw, hd1, List.all_cons]
    generalize rd_T60 out (j : Int) = y at *
    have ha : al y = if y.f0 = 10 then 8 else 4 := rfl
    have hw1 : wrap64 (q + n) = q + n := by unfold wrap64; omega
    have hal : al y = 4 ∨ al y = 8 := by rw [ha]; split <;> simp
    by_cases h10 : y.f0 = 10
    · rw [if_pos h10] at ha ⊢
      have hw2 : wrap64 (y.f1 + 8) = y.f1 + 8 := by unfold wrap64; omega
      cases ok
      · rw [if_neg (by simp), ih (j + 1) false (by omega) (by omega)]
        simp
      · rw [if_pos rfl, hw1, hw2]
        by_cases h1 : q + n ≤ y.f1
        · rw [if_pos h1, ih (j + 1) true (by omega) (by omega)]
          simp [apOk, h1]
        · rw [if_neg h1, ih (j + 1) _ (by omega) (by omega)]
          simp [apOk, h1, ha]
    · rw [if_neg h10] at ha ⊢
      have hw2 : wrap64 (y.f1 + 4) = y.f1 + 4 := by unfold wrap64; omega
      cases ok
      · rw [if_neg (by simp), ih (j + 1) false (by omega) (by omega)]
        simp
      · rw [if_pos rfl, hw1, hw2]
        by_cases h1 : q + n ≤ y.f1
        · rw [if_pos h1, ih (j + 1) true (by omega) (by omega)]
          simp [apOk, h1]
        · rw [if_neg h1, ih (j + 1) _ (by omega) (by omega)]
          simp [apOk, h1, ha]
theorem apart_l0 (l : List S60) (long : Nat) (hl : 0 < long) (hl2 : long ≤ 1000000) (d : Nat) : ∀ (i : Nat) (out : List S60) (k : Nat), i ≤ min l.length 40 → min l.length 40 - i = d → out.length ≤ i → InB long out → d * 60 + 5 < k →
    slipwaylaw10_Apart.l0 k l (long : Int) out (i : Int) = some (apartL long ((l.take 40).drop i) out) := by
  induction d with
  | zero =>
    intro i out k hi hd ho hb hk
    obtain ⟨k, rfl⟩ : ∃ q, k = q + 2 := ⟨k - 2, by omega⟩
    have hdr : (l.take 40).drop i = [] := List.drop_eq_nil_of_le (by simp; omega)
    rw [hdr]
    simp only [slipwaylaw10_Apart.l0, slipwaylaw10_Apart.j1, apartL]
    by_cases h : (i : Int) < (l.length : Int)
    · rw [if_pos h, if_neg (by rw [decide_eq_true_eq]; omega)]
    · rw [if_neg h, if_neg (by simp)]
  | succ d ih =>
    intro i out k hi hd ho hb hk
    obtain ⟨k, rfl⟩ : ∃ q, k = q + out.length + 1 + 2 := ⟨k - 2 - 1 - out.length, by omega⟩
    have hil : i < l.length := by omega
    have hi40 : i < 40 := by omega
    have hdr : (l.take 40).drop i = rd_T60 l (i : Int) :: (l.take 40).drop (i + 1) := by
      rw [List.drop_eq_getElem_cons (by simp; omega)]
      congr 1
      simp [rd_T60, List.getElem_take, hil]
    have hw : wrap64 ((i : Int) + 1) = ((i + 1 : Nat) : Int) := by unfold wrap64; omega
    rw [hdr]
    simp only [apartL]
    obtain ⟨b, hb1, hbit⟩ := YtjifmpjpccibnaaA.i64_and (rd_T60 l (i : Int)).f0 1 (by decide)
    have hbit2 : Go.bits .and .i64 (rd_T60 l (i : Int)).f0 1 = (b : Int) := hbit
    obtain ⟨hs1, hs2, hs3⟩ := apSite_ok long hl hl2 (rd_T60 l (i : Int))
    have hs0 : (apSite long (rd_T60 l (i : Int))).f0 = if b = 0 then 3 else 10 := by
      unfold apSite
      simp only
      rw [hbit2]
      by_cases h0 : b = 0
      · rw [if_pos (by omega), if_pos h0]
      · rw [if_neg (by omega), if_neg h0]
    have hf1 : (apSite long (rd_T60 l (i : Int))).f1 = Int.tmod (Go.bits .and .i64 (rd_T60 l (i : Int)).f1 16777215) (long : Int) := rfl
    have hal : al (apSite long (rd_T60 l (i : Int))) = if b = 0 then 4 else 8 := by
      unfold al
      rw [hs0]
      by_cases h0 : b = 0
      · rw [if_pos h0, if_neg (by decide), if_pos h0]
      · rw [if_neg h0, if_pos rfl, if_neg h0]
    have hst : apStep long out (rd_T60 l (i : Int)) = if (decide ((apSite long (rd_T60 l (i : Int))).f1 + al (apSite long (rd_T60 l (i : Int))) ≤ (long : Int)) && out.all (apOk (apSite long (rd_T60 l (i : Int))).f1 (al (apSite long (rd_T60 l (i : Int)))))) = true then out ++ [⟨(apSite long (rd_T60 l (i : Int))).f0, (apSite long (rd_T60 l (i : Int))).f1⟩] else out := rfl
    have hlen := apStep_len long out (rd_T60 l (i : Int))
    have hin := apStep_inB long hl hl2 out hb (rd_T60 l (i : Int))
    rw [← ih (i + 1) (apStep long out (rd_T60 l (i : Int))) k (by omega) (by omega) (by omega) hin (by omega)]
    have hl1 := fun n ok q kd hq0 hq1 hn => apart_l1 k l long hl hl2 out hb (by omega) (i : Int) kd q n hq0 hq1 hn out.length 0 ok (Nat.zero_le _) (by omega)
    obtain ⟨f, hf⟩ : ∃ f, k + out.length + 1 = f := ⟨_, rfl⟩
    rw [hf] at hl1 ⊢
    simp only [slipwaylaw10_Apart.l0]
    rw [if_pos (by omega), show decide ((i : Int) < 40) = true from decide_eq_true (by omega)]
    simp only [slipwaylaw10_Apart.j1]
    rw [if_pos trivial, Option.bind_some, if_pos (by omega), if_pos (by omega), hbit2, if_pos (by omega), if_pos (by simp; omega), if_neg (by omega), Option.bind_some, if_pos (by simp; omega), ← hf1]
    have hrd3 : rd [3, 10] (b : Int) = (apSite long (rd_T60 l (i : Int))).f0 := by
      rw [hs0]
      rcases (show b = 0 ∨ b = 1 by omega) with rfl | rfl <;> rfl
    have hrd4 : rd [4, 8] (b : Int) = al (apSite long (rd_T60 l (i : Int))) := by
      rw [hal]
      rcases (show b = 0 ∨ b = 1 by omega) with rfl | rfl <;> rfl
    have h48 : al (apSite long (rd_T60 l (i : Int))) = 4 ∨ al (apSite long (rd_T60 l (i : Int))) = 8 := by
      rw [hal]
      split <;> simp
    rw [hrd3, hrd4]
    have hww : wrap64 ((apSite long (rd_T60 l (i : Int))).f1 + al (apSite long (rd_T60 l (i : Int)))) = (apSite long (rd_T60 l (i : Int))).f1 + al (apSite long (rd_T60 l (i : Int))) := by unfold wrap64; omega
    rw [hww, show (0 : Int) = ((0 : Nat) : Int) from rfl]
    rw [hl1 _ _ _ _ hs2 hs3 h48, hw, List.drop_zero, ← hst]
theorem apart_is (l : List S60) (long : Nat) (hl : 0 < long) (hl2 : long ≤ 1000000) (k : Nat) (hk : 2500 ≤ k) : slipwaylaw10_Apart.f k l (long : Int) = some (apartL long (l.take 40) []) := by
  have := apart_l0 l long hl hl2 (min l.length 40) 0 [] k (by omega) (by omega) (by simp) (by intro y hy; cases hy) (by omega)
  simpa [slipwaylaw10_Apart.f] using this
/-- What is known of such sites. -/
structure Ap (long : Nat) (out : List S60) : Prop where
  inb : InB long out
  few : out.length ≤ 40
  apart : out.Pairwise fun a b => a.f1 + al a ≤ b.f1 ∨ b.f1 + al b ≤ a.f1
theorem apartL_ap (long : Nat) (hl : 0 < long) (hl2 : long ≤ 1000000) (l : List S60) : ∀ (out : List S60), InB long out → out.length + l.length ≤ 40 → (out.Pairwise fun a b => a.f1 + al a ≤ b.f1 ∨ b.f1 + al b ≤ a.f1) → Ap long (apartL long l out) := by
  induction l with
  | nil => intro out hb hn hp; show Ap long out; exact ⟨hb, by simpa using hn, hp⟩
  | cons x r ih =>
    intro out hb hn hp
    simp only [List.length_cons] at hn
    have hlen := apStep_len long out x
    refine ih _ (apStep_inB long hl hl2 out hb x) (by omega) ?_
    unfold apStep
    split
    · rename_i hc
      simp only [Bool.and_eq_true, decide_eq_true_eq, List.all_eq_true] at hc
      rw [List.pairwise_append]
      refine ⟨hp, by simp, fun a ha b hb1 => ?_⟩
      simp at hb1
      subst hb1
      have := hc.2 a ha
      simp only [apOk, Bool.or_eq_true, decide_eq_true_eq] at this
      omega
    · exact hp
theorem ap_of (l : List S60) (long : Nat) (hl : 0 < long) (hl2 : long ≤ 1000000) : Ap long (apartL long (l.take 40) []) :=
  apartL_ap long hl hl2 (l.take 40) [] (by intro y hy; cases hy) (by simp; omega) List.Pairwise.nil
theorem same_l0 (l : List S60) (hl : l.length ≤ 1000000) (d : Nat) : ∀ (k i : Nat), i ≤ l.length → l.length - i = d → d < k → slipwayref1_SameRels.l0 k l l (i : Int) = some true := by
  induction d with
  | zero =>
    intro k i hi hd hk
    obtain ⟨k, rfl⟩ : ∃ m, k = m + 1 := ⟨k - 1, by omega⟩
    simp only [slipwayref1_SameRels.l0]
    rw [if_neg (by omega)]
  | succ d ih =>
    intro k i hi hd hk
    obtain ⟨k, rfl⟩ : ∃ m, k = m + 1 := ⟨k - 1, by omega⟩
    have hw : wrap64 ((i : Int) + 1) = ((i + 1 : Nat) : Int) := by unfold wrap64; omega
    simp only [slipwayref1_SameRels.l0]
    rw [if_pos (by omega), if_pos (by omega), if_pos (by omega), if_neg (by simp), hw]
    exact ih k (i + 1) (by omega) (by omega) (by omega)
theorem same_is (l : List S60) (hl : l.length ≤ 1000000) (k : Nat) (hk : l.length < k) : slipwayref1_SameRels.f k l l = some true := by
  unfold slipwayref1_SameRels.f
  rw [if_pos rfl]
  exact same_l0 l hl l.length k 0 (Nat.zero_le _) (by omega) hk
end Go.Proofs.Ytjifmpjpccibnaa.Ph
