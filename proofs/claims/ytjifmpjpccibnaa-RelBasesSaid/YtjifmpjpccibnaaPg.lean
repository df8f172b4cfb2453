/- Plain laws: blocks of sites, laid and read again; which bytes are of sites. -/
import Derived.Test.YtjifmpjpccibnaaPd
import Derived.Test.YtjifmpjpccibnaaDx58
namespace Go.Proofs.Ytjifmpjpccibnaa.Pg
open Go.RowKit Go.Proofs.YtjifmpjpccibnaaW.PrintWords Go.Proofs.YtjifmpjpccibnaaW.PrintLast Go.Proofs.YtjifmpjpccibnaaW.PrintMore Go.Proofs.Ytjifmpjpccibnaa.D Go.Proofs.Ytjifmpjpccibnaa.Pd
set_option linter.unusedVariables false

/-- An entry, by its kind and its place. -/
def ent2 (n kd q : Nat) (out : List S60) (tk : List Int) : Bool × List S60 × List Int :=
  if kd = 0 then (true, out, tk)
  else if relLong kd = 0 then (false, out, tk)
  else if ¬ (q + relLong kd ≤ n) then (false, out, tk)
  else if out.length = 512 then (false, out, tk)
  else if ((tk.drop q).take (relLong kd)).all (fun x => x == 0) = false then (false, out, tk)
  else (true, out ++ [⟨(kd : Int), (q : Int)⟩], splice tk q (List.replicate (relLong kd) 1))
theorem ent2_is (n p v : Nat) (out : List S60) (tk : List Int) : relEntry n p v out tk = ent2 n (v / 4096) (p + v % 4096) out tk := rfl
/-- How long a site is. -/
def sl (x : S60) : Nat := relLong x.f0.toNat
def Good (l : List S60) : Prop := ∀ x ∈ l, 0 ≤ x.f0 ∧ 0 ≤ x.f1 ∧ 0 < sl x
/-- Is a byte of a site? -/
def cov (out : List S60) (j : Nat) : Bool := out.any fun y => decide (y.f1.toNat ≤ j) && decide (j < y.f1.toNat + sl y)
def TK (n : Nat) (out : List S60) : List Int := (List.range n).map fun j => if cov out j = true then 1 else 0
theorem TK_nil (n : Nat) : TK n [] = List.replicate n 0 := by
  apply List.ext_getElem <;> simp [TK, cov]
theorem TK_len (n : Nat) (out : List S60) : (TK n out).length = n := by simp [TK]
theorem TK_get (n : Nat) (out : List S60) (j : Nat) (h : j < n) : (TK n out)[j]'(by rw [TK_len]; exact h) = if cov out j = true then 1 else 0 := by simp [TK]
def lap (q L : Nat) (out : List S60) : Bool := out.any fun y => decide (q < y.f1.toNat + sl y) && decide (y.f1.toNat < q + L)
theorem zero_lap (n : Nat) (out : List S60) (hg : Good out) (q L : Nat) (hL : 0 < L) (h : q + L ≤ n) : (((TK n out).drop q).take L).all (fun x => x == 0) = !lap q L out := by
  rw [Bool.eq_iff_iff]
  simp only [List.all_eq_true, Bool.not_eq_true', lap, List.any_eq_false, Bool.and_eq_true, decide_eq_true_eq, not_and]
  constructor
  · intro hz y hy h1 h2
    obtain ⟨_, _, h3⟩ := hg y hy
    -- a byte that both have
    obtain ⟨j, hj1, hj2, hj3, hj4⟩ : ∃ j, q ≤ j ∧ j < q + L ∧ y.f1.toNat ≤ j ∧ j < y.f1.toNat + sl y := by
      rcases Nat.le_total q y.f1.toNat with h | h
      · exact ⟨y.f1.toNat, h, h2, Nat.le_refl _, by omega⟩
      · exact ⟨q, Nat.le_refl _, by omega, h, h1⟩
    have hm : (TK n out)[j]'(by rw [TK_len]; omega) ∈ ((TK n out).drop q).take L := by
      rw [List.mem_iff_getElem]
      refine ⟨j - q, by simp [TK_len]; omega, ?_⟩
      simp [List.getElem_take, List.getElem_drop, show q + (j - q) = j by omega]
    have hz1 := hz _ hm
    rw [TK_get n out j (by omega), if_pos (by simp only [cov, List.any_eq_true]; exact ⟨y, hy, by simp; omega⟩)] at hz1
    simp at hz1
  · intro hno x hx
    rw [List.mem_iff_getElem] at hx
    obtain ⟨i, hi, rfl⟩ := hx
    have hi2 : i < L := by simp [TK_len] at hi; omega
    simp only [List.getElem_take, List.getElem_drop]
    rw [TK_get n out (q + i) (by omega), if_neg]
    · rfl
    · simp only [cov, List.any_eq_true, not_exists, not_and]
      intro y hy
      have := hno y hy
      simp
      omega
theorem cov_append (a b : List S60) (j : Nat) : cov (a ++ b) j = (cov a j || cov b j) := by simp [cov]
theorem TK_splice (n : Nat) (out : List S60) (kd q : Nat) (h : q + relLong kd ≤ n) : splice (TK n out) q (List.replicate (relLong kd) 1) = TK n (out ++ [⟨(kd : Int), (q : Int)⟩]) := by
  apply List.ext_getElem?
  intro j
  rw [Go.Proofs.Ytjifmpjpccibnaa.D.splice_get (TK n out) q (relLong kd) (by rw [TK_len]; exact h)]
  by_cases hj : j < n
  · rw [List.getElem?_eq_getElem (by rw [TK_len]; exact hj), List.getElem?_eq_getElem (by rw [TK_len]; exact hj), TK_get n out j hj, TK_get _ _ j hj, cov_append]
    have hc : cov [⟨(kd : Int), (q : Int)⟩] j = (decide (q ≤ j) && decide (j < q + relLong kd)) := by
      simp only [cov, sl, List.any_cons, List.any_nil, Bool.or_false, Int.toNat_natCast]
      rfl
    rw [hc]
    by_cases h1 : j < q
    · rw [if_pos h1]
      have : decide (q ≤ j) = false := decide_eq_false (by omega)
      rw [this]
      simp
    · rw [if_neg h1]
      by_cases h2 : j < q + relLong kd
      · rw [if_pos h2, decide_eq_true (show q ≤ j by omega), decide_eq_true h2]
        simp
      · rw [if_neg h2, decide_eq_false h2]
        simp
  · rw [if_neg (by omega), if_neg (by omega), List.getElem?_eq_none (by rw [TK_len]; omega), List.getElem?_eq_none (by rw [TK_len]; omega)]
/-- An entry over what has been taken. -/
theorem ent2_TK (n kd q : Nat) (out : List S60) (hg : Good out) : ent2 n kd q out (TK n out) =
    if kd = 0 then (true, out, TK n out)
    else if relLong kd = 0 ∨ n < q + relLong kd ∨ out.length = 512 ∨ lap q (relLong kd) out = true then (false, out, TK n out)
    else (true, out ++ [⟨(kd : Int), (q : Int)⟩], TK n (out ++ [⟨(kd : Int), (q : Int)⟩])) := by
  unfold ent2
  by_cases h0 : kd = 0
  · rw [if_pos h0, if_pos h0]
  rw [if_neg h0, if_neg h0]
  by_cases h1 : relLong kd = 0
  · rw [if_pos h1, if_pos (.inl h1)]
  rw [if_neg h1]
  by_cases h2 : ¬ (q + relLong kd ≤ n)
  · rw [if_pos h2, if_pos (.inr (.inl (by omega)))]
  rw [if_neg h2]
  by_cases h3 : out.length = 512
  · rw [if_pos h3, if_pos (.inr (.inr (.inl h3)))]
  rw [if_neg h3, zero_lap n out hg q (relLong kd) (by omega) (by omega)]
  rcases hl : lap q (relLong kd) out with _ | _
  · rw [if_neg (by simp), if_neg (by simp [h1, h3]; omega), TK_splice n out kd q (by omega)]
  · rw [if_pos (by simp), if_pos (.inr (.inr (.inr rfl)))]
/-- Sites, one behind the other. -/
def foldS (n : Nat) : List S60 → List S60 → List Int → Bool × List S60 × List Int
  | [], out, tk => (true, out, tk)
  | x :: r, out, tk => match ent2 n (m10Kind x) x.f1.toNat out tk with
    | (true, o, t) => foldS n r o t
    | (false, o, t) => (false, o, t)
theorem foldS_append (n : Nat) (a b : List S60) : ∀ (out : List S60) (tk : List Int), foldS n (a ++ b) out tk = match foldS n a out tk with
    | (true, o, t) => foldS n b o t
    | (false, o, t) => (false, o, t) := by
  induction a with
  | nil => intro out tk; rfl
  | cons v a ih =>
    intro out tk
    simp only [List.cons_append, foldS]
    rcases ent2 n (m10Kind v) v.f1.toNat out tk with ⟨b1, o, t⟩
    cases b1
    · rfl
    · exact ih o t
theorem row_fold (n p : Nat) (run : List S60) (h : ∀ x ∈ run, x.f1.toNat / 4096 = p) : ∀ (out : List S60) (tk : List Int), entsL n (p * 4096) (run.map m10Val) out tk = foldS n run out tk := by
  induction run with
  | nil => intro out tk; rfl
  | cons x r ih =>
    intro out tk
    have hx := h x (by simp)
    have e1 : m10Val x / 4096 = m10Kind x := by unfold m10Val; omega
    have e2 : p * 4096 + m10Val x % 4096 = x.f1.toNat := by unfold m10Val; omega
    simp only [List.map_cons, entsL, foldS, ent2_is, e1, e2]
    rcases ent2 n (m10Kind x) x.f1.toNat out tk with ⟨b1, o, t⟩
    cases b1
    · rfl
    · exact ih (fun y hy => h y (by simp [hy])) o t
def pg (p : Nat) (x : S60) : Bool := decide (x.f1.toNat / 4096 = p)
theorem m10Row_is (p : Nat) (l : List S60) : m10Row p l = (flat ((l.takeWhile (pg p)).map m10Val), l.dropWhile (pg p)) := by
  induction l with
  | nil => rfl
  | cons x r ih =>
    by_cases h : x.f1.toNat / 4096 = p
    · rw [m10Row_page p x r h, ih]
      have : pg p x = true := by simp [pg, h]
      simp only [List.takeWhile_cons, List.dropWhile_cons, this, if_true, List.map_cons, flat]
      rfl
    · rw [m10Row_other p x r h]
      have : pg p x = false := by simp [pg, h]
      simp [this, flat]
def pad2 (es : List Nat) : List Nat := if es.length % 2 = 0 then es else es ++ [0]
theorem pad2_even (es : List Nat) : (pad2 es).length % 2 = 0 := by
  unfold pad2
  split
  · assumption
  · simp; omega
theorem pad2_len (es : List Nat) : (pad2 es).length ≤ es.length + 1 := by
  unfold pad2
  split <;> simp
theorem m10Pad_is (es : List Nat) : m10Pad (flat es) = flat (pad2 es) := by
  unfold m10Pad pad2
  rw [flat_len]
  by_cases h : es.length % 2 = 0
  · rw [if_pos (by omega), if_pos h]
  · rw [if_neg (by omega), if_neg h, flat_append]
    rfl
theorem entry_zero2 (n p : Nat) (out : List S60) (tk : List Int) : relEntry n p 0 out tk = (true, out, tk) := by simp [relEntry]
theorem pad2_ents (n p : Nat) (es : List Nat) (out : List S60) (tk : List Int) : entsL n p (pad2 es) out tk = entsL n p es out tk := by
  unfold pad2
  split
  · rfl
  · rw [entsL_append]
    rcases entsL n p es out tk with ⟨b, o, t⟩
    cases b
    · rfl
    · simp only [entsL, entry_zero2]
theorem mem_takeWhile_pg (p : Nat) (l : List S60) : ∀ x ∈ l.takeWhile (pg p), x.f1.toNat / 4096 = p := by
  induction l with
  | nil => intro x hx; cases hx
  | cons y r ih =>
    intro x hx
    rw [List.takeWhile_cons] at hx
    split at hx
    · rename_i h
      rcases List.mem_cons.1 hx with rfl | hx
      · simpa [pg] using h
      · exact ih x hx
    · cases hx
theorem blocks_parse (fu : Nat) : ∀ (L : List S60) (pre : List Int) (out : List S60) (tk : List Int) (m e : Nat) (img : List Int), (∀ x ∈ L, x.f1 ≤ 2147483647) → L.length < fu → L.length ≤ 1000 → img = pre ++ m10Blocks fu L → e = img.length → e - pre.length < m →
    relLoop img e m pre.length out tk = match foldS img.length L out tk with
      | (true, o, _) => (o, 0)
      | (false, _, _) => ([], 9) := by
  induction fu with
  | zero => intro L pre out tk m e img _ h; omega
  | succ fu ih =>
    intro L pre out tk m e img hL hl hl1 himg he hm
    obtain ⟨m, rfl⟩ : ∃ q, m = q + 1 := ⟨m - 1, by omega⟩
    rcases L with _ | ⟨x, r⟩
    · have : pre.length = e := by rw [he, himg]; simp [m10Blocks]
      rw [relLoop, if_neg (by omega)]
      rfl
    · obtain ⟨p, hp⟩ : ∃ p, x.f1.toNat / 4096 = p := ⟨_, rfl⟩
      have hx := hL x (by simp)
      have hp2 : p ≤ 524287 := by omega
      obtain ⟨es, hes⟩ : ∃ es, ((x :: r).takeWhile (pg p)).map m10Val = es := ⟨_, rfl⟩
      obtain ⟨rest, hrest⟩ : ∃ rest, (x :: r).dropWhile (pg p) = rest := ⟨_, rfl⟩
      have hsplit : (x :: r).takeWhile (pg p) ++ rest = x :: r := by rw [← hrest]; exact List.takeWhile_append_dropWhile
      have hesl : es.length ≤ 1000 := by
        rw [← hes, List.length_map]
        have := congrArg List.length hsplit
        rw [List.length_append] at this
        omega
      have hrl : rest.length < fu := by
        have h1 : (x :: r).takeWhile (pg p) ≠ [] := by
          rw [List.takeWhile_cons, if_pos (by simp [pg, hp])]
          simp
        have h2 := congrArg List.length hsplit
        rw [List.length_append] at h2
        have h3 := List.length_pos_iff.2 h1
        omega
      have hpl := pad2_len es
      have himg2 : img = pre ++ (YtjifmpjpccibnaaA.leB ((p * 4096 : Nat) : Int) 4 ++ YtjifmpjpccibnaaA.leB ((8 + 2 * (pad2 es).length : Nat) : Int) 4 ++ flat (pad2 es) ++ m10Blocks fu rest) := by
        rw [himg]
        simp only [m10Blocks, hp, m10Row_is, hes, hrest, m10Pad_is, m10Block, flat_len]
      have hv : ∀ v ∈ pad2 es, v < 65536 := by
        have h1 : ∀ v ∈ es, v < 65536 := by
          intro v hv
          rw [← hes] at hv
          obtain ⟨y, _, rfl⟩ := List.mem_map.1 hv
          exact m10Val_lt y
        intro v hv
        unfold pad2 at hv
        split at hv
        · exact h1 v hv
        · rcases List.mem_append.1 hv with hv | hv
          · exact h1 v hv
          · simp at hv; omega
      have hlen : img.length = pre.length + 8 + 2 * (pad2 es).length + (m10Blocks fu rest).length := by
        rw [himg2]
        simp only [List.length_append, YtjifmpjpccibnaaA.leB_length, flat_len]
        omega
      have hblk := block_is pre (p * 4096) (pad2 es) (m10Blocks fu rest) e out tk (by omega) (by omega) hv (pad2_even es) (by omega) img himg2 (by omega)
      rw [relLoop, if_pos (by omega), hblk, pad2_ents, ← hes, row_fold _ _ _ (mem_takeWhile_pg p _)]
      have hfold := foldS_append img.length ((x :: r).takeWhile (pg p)) rest out tk
      rw [hsplit] at hfold
      rw [hfold]
      rcases foldS img.length ((x :: r).takeWhile (pg p)) out tk with ⟨b, o, t⟩
      cases b
      · rfl
      · simp only [blkOut]
        have hpre : pre.length + (8 + 2 * (pad2 (((x :: r).takeWhile (pg p)).map m10Val)).length) = (pre ++ (YtjifmpjpccibnaaA.leB ((p * 4096 : Nat) : Int) 4 ++ YtjifmpjpccibnaaA.leB ((8 + 2 * (pad2 es).length : Nat) : Int) 4 ++ flat (pad2 es))).length := by
          rw [hes]
          simp only [List.length_append, YtjifmpjpccibnaaA.leB_length, flat_len]
          try omega
        rw [hpre]
        refine ih rest _ o t m e img (fun y hy => hL y (by rw [← hsplit]; exact List.mem_append_right _ hy)) hrl (by have h2 := congrArg List.length hsplit; rw [List.length_append] at h2; omega) (by rw [himg2]; simp) he ?_
        simp only [List.length_append, YtjifmpjpccibnaaA.leB_length, flat_len]
        omega
end Go.Proofs.Ytjifmpjpccibnaa.Pg
