/- Plain laws of what rel.Parse computes. -/
import Derived.Test.YtjifmpjpccibnaaA
import Derived.Test.YtjifmpjpccibnaaDx57
namespace Go.Proofs.Ytjifmpjpccibnaa.Pd
open Go.RowKit Go.Proofs.YtjifmpjpccibnaaW.PrintWords Go.Proofs.YtjifmpjpccibnaaW.PrintLast Go.Proofs.YtjifmpjpccibnaaW.PrintMore Go.Proofs.Ytjifmpjpccibnaa.D
set_option linter.unusedVariables false

/-- Sixteen bits each, the lowest first. -/
def flat : List Nat → List Int
  | [] => []
  | v :: r => ((v % 256 : Nat) : Int) :: ((v / 256 : Nat) : Int) :: flat r
theorem flat_append (a b : List Nat) : flat (a ++ b) = flat a ++ flat b := by
  induction a with
  | nil => rfl
  | cons x a ih => simp [flat, ih]
theorem flat_len (a : List Nat) : (flat a).length = 2 * a.length := by
  induction a with
  | nil => rfl
  | cons x a ih => simp only [flat, List.length_cons, ih]; omega
theorem flat_bytes (a : List Nat) (h : ∀ v ∈ a, v < 65536) : byteB (flat a) = true := by
  rw [byteB_mem]
  induction a with
  | nil => intro x hx; cases hx
  | cons v a ih =>
    have hv := h v (by simp)
    intro x hx
    simp only [flat, List.mem_cons] at hx
    rcases hx with rfl | rfl | hx
    · omega
    · omega
    · exact ih (fun u hu => h u (by simp [hu])) x hx
theorem numAt2 (l : List Int) (a : Nat) (u v : Int) (r : List Int) (h : l.drop a = u :: v :: r) : numAt l a 2 = u.toNat + 256 * v.toNat := by
  unfold numAt
  rw [h]
  simp [leN]
theorem numAt4 (l : List Int) (a : Nat) (u v x y : Int) (r : List Int) (h : l.drop a = u :: v :: x :: y :: r) : numAt l a 4 = u.toNat + 256 * (v.toNat + 256 * (x.toNat + 256 * y.toNat)) := by
  unfold numAt
  rw [h]
  simp [leN]
/-- The entries of a block, given as numbers. -/
def entsL (n p : Nat) : List Nat → List S60 → List Int → Bool × List S60 × List Int
  | [], out, tk => (true, out, tk)
  | v :: r, out, tk => match relEntry n p v out tk with
    | (true, o, t) => entsL n p r o t
    | (false, o, t) => (false, o, t)
theorem entsL_append (n p : Nat) (a b : List Nat) : ∀ (out : List S60) (tk : List Int), entsL n p (a ++ b) out tk = match entsL n p a out tk with
    | (true, o, t) => entsL n p b o t
    | (false, o, t) => (false, o, t) := by
  induction a with
  | nil => intro out tk; rfl
  | cons v a ih =>
    intro out tk
    simp only [List.cons_append, entsL]
    rcases relEntry n p v out tk with ⟨b1, o, t⟩
    cases b1
    · rfl
    · exact ih o t
theorem ents_is (img : List Int) (p : Nat) (es : List Nat) : ∀ (a : Nat) (out : List S60) (tk : List Int) (rest : List Int), img.drop a = flat es ++ rest → (∀ v ∈ es, v < 65536) →
    relEnts img p es.length a out tk = entsL img.length p es out tk := by
  induction es with
  | nil => intro a out tk rest _ _; rfl
  | cons v es ih =>
    intro a out tk rest h hv
    have hv1 := hv v (by simp)
    have hn : numAt img a 2 = v := by
      rw [numAt2 img a _ _ _ h]
      simp
      omega
    have hd : img.drop (a + 2) = flat es ++ rest := by
      rw [← List.drop_drop, h]
      rfl
    simp only [List.length_cons, relEnts, entsL, hn]
    rcases relEntry img.length p v out tk with ⟨b1, o, t⟩
    cases b1
    · rfl
    · exact ih (a + 2) o t rest hd (fun u hu => hv u (by simp [hu]))
theorem drop_app (pre l : List Int) (k : Nat) : (pre ++ l).drop (pre.length + k) = l.drop k := by
  rw [List.drop_append, List.drop_eq_nil_of_le (by omega)]
  simp
/-- One block behind some bytes. -/
theorem block_is (pre : List Int) (p : Nat) (es : List Nat) (rest : List Int) (e : Nat) (out : List S60) (tk : List Int) (hp : p % 4096 = 0) (hp2 : p < 4294967296) (hes : ∀ v ∈ es, v < 65536) (hev : es.length % 2 = 0) (hel : 8 + 2 * es.length < 4294967296)
    (img : List Int) (himg : img = pre ++ (YtjifmpjpccibnaaA.leB (p : Int) 4 ++ YtjifmpjpccibnaaA.leB ((8 + 2 * es.length : Nat) : Int) 4 ++ flat es ++ rest)) (he : pre.length + 8 + 2 * es.length ≤ e) :
    relBlock img pre.length e out tk = blkOut (8 + 2 * es.length) (entsL img.length p es out tk) := by
  have l4 : ∀ v : Int, YtjifmpjpccibnaaA.leB v 4 = [v % 256, v / 256 % 256, v / 65536 % 256, v / 16777216 % 256] := by
    intro v
    simp [YtjifmpjpccibnaaA.leB, List.range_succ]
  have h1 : numAt img pre.length 4 = p := by
    have := drop_app pre (YtjifmpjpccibnaaA.leB (p : Int) 4 ++ YtjifmpjpccibnaaA.leB ((8 + 2 * es.length : Nat) : Int) 4 ++ flat es ++ rest) 0
    rw [← himg, Nat.add_zero, l4] at this
    rw [numAt4 img pre.length _ _ _ _ _ this]
    omega
  have h2 : numAt img (pre.length + 4) 4 = 8 + 2 * es.length := by
    have := drop_app pre (YtjifmpjpccibnaaA.leB (p : Int) 4 ++ YtjifmpjpccibnaaA.leB ((8 + 2 * es.length : Nat) : Int) 4 ++ flat es ++ rest) 4
    rw [← himg, l4, l4] at this
    rw [numAt4 img (pre.length + 4) _ _ _ _ _ this]
    omega
  have h3 : img.drop (pre.length + 8) = flat es ++ rest := by
    have := drop_app pre (YtjifmpjpccibnaaA.leB (p : Int) 4 ++ YtjifmpjpccibnaaA.leB ((8 + 2 * es.length : Nat) : Int) 4 ++ flat es ++ rest) 8
    rw [← himg, l4, l4] at this
    exact this
  unfold relBlock
  rw [h1, h2, if_neg (by omega), if_neg (by omega), if_neg (by omega), if_neg (by omega), if_neg (by omega)]
  rw [show (8 + 2 * es.length - 8) / 2 = es.length by omega, ents_is img p es _ out tk rest h3 hes]
end Go.Proofs.Ytjifmpjpccibnaa.Pd
