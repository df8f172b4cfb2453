/- Plain laws: what two differences leave. -/
import Derived.Test.YtjifmpjpccibnaaPj
import Derived.Test.YtjifmpjpccibnaaPi
namespace Go.Proofs.Ytjifmpjpccibnaa.Pk
open Go.RowKit Go.Proofs.YtjifmpjpccibnaaW.PrintWords Go.Proofs.YtjifmpjpccibnaaW.PrintLast Go.Proofs.YtjifmpjpccibnaaW.PrintMore Go.Proofs.Ytjifmpjpccibnaa.D Go.Proofs.Ytjifmpjpccibnaa.Pe Go.Proofs.Ytjifmpjpccibnaa.Pg Go.Proofs.Ytjifmpjpccibnaa.Ph Go.Proofs.Ytjifmpjpccibnaa.Pi Go.Proofs.Ytjifmpjpccibnaa.Pj
set_option linter.unusedVariables false

theorem splice_mid {α : Type} (b c : List α) (q : Nat) (h : q + c.length ≤ b.length) : ((splice b q c).drop q).take c.length = c := by
  unfold splice
  have h1 : (b.take q).length = q := by simp; omega
  rw [List.drop_append, List.drop_eq_nil_of_le (by omega), h1]
  simp
theorem splice_out {α : Type} (b c : List α) (q : Nat) (h : q + c.length ≤ b.length) (a n : Nat) (hd : a + n ≤ q ∨ q + c.length ≤ a) : ((splice b q c).drop a).take n = (b.drop a).take n := by
  have h1 : (b.take q).length = q := by simp; omega
  apply List.ext_getElem?
  intro i
  rw [List.getElem?_take, List.getElem?_take]
  by_cases hi : i < n
  · rw [if_pos hi, if_pos hi, List.getElem?_drop, List.getElem?_drop]
    unfold splice
    rcases hd with hd | hd
    · rw [List.getElem?_append_left (by omega), List.getElem?_take, if_pos (by omega)]
    · rw [List.getElem?_append_right (by omega), h1, List.getElem?_append_right (by omega), List.getElem?_drop]
      congr 1
      omega
  · rw [if_neg hi, if_neg hi]
/-- Its number is raised .. -/
theorem patch_num (X : Nat) (b : List Int) (q n : Nat) (hn : n ≤ 8) (h : q + n ≤ b.length) : numAt (patch X b q n) q n = (numAt b q n + X) % 256 ^ n := by
  have hl : (leB (((numAt b q n + X) % 18446744073709551616 : Nat) : Int) n).length = n := YtjifmpjpccibnaaA.leB_length _ _
  have h1 := splice_mid b (leB (((numAt b q n + X) % 18446744073709551616 : Nat) : Int) n) q (by rw [hl]; exact h)
  rw [hl] at h1
  show leN ((((splice b q _)).drop q).take n) = _
  rw [h1, leN_leB]
  exact Nat.mod_mod_of_dvd _ (by
    rw [show (18446744073709551616 : Nat) = 256 ^ 8 by decide]
    exact Nat.pow_dvd_pow 256 hn)
/-- .. and all else is as it was. -/
theorem patch_far (X : Nat) (b : List Int) (q n : Nat) (h : q + n ≤ b.length) (a m : Nat) (hd : a + m ≤ q ∨ q + n ≤ a) : (((patch X b q n).drop a).take m) = ((b.drop a).take m) := by
  have hl : (leB (((numAt b q n + X) % 18446744073709551616 : Nat) : Int) n).length = n := YtjifmpjpccibnaaA.leB_length _ _
  exact splice_out b _ q (by rw [hl]; exact h) a m (by rw [hl]; exact hd)
def sl' (x : S60) : Nat := (al x).toNat
theorem sites_ap (l : List S60) (h : ∀ x ∈ l, x.f0 = 3 ∨ x.f0 = 10) : sitesL l = l.map fun x => ⟨x.f1, al x⟩ := by
  induction l with
  | nil => rfl
  | cons x r ih =>
    have hx : longI x.f0 = al x := by
      unfold longI al
      rcases h x (by simp) with e | e <;> rw [e] <;> rfl
    have hp : longI x.f0 > 0 := by rw [hx]; unfold al; split <;> decide
    simp only [sitesL]
    rw [if_pos hp, hx, ih (fun y hy => h y (by simp [hy]))]
    rfl
def appl (X : Nat) (b : List Int) (l : List S60) : List Int := l.foldl (fun b x => stepA X b ⟨x.f1, al x⟩) b
theorem appl_is (X : Nat) (b : List Int) (l : List S60) (h : ∀ x ∈ l, x.f0 = 3 ∨ x.f0 = 10) : (sitesL l).foldl (stepA X) b = appl X b l := by
  rw [sites_ap l h, List.foldl_map]
  rfl
theorem al_48 (x : S60) : al x = 4 ∨ al x = 8 := by unfold al; split <;> simp
theorem appl_len (X : Nat) (l : List S60) : ∀ b : List Int, (appl X b l).length = b.length := by
  induction l with
  | nil => intro b; rfl
  | cons x r ih =>
    intro b
    show (appl X (stepA X b ⟨x.f1, al x⟩) r).length = _
    rw [ih, stepA_len X b _ (al_48 x)]
theorem appl_byteB (X : Nat) (l : List S60) : ∀ b : List Int, byteB b = true → byteB (appl X b l) = true := by
  induction l with
  | nil => intro b h; exact h
  | cons x r ih => intro b h; exact ih _ (stepA_byteB X b _ h)
theorem stepA_in (X : Nat) (b : List Int) (x : S60) (h0 : 0 ≤ x.f1) (h1 : x.f1 + al x ≤ (b.length : Int)) : stepA X b ⟨x.f1, al x⟩ = patch X b x.f1.toNat (al x).toNat := by
  unfold stepA
  rw [if_pos ⟨h0, h1⟩]
/-- Where no site lies, all is as it was. -/
theorem appl_far (X : Nat) (l : List S60) : ∀ (b : List Int) (a m : Nat), (∀ x ∈ l, 0 ≤ x.f1 ∧ x.f1 + al x ≤ (b.length : Int)) → (∀ x ∈ l, (a : Int) + (m : Int) ≤ x.f1 ∨ x.f1 + al x ≤ (a : Int)) → (((appl X b l).drop a).take m) = ((b.drop a).take m) := by
  induction l with
  | nil => intro b a m _ _; rfl
  | cons x r ih =>
    intro b a m h hd
    obtain ⟨h0, h1⟩ := h x (by simp)
    have h2 := hd x (by simp)
    have hal := al_48 x
    show (((appl X (stepA X b ⟨x.f1, al x⟩) r).drop a).take m) = _
    rw [ih _ a m (fun y hy => by rw [stepA_len X b _ hal]; exact h y (by simp [hy])) (fun y hy => hd y (by simp [hy])), stepA_in X b x h0 h1]
    exact patch_far X b _ _ (by omega) a m (by omega)
theorem appl_num (X : Nat) (l : List S60) : ∀ (b : List Int), (∀ x ∈ l, 0 ≤ x.f1 ∧ x.f1 + al x ≤ (b.length : Int)) → (l.Pairwise fun a b => a.f1 + al a ≤ b.f1 ∨ b.f1 + al b ≤ a.f1) → ∀ x ∈ l, numAt (appl X b l) x.f1.toNat (al x).toNat = (numAt b x.f1.toNat (al x).toNat + X) % 256 ^ (al x).toNat := by
  induction l with
  | nil => intro b _ _ x hx; cases hx
  | cons y r ih =>
    intro b h hp x hx
    obtain ⟨h0, h1⟩ := h y (by simp)
    have hal := al_48 y
    rw [List.pairwise_cons] at hp
    have hb' : ∀ z ∈ r, 0 ≤ z.f1 ∧ z.f1 + al z ≤ ((stepA X b ⟨y.f1, al y⟩).length : Int) := fun z hz => by rw [stepA_len X b _ hal]; exact h z (by simp [hz])
    show numAt (appl X (stepA X b ⟨y.f1, al y⟩) r) _ _ = _
    rcases List.mem_cons.1 hx with rfl | hx
    · have hfar := appl_far X r (stepA X b ⟨x.f1, al x⟩) x.f1.toNat (al x).toNat hb' (fun z hz => by have := hp.1 z hz; omega)
      show leN _ = _
      rw [hfar, stepA_in X b x h0 h1]
      exact patch_num X b _ _ (by omega) (by omega)
    · rw [ih _ hb' hp.2 x hx, stepA_in X b y h0 h1]
      have hd := hp.1 x hx
      obtain ⟨g0, g1⟩ := h x (by simp [hx])
      have hfar := patch_far X b y.f1.toNat (al y).toNat (by omega) x.f1.toNat (al x).toNat (by have := al_48 x; omega)
      show (leN _ + X) % _ = _
      rw [hfar]
      rfl
theorem leN_inj : ∀ (a b : List Int), byteB a = true → byteB b = true → a.length = b.length → leN a = leN b → a = b
  | [], [], _, _, _, _ => rfl
  | [], _ :: _, _, _, h, _ => by simp at h
  | _ :: _, [], _, _, h, _ => by simp at h
  | x :: a, y :: b, ha, hb, hl, h => by
    have hx := byteB_mem.1 ha x (by simp)
    have hy := byteB_mem.1 hb y (by simp)
    simp only [leN] at h
    have e1 : x.toNat = y.toNat := by omega
    have e2 : leN a = leN b := by omega
    have := leN_inj a b (byteB_mem.2 fun z hz => byteB_mem.1 ha z (by simp [hz])) (byteB_mem.2 fun z hz => byteB_mem.1 hb z (by simp [hz])) (by simpa using hl) e2
    rw [this, show x = y by omega]
/-- Bytes that agree at all sites and beside them are the same. -/
theorem same_bytes (l : List S60) (a b : List Int) (ha : byteB a = true) (hb : byteB b = true) (hl : a.length = b.length) (hin : ∀ x ∈ l, 0 ≤ x.f1 ∧ x.f1 + al x ≤ (b.length : Int))
    (hs : ∀ x ∈ l, numAt a x.f1.toNat (al x).toNat = numAt b x.f1.toNat (al x).toNat) (hr : ∀ j, j < b.length → (∀ x ∈ l, ¬ (x.f1 ≤ (j : Int) ∧ (j : Int) < x.f1 + al x)) → a[j]? = b[j]?) : a = b := by
  apply List.ext_getElem?
  intro j
  by_cases hj : j < b.length
  · by_cases hc : ∃ x ∈ l, x.f1 ≤ (j : Int) ∧ (j : Int) < x.f1 + al x
    · obtain ⟨x, hx, h1, h2⟩ := hc
      obtain ⟨g0, g1⟩ := hin x hx
      have hal := al_48 x
      have e := leN_inj _ _ (byteB_take (byteB_drop ha x.f1.toNat) (al x).toNat) (byteB_take (byteB_drop hb x.f1.toNat) (al x).toNat) (by simp; omega) (hs x hx)
      have e2 := congrArg (fun l => l[j - x.f1.toNat]?) e
      simp only [List.getElem?_take, List.getElem?_drop] at e2
      rw [if_pos (by omega), if_pos (by omega), show x.f1.toNat + (j - x.f1.toNat) = j by omega] at e2
      exact e2
    · exact hr j hj (fun x hx h => hc ⟨x, hx, h⟩)
  · rw [List.getElem?_eq_none (by omega), List.getElem?_eq_none (by omega)]
theorem appl_rest (X : Nat) (l : List S60) (b : List Int) (h : ∀ x ∈ l, 0 ≤ x.f1 ∧ x.f1 + al x ≤ (b.length : Int)) (j : Nat) (hj : ∀ x ∈ l, ¬ (x.f1 ≤ (j : Int) ∧ (j : Int) < x.f1 + al x)) : (appl X b l)[j]? = b[j]? := by
  have := appl_far X l b j 1 h (fun x hx => by have := hj x hx; have := al_48 x; omega)
  have e2 := congrArg (fun l => l[0]?) this
  simpa [List.getElem?_take, List.getElem?_drop] using e2
end Go.Proofs.Ytjifmpjpccibnaa.Pk
