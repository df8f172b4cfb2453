/- RelBases' plain law: laid over by two differences, bytes differ just at the sites, by the differences' difference. (No condition.) -/
import Derived.Test.YtjifmpjpccibnaaHBases
import Derived.Test.YtjifmpjpccibnaaPk
namespace Go.Proofs.Ytjifmpjpccibnaa.Pure
open Go.RowKit Go.Proofs.Ytjifmpjpccibnaa.D Go.Proofs.YtjifmpjpccibnaaW.PrintWords Go.Proofs.YtjifmpjpccibnaaW.PrintLast Go.Proofs.Ytjifmpjpccibnaa.Pe Go.Proofs.Ytjifmpjpccibnaa.Pg Go.Proofs.Ytjifmpjpccibnaa.Ph Go.Proofs.Ytjifmpjpccibnaa.Pi Go.Proofs.Ytjifmpjpccibnaa.Pj Go.Proofs.Ytjifmpjpccibnaa.Pk
theorem awake10C : slipwaylaw10_awake.f 60 = some true := by decide +kernel
theorem wrap_u64 (z : Int) : IntKind.u64.wrap z = z % 18446744073709551616 := by simp only [IntKind.wrap, IntKind.bits, IntKind.signed]; simp
theorem and32 (z : Int) : Go.bits .and .u64 (IntKind.u64.wrap z) 4294967295 = z % 4294967296 := by
  have h := bits_mask .u64 64 (by decide) (fun n h0 h1 => by rw [wrap_u64]; omega) 32 (by decide) (IntKind.u64.wrap z) (by rw [wrap_u64]; omega) (by rw [wrap_u64]; omega)
  rw [show (2 : Int) ^ 32 - 1 = 4294967295 by decide, show (2 : Int) ^ 32 = 4294967296 by decide] at h
  rw [h, wrap_u64]
  omega
theorem RelBases (l0 : List Int) (hb : byteB l0 = true) (l1 : List S60) (X Y : Nat) (hX : X < 18446744073709551616) (hY : Y < 18446744073709551616) : slipwaylaw10_RelBases.f 3000 l0 l1 (X : Int) (Y : Int) = some true := by
  have haw : slipwaylaw10_awake.f 3000 = some true := at_rounds slipwaylaw10_awake.mono (show 60 ≤ 3000 by omega) awake10C
  unfold slipwaylaw10_RelBases.f
  by_cases hl : l0.length < 8 ∨ 300 < l0.length
  · rw [if_pos hl]
    exact haw
  rw [if_neg hl]
  have hap := ap_of l1 l0.length (by omega) (by omega)
  have hown := apart_is l1 l0.length (by omega) (by omega) 3000 (by omega)
  obtain ⟨own, ho⟩ : ∃ own, apartL l0.length (l1.take 40) [] = own := ⟨_, rfl⟩
  rw [ho] at hap hown
  have hkinds : ∀ x ∈ own, x.f0 = 3 ∨ x.f0 = 10 := fun x hx => (hap.inb x hx).1
  have hin : ∀ x ∈ own, 0 ≤ x.f1 ∧ x.f1 + al x ≤ (l0.length : Int) := fun x hx => (hap.inb x hx).2
  have hfew := hap.few
  have hA := fun (b : List Int) (hb : byteB b = true) (hbl : b.length ≤ 1000000) (Z : Nat) (hZ : Z < 18446744073709551616) => (apply_is b hb hbl own (by omega) Z hZ 3000 (by omega)).trans (congrArg some (appl_is Z b own hkinds))
  have hpl := appl_len X own l0
  have hql := appl_len Y own l0
  have hpb := appl_byteB X own l0 hb
  have hqb := appl_byteB Y own l0 hb
  have hneg : IntKind.u64.wrap (-(X : Int)) = (((18446744073709551616 - X) % 18446744073709551616 : Nat) : Int) := by rw [wrap_u64]; omega
  have hX' : (18446744073709551616 - X) % 18446744073709551616 < 18446744073709551616 := Nat.mod_lt _ (by decide)
  have hpn := appl_num X own l0 hin hap.apart
  have hqn := appl_num Y own l0 hin hap.apart
  have hback : appl ((18446744073709551616 - X) % 18446744073709551616) (appl X l0 own) own = l0 := by
    refine same_bytes own _ l0 (appl_byteB _ _ _ hpb) hb (by rw [appl_len, hpl]) hin (fun x hx => ?_) (fun j hj hc => ?_)
    · rw [appl_num _ own (appl X l0 own) (by rw [hpl]; exact hin) hap.apart x hx, hpn x hx]
      have hn := numAt_lt hb x.f1.toNat (al x).toNat
      generalize numAt l0 x.f1.toNat (al x).toNat = V at *
      rcases al_48 x with e | e
      · rw [e] at hn ⊢
        rw [show (256 : Nat) ^ (4 : Int).toNat = 4294967296 by decide] at hn ⊢
        omega
      · rw [e] at hn ⊢
        rw [show (256 : Nat) ^ (8 : Int).toNat = 18446744073709551616 by decide] at hn ⊢
        omega
    · rw [appl_rest _ own (appl X l0 own) (by rw [hpl]; exact hin) j hc, appl_rest X own l0 hin j hc]
  have hzero : appl 0 l0 own = l0 := by
    refine same_bytes own _ l0 (appl_byteB _ _ _ hb) hb (by rw [appl_len]) hin (fun x hx => ?_) (fun j hj hc => ?_)
    · rw [appl_num _ own l0 hin hap.apart x hx, Nat.add_zero]
      exact Nat.mod_eq_of_lt (numAt_lt hb _ _)
    · exact appl_rest 0 own l0 hin j hc
  rw [hown, Option.bind_some, hA l0 hb (by omega) X hX, Option.bind_some, hA l0 hb (by omega) Y hY, Option.bind_some, hneg, hA _ hpb (by omega) _ hX', Option.bind_some, hback]
  rw [show (0 : Int) = ((0 : Nat) : Int) from rfl, hA l0 hb (by omega) 0 (by omega), Option.bind_some, hzero]
  refine (if_pos ⟨?_, by omega⟩).trans haw
  simp only [basesOk, Bool.and_eq_true, decide_eq_true_eq, List.all_eq_true]
  refine ⟨⟨⟨⟨⟨⟨hpl, hql⟩, trivial⟩, trivial⟩, fun x hx => ?_⟩, fun x hx => ?_⟩, fun j hj => ?_⟩
  · have h1 := hkinds x hx
    have h2 := hin x hx
    simp only [bsIn, Bool.and_eq_true, Bool.or_eq_true, decide_eq_true_eq]
    exact ⟨⟨h1, h2.1⟩, h2.2⟩
  · obtain ⟨h1, h2⟩ := hin x hx
    have hbl : bsLen x = al x := rfl
    obtain ⟨a, ha⟩ := Int.eq_ofNat_of_zero_le h1
    have hp1 := hpn x hx
    have hq1 := hqn x hx
    rw [ha, Int.toNat_natCast] at hp1 hq1
    unfold bsSite
    rw [hbl, ha]
    rcases al_48 x with e | e
    · rw [e] at h2 hp1 hq1 ⊢
      rw [show (4 : Int) = ((4 : Nat) : Int) from rfl, num_is _ hpb (by omega) a 4 (by omega) (by omega) 3000 (by omega), num_is _ hqb (by omega) a 4 (by omega) (by omega) 3000 (by omega)]
      simp only [bsDiff]
      rw [if_pos (by rfl), and32, and32, beq_iff_eq]
      rw [show (4 : Int).toNat = 4 from rfl, show (256 : Nat) ^ 4 = 4294967296 by decide] at hp1 hq1
      omega
    · rw [e] at h2 hp1 hq1 ⊢
      rw [show (8 : Int) = ((8 : Nat) : Int) from rfl, num_is _ hpb (by omega) a 8 (by omega) (by omega) 3000 (by omega), num_is _ hqb (by omega) a 8 (by omega) (by omega) 3000 (by omega)]
      simp only [bsDiff]
      rw [if_neg (by decide), wrap_u64, wrap_u64, beq_iff_eq]
      rw [show (8 : Int).toNat = 8 from rfl, show (256 : Nat) ^ 8 = 18446744073709551616 by decide] at hp1 hq1
      omega
  · unfold bsRest
    rcases hc : bsCov own j with _ | _
    · have hno : ∀ x ∈ own, ¬ (x.f1 ≤ (j : Int) ∧ (j : Int) < x.f1 + al x) := by
        intro x hx h
        simp only [bsCov, List.any_eq_false, Bool.and_eq_true, decide_eq_true_eq] at hc
        exact hc x hx h
      simp only [Bool.false_or, Bool.and_eq_true, beq_iff_eq, List.getD_eq_getElem?_getD]
      rw [appl_rest X own l0 hin j hno, appl_rest Y own l0 hin j hno]
      exact ⟨rfl, rfl⟩
    · rfl
end Go.Proofs.Ytjifmpjpccibnaa.Pure
