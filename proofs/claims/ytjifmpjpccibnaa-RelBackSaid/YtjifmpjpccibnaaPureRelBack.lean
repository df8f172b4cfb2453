/- RelBack's plain law: sites that are apart are read as they were written; one over another one is refused. (No condition.) -/
import Derived.Test.YtjifmpjpccibnaaHBack
import Derived.Test.YtjifmpjpccibnaaPi
namespace Go.Proofs.Ytjifmpjpccibnaa.Pure
open Go.RowKit Go.Proofs.Ytjifmpjpccibnaa.D Go.Proofs.YtjifmpjpccibnaaW.PrintWords Go.Proofs.YtjifmpjpccibnaaW.PrintLast Go.Proofs.Ytjifmpjpccibnaa.Pd Go.Proofs.Ytjifmpjpccibnaa.Pg Go.Proofs.Ytjifmpjpccibnaa.Ph Go.Proofs.Ytjifmpjpccibnaa.Pi
theorem awake10B : slipwaylaw10_awake.f 60 = some true := by decide +kernel
theorem made_ok (L : List S60) (h : ∀ x ∈ L, 0 ≤ x.f1 ∧ x.f1 ≤ 2147483647) (hl : L.length ≤ 60) (ahead : Nat) (ha : ahead ≤ 1048576) (k : Nat) : slipwaylaw10_Made.f k L (ahead : Int) = some (m10Head ahead ++ m10Blocks 61 L, (ahead : Int), ((m10Blocks 61 L).length : Int)) := by
  unfold slipwaylaw10_Made.f
  have ht : L.take 60 = L := List.take_of_length_le hl
  rw [if_pos, ht, Int.toNat_natCast]
  simp only [m10Ok, Bool.and_eq_true, decide_eq_true_eq, List.all_eq_true]
  exact ⟨⟨by omega, by omega⟩, h⟩
theorem parse_no (L : List S60) (hL : ∀ x ∈ L, x.f1 ≤ 2147483647) (hl : L.length ≤ 60) (ahead : Nat) (h0 : 0 < ahead) (h1 : ahead ≤ 1048576) (k : Nat) (h : (foldS (ahead + (m10Blocks 61 L).length) L [] (TK (ahead + (m10Blocks 61 L).length) [])).1 = false) :
    rel_Parse.f k (m10Head ahead ++ m10Blocks 61 L) (ahead : Int) ((m10Blocks 61 L).length : Int) = some ([], 9) := by
  rw [parse_made L hL hl ahead h0 h1 k, ← TK_nil]
  rcases hr : foldS (ahead + (m10Blocks 61 L).length) L [] (TK (ahead + (m10Blocks 61 L).length) []) with ⟨b, o, t⟩
  rw [hr] at h
  simp only at h
  subst h
  rfl
theorem RelBack (l0 : List S60) (a1 : Int) : slipwaylaw10_RelBack.f 3000 l0 a1 = some true := by
  have hap := ap_of l0 10000 (by omega) (by omega)
  have hown := apart_is l0 10000 (by omega) (by omega) 3000 (by omega)
  rw [show ((10000 : Nat) : Int) = 10000 from rfl] at hown
  obtain ⟨own, ho⟩ : ∃ own, apartL 10000 (l0.take 40) [] = own := ⟨_, rfl⟩
  rw [ho] at hap hown
  have hf : ∀ x ∈ own, 0 ≤ x.f1 ∧ x.f1 ≤ 10000 := by
    intro x hx
    obtain ⟨hk, h0, h1⟩ := hap.inb x hx
    have : 0 ≤ al x := by unfold al; split <;> decide
    omega
  have hfew := hap.few
  have hm := made_ok own (fun x hx => by have := hf x hx; omega) (by omega) 10000 (by omega) 3000
  rw [show ((10000 : Nat) : Int) = 10000 from rfl] at hm
  have hp := parse_made own (fun x hx => by have := hf x hx; omega) (by omega) 10000 (by omega) (by omega) 3000
  rw [show ((10000 : Nat) : Int) = 10000 from rfl, ← TK_nil, fold_ap _ 10000 (by omega) own [] hap] at hp
  unfold slipwaylaw10_RelBack.f
  rw [hown, Option.bind_some, if_pos ⟨by omega, List.all_eq_true.2 fun x hx => by have := hf x hx; simp; omega⟩, hm, Option.bind_some]
  simp only
  rw [hp, Option.bind_some]
  simp only [List.nil_append]
  rw [if_pos ⟨trivial, same_is own (by omega) 3000 (by omega)⟩]
  by_cases h0 : own = []
  · rw [if_pos h0]
    exact at_rounds slipwaylaw10_awake.mono (by omega) awake10B
  · rw [if_neg h0]
    have hpos : 0 < own.length := List.length_pos_iff.2 h0
    obtain ⟨n, hn, hb⟩ := YtjifmpjpccibnaaA.i64_and a1 255 (by decide)
    have hb2 : Go.bits .and .i64 a1 255 = (n : Int) := hb
    obtain ⟨kk, hkk⟩ : ∃ kk, n % own.length = kk := ⟨_, rfl⟩
    have hkl : kk < own.length := by rw [← hkk]; exact Nat.mod_lt _ hpos
    have hat : backAt a1 own = (kk : Int) := by
      unfold backAt
      rw [hb2, Int.tmod_eq_emod_of_nonneg (by omega), ← hkk]
      simp
    have hmem : rd_T60 own (kk : Int) ∈ own := by
      simp only [rd_T60, Int.toNat_natCast, List.getD_eq_getElem?_getD, List.getElem?_eq_getElem hkl, Option.getD_some]
      exact List.getElem_mem _
    have hbad : backBad a1 own = own ++ [⟨3, (rd_T60 own (kk : Int)).f1 + 3⟩] := by unfold backBad; rw [hat]
    rw [hbad]
    have hB : ∀ x ∈ own ++ [⟨3, (rd_T60 own (kk : Int)).f1 + 3⟩], 0 ≤ x.f1 ∧ x.f1 ≤ 2147483647 := by
      intro x hx
      rcases List.mem_append.1 hx with hx | hx
      · have := hf x hx; omega
      · simp at hx
        subst hx
        have := hf _ hmem
        simp only
        omega
    have hm2 := made_ok (own ++ [⟨3, (rd_T60 own (kk : Int)).f1 + 3⟩]) hB (by simp; omega) 10020 (by omega) 3000
    rw [show ((10020 : Nat) : Int) = 10020 from rfl] at hm2
    have hfb := fold_bad (10020 + (m10Blocks 61 (own ++ [⟨3, (rd_T60 own (kk : Int)).f1 + 3⟩])).length) 10000 (by omega) own hap _ hmem
    have hp2 := parse_no (own ++ [⟨3, (rd_T60 own (kk : Int)).f1 + 3⟩]) (fun x hx => (hB x hx).2) (by simp; omega) 10020 (by omega) (by omega) 3000 hfb
    rw [show ((10020 : Nat) : Int) = 10020 from rfl] at hp2
    rw [hm2, Option.bind_some]
    simp only
    rw [hp2, Option.bind_some]
    exact (if_pos rfl).trans (at_rounds slipwaylaw10_awake.mono (show 60 ≤ 3000 by omega) awake10B)
end Go.Proofs.Ytjifmpjpccibnaa.Pure
