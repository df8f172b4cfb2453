/- Arguments that are rows of sites, opened: each site's two numbers. (No condition.) -/
import Derived.Test.YtjifmpjpccibnaaDx0
import Derived.Deep.SlicePairs
import Derived.ChangeArms
import Derived.OpenShut
namespace Go.Proofs.Ytjifmpjpccibnaa.D
open Go.ChangeShapes Go.WideShapes Go.RowKit Go.Proofs.YtjifmpjpccibnaaW.PrintWords Go.Proofs.YtjifmpjpccibnaaW.PrintLast Go.Proofs.YtjifmpjpccibnaaW.PrintMore
set_option linter.unusedVariables false
theorem open_rels {H : Type} {enc : TypeId × Value → H} {w : World} {base : Nat} {spare : Nat → Bool} {held : Bool} {fuel : Nat} {A : Option Addr} {len cap : Nat} {x : DataW H × List MemPlace}
    (h : DataW.trod enc Try.prog w base spare held fuel 56 [.slice A len cap] = some x) : ∃ l : List S60, l.length = len ∧ len ≤ cap ∧ Kd.C k60 w A len l := by
  rcases Go.Deep.open_slice_pairs Try.underlying56 Try.underlying60 (by kernel_rfl) rfl rfl (by kernel_rfl) (by kernel_rfl) h with ⟨hcs, _⟩ | ⟨a, l, c, m, n, V0, V1, D0, D1, P0, P1, hcs, _, hl, hm, hmm, _, hcell⟩
  · simp at hcs
    obtain ⟨rfl, rfl, rfl⟩ := hcs
    exact ⟨[], rfl, Nat.le_refl _, ⟨rfl, by decide, fun h => absurd h (Nat.lt_irrefl 0)⟩⟩
  · simp at hcs
    obtain ⟨rfl, rfl, rfl⟩ := hcs
    have hlm : len ≤ m := by rw [hmm]; split <;> omega
    refine ⟨(List.range len).map fun i => ⟨intOf (V0 i), intOf (V1 i)⟩, by simp, hl, ⟨by simp, by simp only [maxLen] at hm; omega, fun _ => ⟨a, rfl, fun j p hj => ?_⟩⟩⟩
    have hj' : j < len := by
      have := (List.getElem?_eq_some_iff.1 hj).1
      simpa using this
    obtain ⟨h0, h1, t0, t1⟩ := hcell j (by omega)
    obtain ⟨z0, e0, _, _⟩ := DataW.trod_int Try.underlying3 t0
    obtain ⟨z1, e1, _, _⟩ := DataW.trod_int Try.underlying3 t1
    simp at e0 e1
    simp [hj'] at hj
    subst hj
    refine ⟨[.int .i64 z0, .int .i64 z1], rfl, ?_, fun i u hu => ?_⟩
    · rw [e0, e1]
      exact k60_mk _ _
    · rcases i with _ | _ | i
      · simp at hu
        subst hu
        rw [show j * k60.sz + 0 = j * 2 from rfl, h0, e0]
      · simp at hu
        subst hu
        rw [show j * k60.sz + (0 + 1) = j * 2 + 1 from rfl, h1, e1]
      · simp at hu
end Go.Proofs.Ytjifmpjpccibnaa.D
