/- RelForms' plain law: a good block is read, and one with something wrong is refused. (No condition.) -/
import Derived.Test.YtjifmpjpccibnaaHForms
namespace Go.Proofs.Ytjifmpjpccibnaa.Pure
open Go.RowKit Go.Proofs.Ytjifmpjpccibnaa.D Go.Proofs.YtjifmpjpccibnaaW.PrintWords Go.Proofs.YtjifmpjpccibnaaW.PrintLast
theorem awake10F : slipwaylaw10_awake.f 60 = some true := by decide +kernel
theorem formsOk_all : ∀ m : Nat, m < 8 → formsOk m = true := by decide +kernel
theorem RelForms (a0 : Int) : slipwaylaw10_RelForms.f 60 a0 = some true := by
  obtain ⟨m, hm7, hm⟩ := YtjifmpjpccibnaaA.i64_and a0 7 (by decide)
  rw [show ((7 : Nat) : Int) = 7 from rfl] at hm
  unfold slipwaylaw10_RelForms.f
  rw [hm, Int.toNat_natCast, if_pos (formsOk_all m (by omega)), awake10F]
end Go.Proofs.Ytjifmpjpccibnaa.Pure
