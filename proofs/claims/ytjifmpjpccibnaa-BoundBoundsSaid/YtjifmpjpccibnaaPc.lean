/- The images that BoundBounds meets, and what Parse answers, by the kernel. -/
import Derived.Test.YtjifmpjpccibnaaDx52
import Derived.Test.YtjifmpjpccibnaaPb
namespace Go.Proofs.Ytjifmpjpccibnaa.Pure
open Go.RowKit Go.Proofs.Ytjifmpjpccibnaa.D Go.Proofs.YtjifmpjpccibnaaW.PrintWords Go.Proofs.YtjifmpjpccibnaaW.PrintLast Go.Proofs.YtjifmpjpccibnaaW.PrintMore Go.Proofs.YtjifmpjpccibnaaA Go.Proofs.Ytjifmpjpccibnaa.Pb
set_option linter.unusedVariables false
set_option maxRecDepth 100000

def dig (i : Nat) : ByteArray := (slipwayref1_Digits.f 5 (i : Int)).getD ⟨#[]⟩
def bbRows (n : Nat) : List S42 := (List.range n).map fun i => ⟨⟨#[109]⟩ ++ dig i, (i : Int) + 1⟩
def bbOk (N : Int) (rows : List S42) (p : List S42 × Int) : Bool :=
  !((p.2 == 0) != (decide (N ≤ 32))) && (if p.2 = 0 then slipwayref1_SameBounds.f 60 p.1 rows == some true else p.2 == 8 && p.1.length == 0)
def bbOk2 (k m : Nat) (rows : List S42) (p : List S42 × Int) : Bool :=
  ((p.2 == 0) == decide (k + m < 6)) && (!decide (k + m < 6) || slipwayref1_SameBounds.f 60 p.1 rows == some true)
theorem dig_ok : ∀ i : Nat, i < 36 → (slipwayref1_Digits.f 5 (i : Int)).isSome = true ∧ (dig i).size ≤ 2 := by decide +kernel

def bbImg28 : List Int := [0, 0, 0, 0, 0, 0, 0, 0, 0, 0, 0, 0, 0, 0, 0, 0, 1, 0, 0, 0, 232, 0, 0, 0, 2, 0, 0, 0, 235, 0, 0, 0, 3, 0, 0, 0, 238, 0, 0, 0, 4, 0, 0, 0, 241, 0, 0, 0, 5, 0, 0, 0, 244, 0, 0, 0, 6, 0, 0, 0, 247, 0, 0, 0, 7, 0, 0, 0, 250, 0, 0, 0, 8, 0, 0, 0, 253, 0, 0, 0, 9, 0, 0, 0, 0, 1, 0, 0, 10, 0, 0, 0, 3, 1, 0, 0, 11, 0, 0, 0, 6, 1, 0, 0, 12, 0, 0, 0, 10, 1, 0, 0, 13, 0, 0, 0, 14, 1, 0, 0, 14, 0, 0, 0, 18, 1, 0, 0, 15, 0, 0, 0, 22, 1, 0, 0, 16, 0, 0, 0, 26, 1, 0, 0, 17, 0, 0, 0, 30, 1, 0, 0, 18, 0, 0, 0, 34, 1, 0, 0, 19, 0, 0, 0, 38, 1, 0, 0, 20, 0, 0, 0, 42, 1, 0, 0, 21, 0, 0, 0, 46, 1, 0, 0, 22, 0, 0, 0, 50, 1, 0, 0, 23, 0, 0, 0, 54, 1, 0, 0, 24, 0, 0, 0, 58, 1, 0, 0, 25, 0, 0, 0, 62, 1, 0, 0, 26, 0, 0, 0, 66, 1, 0, 0, 27, 0, 0, 0, 70, 1, 0, 0, 28, 0, 0, 0, 74, 1, 0, 0, 0, 0, 0, 0, 0, 0, 0, 0, 109, 48, 0, 109, 49, 0, 109, 50, 0, 109, 51, 0, 109, 52, 0, 109, 53, 0, 109, 54, 0, 109, 55, 0, 109, 56, 0, 109, 57, 0, 109, 49, 48, 0, 109, 49, 49, 0, 109, 49, 50, 0, 109, 49, 51, 0, 109, 49, 52, 0, 109, 49, 53, 0, 109, 49, 54, 0, 109, 49, 55, 0, 109, 49, 56, 0, 109, 49, 57, 0, 109, 50, 48, 0, 109, 50, 49, 0, 109, 50, 50, 0, 109, 50, 51, 0, 109, 50, 52, 0, 109, 50, 53, 0, 109, 50, 54, 0, 109, 50, 55, 0]
theorem bbImg28_is : img9 (bbRows 28) [] = bbImg28 := by decide +kernel
theorem bbParse28 : ((bound_Parse.f 200 bbImg28 16 0).map (bbOk 28 (bbRows 28))) = some true := by decide +kernel
def bbImg29 : List Int := [0, 0, 0, 0, 0, 0, 0, 0, 0, 0, 0, 0, 0, 0, 0, 0, 1, 0, 0, 0, 240, 0, 0, 0, 2, 0, 0, 0, 243, 0, 0, 0, 3, 0, 0, 0, 246, 0, 0, 0, 4, 0, 0, 0, 249, 0, 0, 0, 5, 0, 0, 0, 252, 0, 0, 0, 6, 0, 0, 0, 255, 0, 0, 0, 7, 0, 0, 0, 2, 1, 0, 0, 8, 0, 0, 0, 5, 1, 0, 0, 9, 0, 0, 0, 8, 1, 0, 0, 10, 0, 0, 0, 11, 1, 0, 0, 11, 0, 0, 0, 14, 1, 0, 0, 12, 0, 0, 0, 18, 1, 0, 0, 13, 0, 0, 0, 22, 1, 0, 0, 14, 0, 0, 0, 26, 1, 0, 0, 15, 0, 0, 0, 30, 1, 0, 0, 16, 0, 0, 0, 34, 1, 0, 0, 17, 0, 0, 0, 38, 1, 0, 0, 18, 0, 0, 0, 42, 1, 0, 0, 19, 0, 0, 0, 46, 1, 0, 0, 20, 0, 0, 0, 50, 1, 0, 0, 21, 0, 0, 0, 54, 1, 0, 0, 22, 0, 0, 0, 58, 1, 0, 0, 23, 0, 0, 0, 62, 1, 0, 0, 24, 0, 0, 0, 66, 1, 0, 0, 25, 0, 0, 0, 70, 1, 0, 0, 26, 0, 0, 0, 74, 1, 0, 0, 27, 0, 0, 0, 78, 1, 0, 0, 28, 0, 0, 0, 82, 1, 0, 0, 29, 0, 0, 0, 86, 1, 0, 0, 0, 0, 0, 0, 0, 0, 0, 0, 109, 48, 0, 109, 49, 0, 109, 50, 0, 109, 51, 0, 109, 52, 0, 109, 53, 0, 109, 54, 0, 109, 55, 0, 109, 56, 0, 109, 57, 0, 109, 49, 48, 0, 109, 49, 49, 0, 109, 49, 50, 0, 109, 49, 51, 0, 109, 49, 52, 0, 109, 49, 53, 0, 109, 49, 54, 0, 109, 49, 55, 0, 109, 49, 56, 0, 109, 49, 57, 0, 109, 50, 48, 0, 109, 50, 49, 0, 109, 50, 50, 0, 109, 50, 51, 0, 109, 50, 52, 0, 109, 50, 53, 0, 109, 50, 54, 0, 109, 50, 55, 0, 109, 50, 56, 0]
theorem bbImg29_is : img9 (bbRows 29) [] = bbImg29 := by decide +kernel
theorem bbParse29 : ((bound_Parse.f 200 bbImg29 16 0).map (bbOk 29 (bbRows 29))) = some true := by decide +kernel
def bbImg30 : List Int := [0, 0, 0, 0, 0, 0, 0, 0, 0, 0, 0, 0, 0, 0, 0, 0, 1, 0, 0, 0, 248, 0, 0, 0, 2, 0, 0, 0, 251, 0, 0, 0, 3, 0, 0, 0, 254, 0, 0, 0, 4, 0, 0, 0, 1, 1, 0, 0, 5, 0, 0, 0, 4, 1, 0, 0, 6, 0, 0, 0, 7, 1, 0, 0, 7, 0, 0, 0, 10, 1, 0, 0, 8, 0, 0, 0, 13, 1, 0, 0, 9, 0, 0, 0, 16, 1, 0, 0, 10, 0, 0, 0, 19, 1, 0, 0, 11, 0, 0, 0, 22, 1, 0, 0, 12, 0, 0, 0, 26, 1, 0, 0, 13, 0, 0, 0, 30, 1, 0, 0, 14, 0, 0, 0, 34, 1, 0, 0, 15, 0, 0, 0, 38, 1, 0, 0, 16, 0, 0, 0, 42, 1, 0, 0, 17, 0, 0, 0, 46, 1, 0, 0, 18, 0, 0, 0, 50, 1, 0, 0, 19, 0, 0, 0, 54, 1, 0, 0, 20, 0, 0, 0, 58, 1, 0, 0, 21, 0, 0, 0, 62, 1, 0, 0, 22, 0, 0, 0, 66, 1, 0, 0, 23, 0, 0, 0, 70, 1, 0, 0, 24, 0, 0, 0, 74, 1, 0, 0, 25, 0, 0, 0, 78, 1, 0, 0, 26, 0, 0, 0, 82, 1, 0, 0, 27, 0, 0, 0, 86, 1, 0, 0, 28, 0, 0, 0, 90, 1, 0, 0, 29, 0, 0, 0, 94, 1, 0, 0, 30, 0, 0, 0, 98, 1, 0, 0, 0, 0, 0, 0, 0, 0, 0, 0, 109, 48, 0, 109, 49, 0, 109, 50, 0, 109, 51, 0, 109, 52, 0, 109, 53, 0, 109, 54, 0, 109, 55, 0, 109, 56, 0, 109, 57, 0, 109, 49, 48, 0, 109, 49, 49, 0, 109, 49, 50, 0, 109, 49, 51, 0, 109, 49, 52, 0, 109, 49, 53, 0, 109, 49, 54, 0, 109, 49, 55, 0, 109, 49, 56, 0, 109, 49, 57, 0, 109, 50, 48, 0, 109, 50, 49, 0, 109, 50, 50, 0, 109, 50, 51, 0, 109, 50, 52, 0, 109, 50, 53, 0, 109, 50, 54, 0, 109, 50, 55, 0, 109, 50, 56, 0, 109, 50, 57, 0]
theorem bbImg30_is : img9 (bbRows 30) [] = bbImg30 := by decide +kernel
theorem bbParse30 : ((bound_Parse.f 200 bbImg30 16 0).map (bbOk 30 (bbRows 30))) = some true := by decide +kernel
def bbImg31 : List Int := [0, 0, 0, 0, 0, 0, 0, 0, 0, 0, 0, 0, 0, 0, 0, 0, 1, 0, 0, 0, 0, 1, 0, 0, 2, 0, 0, 0, 3, 1, 0, 0, 3, 0, 0, 0, 6, 1, 0, 0, 4, 0, 0, 0, 9, 1, 0, 0, 5, 0, 0, 0, 12, 1, 0, 0, 6, 0, 0, 0, 15, 1, 0, 0, 7, 0, 0, 0, 18, 1, 0, 0, 8, 0, 0, 0, 21, 1, 0, 0, 9, 0, 0, 0, 24, 1, 0, 0, 10, 0, 0, 0, 27, 1, 0, 0, 11, 0, 0, 0, 30, 1, 0, 0, 12, 0, 0, 0, 34, 1, 0, 0, 13, 0, 0, 0, 38, 1, 0, 0, 14, 0, 0, 0, 42, 1, 0, 0, 15, 0, 0, 0, 46, 1, 0, 0, 16, 0, 0, 0, 50, 1, 0, 0, 17, 0, 0, 0, 54, 1, 0, 0, 18, 0, 0, 0, 58, 1, 0, 0, 19, 0, 0, 0, 62, 1, 0, 0, 20, 0, 0, 0, 66, 1, 0, 0, 21, 0, 0, 0, 70, 1, 0, 0, 22, 0, 0, 0, 74, 1, 0, 0, 23, 0, 0, 0, 78, 1, 0, 0, 24, 0, 0, 0, 82, 1, 0, 0, 25, 0, 0, 0, 86, 1, 0, 0, 26, 0, 0, 0, 90, 1, 0, 0, 27, 0, 0, 0, 94, 1, 0, 0, 28, 0, 0, 0, 98, 1, 0, 0, 29, 0, 0, 0, 102, 1, 0, 0, 30, 0, 0, 0, 106, 1, 0, 0, 31, 0, 0, 0, 110, 1, 0, 0, 0, 0, 0, 0, 0, 0, 0, 0, 109, 48, 0, 109, 49, 0, 109, 50, 0, 109, 51, 0, 109, 52, 0, 109, 53, 0, 109, 54, 0, 109, 55, 0, 109, 56, 0, 109, 57, 0, 109, 49, 48, 0, 109, 49, 49, 0, 109, 49, 50, 0, 109, 49, 51, 0, 109, 49, 52, 0, 109, 49, 53, 0, 109, 49, 54, 0, 109, 49, 55, 0, 109, 49, 56, 0, 109, 49, 57, 0, 109, 50, 48, 0, 109, 50, 49, 0, 109, 50, 50, 0, 109, 50, 51, 0, 109, 50, 52, 0, 109, 50, 53, 0, 109, 50, 54, 0, 109, 50, 55, 0, 109, 50, 56, 0, 109, 50, 57, 0, 109, 51, 48, 0]
theorem bbImg31_is : img9 (bbRows 31) [] = bbImg31 := by decide +kernel
theorem bbParse31 : ((bound_Parse.f 200 bbImg31 16 0).map (bbOk 31 (bbRows 31))) = some true := by decide +kernel
def bbImg32 : List Int := [0, 0, 0, 0, 0, 0, 0, 0, 0, 0, 0, 0, 0, 0, 0, 0, 1, 0, 0, 0, 8, 1, 0, 0, 2, 0, 0, 0, 11, 1, 0, 0, 3, 0, 0, 0, 14, 1, 0, 0, 4, 0, 0, 0, 17, 1, 0, 0, 5, 0, 0, 0, 20, 1, 0, 0, 6, 0, 0, 0, 23, 1, 0, 0, 7, 0, 0, 0, 26, 1, 0, 0, 8, 0, 0, 0, 29, 1, 0, 0, 9, 0, 0, 0, 32, 1, 0, 0, 10, 0, 0, 0, 35, 1, 0, 0, 11, 0, 0, 0, 38, 1, 0, 0, 12, 0, 0, 0, 42, 1, 0, 0, 13, 0, 0, 0, 46, 1, 0, 0, 14, 0, 0, 0, 50, 1, 0, 0, 15, 0, 0, 0, 54, 1, 0, 0, 16, 0, 0, 0, 58, 1, 0, 0, 17, 0, 0, 0, 62, 1, 0, 0, 18, 0, 0, 0, 66, 1, 0, 0, 19, 0, 0, 0, 70, 1, 0, 0, 20, 0, 0, 0, 74, 1, 0, 0, 21, 0, 0, 0, 78, 1, 0, 0, 22, 0, 0, 0, 82, 1, 0, 0, 23, 0, 0, 0, 86, 1, 0, 0, 24, 0, 0, 0, 90, 1, 0, 0, 25, 0, 0, 0, 94, 1, 0, 0, 26, 0, 0, 0, 98, 1, 0, 0, 27, 0, 0, 0, 102, 1, 0, 0, 28, 0, 0, 0, 106, 1, 0, 0, 29, 0, 0, 0, 110, 1, 0, 0, 30, 0, 0, 0, 114, 1, 0, 0, 31, 0, 0, 0, 118, 1, 0, 0, 32, 0, 0, 0, 122, 1, 0, 0, 0, 0, 0, 0, 0, 0, 0, 0, 109, 48, 0, 109, 49, 0, 109, 50, 0, 109, 51, 0, 109, 52, 0, 109, 53, 0, 109, 54, 0, 109, 55, 0, 109, 56, 0, 109, 57, 0, 109, 49, 48, 0, 109, 49, 49, 0, 109, 49, 50, 0, 109, 49, 51, 0, 109, 49, 52, 0, 109, 49, 53, 0, 109, 49, 54, 0, 109, 49, 55, 0, 109, 49, 56, 0, 109, 49, 57, 0, 109, 50, 48, 0, 109, 50, 49, 0, 109, 50, 50, 0, 109, 50, 51, 0, 109, 50, 52, 0, 109, 50, 53, 0, 109, 50, 54, 0, 109, 50, 55, 0, 109, 50, 56, 0, 109, 50, 57, 0, 109, 51, 48, 0, 109, 51, 49, 0]
theorem bbImg32_is : img9 (bbRows 32) [] = bbImg32 := by decide +kernel
theorem bbParse32 : ((bound_Parse.f 200 bbImg32 16 0).map (bbOk 32 (bbRows 32))) = some true := by decide +kernel
def bbImg33 : List Int := [0, 0, 0, 0, 0, 0, 0, 0, 0, 0, 0, 0, 0, 0, 0, 0, 1, 0, 0, 0, 16, 1, 0, 0, 2, 0, 0, 0, 19, 1, 0, 0, 3, 0, 0, 0, 22, 1, 0, 0, 4, 0, 0, 0, 25, 1, 0, 0, 5, 0, 0, 0, 28, 1, 0, 0, 6, 0, 0, 0, 31, 1, 0, 0, 7, 0, 0, 0, 34, 1, 0, 0, 8, 0, 0, 0, 37, 1, 0, 0, 9, 0, 0, 0, 40, 1, 0, 0, 10, 0, 0, 0, 43, 1, 0, 0, 11, 0, 0, 0, 46, 1, 0, 0, 12, 0, 0, 0, 50, 1, 0, 0, 13, 0, 0, 0, 54, 1, 0, 0, 14, 0, 0, 0, 58, 1, 0, 0, 15, 0, 0, 0, 62, 1, 0, 0, 16, 0, 0, 0, 66, 1, 0, 0, 17, 0, 0, 0, 70, 1, 0, 0, 18, 0, 0, 0, 74, 1, 0, 0, 19, 0, 0, 0, 78, 1, 0, 0, 20, 0, 0, 0, 82, 1, 0, 0, 21, 0, 0, 0, 86, 1, 0, 0, 22, 0, 0, 0, 90, 1, 0, 0, 23, 0, 0, 0, 94, 1, 0, 0, 24, 0, 0, 0, 98, 1, 0, 0, 25, 0, 0, 0, 102, 1, 0, 0, 26, 0, 0, 0, 106, 1, 0, 0, 27, 0, 0, 0, 110, 1, 0, 0, 28, 0, 0, 0, 114, 1, 0, 0, 29, 0, 0, 0, 118, 1, 0, 0, 30, 0, 0, 0, 122, 1, 0, 0, 31, 0, 0, 0, 126, 1, 0, 0, 32, 0, 0, 0, 130, 1, 0, 0, 33, 0, 0, 0, 134, 1, 0, 0, 0, 0, 0, 0, 0, 0, 0, 0, 109, 48, 0, 109, 49, 0, 109, 50, 0, 109, 51, 0, 109, 52, 0, 109, 53, 0, 109, 54, 0, 109, 55, 0, 109, 56, 0, 109, 57, 0, 109, 49, 48, 0, 109, 49, 49, 0, 109, 49, 50, 0, 109, 49, 51, 0, 109, 49, 52, 0, 109, 49, 53, 0, 109, 49, 54, 0, 109, 49, 55, 0, 109, 49, 56, 0, 109, 49, 57, 0, 109, 50, 48, 0, 109, 50, 49, 0, 109, 50, 50, 0, 109, 50, 51, 0, 109, 50, 52, 0, 109, 50, 53, 0, 109, 50, 54, 0, 109, 50, 55, 0, 109, 50, 56, 0, 109, 50, 57, 0, 109, 51, 48, 0, 109, 51, 49, 0, 109, 51, 50, 0]
theorem bbImg33_is : img9 (bbRows 33) [] = bbImg33 := by decide +kernel
theorem bbParse33 : ((bound_Parse.f 200 bbImg33 16 0).map (bbOk 33 (bbRows 33))) = some true := by decide +kernel
def bbImg34 : List Int := [0, 0, 0, 0, 0, 0, 0, 0, 0, 0, 0, 0, 0, 0, 0, 0, 1, 0, 0, 0, 24, 1, 0, 0, 2, 0, 0, 0, 27, 1, 0, 0, 3, 0, 0, 0, 30, 1, 0, 0, 4, 0, 0, 0, 33, 1, 0, 0, 5, 0, 0, 0, 36, 1, 0, 0, 6, 0, 0, 0, 39, 1, 0, 0, 7, 0, 0, 0, 42, 1, 0, 0, 8, 0, 0, 0, 45, 1, 0, 0, 9, 0, 0, 0, 48, 1, 0, 0, 10, 0, 0, 0, 51, 1, 0, 0, 11, 0, 0, 0, 54, 1, 0, 0, 12, 0, 0, 0, 58, 1, 0, 0, 13, 0, 0, 0, 62, 1, 0, 0, 14, 0, 0, 0, 66, 1, 0, 0, 15, 0, 0, 0, 70, 1, 0, 0, 16, 0, 0, 0, 74, 1, 0, 0, 17, 0, 0, 0, 78, 1, 0, 0, 18, 0, 0, 0, 82, 1, 0, 0, 19, 0, 0, 0, 86, 1, 0, 0, 20, 0, 0, 0, 90, 1, 0, 0, 21, 0, 0, 0, 94, 1, 0, 0, 22, 0, 0, 0, 98, 1, 0, 0, 23, 0, 0, 0, 102, 1, 0, 0, 24, 0, 0, 0, 106, 1, 0, 0, 25, 0, 0, 0, 110, 1, 0, 0, 26, 0, 0, 0, 114, 1, 0, 0, 27, 0, 0, 0, 118, 1, 0, 0, 28, 0, 0, 0, 122, 1, 0, 0, 29, 0, 0, 0, 126, 1, 0, 0, 30, 0, 0, 0, 130, 1, 0, 0, 31, 0, 0, 0, 134, 1, 0, 0, 32, 0, 0, 0, 138, 1, 0, 0, 33, 0, 0, 0, 142, 1, 0, 0, 34, 0, 0, 0, 146, 1, 0, 0, 0, 0, 0, 0, 0, 0, 0, 0, 109, 48, 0, 109, 49, 0, 109, 50, 0, 109, 51, 0, 109, 52, 0, 109, 53, 0, 109, 54, 0, 109, 55, 0, 109, 56, 0, 109, 57, 0, 109, 49, 48, 0, 109, 49, 49, 0, 109, 49, 50, 0, 109, 49, 51, 0, 109, 49, 52, 0, 109, 49, 53, 0, 109, 49, 54, 0, 109, 49, 55, 0, 109, 49, 56, 0, 109, 49, 57, 0, 109, 50, 48, 0, 109, 50, 49, 0, 109, 50, 50, 0, 109, 50, 51, 0, 109, 50, 52, 0, 109, 50, 53, 0, 109, 50, 54, 0, 109, 50, 55, 0, 109, 50, 56, 0, 109, 50, 57, 0, 109, 51, 48, 0, 109, 51, 49, 0, 109, 51, 50, 0, 109, 51, 51, 0]
theorem bbImg34_is : img9 (bbRows 34) [] = bbImg34 := by decide +kernel
theorem bbParse34 : ((bound_Parse.f 200 bbImg34 16 0).map (bbOk 34 (bbRows 34))) = some true := by decide +kernel
def bbImg35 : List Int := [0, 0, 0, 0, 0, 0, 0, 0, 0, 0, 0, 0, 0, 0, 0, 0, 1, 0, 0, 0, 24, 1, 0, 0, 2, 0, 0, 0, 27, 1, 0, 0, 3, 0, 0, 0, 30, 1, 0, 0, 4, 0, 0, 0, 33, 1, 0, 0, 5, 0, 0, 0, 36, 1, 0, 0, 6, 0, 0, 0, 39, 1, 0, 0, 7, 0, 0, 0, 42, 1, 0, 0, 8, 0, 0, 0, 45, 1, 0, 0, 9, 0, 0, 0, 48, 1, 0, 0, 10, 0, 0, 0, 51, 1, 0, 0, 11, 0, 0, 0, 54, 1, 0, 0, 12, 0, 0, 0, 58, 1, 0, 0, 13, 0, 0, 0, 62, 1, 0, 0, 14, 0, 0, 0, 66, 1, 0, 0, 15, 0, 0, 0, 70, 1, 0, 0, 16, 0, 0, 0, 74, 1, 0, 0, 17, 0, 0, 0, 78, 1, 0, 0, 18, 0, 0, 0, 82, 1, 0, 0, 19, 0, 0, 0, 86, 1, 0, 0, 20, 0, 0, 0, 90, 1, 0, 0, 21, 0, 0, 0, 94, 1, 0, 0, 22, 0, 0, 0, 98, 1, 0, 0, 23, 0, 0, 0, 102, 1, 0, 0, 24, 0, 0, 0, 106, 1, 0, 0, 25, 0, 0, 0, 110, 1, 0, 0, 26, 0, 0, 0, 114, 1, 0, 0, 27, 0, 0, 0, 118, 1, 0, 0, 28, 0, 0, 0, 122, 1, 0, 0, 29, 0, 0, 0, 126, 1, 0, 0, 30, 0, 0, 0, 130, 1, 0, 0, 31, 0, 0, 0, 134, 1, 0, 0, 32, 0, 0, 0, 138, 1, 0, 0, 33, 0, 0, 0, 142, 1, 0, 0, 34, 0, 0, 0, 146, 1, 0, 0, 0, 0, 0, 0, 0, 0, 0, 0, 109, 48, 0, 109, 49, 0, 109, 50, 0, 109, 51, 0, 109, 52, 0, 109, 53, 0, 109, 54, 0, 109, 55, 0, 109, 56, 0, 109, 57, 0, 109, 49, 48, 0, 109, 49, 49, 0, 109, 49, 50, 0, 109, 49, 51, 0, 109, 49, 52, 0, 109, 49, 53, 0, 109, 49, 54, 0, 109, 49, 55, 0, 109, 49, 56, 0, 109, 49, 57, 0, 109, 50, 48, 0, 109, 50, 49, 0, 109, 50, 50, 0, 109, 50, 51, 0, 109, 50, 52, 0, 109, 50, 53, 0, 109, 50, 54, 0, 109, 50, 55, 0, 109, 50, 56, 0, 109, 50, 57, 0, 109, 51, 48, 0, 109, 51, 49, 0, 109, 51, 50, 0, 109, 51, 51, 0]
theorem bbImg35_is : img9 (bbRows 35) [] = bbImg35 := by decide +kernel
theorem bbParse35 : ((bound_Parse.f 200 bbImg35 16 0).map (bbOk 35 (bbRows 35))) = some true := by decide +kernel
def bbJmg0_0 : List Int := [0, 0, 0, 0, 0, 0, 0, 0, 0, 0, 0, 0, 0, 0, 0, 0, 1, 0, 0, 0, 56, 0, 0, 0, 2, 0, 0, 0, 59, 0, 0, 0, 3, 0, 0, 0, 62, 0, 0, 0, 4, 0, 0, 0, 65, 0, 0, 0, 5, 0, 0, 0, 68, 0, 0, 0, 6, 0, 0, 0, 71, 0, 0, 0, 0, 0, 0, 0, 0, 0, 0, 0, 109, 48, 0, 109, 49, 0, 109, 50, 0, 109, 51, 0, 109, 52, 0, 109, 53, 0]
theorem bbJmg0_0_is : img9 (bbRows 6) ((List.replicate 6 0).set 0 0) = bbJmg0_0 := by decide +kernel
theorem bbParse2_0_0 : ((bound_Parse.f 200 bbJmg0_0 16 0).map (bbOk2 0 0 (bbRows 6))) = some true := by decide +kernel
def bbJmg0_1 : List Int := [0, 0, 0, 0, 0, 0, 0, 0, 0, 0, 0, 0, 0, 0, 0, 0, 1, 0, 0, 0, 56, 0, 1, 0, 2, 0, 0, 0, 59, 0, 0, 0, 3, 0, 0, 0, 62, 0, 0, 0, 4, 0, 0, 0, 65, 0, 0, 0, 5, 0, 0, 0, 68, 0, 0, 0, 6, 0, 0, 0, 71, 0, 0, 0, 0, 0, 0, 0, 0, 0, 0, 0, 109, 48, 0, 109, 49, 0, 109, 50, 0, 109, 51, 0, 109, 52, 0, 109, 53, 0]
theorem bbJmg0_1_is : img9 (bbRows 6) ((List.replicate 6 0).set 0 1) = bbJmg0_1 := by decide +kernel
theorem bbParse2_0_1 : ((bound_Parse.f 200 bbJmg0_1 16 0).map (bbOk2 0 1 (bbRows 6))) = some true := by decide +kernel
def bbJmg0_2 : List Int := [0, 0, 0, 0, 0, 0, 0, 0, 0, 0, 0, 0, 0, 0, 0, 0, 1, 0, 0, 0, 56, 0, 2, 0, 2, 0, 0, 0, 59, 0, 0, 0, 3, 0, 0, 0, 62, 0, 0, 0, 4, 0, 0, 0, 65, 0, 0, 0, 5, 0, 0, 0, 68, 0, 0, 0, 6, 0, 0, 0, 71, 0, 0, 0, 0, 0, 0, 0, 0, 0, 0, 0, 109, 48, 0, 109, 49, 0, 109, 50, 0, 109, 51, 0, 109, 52, 0, 109, 53, 0]
theorem bbJmg0_2_is : img9 (bbRows 6) ((List.replicate 6 0).set 0 2) = bbJmg0_2 := by decide +kernel
theorem bbParse2_0_2 : ((bound_Parse.f 200 bbJmg0_2 16 0).map (bbOk2 0 2 (bbRows 6))) = some true := by decide +kernel
def bbJmg0_3 : List Int := [0, 0, 0, 0, 0, 0, 0, 0, 0, 0, 0, 0, 0, 0, 0, 0, 1, 0, 0, 0, 56, 0, 3, 0, 2, 0, 0, 0, 59, 0, 0, 0, 3, 0, 0, 0, 62, 0, 0, 0, 4, 0, 0, 0, 65, 0, 0, 0, 5, 0, 0, 0, 68, 0, 0, 0, 6, 0, 0, 0, 71, 0, 0, 0, 0, 0, 0, 0, 0, 0, 0, 0, 109, 48, 0, 109, 49, 0, 109, 50, 0, 109, 51, 0, 109, 52, 0, 109, 53, 0]
theorem bbJmg0_3_is : img9 (bbRows 6) ((List.replicate 6 0).set 0 3) = bbJmg0_3 := by decide +kernel
theorem bbParse2_0_3 : ((bound_Parse.f 200 bbJmg0_3 16 0).map (bbOk2 0 3 (bbRows 6))) = some true := by decide +kernel
def bbJmg1_0 : List Int := [0, 0, 0, 0, 0, 0, 0, 0, 0, 0, 0, 0, 0, 0, 0, 0, 1, 0, 0, 0, 56, 0, 0, 0, 2, 0, 0, 0, 59, 0, 0, 0, 3, 0, 0, 0, 62, 0, 0, 0, 4, 0, 0, 0, 65, 0, 0, 0, 5, 0, 0, 0, 68, 0, 0, 0, 6, 0, 0, 0, 71, 0, 0, 0, 0, 0, 0, 0, 0, 0, 0, 0, 109, 48, 0, 109, 49, 0, 109, 50, 0, 109, 51, 0, 109, 52, 0, 109, 53, 0]
theorem bbJmg1_0_is : img9 (bbRows 6) ((List.replicate 6 0).set 1 0) = bbJmg1_0 := by decide +kernel
theorem bbParse2_1_0 : ((bound_Parse.f 200 bbJmg1_0 16 0).map (bbOk2 1 0 (bbRows 6))) = some true := by decide +kernel
def bbJmg1_1 : List Int := [0, 0, 0, 0, 0, 0, 0, 0, 0, 0, 0, 0, 0, 0, 0, 0, 1, 0, 0, 0, 56, 0, 0, 0, 2, 0, 0, 0, 59, 0, 1, 0, 3, 0, 0, 0, 62, 0, 0, 0, 4, 0, 0, 0, 65, 0, 0, 0, 5, 0, 0, 0, 68, 0, 0, 0, 6, 0, 0, 0, 71, 0, 0, 0, 0, 0, 0, 0, 0, 0, 0, 0, 109, 48, 0, 109, 49, 0, 109, 50, 0, 109, 51, 0, 109, 52, 0, 109, 53, 0]
theorem bbJmg1_1_is : img9 (bbRows 6) ((List.replicate 6 0).set 1 1) = bbJmg1_1 := by decide +kernel
theorem bbParse2_1_1 : ((bound_Parse.f 200 bbJmg1_1 16 0).map (bbOk2 1 1 (bbRows 6))) = some true := by decide +kernel
def bbJmg1_2 : List Int := [0, 0, 0, 0, 0, 0, 0, 0, 0, 0, 0, 0, 0, 0, 0, 0, 1, 0, 0, 0, 56, 0, 0, 0, 2, 0, 0, 0, 59, 0, 2, 0, 3, 0, 0, 0, 62, 0, 0, 0, 4, 0, 0, 0, 65, 0, 0, 0, 5, 0, 0, 0, 68, 0, 0, 0, 6, 0, 0, 0, 71, 0, 0, 0, 0, 0, 0, 0, 0, 0, 0, 0, 109, 48, 0, 109, 49, 0, 109, 50, 0, 109, 51, 0, 109, 52, 0, 109, 53, 0]
theorem bbJmg1_2_is : img9 (bbRows 6) ((List.replicate 6 0).set 1 2) = bbJmg1_2 := by decide +kernel
theorem bbParse2_1_2 : ((bound_Parse.f 200 bbJmg1_2 16 0).map (bbOk2 1 2 (bbRows 6))) = some true := by decide +kernel
def bbJmg1_3 : List Int := [0, 0, 0, 0, 0, 0, 0, 0, 0, 0, 0, 0, 0, 0, 0, 0, 1, 0, 0, 0, 56, 0, 0, 0, 2, 0, 0, 0, 59, 0, 3, 0, 3, 0, 0, 0, 62, 0, 0, 0, 4, 0, 0, 0, 65, 0, 0, 0, 5, 0, 0, 0, 68, 0, 0, 0, 6, 0, 0, 0, 71, 0, 0, 0, 0, 0, 0, 0, 0, 0, 0, 0, 109, 48, 0, 109, 49, 0, 109, 50, 0, 109, 51, 0, 109, 52, 0, 109, 53, 0]
theorem bbJmg1_3_is : img9 (bbRows 6) ((List.replicate 6 0).set 1 3) = bbJmg1_3 := by decide +kernel
theorem bbParse2_1_3 : ((bound_Parse.f 200 bbJmg1_3 16 0).map (bbOk2 1 3 (bbRows 6))) = some true := by decide +kernel
def bbJmg2_0 : List Int := [0, 0, 0, 0, 0, 0, 0, 0, 0, 0, 0, 0, 0, 0, 0, 0, 1, 0, 0, 0, 56, 0, 0, 0, 2, 0, 0, 0, 59, 0, 0, 0, 3, 0, 0, 0, 62, 0, 0, 0, 4, 0, 0, 0, 65, 0, 0, 0, 5, 0, 0, 0, 68, 0, 0, 0, 6, 0, 0, 0, 71, 0, 0, 0, 0, 0, 0, 0, 0, 0, 0, 0, 109, 48, 0, 109, 49, 0, 109, 50, 0, 109, 51, 0, 109, 52, 0, 109, 53, 0]
theorem bbJmg2_0_is : img9 (bbRows 6) ((List.replicate 6 0).set 2 0) = bbJmg2_0 := by decide +kernel
theorem bbParse2_2_0 : ((bound_Parse.f 200 bbJmg2_0 16 0).map (bbOk2 2 0 (bbRows 6))) = some true := by decide +kernel
def bbJmg2_1 : List Int := [0, 0, 0, 0, 0, 0, 0, 0, 0, 0, 0, 0, 0, 0, 0, 0, 1, 0, 0, 0, 56, 0, 0, 0, 2, 0, 0, 0, 59, 0, 0, 0, 3, 0, 0, 0, 62, 0, 1, 0, 4, 0, 0, 0, 65, 0, 0, 0, 5, 0, 0, 0, 68, 0, 0, 0, 6, 0, 0, 0, 71, 0, 0, 0, 0, 0, 0, 0, 0, 0, 0, 0, 109, 48, 0, 109, 49, 0, 109, 50, 0, 109, 51, 0, 109, 52, 0, 109, 53, 0]
theorem bbJmg2_1_is : img9 (bbRows 6) ((List.replicate 6 0).set 2 1) = bbJmg2_1 := by decide +kernel
theorem bbParse2_2_1 : ((bound_Parse.f 200 bbJmg2_1 16 0).map (bbOk2 2 1 (bbRows 6))) = some true := by decide +kernel
def bbJmg2_2 : List Int := [0, 0, 0, 0, 0, 0, 0, 0, 0, 0, 0, 0, 0, 0, 0, 0, 1, 0, 0, 0, 56, 0, 0, 0, 2, 0, 0, 0, 59, 0, 0, 0, 3, 0, 0, 0, 62, 0, 2, 0, 4, 0, 0, 0, 65, 0, 0, 0, 5, 0, 0, 0, 68, 0, 0, 0, 6, 0, 0, 0, 71, 0, 0, 0, 0, 0, 0, 0, 0, 0, 0, 0, 109, 48, 0, 109, 49, 0, 109, 50, 0, 109, 51, 0, 109, 52, 0, 109, 53, 0]
theorem bbJmg2_2_is : img9 (bbRows 6) ((List.replicate 6 0).set 2 2) = bbJmg2_2 := by decide +kernel
theorem bbParse2_2_2 : ((bound_Parse.f 200 bbJmg2_2 16 0).map (bbOk2 2 2 (bbRows 6))) = some true := by decide +kernel
def bbJmg2_3 : List Int := [0, 0, 0, 0, 0, 0, 0, 0, 0, 0, 0, 0, 0, 0, 0, 0, 1, 0, 0, 0, 56, 0, 0, 0, 2, 0, 0, 0, 59, 0, 0, 0, 3, 0, 0, 0, 62, 0, 3, 0, 4, 0, 0, 0, 65, 0, 0, 0, 5, 0, 0, 0, 68, 0, 0, 0, 6, 0, 0, 0, 71, 0, 0, 0, 0, 0, 0, 0, 0, 0, 0, 0, 109, 48, 0, 109, 49, 0, 109, 50, 0, 109, 51, 0, 109, 52, 0, 109, 53, 0]
theorem bbJmg2_3_is : img9 (bbRows 6) ((List.replicate 6 0).set 2 3) = bbJmg2_3 := by decide +kernel
theorem bbParse2_2_3 : ((bound_Parse.f 200 bbJmg2_3 16 0).map (bbOk2 2 3 (bbRows 6))) = some true := by decide +kernel
def bbJmg3_0 : List Int := [0, 0, 0, 0, 0, 0, 0, 0, 0, 0, 0, 0, 0, 0, 0, 0, 1, 0, 0, 0, 56, 0, 0, 0, 2, 0, 0, 0, 59, 0, 0, 0, 3, 0, 0, 0, 62, 0, 0, 0, 4, 0, 0, 0, 65, 0, 0, 0, 5, 0, 0, 0, 68, 0, 0, 0, 6, 0, 0, 0, 71, 0, 0, 0, 0, 0, 0, 0, 0, 0, 0, 0, 109, 48, 0, 109, 49, 0, 109, 50, 0, 109, 51, 0, 109, 52, 0, 109, 53, 0]
theorem bbJmg3_0_is : img9 (bbRows 6) ((List.replicate 6 0).set 3 0) = bbJmg3_0 := by decide +kernel
theorem bbParse2_3_0 : ((bound_Parse.f 200 bbJmg3_0 16 0).map (bbOk2 3 0 (bbRows 6))) = some true := by decide +kernel
def bbJmg3_1 : List Int := [0, 0, 0, 0, 0, 0, 0, 0, 0, 0, 0, 0, 0, 0, 0, 0, 1, 0, 0, 0, 56, 0, 0, 0, 2, 0, 0, 0, 59, 0, 0, 0, 3, 0, 0, 0, 62, 0, 0, 0, 4, 0, 0, 0, 65, 0, 1, 0, 5, 0, 0, 0, 68, 0, 0, 0, 6, 0, 0, 0, 71, 0, 0, 0, 0, 0, 0, 0, 0, 0, 0, 0, 109, 48, 0, 109, 49, 0, 109, 50, 0, 109, 51, 0, 109, 52, 0, 109, 53, 0]
theorem bbJmg3_1_is : img9 (bbRows 6) ((List.replicate 6 0).set 3 1) = bbJmg3_1 := by decide +kernel
theorem bbParse2_3_1 : ((bound_Parse.f 200 bbJmg3_1 16 0).map (bbOk2 3 1 (bbRows 6))) = some true := by decide +kernel
def bbJmg3_2 : List Int := [0, 0, 0, 0, 0, 0, 0, 0, 0, 0, 0, 0, 0, 0, 0, 0, 1, 0, 0, 0, 56, 0, 0, 0, 2, 0, 0, 0, 59, 0, 0, 0, 3, 0, 0, 0, 62, 0, 0, 0, 4, 0, 0, 0, 65, 0, 2, 0, 5, 0, 0, 0, 68, 0, 0, 0, 6, 0, 0, 0, 71, 0, 0, 0, 0, 0, 0, 0, 0, 0, 0, 0, 109, 48, 0, 109, 49, 0, 109, 50, 0, 109, 51, 0, 109, 52, 0, 109, 53, 0]
theorem bbJmg3_2_is : img9 (bbRows 6) ((List.replicate 6 0).set 3 2) = bbJmg3_2 := by decide +kernel
theorem bbParse2_3_2 : ((bound_Parse.f 200 bbJmg3_2 16 0).map (bbOk2 3 2 (bbRows 6))) = some true := by decide +kernel
def bbJmg3_3 : List Int := [0, 0, 0, 0, 0, 0, 0, 0, 0, 0, 0, 0, 0, 0, 0, 0, 1, 0, 0, 0, 56, 0, 0, 0, 2, 0, 0, 0, 59, 0, 0, 0, 3, 0, 0, 0, 62, 0, 0, 0, 4, 0, 0, 0, 65, 0, 3, 0, 5, 0, 0, 0, 68, 0, 0, 0, 6, 0, 0, 0, 71, 0, 0, 0, 0, 0, 0, 0, 0, 0, 0, 0, 109, 48, 0, 109, 49, 0, 109, 50, 0, 109, 51, 0, 109, 52, 0, 109, 53, 0]
theorem bbJmg3_3_is : img9 (bbRows 6) ((List.replicate 6 0).set 3 3) = bbJmg3_3 := by decide +kernel
theorem bbParse2_3_3 : ((bound_Parse.f 200 bbJmg3_3 16 0).map (bbOk2 3 3 (bbRows 6))) = some true := by decide +kernel
def bbJmg4_0 : List Int := [0, 0, 0, 0, 0, 0, 0, 0, 0, 0, 0, 0, 0, 0, 0, 0, 1, 0, 0, 0, 56, 0, 0, 0, 2, 0, 0, 0, 59, 0, 0, 0, 3, 0, 0, 0, 62, 0, 0, 0, 4, 0, 0, 0, 65, 0, 0, 0, 5, 0, 0, 0, 68, 0, 0, 0, 6, 0, 0, 0, 71, 0, 0, 0, 0, 0, 0, 0, 0, 0, 0, 0, 109, 48, 0, 109, 49, 0, 109, 50, 0, 109, 51, 0, 109, 52, 0, 109, 53, 0]
theorem bbJmg4_0_is : img9 (bbRows 6) ((List.replicate 6 0).set 4 0) = bbJmg4_0 := by decide +kernel
theorem bbParse2_4_0 : ((bound_Parse.f 200 bbJmg4_0 16 0).map (bbOk2 4 0 (bbRows 6))) = some true := by decide +kernel
def bbJmg4_1 : List Int := [0, 0, 0, 0, 0, 0, 0, 0, 0, 0, 0, 0, 0, 0, 0, 0, 1, 0, 0, 0, 56, 0, 0, 0, 2, 0, 0, 0, 59, 0, 0, 0, 3, 0, 0, 0, 62, 0, 0, 0, 4, 0, 0, 0, 65, 0, 0, 0, 5, 0, 0, 0, 68, 0, 1, 0, 6, 0, 0, 0, 71, 0, 0, 0, 0, 0, 0, 0, 0, 0, 0, 0, 109, 48, 0, 109, 49, 0, 109, 50, 0, 109, 51, 0, 109, 52, 0, 109, 53, 0]
theorem bbJmg4_1_is : img9 (bbRows 6) ((List.replicate 6 0).set 4 1) = bbJmg4_1 := by decide +kernel
theorem bbParse2_4_1 : ((bound_Parse.f 200 bbJmg4_1 16 0).map (bbOk2 4 1 (bbRows 6))) = some true := by decide +kernel
def bbJmg4_2 : List Int := [0, 0, 0, 0, 0, 0, 0, 0, 0, 0, 0, 0, 0, 0, 0, 0, 1, 0, 0, 0, 56, 0, 0, 0, 2, 0, 0, 0, 59, 0, 0, 0, 3, 0, 0, 0, 62, 0, 0, 0, 4, 0, 0, 0, 65, 0, 0, 0, 5, 0, 0, 0, 68, 0, 2, 0, 6, 0, 0, 0, 71, 0, 0, 0, 0, 0, 0, 0, 0, 0, 0, 0, 109, 48, 0, 109, 49, 0, 109, 50, 0, 109, 51, 0, 109, 52, 0, 109, 53, 0]
theorem bbJmg4_2_is : img9 (bbRows 6) ((List.replicate 6 0).set 4 2) = bbJmg4_2 := by decide +kernel
theorem bbParse2_4_2 : ((bound_Parse.f 200 bbJmg4_2 16 0).map (bbOk2 4 2 (bbRows 6))) = some true := by decide +kernel
def bbJmg4_3 : List Int := [0, 0, 0, 0, 0, 0, 0, 0, 0, 0, 0, 0, 0, 0, 0, 0, 1, 0, 0, 0, 56, 0, 0, 0, 2, 0, 0, 0, 59, 0, 0, 0, 3, 0, 0, 0, 62, 0, 0, 0, 4, 0, 0, 0, 65, 0, 0, 0, 5, 0, 0, 0, 68, 0, 3, 0, 6, 0, 0, 0, 71, 0, 0, 0, 0, 0, 0, 0, 0, 0, 0, 0, 109, 48, 0, 109, 49, 0, 109, 50, 0, 109, 51, 0, 109, 52, 0, 109, 53, 0]
theorem bbJmg4_3_is : img9 (bbRows 6) ((List.replicate 6 0).set 4 3) = bbJmg4_3 := by decide +kernel
theorem bbParse2_4_3 : ((bound_Parse.f 200 bbJmg4_3 16 0).map (bbOk2 4 3 (bbRows 6))) = some true := by decide +kernel
def bbJmg5_0 : List Int := [0, 0, 0, 0, 0, 0, 0, 0, 0, 0, 0, 0, 0, 0, 0, 0, 1, 0, 0, 0, 56, 0, 0, 0, 2, 0, 0, 0, 59, 0, 0, 0, 3, 0, 0, 0, 62, 0, 0, 0, 4, 0, 0, 0, 65, 0, 0, 0, 5, 0, 0, 0, 68, 0, 0, 0, 6, 0, 0, 0, 71, 0, 0, 0, 0, 0, 0, 0, 0, 0, 0, 0, 109, 48, 0, 109, 49, 0, 109, 50, 0, 109, 51, 0, 109, 52, 0, 109, 53, 0]
theorem bbJmg5_0_is : img9 (bbRows 6) ((List.replicate 6 0).set 5 0) = bbJmg5_0 := by decide +kernel
theorem bbParse2_5_0 : ((bound_Parse.f 200 bbJmg5_0 16 0).map (bbOk2 5 0 (bbRows 6))) = some true := by decide +kernel
def bbJmg5_1 : List Int := [0, 0, 0, 0, 0, 0, 0, 0, 0, 0, 0, 0, 0, 0, 0, 0, 1, 0, 0, 0, 56, 0, 0, 0, 2, 0, 0, 0, 59, 0, 0, 0, 3, 0, 0, 0, 62, 0, 0, 0, 4, 0, 0, 0, 65, 0, 0, 0, 5, 0, 0, 0, 68, 0, 0, 0, 6, 0, 0, 0, 71, 0, 1, 0, 0, 0, 0, 0, 0, 0, 0, 0, 109, 48, 0, 109, 49, 0, 109, 50, 0, 109, 51, 0, 109, 52, 0, 109, 53, 0]
theorem bbJmg5_1_is : img9 (bbRows 6) ((List.replicate 6 0).set 5 1) = bbJmg5_1 := by decide +kernel
theorem bbParse2_5_1 : ((bound_Parse.f 200 bbJmg5_1 16 0).map (bbOk2 5 1 (bbRows 6))) = some true := by decide +kernel
def bbJmg5_2 : List Int := [0, 0, 0, 0, 0, 0, 0, 0, 0, 0, 0, 0, 0, 0, 0, 0, 1, 0, 0, 0, 56, 0, 0, 0, 2, 0, 0, 0, 59, 0, 0, 0, 3, 0, 0, 0, 62, 0, 0, 0, 4, 0, 0, 0, 65, 0, 0, 0, 5, 0, 0, 0, 68, 0, 0, 0, 6, 0, 0, 0, 71, 0, 2, 0, 0, 0, 0, 0, 0, 0, 0, 0, 109, 48, 0, 109, 49, 0, 109, 50, 0, 109, 51, 0, 109, 52, 0, 109, 53, 0]
theorem bbJmg5_2_is : img9 (bbRows 6) ((List.replicate 6 0).set 5 2) = bbJmg5_2 := by decide +kernel
theorem bbParse2_5_2 : ((bound_Parse.f 200 bbJmg5_2 16 0).map (bbOk2 5 2 (bbRows 6))) = some true := by decide +kernel
def bbJmg5_3 : List Int := [0, 0, 0, 0, 0, 0, 0, 0, 0, 0, 0, 0, 0, 0, 0, 0, 1, 0, 0, 0, 56, 0, 0, 0, 2, 0, 0, 0, 59, 0, 0, 0, 3, 0, 0, 0, 62, 0, 0, 0, 4, 0, 0, 0, 65, 0, 0, 0, 5, 0, 0, 0, 68, 0, 0, 0, 6, 0, 0, 0, 71, 0, 3, 0, 0, 0, 0, 0, 0, 0, 0, 0, 109, 48, 0, 109, 49, 0, 109, 50, 0, 109, 51, 0, 109, 52, 0, 109, 53, 0]
theorem bbJmg5_3_is : img9 (bbRows 6) ((List.replicate 6 0).set 5 3) = bbJmg5_3 := by decide +kernel
theorem bbParse2_5_3 : ((bound_Parse.f 200 bbJmg5_3 16 0).map (bbOk2 5 3 (bbRows 6))) = some true := by decide +kernel
theorem bbAll1 : ∀ n : Nat, n < 8 → ∃ p, bound_Parse.f 200 (img9 (bbRows (28 + n)) []) 16 0 = some p ∧ bbOk ((28 + n : Nat) : Int) (bbRows (28 + n)) p = true := by
  intro n hn
  have h : n = 0 ∨ n = 1 ∨ n = 2 ∨ n = 3 ∨ n = 4 ∨ n = 5 ∨ n = 6 ∨ n = 7 := by omega
  rcases h with rfl | rfl | rfl | rfl | rfl | rfl | rfl | rfl
  · obtain ⟨p, h1, h2⟩ := Option.map_eq_some_iff.1 bbParse28
    exact ⟨p, by rw [bbImg28_is]; exact h1, h2⟩
  · obtain ⟨p, h1, h2⟩ := Option.map_eq_some_iff.1 bbParse29
    exact ⟨p, by rw [bbImg29_is]; exact h1, h2⟩
  · obtain ⟨p, h1, h2⟩ := Option.map_eq_some_iff.1 bbParse30
    exact ⟨p, by rw [bbImg30_is]; exact h1, h2⟩
  · obtain ⟨p, h1, h2⟩ := Option.map_eq_some_iff.1 bbParse31
    exact ⟨p, by rw [bbImg31_is]; exact h1, h2⟩
  · obtain ⟨p, h1, h2⟩ := Option.map_eq_some_iff.1 bbParse32
    exact ⟨p, by rw [bbImg32_is]; exact h1, h2⟩
  · obtain ⟨p, h1, h2⟩ := Option.map_eq_some_iff.1 bbParse33
    exact ⟨p, by rw [bbImg33_is]; exact h1, h2⟩
  · obtain ⟨p, h1, h2⟩ := Option.map_eq_some_iff.1 bbParse34
    exact ⟨p, by rw [bbImg34_is]; exact h1, h2⟩
  · obtain ⟨p, h1, h2⟩ := Option.map_eq_some_iff.1 bbParse35
    exact ⟨p, by rw [bbImg35_is]; exact h1, h2⟩
theorem bbAll2 : ∀ k m : Nat, k < 6 → m < 4 → ∃ p, bound_Parse.f 200 (img9 (bbRows 6) ((List.replicate 6 0).set k (m : Int))) 16 0 = some p ∧ bbOk2 k m (bbRows 6) p = true := by
  intro k m hk hm
  have h : k = 0 ∨ k = 1 ∨ k = 2 ∨ k = 3 ∨ k = 4 ∨ k = 5 := by omega
  have h' : m = 0 ∨ m = 1 ∨ m = 2 ∨ m = 3 := by omega
  rcases h with rfl | rfl | rfl | rfl | rfl | rfl <;> rcases h' with rfl | rfl | rfl | rfl
  · obtain ⟨p, h1, h2⟩ := Option.map_eq_some_iff.1 bbParse2_0_0
    exact ⟨p, by rw [show (List.replicate 6 (0 : Int)).set 0 ((0 : Nat) : Int) = (List.replicate 6 0).set 0 0 from rfl, bbJmg0_0_is]; exact h1, h2⟩
  · obtain ⟨p, h1, h2⟩ := Option.map_eq_some_iff.1 bbParse2_0_1
    exact ⟨p, by rw [show (List.replicate 6 (0 : Int)).set 0 ((1 : Nat) : Int) = (List.replicate 6 0).set 0 1 from rfl, bbJmg0_1_is]; exact h1, h2⟩
  · obtain ⟨p, h1, h2⟩ := Option.map_eq_some_iff.1 bbParse2_0_2
    exact ⟨p, by rw [show (List.replicate 6 (0 : Int)).set 0 ((2 : Nat) : Int) = (List.replicate 6 0).set 0 2 from rfl, bbJmg0_2_is]; exact h1, h2⟩
  · obtain ⟨p, h1, h2⟩ := Option.map_eq_some_iff.1 bbParse2_0_3
    exact ⟨p, by rw [show (List.replicate 6 (0 : Int)).set 0 ((3 : Nat) : Int) = (List.replicate 6 0).set 0 3 from rfl, bbJmg0_3_is]; exact h1, h2⟩
  · obtain ⟨p, h1, h2⟩ := Option.map_eq_some_iff.1 bbParse2_1_0
    exact ⟨p, by rw [show (List.replicate 6 (0 : Int)).set 1 ((0 : Nat) : Int) = (List.replicate 6 0).set 1 0 from rfl, bbJmg1_0_is]; exact h1, h2⟩
  · obtain ⟨p, h1, h2⟩ := Option.map_eq_some_iff.1 bbParse2_1_1
    exact ⟨p, by rw [show (List.replicate 6 (0 : Int)).set 1 ((1 : Nat) : Int) = (List.replicate 6 0).set 1 1 from rfl, bbJmg1_1_is]; exact h1, h2⟩
  · obtain ⟨p, h1, h2⟩ := Option.map_eq_some_iff.1 bbParse2_1_2
    exact ⟨p, by rw [show (List.replicate 6 (0 : Int)).set 1 ((2 : Nat) : Int) = (List.replicate 6 0).set 1 2 from rfl, bbJmg1_2_is]; exact h1, h2⟩
  · obtain ⟨p, h1, h2⟩ := Option.map_eq_some_iff.1 bbParse2_1_3
    exact ⟨p, by rw [show (List.replicate 6 (0 : Int)).set 1 ((3 : Nat) : Int) = (List.replicate 6 0).set 1 3 from rfl, bbJmg1_3_is]; exact h1, h2⟩
  · obtain ⟨p, h1, h2⟩ := Option.map_eq_some_iff.1 bbParse2_2_0
    exact ⟨p, by rw [show (List.replicate 6 (0 : Int)).set 2 ((0 : Nat) : Int) = (List.replicate 6 0).set 2 0 from rfl, bbJmg2_0_is]; exact h1, h2⟩
  · obtain ⟨p, h1, h2⟩ := Option.map_eq_some_iff.1 bbParse2_2_1
    exact ⟨p, by rw [show (List.replicate 6 (0 : Int)).set 2 ((1 : Nat) : Int) = (List.replicate 6 0).set 2 1 from rfl, bbJmg2_1_is]; exact h1, h2⟩
  · obtain ⟨p, h1, h2⟩ := Option.map_eq_some_iff.1 bbParse2_2_2
    exact ⟨p, by rw [show (List.replicate 6 (0 : Int)).set 2 ((2 : Nat) : Int) = (List.replicate 6 0).set 2 2 from rfl, bbJmg2_2_is]; exact h1, h2⟩
  · obtain ⟨p, h1, h2⟩ := Option.map_eq_some_iff.1 bbParse2_2_3
    exact ⟨p, by rw [show (List.replicate 6 (0 : Int)).set 2 ((3 : Nat) : Int) = (List.replicate 6 0).set 2 3 from rfl, bbJmg2_3_is]; exact h1, h2⟩
  · obtain ⟨p, h1, h2⟩ := Option.map_eq_some_iff.1 bbParse2_3_0
    exact ⟨p, by rw [show (List.replicate 6 (0 : Int)).set 3 ((0 : Nat) : Int) = (List.replicate 6 0).set 3 0 from rfl, bbJmg3_0_is]; exact h1, h2⟩
  · obtain ⟨p, h1, h2⟩ := Option.map_eq_some_iff.1 bbParse2_3_1
    exact ⟨p, by rw [show (List.replicate 6 (0 : Int)).set 3 ((1 : Nat) : Int) = (List.replicate 6 0).set 3 1 from rfl, bbJmg3_1_is]; exact h1, h2⟩
  · obtain ⟨p, h1, h2⟩ := Option.map_eq_some_iff.1 bbParse2_3_2
    exact ⟨p, by rw [show (List.replicate 6 (0 : Int)).set 3 ((2 : Nat) : Int) = (List.replicate 6 0).set 3 2 from rfl, bbJmg3_2_is]; exact h1, h2⟩
  · obtain ⟨p, h1, h2⟩ := Option.map_eq_some_iff.1 bbParse2_3_3
    exact ⟨p, by rw [show (List.replicate 6 (0 : Int)).set 3 ((3 : Nat) : Int) = (List.replicate 6 0).set 3 3 from rfl, bbJmg3_3_is]; exact h1, h2⟩
  · obtain ⟨p, h1, h2⟩ := Option.map_eq_some_iff.1 bbParse2_4_0
    exact ⟨p, by rw [show (List.replicate 6 (0 : Int)).set 4 ((0 : Nat) : Int) = (List.replicate 6 0).set 4 0 from rfl, bbJmg4_0_is]; exact h1, h2⟩
  · obtain ⟨p, h1, h2⟩ := Option.map_eq_some_iff.1 bbParse2_4_1
    exact ⟨p, by rw [show (List.replicate 6 (0 : Int)).set 4 ((1 : Nat) : Int) = (List.replicate 6 0).set 4 1 from rfl, bbJmg4_1_is]; exact h1, h2⟩
  · obtain ⟨p, h1, h2⟩ := Option.map_eq_some_iff.1 bbParse2_4_2
    exact ⟨p, by rw [show (List.replicate 6 (0 : Int)).set 4 ((2 : Nat) : Int) = (List.replicate 6 0).set 4 2 from rfl, bbJmg4_2_is]; exact h1, h2⟩
  · obtain ⟨p, h1, h2⟩ := Option.map_eq_some_iff.1 bbParse2_4_3
    exact ⟨p, by rw [show (List.replicate 6 (0 : Int)).set 4 ((3 : Nat) : Int) = (List.replicate 6 0).set 4 3 from rfl, bbJmg4_3_is]; exact h1, h2⟩
  · obtain ⟨p, h1, h2⟩ := Option.map_eq_some_iff.1 bbParse2_5_0
    exact ⟨p, by rw [show (List.replicate 6 (0 : Int)).set 5 ((0 : Nat) : Int) = (List.replicate 6 0).set 5 0 from rfl, bbJmg5_0_is]; exact h1, h2⟩
  · obtain ⟨p, h1, h2⟩ := Option.map_eq_some_iff.1 bbParse2_5_1
    exact ⟨p, by rw [show (List.replicate 6 (0 : Int)).set 5 ((1 : Nat) : Int) = (List.replicate 6 0).set 5 1 from rfl, bbJmg5_1_is]; exact h1, h2⟩
  · obtain ⟨p, h1, h2⟩ := Option.map_eq_some_iff.1 bbParse2_5_2
    exact ⟨p, by rw [show (List.replicate 6 (0 : Int)).set 5 ((2 : Nat) : Int) = (List.replicate 6 0).set 5 2 from rfl, bbJmg5_2_is]; exact h1, h2⟩
  · obtain ⟨p, h1, h2⟩ := Option.map_eq_some_iff.1 bbParse2_5_3
    exact ⟨p, by rw [show (List.replicate 6 (0 : Int)).set 5 ((3 : Nat) : Int) = (List.replicate 6 0).set 5 3 from rfl, bbJmg5_3_is]; exact h1, h2⟩
end Go.Proofs.Ytjifmpjpccibnaa.Pure
