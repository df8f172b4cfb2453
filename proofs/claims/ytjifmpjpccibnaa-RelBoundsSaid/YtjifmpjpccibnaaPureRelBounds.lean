/- RelBounds' plain law: as many sites may be as the bound says, and no more. (No condition.) -/
import Derived.Test.YtjifmpjpccibnaaDx66
import Derived.Test.YtjifmpjpccibnaaPf
namespace Go.Proofs.Ytjifmpjpccibnaa.Pure
open Go.RowKit Go.Proofs.Ytjifmpjpccibnaa.D Go.Proofs.YtjifmpjpccibnaaW.PrintWords Go.Proofs.YtjifmpjpccibnaaW.PrintLast Go.Proofs.YtjifmpjpccibnaaW.PrintMore Go.Proofs.Ytjifmpjpccibnaa.Pd Go.Proofs.Ytjifmpjpccibnaa.Pe Go.Proofs.Ytjifmpjpccibnaa.Pf

theorem awake10 : slipwaylaw10_awake.f 60 = some true := by decide +kernel
theorem awake10_is (k : Nat) (hk : 60 ≤ k) : slipwaylaw10_awake.f k = some true := at_rounds slipwaylaw10_awake.mono hk awake10
theorem rb_val (i : Nat) (hi : i < 1024) : Go.bits .or .i64 12288 (wrap64 (4 * (i : Int))) = ((12288 + 4 * i : Nat) : Int) := by
  have hw : wrap64 (4 * (i : Int)) = ((4 * i : Nat) : Int) := by unfold wrap64; omega
  rw [hw, bits_join .i64 62 (by decide) (fun n h0 h1 => by rw [IntKind.wrap_i64]; omega) 12 12288 _ (by omega) (by omega) (by omega) (by omega) (by omega) (by omega)]
  omega
theorem rb_steps (N M : Nat) (hN : N ≤ 600) (k : Nat) : ∀ (j i : Nat), i + j = N → slipwaylaw10_RelBounds.l0 (k + j) (N : Int) (M : Int) (flat (rbEs M i)) (i : Int) = slipwaylaw10_RelBounds.l0 k (N : Int) (M : Int) (flat (rbEs M N)) (N : Int) := by
  intro j
  induction j with
  | zero =>
    intro i hi
    rw [Nat.add_zero] at hi ⊢
    rw [hi]
  | succ j ih =>
    intro i hi
    have hw : wrap64 ((i : Int) + 1) = ((i + 1 : Nat) : Int) := by unfold wrap64; omega
    have hl := rbEs_len M i
    have e1 : (((12288 + 4 * i : Nat)) : Int) % 256 = (((12288 + 4 * i) % 256 : Nat) : Int) := by omega
    have e2 : (((12288 + 4 * i : Nat)) : Int) / 256 % 256 = (((12288 + 4 * i) / 256 : Nat) : Int) := by omega
    rw [← ih (i + 1) (by omega)]
    rw [show k + (j + 1) = (k + j) + 1 by omega]
    conv => lhs; simp only [slipwaylaw10_RelBounds.l0]
    rw [if_pos (by omega), rb_val i (by omega), Option.bind_some, if_pos (by rw [flat_len]; simp; omega), Option.bind_some, e1, e2]
    by_cases hm : i < M
    · rw [if_pos (by omega), Option.bind_some, if_pos (by rw [List.length_append, flat_len]; simp; omega), hw]
      congr 1
      rw [rbEs, if_pos hm, flat_append]
      simp [flat]
    · rw [if_neg (by omega), hw]
      congr 1
      rw [rbEs, if_neg hm, flat_append]
      simp [flat]
def pad (es : List Nat) : List Nat := if es.length % 2 = 0 then es else es ++ [0]
theorem pad_even (es : List Nat) : (pad es).length % 2 = 0 := by
  unfold pad
  split
  · assumption
  · simp; omega
theorem pad_len (es : List Nat) : (pad es).length ≤ es.length + 1 := by
  unfold pad
  split <;> simp
theorem rb_pad (N M : Nat) (hN : N ≤ 600) (k : Nat) : slipwaylaw10_RelBounds.l0 (k + 1) (N : Int) (M : Int) (flat (rbEs M N)) (N : Int) = slipwaylaw10_RelBounds.j1 k (N : Int) (flat (pad (rbEs M N))) := by
  have hl := rbEs_len M N
  simp only [slipwaylaw10_RelBounds.l0]
  rw [if_neg (by omega), flat_len]
  unfold pad
  by_cases h : (rbEs M N).length % 2 = 0
  · rw [if_pos (by omega), if_pos h]
  · rw [if_neg (by omega), Option.bind_some, if_pos (by simp; omega), if_neg h, flat_append]
    rfl
/-- What is parsed. -/
theorem rb_parse (Z : List Int) (hZ : Z = List.replicate 4096 0) (es : List Nat) (hes : ∀ v ∈ es, v < 65536) (hev : es.length % 2 = 0) (hl : es.length ≤ 2000) (k : Nat) :
    rel_Parse.f k (Z ++ ([0, 0, 0, 0, (wrap64 (((flat es).length : Int) + 8)) % 256, ((wrap64 (((flat es).length : Int) + 8)) / 256) % 256, 0, 0] : List Int) ++ flat es) 4096 (wrap64 (((flat es).length : Int) + 8)) =
      some (match entsL (4104 + 2 * es.length) 0 es [] (List.replicate (4104 + 2 * es.length) 0) with
        | (true, o, _) => (o, 0)
        | (false, _, _) => ([], 9)) := by
  have hfl := flat_len es
  have hw : wrap64 (((flat es).length : Int) + 8) = ((8 + 2 * es.length : Nat) : Int) := by rw [hfl]; unfold wrap64; omega
  rw [hw]
  have hZl : Z.length = 4096 := by rw [hZ, List.length_replicate]
  have hZb : byteB Z = true := byteB_mem.2 fun x hx => by rw [hZ, List.mem_replicate] at hx; omega
  clear hZ
  have himg : Z ++ ([0, 0, 0, 0, ((8 + 2 * es.length : Nat) : Int) % 256, ((8 + 2 * es.length : Nat) : Int) / 256 % 256, 0, 0] : List Int) ++ flat es = Z ++ (YtjifmpjpccibnaaA.leB ((0 : Nat) : Int) 4 ++ YtjifmpjpccibnaaA.leB ((8 + 2 * es.length : Nat) : Int) 4 ++ flat es ++ []) := by
    have e2 : ((8 + 2 * es.length : Nat) : Int) / 65536 % 256 = 0 := by omega
    have e3 : ((8 + 2 * es.length : Nat) : Int) / 16777216 % 256 = 0 := by omega
    simp only [YtjifmpjpccibnaaA.leB, List.range_succ, List.range_zero]
    simp at e2 e3 ⊢
    omega
  rw [himg]
  generalize hI : Z ++ (YtjifmpjpccibnaaA.leB ((0 : Nat) : Int) 4 ++ YtjifmpjpccibnaaA.leB ((8 + 2 * es.length : Nat) : Int) 4 ++ flat es ++ []) = img
  have hil : img.length = 4104 + 2 * es.length := by
    rw [← hI]
    simp only [List.length_append, hZl, YtjifmpjpccibnaaA.leB_length, hfl, List.length_nil]
    omega
  have hbb : byteB img = true := by
    rw [← hI]
    simp only [byteB_append, Bool.and_eq_true]
    refine ⟨hZb, ⟨⟨⟨byteB_mem.2 (YtjifmpjpccibnaaA.leB_bytes _ _), byteB_mem.2 (YtjifmpjpccibnaaA.leB_bytes _ _)⟩, flat_bytes es hes⟩, rfl⟩⟩
  have hblk := block_is Z 0 es [] (4104 + 2 * es.length) [] (List.replicate img.length 0) (by omega) (by omega) hes hev (by omega) img hI.symm (by rw [hZl]; omega)
  rw [hZl] at hblk
  unfold rel_Parse.f
  rw [if_pos ⟨hbb, by omega⟩, if_neg (by omega), if_pos (by omega)]
  rw [show ((4096 : Int) + ((8 + 2 * es.length : Nat) : Int)).toNat = 4104 + 2 * es.length by omega, show (4096 : Int).toNat = 4096 from rfl, hil]
  rw [hil] at hblk
  refine congrArg some ?_
  rw [relLoop, if_pos (by omega), hblk]
  rcases entsL (4104 + 2 * es.length) 0 es [] (List.replicate (4104 + 2 * es.length) 0) with ⟨b, o, t⟩
  cases b
  · rfl
  · simp only [blkOut]
    rw [show 4104 + 2 * es.length = (4103 + 2 * es.length) + 1 by omega, relLoop, if_neg (by omega)]
theorem pad_ents (n : Nat) (es : List Nat) (out : List S60) (tk : List Int) : entsL n 0 (pad es) out tk = entsL n 0 es out tk := by
  unfold pad
  split
  · rfl
  · rw [entsL_append]
    rcases entsL n 0 es out tk with ⟨b, o, t⟩
    cases b
    · rfl
    · simp only [entsL, entry_zero]
theorem RelBounds : slipwaylaw10_RelBounds.Pure := by
  intro a0 a1 _ _
  obtain ⟨n0, h7, e0⟩ := YtjifmpjpccibnaaA.i64_and a0 7 (by decide)
  obtain ⟨M, h63, e1⟩ := YtjifmpjpccibnaaA.i64_and a1 63 (by decide)
  obtain ⟨N, hN⟩ : ∃ N, n0 + 508 = N := ⟨_, rfl⟩
  refine ⟨(2000 + 1) + N, ?_⟩
  unfold slipwaylaw10_RelBounds.f
  rw [show (7 : Int) = ((7 : Nat) : Int) from rfl, e0, show (63 : Int) = ((63 : Nat) : Int) from rfl, e1]
  rw [show wrap64 ((n0 : Int) + 508) = (N : Int) by unfold wrap64; omega]
  have h := rb_steps N M (by omega) (2000 + 1) N 0 (by omega)
  rw [show ([] : List Int) = flat (rbEs M 0) from rfl]
  rw [show (0 : Int) = ((0 : Nat) : Int) from rfl, h, rb_pad N M (by omega)]
  have hlen := rbEs_len M N
  have hpl := pad_len (rbEs M N)
  have hes : ∀ v ∈ pad (rbEs M N), v < 65536 := by
    intro v hv
    unfold pad at hv
    split at hv
    · exact rbEs_lt M N (by omega) v hv
    · rcases List.mem_append.1 hv with hv | hv
      · exact rbEs_lt M N (by omega) v hv
      · simp at hv; omega
  obtain ⟨Z, hZ⟩ : ∃ Z : List Int, Z = List.replicate 4096 0 := ⟨_, rfl⟩
  have hZl : Z.length = 4096 := by rw [hZ, List.length_replicate]
  have hp := rb_parse Z hZ (pad (rbEs M N)) hes (pad_even _) (by omega) 1999
  rw [show 2000 = 1999 + 1 from rfl]
  simp only [slipwaylaw10_RelBounds.j1]
  rw [if_pos (by omega), ← hZ, Option.bind_some, Option.bind_some, if_pos (by rw [hZl]; simp), Option.bind_some, if_pos (by rw [List.length_append, hZl, flat_len]; simp; omega), hp, Option.bind_some, pad_ents]
  by_cases h512 : N ≤ 512
  · rw [ents_few _ M N h512 (by omega)]
    simp only
    rw [if_neg (by omega), if_pos trivial, outs_len, if_pos rfl]
    have hw : wrap64 ((N : Int) - 1) = ((N - 1 : Nat) : Int) := by unfold wrap64; omega
    have hw2 : wrap64 (4 * ((N - 1 : Nat) : Int)) = ((4 * (N - 1) : Nat) : Int) := by unfold wrap64; omega
    have hrd : (rd_T60 (outs N) ((N - 1 : Nat) : Int)).f1 = ((4 * (N - 1) : Nat) : Int) := by
      simp [rd_T60, outs, show N - 1 < N by omega]
    rw [hw, if_pos (by omega), if_pos (by omega), hw2, hrd, if_pos rfl, sites_is (outs N) (by rw [outs_len]; omega) 1999 (by rw [outs_len]; omega), Option.bind_some]
    rw [sitesL_len (outs N) (by intro x hx; simp [outs] at hx; obtain ⟨j, _, rfl⟩ := hx; exact .inl rfl), outs_len, if_pos rfl, awake10_is 1999 (by omega)]
    rfl
  · obtain ⟨t, ht⟩ := rbEs_more M (N - 513)
    rw [show 513 + (N - 513) = N by omega] at ht
    have hm := ents_many (4104 + 2 * (pad (rbEs M N)).length) M (by omega) t
    rw [← ht] at hm
    rcases hr : entsL (4104 + 2 * (pad (rbEs M N)).length) 0 (rbEs M N) [] (List.replicate (4104 + 2 * (pad (rbEs M N)).length) 0) with ⟨b, o, tt⟩
    rw [hr] at hm
    simp only at hm
    subst hm
    simp only
    rw [if_pos (by omega), if_pos trivial, if_pos (by rfl), awake10_is 1999 (by omega)]
    rfl
end Go.Proofs.Ytjifmpjpccibnaa.Pure
