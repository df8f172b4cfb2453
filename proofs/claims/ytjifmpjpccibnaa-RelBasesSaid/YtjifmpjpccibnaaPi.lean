/- Plain laws: what has been laid is read again. -/
import Derived.Test.YtjifmpjpccibnaaPh
namespace Go.Proofs.Ytjifmpjpccibnaa.Pi
open Go.RowKit Go.Proofs.YtjifmpjpccibnaaW.PrintWords Go.Proofs.YtjifmpjpccibnaaW.PrintLast Go.Proofs.YtjifmpjpccibnaaW.PrintMore Go.Proofs.Ytjifmpjpccibnaa.D Go.Proofs.Ytjifmpjpccibnaa.Pd Go.Proofs.Ytjifmpjpccibnaa.Pg Go.Proofs.Ytjifmpjpccibnaa.Ph
set_option linter.unusedVariables false

theorem head_bytes (n : Nat) : byteB (m10Head n) = true := by
  rw [byteB_mem]
  intro x hx
  simp only [m10Head, List.mem_map] at hx
  obtain ⟨i, _, rfl⟩ := hx
  omega
theorem head_len (n : Nat) : (m10Head n).length = n := by simp [m10Head]
theorem blocks_ok (fu : Nat) : ∀ L : List S60, byteB (m10Blocks fu L) = true ∧ (m10Blocks fu L).length ≤ 12 * L.length := by
  induction fu with
  | zero => intro L; exact ⟨rfl, by simp [m10Blocks]⟩
  | succ fu ih =>
    intro L
    rcases L with _ | ⟨x, r⟩
    · exact ⟨rfl, by simp [m10Blocks]⟩
    · obtain ⟨p, hp⟩ : ∃ p, x.f1.toNat / 4096 = p := ⟨_, rfl⟩
      obtain ⟨es, hes⟩ : ∃ es, ((x :: r).takeWhile (pg p)).map m10Val = es := ⟨_, rfl⟩
      obtain ⟨rest, hrest⟩ : ∃ rest, (x :: r).dropWhile (pg p) = rest := ⟨_, rfl⟩
      have hsplit : (x :: r).takeWhile (pg p) ++ rest = x :: r := by rw [← hrest]; exact List.takeWhile_append_dropWhile
      have h1 : (x :: r).takeWhile (pg p) ≠ [] := by
        rw [List.takeWhile_cons, if_pos (by simp [pg, hp])]
        simp
      have h2 := congrArg List.length hsplit
      rw [List.length_append] at h2
      have h3 := List.length_pos_iff.2 h1
      have h4 : es.length = ((x :: r).takeWhile (pg p)).length := by rw [← hes, List.length_map]
      have hpl := pad2_len es
      obtain ⟨hb, hl⟩ := ih rest
      have hv : ∀ v ∈ pad2 es, v < 65536 := by
        have h1 : ∀ v ∈ es, v < 65536 := by
          intro v hv
          rw [← hes] at hv
          obtain ⟨y, _, rfl⟩ := List.mem_map.1 hv
          exact m10Val_lt y
        intro v hv
        unfold pad2 at hv
        split at hv
        · exact h1 v hv
        · rcases List.mem_append.1 hv with hv | hv
          · exact h1 v hv
          · simp at hv; omega
      simp only [m10Blocks, hp, m10Row_is, hes, hrest, m10Pad_is, m10Block, flat_len, byteB_append, Bool.and_eq_true, List.length_append, YtjifmpjpccibnaaA.leB_length]
      refine ⟨⟨⟨⟨byteB_mem.2 (YtjifmpjpccibnaaA.leB_bytes _ _), byteB_mem.2 (YtjifmpjpccibnaaA.leB_bytes _ _)⟩, flat_bytes _ hv⟩, hb⟩, ?_⟩
      omega
theorem parse_made (L : List S60) (hL : ∀ x ∈ L, x.f1 ≤ 2147483647) (hl : L.length ≤ 60) (ahead : Nat) (h0 : 0 < ahead) (h1 : ahead ≤ 1048576) (k : Nat) :
    rel_Parse.f k (m10Head ahead ++ m10Blocks 61 L) (ahead : Int) ((m10Blocks 61 L).length : Int) =
      some (match foldS (ahead + (m10Blocks 61 L).length) L [] (List.replicate (ahead + (m10Blocks 61 L).length) 0) with
        | (true, o, _) => (o, 0)
        | (false, _, _) => ([], 9)) := by
  obtain ⟨hb, hbl⟩ := blocks_ok 61 L
  have hil : (m10Head ahead ++ m10Blocks 61 L).length = ahead + (m10Blocks 61 L).length := by rw [List.length_append, head_len]
  unfold rel_Parse.f
  rw [if_pos ⟨by rw [byteB_append, head_bytes, hb]; rfl, by rw [hil]; omega⟩, if_neg (by omega), if_pos ⟨by omega, by omega, by rw [hil]; omega⟩]
  rw [show ((ahead : Int) + ((m10Blocks 61 L).length : Int)).toNat = ahead + (m10Blocks 61 L).length by omega, Int.toNat_natCast, hil]
  have h := blocks_parse 61 L (m10Head ahead) [] (List.replicate (ahead + (m10Blocks 61 L).length) 0) (ahead + (m10Blocks 61 L).length + 1) (ahead + (m10Blocks 61 L).length) _ hL (by omega) (by omega) rfl hil.symm (by rw [head_len]; omega)
  rw [head_len, hil] at h
  rw [h]
  rcases foldS (ahead + (m10Blocks 61 L).length) L [] (List.replicate (ahead + (m10Blocks 61 L).length) 0) with ⟨b, o, t⟩
  cases b <;> rfl
theorem kind_3 (x : S60) (h : x.f0 = 3) : m10Kind x = 3 := by unfold m10Kind; rw [h]; decide
theorem kind_10 (x : S60) (h : x.f0 = 10) : m10Kind x = 10 := by unfold m10Kind; rw [h]; decide
theorem sl_al (x : S60) (h : x.f0 = 3 ∨ x.f0 = 10) : (sl x : Int) = al x := by
  unfold sl al
  rcases h with h | h <;> rw [h] <;> rfl
theorem good_inB (long : Nat) (out : List S60) (h : InB long out) : Pg.Good out := by
  intro x hx
  obtain ⟨h1, h2, h3⟩ := h x hx
  refine ⟨by rcases h1 with h1 | h1 <;> omega, h2, ?_⟩
  unfold sl
  rcases h1 with h1 | h1 <;> rw [h1] <;> decide
theorem fold_ap (n long : Nat) (hn : long ≤ n) (L : List S60) : ∀ out : List S60, Ap long (out ++ L) → foldS n L out (TK n out) = (true, out ++ L, TK n (out ++ L)) := by
  induction L with
  | nil => intro out h; simp [foldS]
  | cons x r ih =>
    intro out h
    have hout : InB long out := fun y hy => h.inb y (List.mem_append_left _ hy)
    obtain ⟨hk, h0, h1⟩ := h.inb x (by simp)
    have hsl := sl_al x hk
    have hkd : (m10Kind x : Int) = x.f0 ∧ relLong (m10Kind x) = sl x ∧ m10Kind x ≠ 0 := by
      rcases hk with hk | hk
      · rw [kind_3 x hk]; exact ⟨hk.symm, by unfold sl; rw [hk]; rfl, by decide⟩
      · rw [kind_10 x hk]; exact ⟨hk.symm, by unfold sl; rw [hk]; rfl, by decide⟩
    have hpos : 0 < sl x := (good_inB long _ h.inb x (by simp)).2.2
    have hlap : lap x.f1.toNat (sl x) out = false := by
      simp only [lap, List.any_eq_false, Bool.and_eq_true, decide_eq_true_eq, not_and]
      intro y hy h2
      have hp := (List.pairwise_append.1 h.apart).2.2 y hy x (by simp)
      obtain ⟨hyk, hy0, hy1⟩ := hout y hy
      have hsy := sl_al y hyk
      omega
    have hfew := h.few
    simp only [List.length_append, List.length_cons] at hfew
    simp only [foldS]
    rw [ent2_TK n _ _ out (good_inB long out hout), if_neg hkd.2.2, hkd.2.1, if_neg (by rw [hlap]; simp; omega)]
    have hx : (⟨(m10Kind x : Int), (x.f1.toNat : Int)⟩ : S60) = x := by
      rcases x with ⟨a, b⟩
      simp only at hkd h0 ⊢
      rw [hkd.1, Int.toNat_of_nonneg h0]
    rw [hx]
    have := ih (out ++ [x]) (by rw [List.append_assoc]; exact h)
    simp only [List.append_assoc, List.singleton_append] at this ⊢
    exact this
theorem fold_bad (n long : Nat) (hn : long ≤ n) (own : List S60) (h : Ap long own) (y : S60) (hy : y ∈ own) : (foldS n (own ++ [⟨3, y.f1 + 3⟩]) [] (TK n [])).1 = false := by
  have h1 := fold_ap n long hn own [] h
  simp only [List.nil_append] at h1
  rw [foldS_append, h1]
  obtain ⟨hk, h0, h2⟩ := h.inb y hy
  have hsl := sl_al y hk
  have hal : al y = 4 ∨ al y = 8 := by unfold al; split <;> simp
  simp only [foldS]
  rw [ent2_TK n _ _ own (good_inB long own h.inb), if_neg (by rw [kind_3 _ rfl]; decide), if_pos]
  refine .inr (.inr (.inr ?_))
  rw [kind_3 _ rfl]
  simp only [lap, List.any_eq_true, Bool.and_eq_true, decide_eq_true_eq]
  refine ⟨y, hy, ?_⟩
  have : relLong 3 = 4 := rfl
  omega
end Go.Proofs.Ytjifmpjpccibnaa.Pi
