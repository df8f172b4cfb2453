/- Rows of bytes of the call's own whose spare end may be marked: what '[]byte(s)' lays. They are read, written, appended to and handed on. -/
import Derived.Test.YtjifmpjpccibnaaWWords
import Derived.Test.YtjifmpjpccibnaaWLast
import Derived.Test.YtjifmpjpccibnaaWMore
import Derived.Test.YtjifmpjpccibnaaWKept
import Derived.Test.YtjifmpjpccibnaaWShare
import Derived.Deep.AppendSrc
import Derived.Deep.Upon
import Derived.Lib.ConvBytes
import Derived.Laws.BytesArg
import Derived.Laws.IdiomCopy
import Derived.Lib.Bytealg
namespace Go.Proofs.YtjifmpjpccibnaaE
open Go.RowKit Go.Proofs.YtjifmpjpccibnaaW.PrintWords Go.Proofs.YtjifmpjpccibnaaW.PrintLast Go.Proofs.YtjifmpjpccibnaaW.PrintMore
set_option linter.unusedVariables false
set_option linter.unusedSimpArgs false

/-- A slice of bytes in a block of the call's own (from base on), of which no cell is marked; the block's end may be. -/
def ERow (w : World) (base : Nat) (v : Value) (xs : List Int) : Prop :=
  (v = .slice none 0 0 ∧ xs = []) ∨
  ∃ g cap, v = .slice (some ⟨g, 0, none⟩) xs.length cap ∧ base ≤ g ∧ g < w.heap.size ∧ xs.length ≤ cap ∧ cap ≤ maxLen ∧
    (∀ j, j < cap → (w.cell? ⟨g, j, none⟩).isSome = true ∧ w.frozen? ⟨g, j, none⟩ = false) ∧
    (∀ j, j < xs.length → w.cell? ⟨g, j, none⟩ = some (.int .u8 (xs.getD j 0)))

theorem cell_same {w w1 : World} {g : Nat} (h : w1.heap[g]? = w.heap[g]?) (j : Nat) : w1.cell? ⟨g, j, none⟩ = w.cell? ⟨g, j, none⟩ ∧ w1.frozen? ⟨g, j, none⟩ = w.frozen? ⟨g, j, none⟩ := by
  simp [World.cell?, World.frozen?, h]

theorem setCell_drewN_ (w : World) (n : Nat) (a : Addr) (v : Value) : (w.drewN n).setCell a v = (w.setCell a v).drewN n := rfl
theorem ERow.nil (w : World) (base : Nat) : ERow w base (.slice none 0 0) [] := .inl ⟨rfl, rfl⟩
theorem ERow.step {w w1 : World} {base : Nat} {v : Value} {xs : List Int} (h : ERow w base v xs) (hs : w.heap.size ≤ w1.heap.size) (hm : ∀ k, v.ownBlock = some k → k < w.heap.size → w1.heap[k]? = w.heap[k]?) : ERow w1 base v xs := by
  rcases h with h | ⟨g, cap, rfl, hb, hg, hl, hc, h1, h2⟩
  · exact .inl h
  · have hk := hm g rfl hg
    refine .inr ⟨g, cap, rfl, hb, Nat.lt_of_lt_of_le hg hs, hl, hc, fun j hj => ?_, fun j hj => ?_⟩
    · rw [(cell_same hk j).1, (cell_same hk j).2]; exact h1 j hj
    · rw [(cell_same hk j).1]; exact h2 j hj
theorem ERow.below {w w1 : World} {base : Nat} {v : Value} {xs : List Int} (h : ERow w base v xs) (hb : Below w.heap.size w w1) : ERow w1 base v xs := h.step hb.size (fun k _ hk => hb.block k hk)
theorem ERow.drewN {w : World} {base : Nat} {v : Value} {xs : List Int} (h : ERow w base v xs) (n : Nat) : ERow (w.drewN n) base v xs := h.below (pw_below_drewN (Below.refl _ _) n)
theorem ERow.drew {w : World} {base : Nat} {v : Value} {xs : List Int} (h : ERow w base v xs) : ERow w.drew base v xs := h.below (below_drew (Below.refl _ _))
theorem ERow.alloc {w : World} {base : Nat} {v : Value} {xs : List Int} (h : ERow w base v xs) (o : Obj) : ERow (w.alloc o) base v xs := h.below (below_alloc (Below.refl _ _) o)
theorem ERow.lower {w : World} {base base' : Nat} {v : Value} {xs : List Int} (h : ERow w base v xs) (hb : base' ≤ base) : ERow w base' v xs := by
  rcases h with h | ⟨g, cap, rfl, hg, r⟩
  · exact .inl h
  · exact .inr ⟨g, cap, rfl, Nat.le_trans hb hg, r⟩
theorem ERow.block {w : World} {base : Nat} {v : Value} {xs : List Int} (h : ERow w base v xs) : ∀ k, v.ownBlock = some k → base ≤ k ∧ k < w.heap.size := by
  intro k hk
  rcases h with ⟨rfl, _⟩ | ⟨g, cap, rfl, hb, hg, _⟩
  · simp [Value.ownBlock] at hk
  · obtain rfl : g = k := by simpa [Value.ownBlock] using hk
    exact ⟨hb, hg⟩
theorem ERow.slice {w : World} {base : Nat} {v : Value} {xs : List Int} (h : ERow w base v xs) : ∃ A c, v = .slice A xs.length c ∧ xs.length ≤ c ∧ c ≤ maxLen := by
  rcases h with ⟨rfl, rfl⟩ | ⟨g, cap, rfl, hb, hg, hl, hc, _⟩
  · exact ⟨none, 0, rfl, Nat.le_refl _, by simp [maxLen]⟩
  · exact ⟨_, cap, rfl, hl, hc⟩
/-- As a row that is read. -/
theorem ERow.C {w : World} {base : Nat} {A : Option Addr} {n c : Nat} {xs : List Int} (h : ERow w base (.slice A n c) xs) : n = xs.length ∧ n ≤ c ∧ Kd.C (Kd.int .u8) w A xs.length xs := by
  rcases h with ⟨h1, rfl⟩ | ⟨g, cap, h1, hb, hg, hl, hc, hf, h2⟩
  · simp only [Value.slice.injEq] at h1
    obtain ⟨rfl, rfl, rfl⟩ := h1
    exact ⟨rfl, Nat.le_refl _, Kd.C_of_reads (d := (0 : Int)) (h1 := fun _ => rfl) ⟨rfl, by simp, fun h => absurd h (by simp)⟩⟩
  · simp only [Value.slice.injEq] at h1
    obtain ⟨rfl, rfl, rfl⟩ := h1
    refine ⟨rfl, hl, Kd.C_of_reads (d := (0 : Int)) (h1 := fun _ => rfl) ⟨rfl, by simp only [maxLen] at hc; omega, fun _ => ⟨_, rfl, fun j hj => ?_⟩⟩⟩
    rw [add_plain]
    exact h2 j hj
/-- As a row that is shared: what is new since base. -/
theorem ERow.V {w : World} {base base' : Nat} {v : Value} {xs : List Int} (e : Nat) (h : ERow w base v xs) : Kd.V (Kd.int .u8) e w base' (fun k => base ≤ k) v xs := by
  obtain ⟨A, c, rfl, hl, _⟩ := h.slice
  refine ⟨A, c, rfl, hl, fun W' hW => ?_⟩
  rcases h with ⟨h1, rfl⟩ | ⟨g, cap, h1, hb, hg, hl2, hc, hf, h2⟩
  · exact Kd.C_of_reads (d := (0 : Int)) (h1 := fun _ => rfl) ⟨rfl, by simp, fun h => absurd h (by simp)⟩
  · simp only [Value.slice.injEq] at h1
    obtain ⟨rfl, _, rfl⟩ := h1
    refine Kd.C_of_reads (d := (0 : Int)) (h1 := fun _ => rfl) ⟨rfl, by simp only [maxLen] at hc; omega, fun _ => ⟨_, rfl, fun j hj => ?_⟩⟩
    rw [add_plain, (cell_same (hW g hb hg) j).1]
    exact h2 j hj
theorem ERow.of_own {w : World} {base : Nat} {e : TypeId} {v : Value} {xs : List Int} (h : w.ownsRow base e 1 v xs.length (nums .u8 xs)) : ERow w base v xs := by
  rcases h.2 with ⟨rfl, h1⟩ | ⟨g, cap, cur, rfl, hb, hh, hl, hm, hs, ht⟩
  · exact .inl ⟨rfl, List.eq_nil_of_length_eq_zero h1⟩
  · have hs' : cur.size = cap := by simpa using hs
    refine .inr ⟨g, cap, rfl, hb, (Array.getElem?_eq_some_iff.1 hh).1, hl, hm, fun j hj => ?_, fun j hj => ?_⟩
    · simp [World.cell?, World.frozen?, hh, show j < cur.size by omega]
    · have hc := h.cells (g := g) rfl j (.int .u8 (xs.getD j 0)) (by simp [nums, hj])
      rwa [add_plain] at hc
theorem ERow.of_R {w : World} {base : Nat} {e : Nat} {ok : Nat → Prop} {v : Value} {xs : List Int} (h : Kd.R (Kd.int .u8) e w base ok v xs) : ERow w base v xs := ERow.of_own (Kd.own_of_R h)

theorem grown_setCells (b : Nat) : ∀ (vs : List Value) (o : Nat) (w : World), w.grownBy (w.setCells b o vs) (some b)
  | [], _, w => ⟨rfl, rfl, rfl, Nat.le_refl _, fun _ _ _ => rfl⟩
  | v :: r, o, w => by
    have h1 : w.grownBy (w.setCell ⟨b, o, none⟩ v) (some b) := ⟨rfl, rfl, rfl, by simp [World.setCell], fun k hk hne => Below.heap_setCell w ⟨b, o, none⟩ v k (fun e => hne (by rw [e]))⟩
    have h2 := grown_setCells b r (o + 1) (w.setCell ⟨b, o, none⟩ v)
    exact ⟨h2.os.trans h1.os, h2.tape.trans h1.tape, h2.output.trans h1.output, Nat.le_trans h1.size h2.size, fun k hk hne => (h2.block k (Nat.lt_of_lt_of_le hk h1.size) hne).trans (h1.block k hk hne)⟩
theorem isSome_setCells' (b : Nat) : ∀ (vs : List Value) (o : Nat) (w : World) (q : Addr), (w.cell? q).isSome = true → ((w.setCells b o vs).cell? q).isSome = true
  | [], _, _, _, h => h
  | v :: r, o, w, q, h => by
    refine isSome_setCells' b r (o + 1) _ q ?_
    by_cases e : (⟨b, o, none⟩ : Addr) = q
    · subst e
      obtain ⟨u, hu⟩ := Option.isSome_iff_exists.1 h
      rw [World.cell?_setCell_same _ _ _ hu]
      rfl
    · rw [World.cell?_setCell_other _ _ _ _ e]
      exact h

theorem nums_getD (l : List Int) (j : Nat) (hj : j < l.length) : (nums .u8 l)[j]'(by simpa [nums] using hj) = .int .u8 (l.getD j 0) := by simp [nums, hj]

/-- append of whatever, onto such a row: there is room or not. -/
theorem ERow.run_append {P : Program} {w : World} {base : Nat} {v : Value} {xs ys : List Int} (h : ERow w base v xs) (t tx ty e : TypeId) (ht : P.underlying t = some (.slice e)) (hinfo : (P.info? e).map (fun i => (i.zero, i.size, i.bytes)) = some (some (.int .u8 0), 1, 1))
    (x : Value) (hs : Src P 1 tx x ys.length (nums .u8 ys) w) (hl : xs.length + ys.length ≤ 140737488355328) (hbase : base ≤ w.heap.size) :
    ∃ v' w', (Builtin.append_ #[t, tx] ty #[v, x]).run P w = .ok v' w' ∧ ERow w' base v' (xs ++ ys) ∧ w.grownBy w' v.ownBlock ∧ (v'.ownBlock = v.ownBlock ∨ ∃ b, v'.ownBlock = some b ∧ w.heap.size ≤ b) := by
  obtain ⟨i0, hi, hzz⟩ := Option.map_eq_some_iff.1 hinfo
  simp only [Prod.mk.injEq] at hzz
  obtain ⟨hz0, hz1, hz2⟩ := hzz
  have hs' : Src P i0.size tx x ys.length (nums .u8 ys) w := by rw [hz1]; exact hs
  have hgrow : ∀ (A : Option Addr) (cap : Nat), (v = .slice A xs.length cap) → (cap < xs.length + ys.length) → (Builtin.firstCells i0.size xs.length (.slice A xs.length cap)).run P w.drew = .ok (nums .u8 xs).toArray w.drew →
      ∃ v' w', (Builtin.append_ #[t, tx] ty #[v, x]).run P w = .ok v' w' ∧ ERow w' base v' (xs ++ ys) ∧ w.grownBy w' v.ownBlock ∧ (v'.ownBlock = v.ownBlock ∨ ∃ b, v'.ownBlock = some b ∧ w.heap.size ≤ b) := by
    intro A cap hv hcap hold
    subst hv
    have hr := run_append_grow_src (P := P) w t tx ty e i0 (.int .u8 0) ht hi hz0 A xs.length cap (nums .u8 xs) hold x ys.length (nums .u8 ys) hs' hcap (by omega) (by rw [hz2]; exact growslice_fits (by omega) (by omega))
    have hge := grownCap_ge w (xs.length + ys.length) cap e
    have hcm2 : grownCap w (xs.length + ys.length) cap e ≤ maxLen := grownCap_le_maxLen w (xs.length + ys.length) cap e (by simp only [maxLen]; omega)
    refine ⟨_, _, hr, ?_, ⟨rfl, rfl, rfl, by simp, fun k hk _ => heap_alloc_old w.drew _ hk⟩, .inr ⟨w.heap.size, rfl, Nat.le_refl _⟩⟩
    have hnew := heap_alloc_new w.drew (.cells ((nums .u8 xs ++ nums .u8 ys).toArray ++ Builtin.zeroCells (Value.int .u8 0).cells (grownCap w (xs.length + ys.length) cap e - (xs.length + ys.length))) e)
    have hz1' : (Value.int IntKind.u8 0).cells.size = 1 := rfl
    have hsz : ((nums .u8 xs ++ nums .u8 ys).toArray ++ Builtin.zeroCells (Value.int .u8 0).cells (grownCap w (xs.length + ys.length) cap e - (xs.length + ys.length))).size = grownCap w (xs.length + ys.length) cap e := by
      simp only [Array.size_append, List.size_toArray, size_zeroCells, hz1', List.length_append, nums_length]
      omega
    refine .inr ⟨w.heap.size, grownCap w (xs.length + ys.length) cap e, by rw [List.length_append], hbase, by simp, by rw [List.length_append]; exact hge, hcm2, fun j hj => ?_, fun j hj => ?_⟩
    · have hj' : j < ((nums .u8 xs ++ nums .u8 ys).toArray ++ Builtin.zeroCells (Value.int .u8 0).cells (grownCap w (xs.length + ys.length) cap e - (xs.length + ys.length))).size := by omega
      constructor
      · simp only [World.cell?]
        erw [hnew]
        simp only [Option.isSome_none, Bool.false_eq_true, if_false, Array.getElem?_eq_getElem hj', Option.isSome_some]
      · simp only [World.frozen?]
        erw [hnew]
        simp
    · simp only [World.cell?]
      erw [hnew]
      rw [List.length_append] at hj
      have e1 : (nums IntKind.u8 xs ++ nums IntKind.u8 ys) = nums .u8 (xs ++ ys) := by simp [nums]
      simp only [Option.isSome_none, Bool.false_eq_true, if_false, e1]
      rw [Array.getElem?_append_left (by simp [nums]; omega)]
      have hj3 : j < (xs ++ ys).length := by rw [List.length_append]; exact hj
      simp [nums, -List.map_append, List.getD_eq_getElem?_getD, hj]
  have h0 := h
  rcases h with ⟨rfl, rfl⟩ | ⟨g, cap, rfl, hb, hg, hlc, hc, hf, h2⟩
  · by_cases hy : ys.length = 0
    · obtain rfl := List.eq_nil_of_length_eq_zero hy
      have hr := run_append_nothing (P := P) w t tx ty e i0 ht hi none 0 0 (Nat.le_refl _) x (by simpa [nums] using hs')
      exact ⟨_, _, hr, by simpa using h0, ⟨rfl, rfl, rfl, Nat.le_refl _, fun _ _ _ => rfl⟩, .inl rfl⟩
    · exact hgrow none 0 rfl (by simp; omega) (by simpa [nums] using run_firstCells_none (P := P) w.drew i0.size 0 0 0)
  · by_cases hroom : xs.length + ys.length ≤ cap
    · have hr := run_append_room_src (P := P) w t tx ty e i0 ht hi g 0 xs.length cap x ys.length (nums .u8 ys) hs' hroom
        (fun j hj => by rw [hz1]; simp only [nums_length] at hj; simpa using (hf (xs.length + j) (by omega)).1) (fun j hj => by rw [hz1]; simp only [nums_length] at hj; simpa using (hf (xs.length + j) (by omega)).2)
      rw [hz1] at hr
      simp only [Nat.zero_add, Nat.mul_one] at hr
      refine ⟨_, _, hr, .inr ⟨g, cap, by rw [List.length_append], hb, Nat.lt_of_lt_of_le hg (grown_setCells g _ _ w).size, by rw [List.length_append]; exact hroom, hc, fun j hj => ?_, fun j hj => ?_⟩, grown_setCells g _ _ w, .inl rfl⟩
      · exact ⟨isSome_setCells' g _ _ w _ (hf j hj).1, by rw [World.frozen?_setCells]; exact (hf j hj).2⟩
      · rw [List.length_append] at hj
        by_cases hj2 : j < xs.length
        · rw [World.cell?_setCells_out g _ _ w _ (fun _ _ => .inl hj2), h2 j hj2]
          simp [List.getD_eq_getElem?_getD, List.getElem?_append_left hj2]
        · have hin := World.cell?_setCells_in g (nums .u8 ys) xs.length w (fun i hi' => by simp only [nums_length] at hi'; exact (hf (xs.length + i) (by omega)).1) (j - xs.length) (by simp only [nums_length]; omega)
          rw [show xs.length + (j - xs.length) = j by omega] at hin
          rw [hin, nums_getD ys (j - xs.length) (by omega)]
          simp [List.getD_eq_getElem?_getD, List.getElem?_append_right (show xs.length ≤ j by omega)]
    · refine hgrow _ cap rfl (by omega) ?_
      rw [hz1]
      refine run_firstCells_some (P := P) w.drew 1 xs.length ⟨g, 0, none⟩ xs.length cap (nums .u8 xs) (by simp [nums]) (fun j u hu => ?_)
      have hj : j < xs.length := by
        have := (List.getElem?_eq_some_iff.1 hu).1
        simpa [nums] using this
      rw [add_plain]
      have h3 := h2 j hj
      rw [show w.drew.cell? ⟨g, j, none⟩ = w.cell? ⟨g, j, none⟩ from rfl, h3, ← hu]
      simp [nums, hj]

theorem wp_append_E {P : Program} {w : World} {ops : Array Oper} {rest : List Oper} {o : Oper} {a : Act} {Q : Exit → Act → World → Prop} (hgd : o.guard = none) (s x : Operand) (t tx e : TypeId)
    (ho : o.op = .call { callee := .builtin .append, args := #[s, x], argTypes := #[t, tx] })
    (ht : P.underlying t = some (.slice e)) (hinfo : (P.info? e).map (fun i => (i.zero, i.size, i.bytes)) = some (some (.int .u8 0), 1, 1))
    (base : Nat) (v : Value) (xs ys : List Int) (hs : a.eval s = v) (h : ERow w base v xs) (xv : Value) (hx : a.eval x = xv) (hsrc : Src P 1 tx xv ys.length (nums .u8 ys) w)
    (hl : xs.length + ys.length ≤ 140737488355328) (hbase : base ≤ w.heap.size)
    (hk : ∀ v' w', Aside0 (ERow w' base v' (xs ++ ys)) → Aside0 (w.grownBy w' v.ownBlock) → wpList P ops Q rest (a.put o.dst v') w') : wpList P ops Q (o :: rest) a w := by
  refine wpList_plain hgd fun K hK => ?_
  obtain ⟨v', w', hr, h2, h3, h4⟩ := h.run_append t tx o.type e ht hinfo xv hsrc hl hbase
  unfold Oper.wp execOp
  simp only [ho, resolve, invoke, builtin, Sem.run_bind, Sem.run_pure, Result.andThen_ok, List.map_toArray, List.map_cons, List.map_nil, hs, hx, hr]
  exact hK _ _ (hk v' w' ⟨h2⟩ ⟨h3⟩)

/-- '[]byte(s)' -/
theorem ERow.conv (w : World) (e : TypeId) (s : ByteArray) (hs : s.size ≤ 140737488355328) : ERow (Lib.bytesWorld w e s) w.heap.size (.slice (some ⟨w.heap.size, 0, none⟩) s.size (grownCap w s.size 0 e)) (bytesOf s) ∧ Below w.heap.size w (Lib.bytesWorld w e s) := by
  have hsz : (Lib.bytesCells w e s).size = grownCap w s.size 0 e := by
    have hge := grownCap_ge w s.size 0 e
    have hds : s.data.size = s.size := rfl
    simp [Lib.bytesCells, hds]
    omega
  have hlen : (bytesOf s).length = s.size := bytesOf_length s
  constructor
  · refine .inr ⟨w.heap.size, grownCap w s.size 0 e, by rw [hlen], Nat.le_refl _, by rw [Lib.bytesWorld_size]; omega, by rw [hlen]; exact grownCap_ge _ _ _ _, grownCap_le_maxLen _ _ _ _ (by simp only [maxLen]; omega), fun j hj => ?_, fun j hj => ?_⟩
    · constructor
      · simp [World.cell?, Lib.bytesWorld_at_new, show j < (Lib.bytesCells w e s).size by omega]
      · simp [World.frozen?, Lib.bytesWorld_at_new]; omega
    · rw [hlen] at hj
      rw [Lib.bytesWorld_cell w e s j hj]
      have hj2 : j < s.data.toList.length := by rw [Array.length_toList]; exact hj
      have hj3 : j < s.data.size := hj
      have hj4 : s.data[j]? = some s.data[j] := Array.getElem?_eq_getElem hj3
      simp [bytesOf, List.getD_eq_getElem?_getD, hj4]
  · refine ⟨?_, ?_, ?_, by rw [Lib.bytesWorld_size]; omega, fun k hk => Lib.bytesWorld_at_old w e s k hk⟩
    all_goals
      simp only [Lib.bytesWorld, World.freeze]
      simp
      try rfl
/-- One cell of such a row. -/
theorem ERow.cell {w : World} {base g n c : Nat} {xs : List Int} (h : ERow w base (.slice (some ⟨g, 0, none⟩) n c) xs) (k : Nat) (hk : k < xs.length) : w.cell? ⟨g, k, none⟩ = some (.int .u8 (rd xs k)) ∧ w.frozen? ⟨g, k, none⟩ = false := by
  rcases h with ⟨h1, rfl⟩ | ⟨g', cap, h1, hb, hg, hl, hc, hf, h2⟩
  · simp at hk
  · simp only [Value.slice.injEq, Option.some.injEq, Addr.mk.injEq] at h1
    obtain ⟨⟨rfl, _⟩, rfl, rfl⟩ := h1
    exact ⟨by rw [h2 k hk]; simp [rd], (hf k (by omega)).2⟩
theorem ERow.set {w : World} {base g n c : Nat} {xs : List Int} (h : ERow w base (.slice (some ⟨g, 0, none⟩) n c) xs) (k : Nat) (hk : k < xs.length) (x : Int) :
    ERow (w.setCell ⟨g, k, none⟩ (.int .u8 x)) base (.slice (some ⟨g, 0, none⟩) n c) (xs.set k x) := by
  rcases h with ⟨h1, rfl⟩ | ⟨g', cap, h1, hb, hg, hl, hc, hf, h2⟩
  · simp at hk
  · simp only [Value.slice.injEq, Option.some.injEq, Addr.mk.injEq] at h1
    obtain ⟨⟨rfl, _⟩, rfl, rfl⟩ := h1
    refine .inr ⟨g, c, by rw [List.length_set], hb, by simp [World.setCell]; exact hg, by rw [List.length_set]; exact hl, hc, fun j hj => ?_, fun j hj => ?_⟩
    · constructor
      · by_cases e : (⟨g, k, none⟩ : Addr) = ⟨g, j, none⟩
        · obtain ⟨u, hu⟩ := Option.isSome_iff_exists.1 (hf j hj).1
          rw [← e] at hu ⊢
          rw [World.cell?_setCell_same _ _ _ hu]
          rfl
        · rw [World.cell?_setCell_other _ _ _ _ e]
          exact (hf j hj).1
      · rw [World.frozen?_setCell]
        exact (hf j hj).2
    · rw [List.length_set] at hj
      by_cases e : k = j
      · subst e
        rw [World.cell?_setCell_same _ _ _ (h2 k hj)]
        simp [List.getD_eq_getElem?_getD, hj]
      · rw [World.cell?_setCell_other _ _ _ _ (by simp [e]), h2 j hj]
        simp [List.getD_eq_getElem?_getD, List.getElem?_set_ne e]
/-- 'string(b)' -/
theorem ERow.string {P : Program} {w : World} {base : Nat} {v : Value} {xs : List Int} (h : ERow w base v xs) {src dst e : TypeId} (hs : P.underlying src = some (.slice e)) (he : P.underlying e = some (.int .u8)) (hd : P.underlying dst = some .string) :
    (convert src dst v).run P w = .ok (.string (strOfNums xs)) w := by
  rcases h with ⟨rfl, rfl⟩ | ⟨g, cap, rfl, hb, hg, hl, hc, hf, h2⟩
  · exact run_convert_bytes_nil w src e hs he 0 0 dst hd
  · exact run_convert_bytes_arg w src e hs he g 0 xs.length cap xs rfl (fun i hi => by rw [Nat.zero_add]; exact h2 i hi) dst hd
theorem indexByte_neg (l : List UInt8) (c : UInt8) : (Lib.indexByte l c < 0) = (l.contains c = false) := by
  induction l with
  | nil => simp [Lib.indexByte]
  | cons b l ih =>
    have hge := Lib.indexByte_ge l c
    simp only [Lib.indexByte, List.contains_cons]
    by_cases hb : b = c
    · subst hb; simp
    · have h1 : (b == c) = false := by simpa using hb
      have h2 : (c == b) = false := by simpa using fun e => hb e.symm
      rw [h1, h2]
      simp only [Bool.false_eq_true, if_false, Bool.false_or]
      rw [← ih]
      by_cases hm : Lib.indexByte l c = -1
      · simp [hm]
      · have h3 : (Lib.indexByte l c == -1) = false := by simpa using hm
        rw [h3]
        simp only [Bool.false_eq_true, if_false, eq_iff_iff]
        omega
theorem ERow.made (W : World) (e : Nat) (m : Nat) (hm : m ≤ 9223372036854775807) : ERow (W.alloc (.cells (madeCells #[.int .u8 0] m) e)) W.heap.size (.slice (some ⟨W.heap.size, 0, none⟩) m m) (List.replicate m 0) := by
  have h := own_made W W.heap.size e .u8 m (Nat.le_refl _) hm
  refine ERow.of_own (e := e) ?_
  rw [List.length_replicate]
  exact h
theorem src_str {P : Program} {tx : TypeId} (hk : P.underlying tx = some .string) (w : World) (s : ByteArray) : Src P 1 tx (.string s) (bytesOf s).length (nums .u8 (bytesOf s)) w := by
  have h := Src.ofString (P := P) w hk s
  rw [bytesOf_length]
  have e : nums .u8 (bytesOf s) = byteCells s := by simp [nums, bytesOf, byteCells]
  rw [e]
  exact h
theorem src_one {P : Program} {t e : TypeId} (hk : P.underlying t = some (.slice e)) (W : World) (x : Int) (e' : TypeId) : Src P 1 t (.slice (some ⟨W.heap.size, 0, none⟩) 1 1) [x].length (nums .u8 [x]) (W.alloc (.cells #[.int .u8 x] e')) := by
  refine Src.ofSlice (P := P) _ hk ⟨W.heap.size, 0, none⟩ 1 1 _ rfl (fun j u hj => ?_) (fun u hu => ?_)
  · have hj0 : j = 0 := by
      have := (List.getElem?_eq_some_iff.1 hj).1
      simp [nums] at this
      exact this
    subst hj0
    obtain rfl := Option.some.inj hj
    rw [add_plain]
    have h := heap_alloc_new W (.cells #[.int .u8 x] e')
    simp only [World.cell?]
    erw [h]
    rfl
  · simp [nums] at hu
    subst hu
    rfl
end Go.Proofs.YtjifmpjpccibnaaE
