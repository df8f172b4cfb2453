/- What Go functions of the program compute, each as a Lean function with its contract: written by a program of this session; some by hand. (No condition.) -/
import Derived.Test.YtjifmpjpccibnaaDx0
import Derived.Test.YtjifmpjpccibnaaDx61
namespace Go.Proofs.Ytjifmpjpccibnaa.D
open Go.RowKit Go.Proofs.YtjifmpjpccibnaaW.PrintWords Go.Proofs.YtjifmpjpccibnaaW.PrintLast Go.Proofs.YtjifmpjpccibnaaW.PrintMore
attribute [local go_sem] max2_int min2_int max_two min_two max_three min_three max_four min_four   -- for this text's walks alone
set_option linter.unusedVariables false
set_option linter.unusedSimpArgs false

/-! ### le_Put: function 65 (given by hand) -/
open Go.Proofs.YtjifmpjpccibnaaE
theorem step_copy_grown {P : Program} {ops : Array Oper} {o : Oper} {a : Act} {w : World} {K : Act → World → Prop} {Q : Exit → Act → World → Prop} {E : Prop} (hgd : o.guard = none) (d s : Operand) (dT sT : TypeId)
    (ho : o.op = .call { callee := .builtin .copy, args := #[d, s], argTypes := #[dT, sT] }) (elem : TypeId) (hu : P.underlying dT = some (.slice elem)) (hsz : (P.info? elem).map (·.size) = some 1)
    (dp sp : Option Addr) (dLen dCap sLen sCap : Nat) (hd : a.eval d = .slice dp dLen dCap) (hs : a.eval s = .slice sp sLen sCap)
    (g off : Nat) (cur : List Value) (t : TypeId) (hg : w.heap[g]? = some (.cells cur.toArray t (0, 0))) (cs : List Value) (hn : cs.length = Nat.min sLen dLen)
    (hpos : 0 < cs.length → dp = some ⟨g, off, none⟩ ∧ ∃ ad, sp = some ad ∧ ∀ j v, cs[j]? = some v → w.cell? (ad.add j) = some v)
    (hfit : off + cs.length ≤ cur.length) (h1 : ∀ v ∈ cs, v.oneCell' = true)
    (h : ∀ w', Aside0 (w'.heap[g]? = some (.cells (splice cur off cs).toArray t (0, 0))) → Aside0 (w.grownBy w' (some g)) → K (a.put o.dst (goInt cs.length)) w') :
    if Region.wanted o (yielded ops a.tmps) = true then Oper.wp P o a w K Q else E := by
  have hw : Region.wanted o (yielded ops a.tmps) = true := by simp [Region.wanted, hgd]
  rw [if_pos hw]
  by_cases h0 : cs.length = 0
  · obtain rfl : cs = [] := List.eq_nil_of_length_eq_zero h0
    have hrun := run_copy_none (P := P) w dT sT o.type elem dp sp dLen dCap sLen sCap hu hsz (by simpa using hn.symm)
    unfold Oper.wp
    simp [execOp, ho, resolve, invoke, builtin, hd, hs, hrun, Result.andThen]
    exact h w ⟨by simpa [splice] using hg⟩ ⟨⟨rfl, rfl, rfl, Nat.le_refl _, fun _ _ _ => rfl⟩⟩
  · obtain ⟨rfl, ad, rfl, hsrc⟩ := hpos (by omega)
    have hrun := run_copy_row (P := P) w dT sT o.type elem g off dLen dCap ad sLen sCap cur.toArray t cs hu hsz hg hn hsrc (by simpa using hfit) h1
    unfold Oper.wp
    simp [execOp, ho, resolve, invoke, builtin, hd, hs, hrun, Result.andThen]
    exact h _ ⟨by simpa [splice] using setRow_heap w g _ _ t _ hg⟩ ⟨⟨rfl, rfl, rfl, by simp [World.setRow], fun k hk hne => setRow_other w g k _ (fun e => hne (by rw [e]))⟩⟩

def le_Put.f (k : Nat) (l0 : List Int) (a1 : Int) (a2 : Int) (a3 : Int) : Option (Bool × List Int) :=
  if a2 < 1 then some (false, l0) else if a2 > 8 then some (false, l0) else if a1 < 0 then some (false, l0) else if a1 > (l0.length : Int) then some (false, l0) else
  if a2 > (l0.length : Int) - a1 then some (false, l0) else
  (le_Bytes.f k a3 a2).bind fun t => some (true, splice l0 a1.toNat (t.take (l0.length - a1.toNat)))
theorem le_Put.mono : ∀ a0 a1 a2 a3 k, LeO (le_Put.f k a0 a1 a2 a3) (le_Put.f (k + 1) a0 a1 a2 a3) := by
  intro a0 a1 a2 a3 k
  unfold le_Put.f
  repeat' first
      | (with_reducible exact LeO.refl _)
      | (with_reducible refine LeO.ite ?_ ?_)
      | (with_reducible refine LeO.bind (le_Bytes.mono _ _ _) (fun _ => ?_))

theorem put_no {P0_ : Nat → Prop} {u9000_ : Value} {l0 : List Int} {w0 w : World} (hB : Aside0 (Below w0.heap.size w0 w)) (ho0 : Aside0 (Kd.R (Kd.int .u8) 5 w w0.heap.size P0_ u9000_ l0)) :
    Kd.R (Kd.int .u8) 5 w w0.heap.size (fun k_ => (P0_ k_ ∨ w.heap.size ≤ k_)) u9000_ l0 ∧ Below w0.heap.size w0 w ∧ Kept w w (fun k_ => P0_ k_) :=
  ⟨Kd.R_mono ho0.out (fun _ hk => .inl hk), hB.out, Kept.refl w _⟩

theorem nums_one (l : List Int) : ∀ v ∈ nums .u8 l, v.oneCell' = true := by
  intro u hu
  simp only [nums, List.mem_map] at hu
  obtain ⟨x, _, rfl⟩ := hu
  rfl
theorem put_len (t : List Int) (n : Nat) : (nums .u8 (t.take n)).length = Nat.min t.length n := by simp [nums, Nat.min_comm]
theorem put_src {w1 : World} {ok : Nat → Prop} {A1 : Option Addr} {k1 : Nat} {t : List Int} {base : Nat} (h : Aside0 (Kd.R (Kd.int .u8) 5 w1 base ok (.slice A1 t.length k1) t)) (n g at_ : Nat) :
    0 < (nums .u8 (t.take n)).length → some (⟨g, at_, none⟩ : Addr) = some ⟨g, at_, none⟩ ∧ ∃ ad, A1 = some ad ∧ ∀ j v, (nums .u8 (t.take n))[j]? = some v → w1.cell? (ad.add j) = some v := by
  intro hp
  have hR := Kd.reads_of_C (d := (0 : Int)) (Kd.R_reads' h.out).2.2
  have hp2 : 0 < t.length := by simp [nums] at hp; omega
  obtain ⟨ad, e, hc⟩ := hR.2.2 hp2
  refine ⟨rfl, ad, e, fun j v hj => ?_⟩
  have hj' : j < min n t.length := by
    have := (List.getElem?_eq_some_iff.1 hj).1
    simpa [nums] using this
  rw [hc j (by omega), ← hj]
  simp [nums, List.getElem?_take, show j < n by omega, show j < t.length by omega]
theorem put_fit (cur : Array Value) (n c at_ : Nat) (hs : cur.size = c * 1) (hc : n ≤ c) (hl : at_ < n) : ∀ {t : List Int}, at_ + (nums .u8 (t.take (n - at_))).length ≤ cur.toList.length := by
  intro t
  simp [nums]
  omega

theorem take_splice {α : Type} (L cs : List α) (off n : Nat) (h : off + cs.length ≤ n) (hn : n ≤ L.length) : (splice L off cs).take n = splice (L.take n) off cs := by
  unfold splice
  have h1 : (L.take off).length = off := by simp; omega
  have h2 : n - off - cs.length = n - (off + cs.length) := by omega
  rw [List.take_append, List.take_append, h1, List.take_take, List.take_take, List.take_of_length_le (show cs.length ≤ n - off by omega), List.drop_take, Nat.min_eq_right (by omega), Nat.min_eq_left (by omega), h2]
theorem splice_map {α β : Type} (f : α → β) (L cs : List α) (off : Nat) : (splice L off cs).map f = splice (L.map f) off (cs.map f) := by simp [splice]
theorem put_yes {w0 w w1 w2 : World} {P0_ : Nat → Prop} {g c at_ : Nat} {l0 t : List Int} {cur : Array Value} (HB : Below w0.heap.size w0 w) (HO : Kd.R (Kd.int .u8) 5 w w0.heap.size P0_ (.slice (some ⟨g, 0, none⟩) l0.length c) l0)
    (HB1 : Below w.drew.heap.size w.drew w1) (hw2 : w2.heap[g]? = some (.cells (splice cur.toList at_ (nums .u8 (t.take (l0.length - at_)))).toArray 5 (0, 0))) (hg2 : w1.grownBy w2 (some g)) (hbase : w0.heap.size ≤ g)
    (hcap : l0.length ≤ c) (hmax : c ≤ maxLen) (hsize : cur.size = c * 1) (htake : cur.toList.take (l0.length * 1) = encs (Value.int .u8) l0) (hlt : at_ < l0.length) :
    Kd.R (Kd.int .u8) 5 w2 w0.heap.size (fun k_ => (P0_ k_ ∨ w.heap.size ≤ k_)) (.slice (some ⟨g, 0, none⟩) l0.length c) (splice l0 ((at_ : Nat) : Int).toNat (t.take (l0.length - ((at_ : Nat) : Int).toNat))) ∧ Below w0.heap.size w0 w2 ∧ Kept w w2 (fun k_ => P0_ k_) := by
  have hP : P0_ g := HO.1 g rfl
  have HB1' : Below w.heap.size w w1 := below_then (below_drew (Below.refl w.heap.size w)) (Nat.le_refl _) HB1
  rw [Int.toNat_natCast]
  have hlen : (splice l0 at_ (t.take (l0.length - at_))).length = l0.length := length_splice _ _ _ (by simp; omega)
  refine ⟨?_, pw_below_grown (below_then HB HB.size HB1') (some g) (Nat.le_trans HB.size HB1'.size) hg2 (fun k e => by cases e; exact hbase), Kept.of_grown hg2 (Kept.of_below HB1' _) (fun k e => by cases e; exact .inl hP)⟩
  refine Kd.R_of_own (h1 := fun _ => rfl) ?_ (fun k e => .inl (by obtain rfl : g = k := by simpa [Value.ownBlock] using e
                                                                  exact hP))
  rw [hlen]
  refine ⟨by simp [encs, hlen], .inr ⟨g, c, _, rfl, hbase, hw2, hcap, hmax, ?_, ?_⟩⟩
  · have := length_splice cur.toList at_ (nums .u8 (t.take (l0.length - at_))) (by simp [nums]; omega)
    simp only [List.size_toArray, this, Array.length_toList]
    exact hsize
  · simp only [Nat.mul_one] at htake ⊢
    rw [show encs (Value.int .u8) (splice l0 at_ (t.take (l0.length - at_))) = splice (nums .u8 l0) at_ (nums .u8 (t.take (l0.length - at_))) from splice_map _ _ _ _]
    rw [show nums .u8 l0 = cur.toList.take l0.length from htake.symm]
    exact take_splice _ _ _ _ (by simp [nums]; omega) (by simp; omega)

set_option maxHeartbeats 4000000 in
set_option maxRecDepth 100000 in
theorem le_Put.calls (k : Nat) (P0_ : Nat → Prop) (u9000_ : Value) (l0 : List Int) (a1 : Int) (a2 : Int) (a3 : Int) (r1 : Bool) (r2 : List Int) (w0 w : World) (hB : Below w0.heap.size w0 w) (ho0 : Kd.R (Kd.int .u8) 5 w w0.heap.size P0_ u9000_ l0) (h : le_Put.f k l0 a1 a2 a3 = some (r1, r2)) :
    Calls Try.prog 65 #[u9000_, .int .i64 a1, .int .i64 a2, .int .u64 a3] w fun e w' => e = .returned (.bool r1) ∧ Kd.R (Kd.int .u8) 5 w' w0.heap.size (fun k_ => (P0_ k_ ∨ w.heap.size ≤ k_)) u9000_ r2 ∧ Below w0.heap.size w0 w' ∧ Kept w w' (fun k_ => P0_ k_) := by
  obtain ⟨A, c, rfl⟩ := Kd.R_slice ho0
  have hn : l0.length ≤ 9223372036854775807 := by
    have h1 := (Kd.own_of_R ho0).2
    rcases h1 with ⟨_, h1⟩ | ⟨g, cap, cur, _, _, _, h1, h2, _⟩
    · omega
    · simp only [maxLen] at h2; omega
  have hnn : (0 : Int) ≤ (l0.length : Int) := by omega
  have HB := Aside0.mk hB
  have HO := Aside0.mk ho0
  clear hB ho0
  unfold le_Put.f at h
  by_cases c1 : a2 < 1
  · rw [if_pos c1] at h
    simp only [Option.some.injEq, Prod.mk.injEq] at h
    obtain ⟨rfl, rfl⟩ := h
    have d1 : decide (a2 < 1) = true := decide_eq_true c1
    go_enter Try.func65, Try.ntmps65
    go_wp2
    go_ret
    exact ⟨rfl, put_no HB HO⟩
  rw [if_neg c1] at h
  have d1 : decide (a2 < 1) = false := decide_eq_false c1
  by_cases c2 : a2 > 8
  · rw [if_pos c2] at h
    simp only [Option.some.injEq, Prod.mk.injEq] at h
    obtain ⟨rfl, rfl⟩ := h
    have d2 : decide (8 < a2) = true := decide_eq_true c2
    go_enter Try.func65, Try.ntmps65
    go_wp2
    go_ret
    exact ⟨rfl, put_no HB HO⟩
  rw [if_neg c2] at h
  have d2 : decide (8 < a2) = false := decide_eq_false c2
  by_cases c3 : a1 < 0
  · rw [if_pos c3] at h
    simp only [Option.some.injEq, Prod.mk.injEq] at h
    obtain ⟨rfl, rfl⟩ := h
    have d3 : decide (a1 < 0) = true := decide_eq_true c3
    go_enter Try.func65, Try.ntmps65
    go_wp2
    go_ret
    exact ⟨rfl, put_no HB HO⟩
  rw [if_neg c3] at h
  have d3 : decide (a1 < 0) = false := decide_eq_false c3
  by_cases c4 : a1 > (l0.length : Int)
  · rw [if_pos c4] at h
    simp only [Option.some.injEq, Prod.mk.injEq] at h
    obtain ⟨rfl, rfl⟩ := h
    have d4 : decide ((l0.length : Int) < a1) = true := decide_eq_true c4
    go_enter Try.func65, Try.ntmps65
    go_wp2
    go_ret
    exact ⟨rfl, put_no HB HO⟩
  rw [if_neg c4] at h
  have d4 : decide ((l0.length : Int) < a1) = false := decide_eq_false c4
  obtain ⟨at_, rfl⟩ := Int.eq_ofNat_of_zero_le (show 0 ≤ a1 by omega)
  by_cases c5 : a2 > (l0.length : Int) - (at_ : Int)
  · rw [if_pos c5] at h
    simp only [Option.some.injEq, Prod.mk.injEq] at h
    obtain ⟨rfl, rfl⟩ := h
    have d5 : decide ((l0.length : Int) - (at_ : Int) < a2) = true := decide_eq_true c5
    go_enter Try.func65, Try.ntmps65
    go_wp2
    go_ret
    exact ⟨rfl, put_no HB HO⟩
  rw [if_neg c5] at h
  have d5 : decide ((l0.length : Int) - (at_ : Int) < a2) = false := decide_eq_false c5
  replace h := Option.bind_eq_some_iff.mp h
  obtain ⟨t, ht, h⟩ := h
  simp only [Option.some.injEq, Prod.mk.injEq] at h
  obtain ⟨rfl, rfl⟩ := h
  have HT := Aside0.mk ht
  clear ht
  have hlt : at_ < l0.length := by omega
  obtain ⟨g, cap, cur, e1, hbase, hblk, hcap, hmax, hsize, htake⟩ : ∃ g cap cur, Value.slice A l0.length c = .slice (some ⟨g, 0, none⟩) l0.length cap ∧ w0.heap.size ≤ g ∧ w.heap[g]? = some (.cells cur 5 (0, 0)) ∧ l0.length ≤ cap ∧ cap ≤ maxLen ∧ cur.size = cap * 1 ∧ cur.toList.take (l0.length * 1) = encs (Value.int .u8) l0 := by
    rcases (Kd.own_of_R HO.out).2 with ⟨_, h1⟩ | h1
    · omega
    · exact h1
  simp only [Value.slice.injEq, true_and] at e1
  obtain ⟨rfl, rfl⟩ := e1
  have hc1 : at_ ≤ c := by omega
  have hc2 : ¬ (c = at_) := by omega
  have hc3 : (c == at_) = false := by simp; omega
  have HBLK := Aside0.mk hblk
  have hglt : g < w.heap.size := (Array.getElem?_eq_some_iff.1 hblk).1
  clear hblk
  go_enter Try.func65, Try.ntmps65
  go_wp2
  go_region_law (first | (go_simp; go_at_call 78; refine (le_Bytes.calls k a3 a2 t _ HT.out).mono ?_; rintro e w1 ⟨v, rfl, hr, hb⟩; obtain ⟨A1, k1, rfl⟩ := Kd.R_slice hr; have HR1 := Aside0.mk hr; have HB1 := Aside0.mk hb; clear hr hb) | (refine step_copy_grown rfl (.tmp 35) (.tmp 38) 45 45 rfl 5 Try.underlying45 (by kernel_rfl) (some ⟨g, at_, none⟩) _ (l0.length - at_) _ t.length _ rfl rfl g at_ cur.toList 5 ?cg (nums .u8 (t.take (l0.length - at_))) ?cn ?cp ?cf ?c1 ?_; (case cg => rw [Array.toArray_toList]; exact (HB1.out.block g hglt).trans HBLK.out); (case cn => exact put_len t _); (case cp => exact put_src HR1 _ _ _); (case cf => exact put_fit _ _ _ _ hsize hcap hlt); (case c1 => exact nums_one _); intro w2 hw2 hg2))
  all_goals
    go_wp2
    go_ret
    exact ⟨rfl, put_yes HB.out HO.out HB1.out hw2.out hg2.out hbase hcap hmax hsize htake hlt⟩


end Go.Proofs.Ytjifmpjpccibnaa.D
