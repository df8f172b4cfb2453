/- slipwaylaw10.RelForms: what this function computes, with its contract; by hand. (No condition.) -/
import Derived.Test.YtjifmpjpccibnaaDx0
import Derived.Test.YtjifmpjpccibnaaDx57
import Derived.Test.YtjifmpjpccibnaaDx65
import Derived.Test.YtjifmpjpccibnaaE
import Derived.Test.YtjifmpjpccibnaaA
import Derived.Shelf.Abstract
import Derived.Shelf.Bytes.SlIndexAt
import Derived.Laws.CopyOwn
import Derived.Deep.RegionLaw
import Derived.Lib.Walk
import Derived.Lib.SliceRun
import Derived.WalkSpells
import Derived.IntWalk
namespace Go.Proofs.Ytjifmpjpccibnaa.D
open Go.RowKit Go.Proofs.YtjifmpjpccibnaaW.PrintWords Go.Proofs.YtjifmpjpccibnaaW.PrintLast Go.Proofs.YtjifmpjpccibnaaW.PrintMore Go.Proofs.YtjifmpjpccibnaaE
attribute [local go_sem] max2_int min2_int max_two min_two max_three min_three max_four min_four
set_option linter.unusedVariables false
set_option linter.unusedSimpArgs false
/-- An append to a row of bytes, as one step of a region that draws its order. -/
theorem step_append_E {P : Program} {ops : Array Oper} {o : Oper} {a : Act} {w : World} {K : Act → World → Prop} {Q : Exit → Act → World → Prop} {E : Prop} (hgd : o.guard = none) (s x : Operand) (t tx e : TypeId)
    (ho : o.op = .call { callee := .builtin .append, args := #[s, x], argTypes := #[t, tx] })
    (ht : P.underlying t = some (.slice e)) (hinfo : (P.info? e).map (fun i => (i.zero, i.size, i.bytes)) = some (some (.int .u8 0), 1, 1))
    (base : Nat) (v : Value) (xs ys : List Int) (hs : a.eval s = v) (h : ERow w base v xs) (xv : Value) (hx : a.eval x = xv) (hsrc : Src P 1 tx xv ys.length (nums .u8 ys) w)
    (hl : xs.length + ys.length ≤ 140737488355328) (hbase : base ≤ w.heap.size)
    (hk : ∀ v' w', Aside0 (ERow w' base v' (xs ++ ys)) → Aside0 (w.grownBy w' v.ownBlock) → Aside0 (v'.ownBlock = v.ownBlock ∨ ∃ b, v'.ownBlock = some b ∧ w.heap.size ≤ b) → K (a.put o.dst v') w') :
    if Region.wanted o (yielded ops a.tmps) = true then Oper.wp P o a w K Q else E := by
  have hw : Region.wanted o (yielded ops a.tmps) = true := by simp [Region.wanted, hgd]
  rw [if_pos hw]
  obtain ⟨v', w', hr, h2, h3, h4⟩ := h.run_append t tx o.type e ht hinfo xv hsrc hl hbase
  unfold Oper.wp
  simp [execOp, ho, resolve, invoke, builtin, hs, hx, hr, Result.andThen]
  exact hk v' w' ⟨h2⟩ ⟨h3⟩ ⟨h4⟩
def z64 : List Int := List.replicate 64 0
theorem z64_len : z64.length = 64 := by simp [z64]
def formRow (m : Nat) : List Int :=
  if m = 0 then [0, 0, 0, 0, 4, 0, 0, 0, 8, 160, 0, 0]
  else if m = 1 then [0, 0, 0, 0, 10, 0, 0, 0, 8, 160, 0, 0]
  else if m = 2 then [0, 0, 0, 0, 16, 0, 0, 0, 8, 160, 0, 0]
  else if m = 3 then [1, 0, 0, 0, 12, 0, 0, 0, 8, 160, 0, 0]
  else if m = 4 then [0, 0, 0, 0, 12, 0, 0, 0, 8, 80, 0, 0]
  else if m = 5 then [0, 0, 0, 0, 12, 0, 0, 0, 70, 160, 0, 0]
  else [0, 0, 0, 0, 12, 0, 0, 0, 8, 160, 0, 0]
def formRva (m : Nat) : Int := if m ≤ 6 then 64 else 70
def formSize (m : Nat) : Int := if m = 6 then 11 else 12
def formGood (r : Option (List S60 × Int)) : Bool := match r with
  | some ([x], e) => x.f0 == 10 && x.f1 == 8 && e == 0
  | _ => false
def formBad (r : Option (List S60 × Int)) : Bool := match r with
  | some (_, e) => e == 9
  | _ => false
def formsOk (m : Nat) : Bool := formGood (rel_Parse.f 0 (z64 ++ formRow 8) 64 12) && formBad (rel_Parse.f 0 (z64 ++ formRow m) (formRva m) (formSize m))
def slipwaylaw10_RelForms.f (k : Nat) (a0 : Int) : Option Bool := if formsOk (Go.bits .and .i64 a0 7).toNat = true then slipwaylaw10_awake.f k else none
theorem slipwaylaw10_RelForms.mono : ∀ a0 k, LeO (slipwaylaw10_RelForms.f k a0) (slipwaylaw10_RelForms.f (k + 1) a0) := by
  intro a0 k
  unfold slipwaylaw10_RelForms.f
  exact LeO.ite (slipwaylaw10_awake.mono _) (LeO.refl _)
theorem formGood_is {r : Option (List S60 × Int)} (h : formGood r = true) : ∃ x : S60, r = some ([x], 0) ∧ x.f0 = 10 ∧ x.f1 = 8 := by
  unfold formGood at h
  split at h
  · rename_i x e
    simp at h
    exact ⟨x, by rw [h.2], h.1.1, h.1.2⟩
  · cases h
theorem formBad_is {r : Option (List S60 × Int)} (h : formBad r = true) : ∃ o, r = some (o, 9) := by
  unfold formBad at h
  split at h
  · rename_i o e
    simp at h
    exact ⟨o, by rw [h]⟩
  · cases h
/-- What lies where: the noughts, the row, the directory. -/
def FS (w : World) (row : List Int) (d0 d1 : Int) (W : World) : Prop :=
  W.heap[w.heap.size]? = some (.cells (nums .u8 z64).toArray 5 (0, 0)) ∧ W.heap[w.heap.size + 1]? = some (.cells (nums .u8 row).toArray 5 (0, 0)) ∧ W.heap[w.heap.size + 1 + 1]? = some (.cells #[.int .i64 d0, .int .i64 d1] 48 (0, 0)) ∧ Below w.heap.size w W
theorem FS.below {w : World} {row : List Int} {d0 d1 : Int} {W W1 : World} (h : FS w row d0 d1 W) (hb : Below W.heap.size W W1) : FS w row d0 d1 W1 :=
  ⟨blk_below h.1 hb, blk_below h.2.1 hb, blk_below h.2.2.1 hb, below_then h.2.2.2 h.2.2.2.size hb⟩
theorem FS.grown {w : World} {row : List Int} {d0 d1 : Int} {W W1 : World} (h : FS w row d0 d1 W) {v : Value} {base : Nat} {xs : List Int} (hE : ERow W base v xs) (hb : w.heap.size + 3 ≤ base) (hg : W.grownBy W1 v.ownBlock) : FS w row d0 d1 W1 := by
  have hne : ∀ k, k < w.heap.size + 3 → some k ≠ v.ownBlock := fun k hk e => by have := (hE.block k e.symm).1; omega
  exact ⟨blk_grown h.1 hg (hne _ (by omega)), blk_grown h.2.1 hg (hne _ (by omega)), blk_grown h.2.2.1 hg (hne _ (by omega)), pw_below_grown h.2.2.2 _ h.2.2.2.size hg (fun k e => by have := (hE.block k e).1; omega)⟩
theorem FS.store {w : World} {row : List Int} {d0 d1 : Int} {W : World} (h : FS w row d0 d1 W) (i : Nat) (x : Int) : FS w (row.set i x) d0 d1 (W.setCell ⟨w.heap.size + 1, i, none⟩ (.int .u8 x)) := by
  refine ⟨blk_far h.1 (by simp) _, ?_, blk_far h.2.2.1 (by simp) _, h.2.2.2.setCell (by simp) _⟩
  rw [blk_set h.2.1]
  congr 1
  simp [nums, List.map_set]
theorem FS.dir0 {w : World} {row : List Int} {d0 d1 : Int} {W : World} (h : FS w row d0 d1 W) (x : Int) : FS w row x d1 (W.setCell ⟨w.heap.size + 1 + 1, 0, none⟩ (.int .i64 x)) := by
  refine ⟨blk_far h.1 (by simp; omega) _, blk_far h.2.1 (by simp) _, ?_, h.2.2.2.setCell (by simp; omega) _⟩
  rw [blk_set h.2.2.1]
  rfl
theorem FS.dir1 {w : World} {row : List Int} {d0 d1 : Int} {W : World} (h : FS w row d0 d1 W) (x : Int) : FS w row d0 x (W.setCell ⟨w.heap.size + 1 + 1, 1, none⟩ (.int .i64 x)) := by
  refine ⟨blk_far h.1 (by simp; omega) _, blk_far h.2.1 (by simp) _, ?_, h.2.2.2.setCell (by simp; omega) _⟩
  rw [blk_set h.2.2.1]
  rfl
theorem R60_far {w W : World} {v : Value} {xs : List S60} (h : Kd.R k60 60 W (w.heap.size + 3) (fun k => w.heap.size + 3 ≤ k) v xs) (p : Addr) (hp : p.block < w.heap.size + 3) (u : Value) : Kd.R k60 60 (W.setCell p u) (w.heap.size + 3) (fun k => w.heap.size + 3 ≤ k) v xs :=
  Kd.R_far h (fun k hk => by omega) u
theorem ERow.empty {w : World} {base g : Nat} (hb : base ≤ g) (hg : g < w.heap.size) : ERow w base (.slice (some ⟨g, 0, none⟩) 0 0) [] :=
  .inr ⟨g, 0, rfl, hb, hg, Nat.le_refl _, Nat.zero_le _, fun j hj => absurd hj (Nat.not_lt_zero _), fun j hj => absurd hj (Nat.not_lt_zero _)⟩
theorem blk_C {w : World} {g : Nat} {xs : List Int} {e : TypeId} (h : w.heap[g]? = some (.cells (nums .u8 xs).toArray e (0, 0))) (hl : xs.length ≤ 9223372036854775807) : Kd.C (Kd.int .u8) w (some ⟨g, 0, none⟩) xs.length xs := by
  refine Kd.C_of_reads (d := (0 : Int)) (h1 := fun _ => rfl) ⟨rfl, hl, fun _ => ⟨_, rfl, fun j hj => ?_⟩⟩
  rw [add_plain, blk_cell h j]
  simp [nums, hj]
theorem made_nums (n : Nat) : madeCells #[Value.int .u8 0] n = (nums .u8 (List.replicate n 0)).toArray := by
  apply Array.ext'
  apply List.ext_getElem
  · simp [nums, madeCells]
  · intro i h1 h2
    simp [nums, madeCells, Nat.mod_one]
theorem src_blk {W : World} {g n c : Nat} {xs : List Int} {e : TypeId} (h : W.heap[g]? = some (.cells (nums .u8 xs).toArray e (0, 0))) (hn : xs.length = n) (hl : n ≤ 9223372036854775807) : Src Try.prog 1 45 (.slice (some ⟨g, 0, none⟩) n c) xs.length (nums .u8 xs) W := by
  subst hn
  exact src_C Try.underlying45 (blk_C h hl)
theorem formRow_len (m : Nat) : (formRow m).length = 12 := by
  unfold formRow
  repeat' split
  all_goals rfl
theorem FS.start (w : World) : FS w (formRow 8) 64 12 (((w.alloc (.cells (madeCells #[.int .u8 0] 64) 5 (0, 0))).alloc (.cells #[.int .u8 0, .int .u8 0, .int .u8 0, .int .u8 0, .int .u8 12, .int .u8 0, .int .u8 0, .int .u8 0, .int .u8 8, .int .u8 160, .int .u8 0, .int .u8 0] 5 (0, 0))).alloc (.cells #[.int .i64 64, .int .i64 12] 48 (0, 0))) := by
  have hmk := made_nums 64
  rw [show List.replicate 64 (0 : Int) = z64 from rfl] at hmk
  rw [hmk]
  have h1 : (w.alloc (.cells (nums .u8 z64).toArray 5 (0, 0))).heap.size = w.heap.size + 1 := by simp
  have h2 := fun (o1 o2 : Obj) => show ((w.alloc o1).alloc o2).heap.size = w.heap.size + 1 + 1 by simp
  refine ⟨blk_alloc (blk_alloc (blk_new w _) _) _, blk_alloc ?_ _, ?_, below_alloc (below_alloc (below_alloc (Below.refl _ _) _) _) _⟩
  · rw [← h1]; exact blk_new _ _
  · rw [← h2]; exact blk_new _ _
set_option maxHeartbeats 4000000 in
set_option maxRecDepth 100000 in
theorem slipwaylaw10_RelForms.calls (k : Nat) (a0 : Int) (r : Bool) (w : World) (h : slipwaylaw10_RelForms.f k a0 = some r) :
    Calls Try.prog 7 #[.int .i64 a0] w fun e w' => e = .returned (.bool r) ∧ Below w.heap.size w w' := by
  unfold slipwaylaw10_RelForms.f at h
  by_cases hg : ¬ (formsOk (Go.bits .and .i64 a0 7).toNat = true)
  · rw [if_neg hg] at h; cases h
  rw [if_pos (Decidable.not_not.mp hg)] at h
  have hg2 := Decidable.not_not.mp hg
  clear hg
  obtain ⟨m, hm7, hm⟩ := YtjifmpjpccibnaaA.i64_and a0 7 (by decide)
  rw [show ((7 : Nat) : Int) = 7 from rfl] at hm
  rw [hm, Int.toNat_natCast] at hg2
  unfold formsOk at hg2
  simp only [Bool.and_eq_true] at hg2
  obtain ⟨x, hp1, hx0, hx1⟩ := formGood_is hg2.1
  obtain ⟨o, hp2⟩ := formBad_is hg2.2
  obtain ⟨I, hI⟩ : ∃ I, I = z64 ++ formRow 8 := ⟨_, rfl⟩
  rw [← hI] at hp1
  have HI := Aside0.mk hI
  clear hI
  have HP1 := Aside0.mk hp1
  have HP2 := Aside0.mk hp2
  have HA := Aside0.mk h
  clear hg2 hp1 hp2 h
  have hu48 := Try.underlying48
  have hmk0 := print_make (P := Try.prog) 45 5 .u8 1 Try.underlying45 info5 (by decide) 64 (by omega)
  have hmk : ∀ W : World, (Instr.makeSlice 45 (.int .i64 64) (.int .i64 64)).run Try.prog W = .ok (.slice (some ⟨W.heap.size, 0, none⟩) 64 64) (W.alloc (.cells (madeCells #[.int .u8 0] 64) 5)) := by
    intro W; have := hmk0 W; rwa [show ((64 : Nat) : Int) = 64 by omega] at this
  clear hmk0
  go_enter Try.func7, Try.ntmps7
  have HF0 := Aside0.mk (FS.start w)
  go_upto_region 4 with (fail)
  obtain ⟨W1, hW1⟩ : ∃ W, (((w.alloc (Obj.cells (madeCells #[Value.int IntKind.u8 0] 64) 5)).alloc (.cells #[.int .u8 0, .int .u8 0, .int .u8 0, .int .u8 0, .int .u8 12, .int .u8 0, .int .u8 0, .int .u8 0, .int .u8 8, .int .u8 160, .int .u8 0, .int .u8 0] 5 (0, 0))).alloc (.cells #[.int .i64 64, .int .i64 12] 48 (0, 0))) = W := ⟨_, rfl⟩
  rw [hW1] at HF0 ⊢
  have hws : W1.heap.size = w.heap.size + 3 := by rw [← hW1]; simp
  have HWS := Aside0.mk hws
  clear hW1 hws
  go_cut [6, 7] (fun v6 v7 wc => (∃ A c, v6 = .slice A 1 c ∧ Aside0 (Kd.R k60 60 wc (w.heap.size + 3) (fun k => w.heap.size + 3 ≤ k) (.slice A 1 c) [x])) ∧ v7 = .int .i64 0 ∧ Aside0 (FS w (formRow 8) 64 12 wc))
  case first =>
    have hd0 : W1.cell? ⟨w.heap.size + 1 + 1, 0, none⟩ = some (.int .i64 64) := (blk_cell HF0.out.2.2.1 0).trans rfl
    have hd1 : W1.cell? ⟨w.heap.size + 1 + 1, 1, none⟩ = some (.int .i64 12) := (blk_cell HF0.out.2.2.1 1).trans rfl
    have ha0 : ∀ o, (W1.alloc o).cell? ⟨w.heap.size + 1 + 1, 0, none⟩ = some (.int .i64 64) := fun o => (blk_cell (blk_alloc HF0.out.2.2.1 o) 0).trans rfl
    have ha1 : ∀ o, (W1.alloc o).cell? ⟨w.heap.size + 1 + 1, 1, none⟩ = some (.int .i64 12) := fun o => (blk_cell (blk_alloc HF0.out.2.2.1 o) 1).trans rfl
    go_region_law (first
      | (refine step_append_E rfl (.tmp 14) (.tmp 15) 45 45 5 (by rfl) Try.underlying45 info5 W1.heap.size (.slice (some ⟨W1.heap.size, 0, none⟩) 0 0) [] z64 (by rfl) (ERow.empty (Nat.le_refl _) (by simp)) (.slice (some ⟨w.heap.size, 0, none⟩) 64 64) (by rfl) (src_blk (HF0.out.below (by repeat (first | exact Below.refl _ _ | apply below_alloc | apply below_drew1))).1 z64_len (by omega)) (by rw [z64_len]; simp) (by simp) ?_; intro v1 w1 HE1 HG1 _; have HF1 := Aside0.mk ((HF0.out.below (by repeat (first | exact Below.refl _ _ | apply below_alloc | apply below_drew1))).grown (ERow.empty (base := W1.heap.size) (Nat.le_refl _) (by simp)) (by have := HWS.out; omega) HG1.out); have HE1' := Aside0.mk (show ERow w1 W1.heap.size v1 z64 from HE1.out); have hs1 : W1.heap.size ≤ w1.heap.size := Nat.le_trans (by simp) HG1.out.size; clear HE1 HG1; obtain ⟨A1, c1, rfl, _, _⟩ := HE1'.out.slice; have hd0 := (blk_cell HF1.out.2.2.1 0).trans rfl; have hd1 := (blk_cell HF1.out.2.2.1 1).trans rfl)
      | (refine step_append_E rfl (.tmp 16) (.tmp 17) 45 45 5 (by rfl) Try.underlying45 info5 W1.heap.size (.slice A1 z64.length c1) z64 (formRow 8) (by rfl) (HE1'.out.below (by repeat (first | exact Below.refl _ _ | apply below_alloc | apply below_drew1))) (.slice (some ⟨w.heap.size + 1, 0, none⟩) 12 12) (by rfl) (src_blk (HF1.out.below (by repeat (first | exact Below.refl _ _ | apply below_alloc | apply below_drew1))).2.1 (formRow_len 8) (by omega)) (by rw [z64_len, formRow_len]; simp) hs1 ?_; intro v2 w2 HE2 HG2 _; have HF2 := Aside0.mk ((HF1.out.below (by repeat (first | exact Below.refl _ _ | apply below_alloc | apply below_drew1))).grown (HE1'.out.below (by repeat (first | exact Below.refl _ _ | apply below_alloc | apply below_drew1))) (by have := HWS.out; omega) HG2.out); have HE2' := Aside0.mk (show ERow w2 W1.heap.size v2 I by rw [HI.out]; exact HE2.out); have hs2 : W1.heap.size ≤ w2.heap.size := Nat.le_trans hs1 (Nat.le_trans (by first | exact Nat.le_refl _ | simp) HG2.out.size); clear HE2 HG2; obtain ⟨A2, c2, rfl, hl2, _⟩ := HE2'.out.slice; have hd0 := (blk_cell HF2.out.2.2.1 0).trans rfl; have hd1 := (blk_cell HF2.out.2.2.1 1).trans rfl)
      | (go_simp; go_at_call 28; refine (rel_Parse.calls 0 A2 c2 I 64 12 [x] 0 _ (HE2'.out.below (by repeat (first | exact Below.refl _ _ | apply below_alloc | apply below_drew1))).C.2.2 hl2 HP1.out).mono ?_; rintro e w3 ⟨v3, rfl, hr3, hb3⟩; have HF3 := Aside0.mk ((HF2.out.below (by repeat (first | exact Below.refl _ _ | apply below_alloc | apply below_drew1))).below hb3); have HR3 := Aside0.mk hr3; clear hr3 hb3; obtain ⟨A3, c3, rfl⟩ := Kd.R_slice HR3.out))
    all_goals (go_wp2_with fail; go_meet; exact ⟨⟨A3, c3, rfl, ⟨Kd.R_mono (Kd.R_bound (Kd.R_lower HR3.out (by have := HWS.out; omega))) (fun k hk => hk.2.1)⟩⟩, rfl, HF3⟩)
  case rest =>
    obtain ⟨⟨A3, c3, rfl, HC3⟩, rfl, HF⟩ := hcut
    clear HF0 HWS HI HP1
    go_upto_block 0 with (fail)
    go_cut [] (fun wd => ∃ row d0 d1, Aside0 (FS w row d0 d1 wd) ∧ row.length = 12 ∧ Aside0 (rel_Parse.f 0 (z64 ++ row) d0 d1 = some (o, 9)) ∧ Aside0 (Kd.R k60 60 wd (w.heap.size + 3) (fun k => w.heap.size + 3 ≤ k) (.slice A3 1 c3) [x]))
    case first =>
      have hr1 := HF.out.2.1
      have hr2 := HF.out.2.2.1
      have hg4 := (blk_cell hr1 4).trans rfl
      have hg0 := (blk_cell hr1 0).trans rfl
      have hg8 := (blk_cell hr1 8).trans rfl
      have hg9 := (blk_cell hr1 9).trans rfl
      have hk0 := (blk_cell hr2 0).trans rfl
      have hk1 := (blk_cell hr2 1).trans rfl
      have hf4 := blk_frozen hr1 4
      have hf0 := blk_frozen hr1 0
      have hf8 := blk_frozen hr1 8
      have hf9 := blk_frozen hr1 9
      have hfk0 := blk_frozen hr2 0
      have hfk1 := blk_frozen hr2 1
      clear hr1 hr2
      have hm8 : m = 0 ∨ m = 1 ∨ m = 2 ∨ m = 3 ∨ m = 4 ∨ m = 5 ∨ m = 6 ∨ m = 7 := by omega
      rcases hm8 with rfl | rfl | rfl | rfl | rfl | rfl | rfl | rfl
      · go_wp2_with fail
        go_meet
        exact ⟨(formRow 8).set 4 4, 64, 12, ⟨HF.out.store 4 4⟩, by simp [formRow_len], ⟨HP2.out⟩, ⟨R60_far HC3.out _ (by simp) _⟩⟩
      · go_wp2_with fail
        go_meet
        exact ⟨(formRow 8).set 4 10, 64, 12, ⟨HF.out.store 4 10⟩, by simp [formRow_len], ⟨HP2.out⟩, ⟨R60_far HC3.out _ (by simp) _⟩⟩
      · go_wp2_with fail
        go_meet
        exact ⟨(formRow 8).set 4 16, 64, 12, ⟨HF.out.store 4 16⟩, by simp [formRow_len], ⟨HP2.out⟩, ⟨R60_far HC3.out _ (by simp) _⟩⟩
      · go_wp2_with fail
        go_meet
        exact ⟨(formRow 8).set 0 1, 64, 12, ⟨HF.out.store 0 1⟩, by simp [formRow_len], ⟨HP2.out⟩, ⟨R60_far HC3.out _ (by simp) _⟩⟩
      · go_wp2_with fail
        go_meet
        exact ⟨(formRow 8).set 9 80, 64, 12, ⟨HF.out.store 9 80⟩, by simp [formRow_len], ⟨HP2.out⟩, ⟨R60_far HC3.out _ (by simp) _⟩⟩
      · go_wp2_with fail
        go_meet
        exact ⟨((formRow 8).set 8 70).set 9 160, 64, 12, ⟨(HF.out.store 8 70).store 9 160⟩, by simp [formRow_len], ⟨HP2.out⟩, ⟨R60_far (R60_far HC3.out _ (by simp) _) _ (by simp) _⟩⟩
      · go_wp2_with fail
        go_meet
        exact ⟨formRow 8, 64, 11, ⟨HF.out.dir1 11⟩, by simp [formRow_len], ⟨HP2.out⟩, ⟨R60_far HC3.out _ (by simp) _⟩⟩
      · go_wp2_with fail
        go_meet
        exact ⟨formRow 8, 70, 12, ⟨HF.out.dir0 70⟩, by simp [formRow_len], ⟨HP2.out⟩, ⟨R60_far HC3.out _ (by simp) _⟩⟩
    case rest =>
      obtain ⟨row, d0, d1, HF4, hrl, HP4, HC4'⟩ := hcut
      obtain ⟨W4, rfl⟩ : ∃ y : World, y = wc := ⟨_, rfl⟩
      have HWS4 := Aside0.mk (show w.heap.size + 3 ≤ W4.heap.size by have := blk_lt HF4.out.2.2.1; omega)
      have HC4 := Aside0.mk (show Kd.R k60 60 W4 (w.heap.size + 3) (fun k => w.heap.size + 3 ≤ k ∧ k < W4.heap.size) (.slice A3 1 c3) [x] from Kd.R_mono (Kd.R_bound HC4'.out) (fun k hk => ⟨hk.1, hk.2.2.1⟩))
      obtain ⟨I2, hI2⟩ : ∃ I, I = z64 ++ row := ⟨_, rfl⟩
      rw [← hI2] at HP4
      have HI2 := Aside0.mk hI2
      clear hI2 HC4' HF HC3
      go_upto_region 21 with (fail)
      go_cut [8, 9] (fun v8 v9 wd => (∃ A c, v8 = .slice A o.length c) ∧ v9 = .int .i64 9 ∧ Aside0 (Below w.heap.size w wd) ∧ Aside0 (Kd.C k60 wd A3 1 [x]))
      case first =>
        have hd0 := (blk_cell HF4.out.2.2.1 0).trans rfl
        have hd1 := (blk_cell HF4.out.2.2.1 1).trans rfl
        have ha0 : ∀ o, (W4.alloc o).cell? ⟨w.heap.size + 1 + 1, 0, none⟩ = some (.int .i64 d0) := fun o => (blk_cell (blk_alloc HF4.out.2.2.1 o) 0).trans rfl
        have ha1 : ∀ o, (W4.alloc o).cell? ⟨w.heap.size + 1 + 1, 1, none⟩ = some (.int .i64 d1) := fun o => (blk_cell (blk_alloc HF4.out.2.2.1 o) 1).trans rfl
        go_region_law (first
          | (refine step_append_E rfl (.tmp 56) (.tmp 57) 45 45 5 (by rfl) Try.underlying45 info5 W4.heap.size (.slice (some ⟨W4.heap.size, 0, none⟩) 0 0) [] z64 (by rfl) (ERow.empty (Nat.le_refl _) (by simp)) (.slice (some ⟨w.heap.size, 0, none⟩) 64 64) (by rfl) (src_blk (HF4.out.below (by repeat (first | exact Below.refl _ _ | apply below_alloc | apply below_drew1))).1 z64_len (by omega)) (by rw [z64_len]; simp) (by simp) ?_; intro v1 w1 HE1 HG1 _; have HF1 := Aside0.mk ((HF4.out.below (by repeat (first | exact Below.refl _ _ | apply below_alloc | apply below_drew1))).grown (ERow.empty (base := W4.heap.size) (Nat.le_refl _) (by simp)) (by have := HWS4.out; omega) HG1.out); have HE1' := Aside0.mk (show ERow w1 W4.heap.size v1 z64 from HE1.out); have HC5 := Aside0.mk (show Kd.R k60 60 w1 (w.heap.size + 3) (fun k => w.heap.size + 3 ≤ k ∧ k < W4.heap.size) (.slice A3 1 c3) [x] from Kd.R_grown (Kd.R_below HC4.out (by repeat (first | exact Below.refl _ _ | apply below_alloc | apply below_drew1))) HG1.out (fun k hk e => by have := (ERow.empty (w := W4.alloc (.cells #[] 5 (0, 0))) (base := W4.heap.size) (g := W4.heap.size) (Nat.le_refl _) (by simp)).block k e.symm; omega)); have hs1 : W4.heap.size ≤ w1.heap.size := Nat.le_trans (by simp) HG1.out.size; clear HE1 HG1; obtain ⟨A1, c1, rfl, _, _⟩ := HE1'.out.slice; have hd0 := (blk_cell HF1.out.2.2.1 0).trans rfl; have hd1 := (blk_cell HF1.out.2.2.1 1).trans rfl)
          | (refine step_append_E rfl (.tmp 58) (.tmp 59) 45 45 5 (by rfl) Try.underlying45 info5 W4.heap.size (.slice A1 z64.length c1) z64 row (by rfl) (HE1'.out.below (by repeat (first | exact Below.refl _ _ | apply below_alloc | apply below_drew1))) (.slice (some ⟨w.heap.size + 1, 0, none⟩) 12 12) (by rfl) (src_blk (HF1.out.below (by repeat (first | exact Below.refl _ _ | apply below_alloc | apply below_drew1))).2.1 hrl (by omega)) (by rw [z64_len, hrl]; simp) hs1 ?_; intro v2 w2 HE2 HG2 _; have HF2 := Aside0.mk ((HF1.out.below (by repeat (first | exact Below.refl _ _ | apply below_alloc | apply below_drew1))).grown (HE1'.out.below (by repeat (first | exact Below.refl _ _ | apply below_alloc | apply below_drew1))) (by have := HWS4.out; omega) HG2.out); have HE2' := Aside0.mk (show ERow w2 W4.heap.size v2 I2 by rw [HI2.out]; exact HE2.out); have HC6 := Aside0.mk (show Kd.R k60 60 w2 (w.heap.size + 3) (fun k => w.heap.size + 3 ≤ k ∧ k < W4.heap.size) (.slice A3 1 c3) [x] from Kd.R_grown (Kd.R_below HC5.out (by repeat (first | exact Below.refl _ _ | apply below_alloc | apply below_drew1))) HG2.out (fun k hk e => by have := (HE1'.out.block k e.symm).1; omega)); have hs2 : W4.heap.size ≤ w2.heap.size := Nat.le_trans hs1 (Nat.le_trans (by first | exact Nat.le_refl _ | simp) HG2.out.size); clear HE2 HG2; obtain ⟨A2, c2, rfl, hl2, _⟩ := HE2'.out.slice; have hd0 := (blk_cell HF2.out.2.2.1 0).trans rfl; have hd1 := (blk_cell HF2.out.2.2.1 1).trans rfl)
          | (go_simp; go_at_call 28; refine (rel_Parse.calls 0 A2 c2 I2 d0 d1 o 9 _ (HE2'.out.below (by repeat (first | exact Below.refl _ _ | apply below_alloc | apply below_drew1))).C.2.2 hl2 HP4.out).mono ?_; rintro e w3 ⟨v3, rfl, hr3, hb3⟩; have HC7 := Aside0.mk (Kd.R_below (Kd.R_below HC6.out (by repeat (first | exact Below.refl _ _ | apply below_alloc | apply below_drew1))) hb3); have HF3 := Aside0.mk ((HF2.out.below (by repeat (first | exact Below.refl _ _ | apply below_alloc | apply below_drew1))).below hb3); have HR3 := Aside0.mk hr3; clear hr3 hb3; obtain ⟨A5, c5, rfl⟩ := Kd.R_slice HR3.out))
        all_goals (go_wp2_with fail; go_meet; exact ⟨⟨A5, c5, rfl⟩, rfl, ⟨HF3.out.2.2.2⟩, ⟨(Kd.R_reads' HC7.out).2.2⟩⟩)
      case rest =>
        obtain ⟨⟨A5, c5, rfl⟩, rfl, HB, HC8⟩ := hcut
        obtain ⟨ad, e, hc0, hc1⟩ := at_T60 HC8.out 0 (by omega) (by simp)
        cases e
        rw [show (rd_T60 [x] 0) = x from rfl, hx0] at hc0
        rw [show (rd_T60 [x] 0) = x from rfl, hx1] at hc1
        rw [show (0 : Int).toNat * 2 = 0 from rfl, show ad.add 0 = ad by first | (simp [go_sem]; done) | (unfold Addr.add; split <;> simp_all) | (cases ad; simp [Addr.add])] at hc0 hc1
        have hu60 := Try.underlying60
        go_wp2_with (go_at_call 29; refine (slipwaylaw10_awake.calls k r _ HA.out).mono ?_; rintro e w' ⟨rfl, hb⟩; have HBE := Aside0.mk hb; clear hb)
        go_ret
        exact ⟨rfl, below_then HB.out HB.out.size HBE.out⟩

end Go.Proofs.Ytjifmpjpccibnaa.D
