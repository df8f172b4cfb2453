/- slipwaylaw10.RelBases: what this function computes, with its contract; by hand. (No condition.) -/
import Derived.Test.YtjifmpjpccibnaaDx0
import Derived.Test.YtjifmpjpccibnaaDx64
import Derived.Test.YtjifmpjpccibnaaDx65
import Derived.Test.YtjifmpjpccibnaaDx69
import Derived.Test.YtjifmpjpccibnaaDx75
import Derived.Test.YtjifmpjpccibnaaE
import Derived.Test.YtjifmpjpccibnaaA
import Derived.Shelf.Abstract
import Derived.Shelf.Bytes.SlIndexAt
import Derived.Laws.CopyOwn
import Derived.Deep.RegionLaw
import Derived.Lib.Walk
import Derived.Lib.SliceRun
import Derived.WalkSpells
import Derived.IntWalk
namespace Go.Proofs.Ytjifmpjpccibnaa.D
open Go.RowKit Go.Proofs.YtjifmpjpccibnaaW.PrintWords Go.Proofs.YtjifmpjpccibnaaW.PrintLast Go.Proofs.YtjifmpjpccibnaaW.PrintMore Go.Proofs.YtjifmpjpccibnaaE
attribute [local go_sem] max2_int min2_int max_two min_two max_three min_three max_four min_four
set_option linter.unusedVariables false
set_option linter.unusedSimpArgs false
def slipwaylaw10_RelBases.T6 : Bool × List (List Nat × List Nat) := (true, [([], []), ([0], [0]), ([], []), ([2], [2]), ([1, 3], [1, 3]), ([4], [4]), ([5], [5]), ([6, 5], [5, 6]), ([5], [5]), ([8, 5], [5, 8]), ([7, 9, 5], [5, 7, 9]), ([5, 10], [5, 10]), ([11, 5], [11]), ([12], [12]), ([13, 12], [12, 13]), ([12], [12]), ([15, 12], [12, 15]), ([14, 16, 12], [12, 14, 16]), ([12, 17], [12, 17]), ([18, 12], [18]), ([19], [19]), ([19], [19]), ([20, 21, 19, 19], [19, 20, 21]), ([22, 19], [19, 22]), ([19], [19]), ([24, 19], [19, 24]), ([23, 25, 19], [19, 23, 25]), ([19, 26], [19, 26])])
def slipwaylaw10_RelBases.B6 : List Nat := [0, 1, 0, 4, 15, 31, 63, 127, 63, 319, 1023, 2047, 4095, 8191, 16383, 8191, 40959, 131071, 262143, 524287, 1048575, 1048575, 4194303, 8388607, 1048575, 17825791, 67108863, 134217727]
theorem slipwaylaw10_RelBases.tab6 : rtab .any (opsOf Try.f9 6) = slipwaylaw10_RelBases.T6 := by kernel_rfl
theorem slipwaylaw10_RelBases.bits6 : waitsOk slipwaylaw10_RelBases.T6.2 slipwaylaw10_RelBases.B6 = true := by kernel_rfl
theorem quiet_of0 {P : Program} {f : FuncId} {args : Array Value} {W : World} {a : Nat} {v : Value} (h : Calls P f args (W.drewN a) fun e w' => e = .returned v ∧ Drawn0 (W.drewN a) w') :
    Calls P f args (W.drewN a) fun e w'' => e = .returned v ∧ ∃ n, w'' = W.drewN n :=
  h.mono fun _ _ ⟨he, m, hm⟩ => ⟨he, a + m, by rw [hm, World.drewN_drewN]⟩
theorem event_stepN {P : Program} {ops : Array Oper} {Q : Exit → Act → World → Prop} {K : Act → World → Prop} {oi : Oper} {N : Option Tmp} {a : Act} {w w1 : World} {v : Value} (hw : Region.wanted oi (yielded ops a.tmps) = true) (hN : oi.dst = N) (hrun : (execOp a.eval oi).run P w = .ok (.value v) w1) (h : K (a.put N v) w1) :
    if Region.wanted oi (yielded ops a.tmps) = true then Oper.wp P oi a w K Q else K (a.put N undef) w := by
  subst hN
  exact event_step hw hrun h
/-- A row of bytes, as a text, whatever has been drawn. -/
structure CV (A : Option Addr) (c : Nat) (l : List Int) (W : World) : Prop where
  d0 : (convert 45 9 (.slice A l.length c)).run Try.prog W = .ok (.string (strOfNums l)) W
  d1 : (convert 45 9 (.slice A l.length c)).run Try.prog W.drew = .ok (.string (strOfNums l)) W.drew
  d2 : (convert 45 9 (.slice A l.length c)).run Try.prog W.drew.drew = .ok (.string (strOfNums l)) W.drew.drew
  d3 : (convert 45 9 (.slice A l.length c)).run Try.prog W.drew.drew.drew = .ok (.string (strOfNums l)) W.drew.drew.drew
  dn : ∀ n, (convert 45 9 (.slice A l.length c)).run Try.prog (W.drewN n) = .ok (.string (strOfNums l)) (W.drewN n)
theorem CV.mk' {A : Option Addr} {c : Nat} {l : List Int} {W : World} (h : Kd.C (Kd.int .u8) W A l.length l) : CV A c l W :=
  ⟨Kd.C_string Try.underlying45 Try.underlying5 Try.underlying9 h, Kd.C_string Try.underlying45 Try.underlying5 Try.underlying9 (Kd.C_drew h), Kd.C_string Try.underlying45 Try.underlying5 Try.underlying9 (Kd.C_drew (Kd.C_drew h)), Kd.C_string Try.underlying45 Try.underlying5 Try.underlying9 (Kd.C_drew (Kd.C_drew (Kd.C_drew h))), fun n => Kd.C_string Try.underlying45 Try.underlying5 Try.underlying9 (Kd.C_drewN h n)⟩
/-- How long a site is. -/
def bsLen (s : S60) : Int := if s.f0 = 10 then 8 else 4
def bsDiff (n v u x y : Int) : Bool :=
  if n = 4 then Go.bits .and .u64 (IntKind.u64.wrap (v - u)) 4294967295 == Go.bits .and .u64 (IntKind.u64.wrap (x - y)) 4294967295
  else IntKind.u64.wrap (v - u) == IntKind.u64.wrap (x - y)
def bsSite (k : Nat) (p q : List Int) (x y : Int) (s : S60) : Bool := match slipwayref1_Num.f k (strOfNums p) s.f1 (bsLen s), slipwayref1_Num.f k (strOfNums q) s.f1 (bsLen s) with
  | some v, some u => bsDiff (bsLen s) v.1 u.1 x y
  | _, _ => false
def bsIn (n : Nat) (s : S60) : Bool := (decide (s.f0 = 3) || decide (s.f0 = 10)) && decide (0 ≤ s.f1) && decide (s.f1 + bsLen s ≤ (n : Int))
/-- Is a byte of one of the sites? -/
def bsCov (own : List S60) (j : Nat) : Bool := own.any fun s => decide (s.f1 ≤ (j : Int)) && decide ((j : Int) < s.f1 + bsLen s)
def bsRest (own : List S60) (b p q : List Int) (j : Nat) : Bool := bsCov own j || ((p.getD j 0 == b.getD j 0) && (q.getD j 0 == b.getD j 0))
def basesOk (k : Nat) (b : List Int) (own : List S60) (x y : Int) (p q back z : List Int) : Bool :=
  decide (p.length = b.length) && decide (q.length = b.length) && decide (back = b) && decide (z = b) && own.all (bsIn b.length) && own.all (bsSite k p q x y) && (List.range b.length).all (bsRest own b p q)
def slipwaylaw10_RelBases.f (k : Nat) (l0 : List Int) (l1 : List S60) (a2 a3 : Int) : Option Bool :=
  if l0.length < 8 ∨ 300 < l0.length then slipwaylaw10_awake.f k
  else (slipwaylaw10_Apart.f k l1 (l0.length : Int)).bind fun own => (rel_Apply.f k l0 own a2).bind fun p => (rel_Apply.f k l0 own a3).bind fun q => (rel_Apply.f k p own (IntKind.u64.wrap (-a2))).bind fun back => (rel_Apply.f k l0 own 0).bind fun z =>
    if basesOk k l0 own a2 a3 p q back z = true ∧ own.length ≤ 1000 then slipwaylaw10_awake.f k else none
/-- What is kept in the loops. -/
def LB (w : World) (G : Nat) (own : List S60) (vo : Value) (p : List Int) (vp : Value) (q : List Int) (vq : Value) (n : Nat) (bs : List Bool) (wr : World) : Prop :=
  Below w.heap.size w wr ∧ Kd.R k60 60 wr w.heap.size (fun k => k ≠ G) vo own ∧ Kd.R (Kd.int .u8) 5 wr w.heap.size (fun k => k ≠ G) vp p ∧ Kd.R (Kd.int .u8) 5 wr w.heap.size (fun k => k ≠ G) vq q ∧ w.heap.size ≤ G ∧
    wr.ownsRow w.heap.size 4 1 (.slice (some ⟨G, 0, none⟩) n n) n (encs Value.bool bs)
theorem LB.drewN {w : World} {G : Nat} {own : List S60} {vo : Value} {p : List Int} {vp : Value} {q : List Int} {vq : Value} {n : Nat} {bs : List Bool} {wr : World} (h : LB w G own vo p vp q vq n bs wr) (m : Nat) : LB w G own vo p vp q vq n bs (wr.drewN m) := by
  obtain ⟨h1, h2, h3, h4, h5, h6⟩ := h
  exact ⟨pw_below_drewN h1 m, Kd.R_drewN h2 m, Kd.R_drewN h3 m, Kd.R_drewN h4 m, h5, h6⟩
theorem LB.set {w : World} {G : Nat} {own : List S60} {vo : Value} {p : List Int} {vp : Value} {q : List Int} {vq : Value} {n : Nat} {bs : List Bool} {wr : World} (h : LB w G own vo p vp q vq n bs wr) (i : Nat) (b : Bool) : LB w G own vo p vp q vq n (bs.set i b) (wr.setCell ⟨G, i, none⟩ (.bool b)) := by
  obtain ⟨h1, h2, h3, h4, h5, h6⟩ := h
  have hs := own_store_of h6 (i : Int) b
  rw [Int.toNat_natCast] at hs
  exact ⟨h1.setCell h5 _, Kd.R_far (p := ⟨G, i, none⟩) h2 (fun _ h => h) _, Kd.R_far (p := ⟨G, i, none⟩) h3 (fun _ h => h) _, Kd.R_far (p := ⟨G, i, none⟩) h4 (fun _ h => h) _, h5, hs.1⟩
/-- Which bytes have been marked: of the sites done, and so many of the one under way. -/
def bsAt (n : Nat) (done : List S60) (a k : Nat) : List Bool := (List.range n).map fun j => bsCov done j || (decide (a ≤ j) && decide (j < a + k))
theorem bsAt_zero (n : Nat) : bsAt n [] 0 0 = List.replicate n false := by
  apply List.ext_getElem
  · simp [bsAt]
  · intro i h1 h2
    simp [bsAt, bsCov]
theorem bsAt_set (n : Nat) (done : List S60) (a k : Nat) : (bsAt n done a k).set (a + k) true = bsAt n done a (k + 1) := by
  apply List.ext_getElem
  · simp [bsAt]
  · intro i h1 h2
    rw [List.getElem_set]
    simp only [bsAt, List.getElem_map, List.getElem_range]
    by_cases h : a + k = i
    · subst h
      rw [if_pos rfl, decide_eq_true (show a ≤ a + k by omega), decide_eq_true (show a + k < a + (k + 1) by omega)]
      simp
    · rw [if_neg h]
      congr 2
      rw [decide_eq_decide]
      omega
theorem bsAt_none (n : Nat) (done : List S60) (a b : Nat) : bsAt n done a 0 = bsAt n done b 0 := by
  apply List.map_congr_left
  intro j _
  rw [show (decide (a ≤ j) && decide (j < a + 0)) = false by simp, show (decide (b ≤ j) && decide (j < b + 0)) = false by simp]
theorem bsAt_get (n : Nat) (done : List S60) (a : Nat) (i : Nat) (h : i < n) : rdOf false (bsAt n done a 0) (i : Int) = bsCov done i := by
  simp only [rdOf, bsAt, Int.toNat_natCast, List.getD_eq_getElem?_getD, List.getElem?_map, List.getElem?_range h, Option.map_some, Option.getD_some]
  rw [show (decide (a ≤ i) && decide (i < a + 0)) = false by simp]
  simp
theorem bsAt_next (n : Nat) (done : List S60) (s : S60) (a k a' : Nat) (h0 : s.f1 = (a : Int)) (h1 : bsLen s = (k : Int)) : bsAt n done a k = bsAt n (done ++ [s]) a' 0 := by
  apply List.map_congr_left
  intro j _
  have : bsCov (done ++ [s]) j = (bsCov done j || (decide (a ≤ j) && decide (j < a + k))) := by
    simp only [bsCov, List.any_append, List.any_cons, List.any_nil, Bool.or_false]
    congr 2
    · rw [decide_eq_decide]; omega
    · rw [decide_eq_decide]; omega
  rw [this]
  rw [show (decide (a' ≤ j) && decide (j < a' + 0)) = false by simp]
  simp
set_option maxHeartbeats 4000000 in
set_option maxRecDepth 100000 in
theorem slipwaylaw10_RelBases.calls (k : Nat) (A0 : Option Addr) (c0 : Nat) (l0 : List Int) (A1 : Option Addr) (c1 : Nat) (l1 : List (S60)) (a2 a3 : Int) (r : Bool) (w : World) (hr0 : Kd.C (Kd.int .u8) w A0 l0.length l0) (hc0 : l0.length ≤ c0) (hr1 : Kd.C k60 w A1 l1.length l1) (hc1 : l1.length ≤ c1) (h : slipwaylaw10_RelBases.f k l0 l1 a2 a3 = some r) :
    Calls Try.prog 9 #[.slice A0 l0.length c0, .slice A1 l1.length c1, .int .u64 a2, .int .u64 a3] w fun e w' => e = .returned (.bool r) ∧ Below w.heap.size w w' := by
  have hu60 := Try.underlying60
  unfold slipwaylaw10_RelBases.f at h
  have HC0 := Aside0.mk hr0
  have HC1 := Aside0.mk hr1
  clear hr0 hr1
  by_cases h8 : l0.length < 8 ∨ 300 < l0.length
  · rw [if_pos h8] at h
    have HA := Aside0.mk h
    clear h
    rcases h8 with h8 | h8
    · have d1 := decide_eq_true (show (l0.length : Int) < 8 by omega)
      go_enter Try.func9, Try.ntmps9
      go_wp2_with (go_at_call 29; refine (slipwaylaw10_awake.calls k r _ HA.out).mono ?_; rintro e w' ⟨rfl, hb⟩)
      go_ret
      exact ⟨rfl, hb⟩
    · have d1 := decide_eq_false (show ¬ (l0.length : Int) < 8 by omega)
      have d2 := decide_eq_true (show (300 : Int) < (l0.length : Int) by omega)
      go_enter Try.func9, Try.ntmps9
      go_wp2_with (go_at_call 29; refine (slipwaylaw10_awake.calls k r _ HA.out).mono ?_; rintro e w' ⟨rfl, hb⟩)
      go_ret
      exact ⟨rfl, hb⟩
  rw [if_neg h8] at h
  have hl8 : 8 ≤ l0.length := by omega
  have hl300 : l0.length ≤ 300 := by omega
  clear h8
  obtain ⟨own, hown, h⟩ := Option.bind_eq_some_iff.mp h
  obtain ⟨p, hp, h⟩ := Option.bind_eq_some_iff.mp h
  obtain ⟨q, hq, h⟩ := Option.bind_eq_some_iff.mp h
  obtain ⟨back, hback, h⟩ := Option.bind_eq_some_iff.mp h
  obtain ⟨z, hz, h⟩ := Option.bind_eq_some_iff.mp h
  by_cases hok : basesOk k l0 own a2 a3 p q back z = true ∧ own.length ≤ 1000
  rotate_left
  · rw [if_neg hok] at h; cases h
  rw [if_pos hok] at h
  obtain ⟨hok, hol⟩ := hok
  simp only [basesOk, Bool.and_eq_true, decide_eq_true_eq, List.all_eq_true] at hok
  obtain ⟨⟨⟨⟨⟨⟨hpl, hql⟩, hbk⟩, hzz⟩, hin⟩, hsite⟩, hrest⟩ := hok
  rw [hbk] at hback
  rw [hzz] at hz
  have HA := Aside0.mk h
  have HOWN := Aside0.mk hown
  have HP := Aside0.mk hp
  have HQ := Aside0.mk hq
  have HBK := Aside0.mk hback
  have HZ := Aside0.mk hz
  have HIN := Aside0.mk hin
  have HSITE := Aside0.mk hsite
  have HREST := Aside0.mk hrest
  have HPL := Aside0.mk hpl
  have HQL := Aside0.mk hql
  clear h hown hp hq hback hz hin hsite hrest hbk hzz hpl hql
  have hmk := print_make_int 78 4 (.bool false) 1 Try.underlying78 info4 rfl (by decide) (l0.length : Int) (by omega) (by omega)
  rw [Int.toNat_natCast] at hmk
  have d1 := decide_eq_false (show ¬ (l0.length : Int) < 8 by omega)
  have d2 := decide_eq_false (show ¬ (300 : Int) < (l0.length : Int) by omega)
  go_enter Try.func9, Try.ntmps9
  go_wp2_with fail
  refine (slipwaylaw10_Apart.calls k A1 c1 l1 (l0.length : Int) own _ HC1.out hc1 HOWN.out).mono ?_
  rintro e w1 ⟨v1, rfl, hr1, hb1⟩
  obtain ⟨Ao, co, rfl⟩ := Kd.R_slice hr1
  have HO1 := Aside0.mk hr1
  have HB1 := Aside0.mk hb1
  clear hr1 hb1
  go_wp2_with fail
  refine (rel_Apply.calls k A0 c0 l0 Ao co own a2 p _ (Kd.C_below HC0.out HB1.out) hc0 (Kd.R_reads' HO1.out).2.2 (Kd.R_reads' HO1.out).2.1 HP.out).mono ?_
  rintro e w2 ⟨v2, rfl, hr2, hb2⟩
  obtain ⟨Ap, cp, rfl⟩ := Kd.R_slice hr2
  have HP2 := Aside0.mk hr2
  have HO2 := Aside0.mk (Kd.R_below HO1.out hb2)
  have HB2 := Aside0.mk (below_then HB1.out HB1.out.size hb2)
  clear hr2 hb2 HO1 HP
  go_wp2_with fail
  refine (rel_Apply.calls k A0 c0 l0 Ao co own a3 q _ (Kd.C_below HC0.out HB2.out) hc0 (Kd.R_reads' HO2.out).2.2 (Kd.R_reads' HO2.out).2.1 HQ.out).mono ?_
  rintro e w3 ⟨v3, rfl, hr3, hb3⟩
  obtain ⟨Aq, cq, rfl⟩ := Kd.R_slice hr3
  have HQ3 := Aside0.mk hr3
  have HP3 := Aside0.mk (Kd.R_below HP2.out hb3)
  have HO3 := Aside0.mk (Kd.R_below HO2.out hb3)
  have HB3 := Aside0.mk (below_then HB2.out HB2.out.size hb3)
  clear hr3 hb3 HO2 HP2 HQ
  go_wp2_with fail
  refine (rel_Apply.calls k Ap cp p Ao co own (IntKind.u64.wrap (-a2)) l0 _ (Kd.R_reads' HP3.out).2.2 (Kd.R_reads' HP3.out).2.1 (Kd.R_reads' HO3.out).2.2 (Kd.R_reads' HO3.out).2.1 HBK.out).mono ?_
  rintro e w4 ⟨v4, rfl, hr4, hb4⟩
  obtain ⟨Ak, ck, rfl⟩ := Kd.R_slice hr4
  have HK4 := Aside0.mk hr4
  have HQ4 := Aside0.mk (Kd.R_below HQ3.out hb4)
  have HP4 := Aside0.mk (Kd.R_below HP3.out hb4)
  have HO4 := Aside0.mk (Kd.R_below HO3.out hb4)
  have HB4 := Aside0.mk (below_then HB3.out HB3.out.size hb4)
  clear hr4 hb4 HO3 HP3 HQ3 HBK
  go_upto_region 6 with (fail)
  go_cut [77] (fun v77 wc => v77 = .bool false ∧ Aside0 (Below w4.heap.size w4 wc))
  case first =>
    have hpq1 : ((p.length : Int) != (l0.length : Int)) = false := by rw [HPL.out]; simp
    have hpq2 : ((q.length : Int) != (l0.length : Int)) = false := by rw [HQL.out]; simp
    have f1_ := Kd.C_string (P := Try.prog) (c := ck) Try.underlying45 Try.underlying5 Try.underlying9 (Kd.C_drew (Kd.R_reads' HK4.out).2.2)
    have g1_ := Kd.C_string (P := Try.prog) (c := c0) Try.underlying45 Try.underlying5 Try.underlying9 (Kd.C_drew (Kd.C_below HC0.out HB4.out))
    refine start_ (n := 28) (S := fun w' => (convert 45 9 (.slice Ak l0.length ck)).run Try.prog w' = .ok (.string (strOfNums l0)) w' ∧ (convert 45 9 (.slice A0 l0.length c0)).run Try.prog w' = .ok (.string (strOfNums l0)) w') (ds := []) #[false, false, false, false, false, false, false, false, false, false, false, false, false, false, false, false, false, false, false, false, false, false, false, false, false, false, false, false] (by kernel_rfl) rfl rfl ⟨f1_, g1_⟩ (fun hHeld => ?_)
    refine with_tabW slipwaylaw10_RelBases.tab6 slipwaylaw10_RelBases.bits6 (fun HT_ HW_ => ?_)
    refine pure_ (i := 0) (N := some 50) (v := ?_) (a' := ?_) #[true, false, false, false, false, false, false, false, false, false, false, false, false, false, false, false, false, false, false, false, false, false, false, false, false, false, false, false] rfl rfl (any_of HT_.out (by kernel_rfl)) (fun _ _ _ h => h) (Or.inl ⟨by rfl, ?_⟩) ?_ ?_
    rotate_left
    · intro w'
      go_simp
      try (with_reducible rfl)
    rotate_left
    · simp only [Act.put, List.setIfInBounds_toArray, List.set_cons_zero, List.set_cons_succ, i64_w, i32_w]
      rfl
    refine pure_ (i := 1) (N := some 51) (v := ?_) (a' := ?_) #[true, true, false, false, false, false, false, false, false, false, false, false, false, false, false, false, false, false, false, false, false, false, false, false, false, false, false, false] rfl rfl (any_of HT_.out (by kernel_rfl)) (fun _ _ _ h => h) (Or.inl ⟨by rfl, ?_⟩) ?_ ?_
    rotate_left
    · intro w'
      go_simp
      try (with_reducible rfl)
    rotate_left
    · simp only [Act.put, List.setIfInBounds_toArray, List.set_cons_zero, List.set_cons_succ, i64_w, i32_w]
      rfl
    refine pure_ (i := 2) (N := some 52) (v := ?_) (a' := ?_) #[true, true, true, false, false, false, false, false, false, false, false, false, false, false, false, false, false, false, false, false, false, false, false, false, false, false, false, false] rfl rfl (any_of HT_.out (by kernel_rfl)) (fun _ _ _ h => h) (Or.inl ⟨by rfl, ?_⟩) ?_ ?_
    rotate_left
    · intro w'
      go_simp
      try (with_reducible rfl)
    rotate_left
    · simp only [Act.put, List.setIfInBounds_toArray, List.set_cons_zero, List.set_cons_succ, i64_w, i32_w]
      rfl
    refine pure_ (i := 3) (N := some 53) (v := ?_) (a' := ?_) #[true, true, true, true, false, false, false, false, false, false, false, false, false, false, false, false, false, false, false, false, false, false, false, false, false, false, false, false] rfl rfl (any_of HT_.out (by kernel_rfl)) (fun _ _ _ h => h) (Or.inl ⟨by rfl, ?_⟩) ?_ ?_
    rotate_left
    · intro w'
      go_simp
      try (with_reducible rfl)
    rotate_left
    · simp only [Act.put, List.setIfInBounds_toArray, List.set_cons_zero, List.set_cons_succ, i64_w, i32_w]
      rfl
    refine pure_ (i := 4) (N := some 54) (v := ?_) (a' := ?_) #[true, true, true, true, true, false, false, false, false, false, false, false, false, false, false, false, false, false, false, false, false, false, false, false, false, false, false, false] rfl rfl (any_of HT_.out (by kernel_rfl)) (fun _ _ _ h => h) (Or.inl ⟨by rfl, ?_⟩) ?_ ?_
    rotate_left
    · intro w'
      go_simp
      try (with_reducible rfl)
    rotate_left
    · simp only [Act.put, List.setIfInBounds_toArray, List.set_cons_zero, List.set_cons_succ, i64_w, i32_w]
      rfl
    refine pure_ (i := 5) (N := some 55) (v := ?_) (a' := ?_) #[true, true, true, true, true, true, false, false, false, false, false, false, false, false, false, false, false, false, false, false, false, false, false, false, false, false, false, false] rfl rfl (any_of HT_.out (by kernel_rfl)) (fun _ _ _ h => h) (Or.inl ⟨by rfl, ?_⟩) ?_ ?_
    rotate_left
    · intro w'
      go_simp
      try (with_reducible rfl)
    rotate_left
    · simp only [Act.put, List.setIfInBounds_toArray, List.set_cons_zero, List.set_cons_succ, i64_w, i32_w]
      rfl
    refine pure_ (i := 6) (N := some 56) (v := ?_) (a' := ?_) #[true, true, true, true, true, true, true, false, false, false, false, false, false, false, false, false, false, false, false, false, false, false, false, false, false, false, false, false] rfl rfl (any_of HT_.out (by kernel_rfl)) (fun _ _ _ h => h) (Or.inl ⟨by rfl, ?_⟩) ?_ ?_
    rotate_left
    · intro w'
      go_simp
      try (with_reducible rfl)
    rotate_left
    · simp only [Act.put, List.setIfInBounds_toArray, List.set_cons_zero, List.set_cons_succ, i64_w, i32_w]
      rfl
    refine pure_ (i := 7) (N := some 57) (v := ?_) (a' := ?_) #[true, true, true, true, true, true, true, true, false, false, false, false, false, false, false, false, false, false, false, false, false, false, false, false, false, false, false, false] rfl rfl (any_of HT_.out (by kernel_rfl)) (fun _ _ _ h => h) (Or.inl ⟨by rfl, ?_⟩) ?_ ?_
    rotate_left
    · intro w'
      go_simp
      try (with_reducible rfl)
    rotate_left
    · simp only [Act.put, List.setIfInBounds_toArray, List.set_cons_zero, List.set_cons_succ, i64_w, i32_w]
      rfl
    refine pure_ (i := 8) (N := some 58) (v := ?_) (a' := ?_) #[true, true, true, true, true, true, true, true, true, false, false, false, false, false, false, false, false, false, false, false, false, false, false, false, false, false, false, false] rfl rfl (any_of HT_.out (by kernel_rfl)) (fun _ _ _ h => h) (Or.inl ⟨by rfl, ?_⟩) ?_ ?_
    rotate_left
    · intro w'
      go_simp
      try (with_reducible rfl)
    rotate_left
    · simp only [Act.put, List.setIfInBounds_toArray, List.set_cons_zero, List.set_cons_succ, i64_w, i32_w]
      rfl
    refine pure_ (i := 9) (N := some 59) (v := ?_) (a' := ?_) #[true, true, true, true, true, true, true, true, true, true, false, false, false, false, false, false, false, false, false, false, false, false, false, false, false, false, false, false] rfl rfl (any_of HT_.out (by kernel_rfl)) (fun _ _ _ h => h) (Or.inl ⟨by rfl, ?_⟩) ?_ ?_
    rotate_left
    · intro w'
      go_simp
      try (with_reducible rfl)
    rotate_left
    · simp only [Act.put, List.setIfInBounds_toArray, List.set_cons_zero, List.set_cons_succ, i64_w, i32_w]
      rfl
    refine pure_ (i := 10) (N := some 60) (v := ?_) (a' := ?_) #[true, true, true, true, true, true, true, true, true, true, true, false, false, false, false, false, false, false, false, false, false, false, false, false, false, false, false, false] rfl rfl (any_of HT_.out (by kernel_rfl)) (fun _ _ _ h => h) (Or.inl ⟨by rfl, ?_⟩) ?_ ?_
    rotate_left
    · intro w'
      go_simp
      try (with_reducible rfl)
    rotate_left
    · simp only [Act.put, List.setIfInBounds_toArray, List.set_cons_zero, List.set_cons_succ, i64_w, i32_w]
      rfl
    refine pure_ (i := 11) (N := some 61) (v := ?_) (a' := ?_) #[true, true, true, true, true, true, true, true, true, true, true, true, false, false, false, false, false, false, false, false, false, false, false, false, false, false, false, false] rfl rfl (any_of HT_.out (by kernel_rfl)) (fun _ _ _ h => h) (Or.inl ⟨by rfl, ?_⟩) ?_ ?_
    rotate_left
    · intro w'
      go_simp
      try (with_reducible rfl)
    rotate_left
    · simp only [Act.put, List.setIfInBounds_toArray, List.set_cons_zero, List.set_cons_succ, i64_w, i32_w]
      rfl
    refine pure_ (i := 12) (N := some 62) (v := ?_) (a' := ?_) #[true, true, true, true, true, true, true, true, true, true, true, true, true, false, false, false, false, false, false, false, false, false, false, false, false, false, false, false] rfl rfl (any_of HT_.out (by kernel_rfl)) (fun _ _ _ h => h) (Or.inl ⟨by rfl, ?_⟩) ?_ ?_
    rotate_left
    · intro w'
      go_simp
      try (with_reducible rfl)
    rotate_left
    · simp only [Act.put, List.setIfInBounds_toArray, List.set_cons_zero, List.set_cons_succ, i64_w, i32_w]
      rfl
    refine pure_ (i := 13) (N := some 63) (v := ?_) (a' := ?_) #[true, true, true, true, true, true, true, true, true, true, true, true, true, true, false, false, false, false, false, false, false, false, false, false, false, false, false, false] rfl rfl (any_of HT_.out (by kernel_rfl)) (fun _ _ _ h => h) (Or.inl ⟨by rfl, ?_⟩) ?_ ?_
    rotate_left
    · intro w'
      go_simp
      try (with_reducible rfl)
    rotate_left
    · simp only [Act.put, List.setIfInBounds_toArray, List.set_cons_zero, List.set_cons_succ, i64_w, i32_w]
      rfl
    refine take_ (i := 14) (N := some 64) (v := ?_) (a' := ?_) #[true, true, true, true, true, true, true, true, true, true, true, true, true, true, true, false, false, false, false, false, false, false, false, false, false, false, false, false] rfl rfl (take_ofW HT_.out HW_.out (by kernel_rfl)) (fun _ _ _ h => h) (Or.inl ⟨by rfl, ?_⟩) hHeld ?_ ?_
    rotate_left
    · rintro w' ⟨s0, s1⟩
      go_simp
      try (with_reducible rfl)
    rotate_left
    · simp only [Act.put, List.setIfInBounds_toArray, List.set_cons_zero, List.set_cons_succ, i64_w, i32_w]
      rfl
    refine pure_ (i := 15) (N := some 65) (v := ?_) (a' := ?_) #[true, true, true, true, true, true, true, true, true, true, true, true, true, true, true, true, false, false, false, false, false, false, false, false, false, false, false, false] rfl rfl (any_of HT_.out (by kernel_rfl)) (fun _ _ _ h => h) (Or.inl ⟨by rfl, ?_⟩) ?_ ?_
    rotate_left
    · intro w'
      go_simp
      try (with_reducible rfl)
    rotate_left
    · simp only [Act.put, List.setIfInBounds_toArray, List.set_cons_zero, List.set_cons_succ, i64_w, i32_w]
      rfl
    refine take_ (i := 16) (N := some 66) (v := ?_) (a' := ?_) #[true, true, true, true, true, true, true, true, true, true, true, true, true, true, true, true, true, false, false, false, false, false, false, false, false, false, false, false] rfl rfl (take_ofW HT_.out HW_.out (by kernel_rfl)) (fun _ _ _ h => h) (Or.inl ⟨by rfl, ?_⟩) hHeld ?_ ?_
    rotate_left
    · rintro w' ⟨s0, s1⟩
      go_simp
      try (with_reducible rfl)
    rotate_left
    · simp only [Act.put, List.setIfInBounds_toArray, List.set_cons_zero, List.set_cons_succ, i64_w, i32_w]
      rfl
    refine pure_ (i := 17) (N := some 67) (v := ?_) (a' := ?_) #[true, true, true, true, true, true, true, true, true, true, true, true, true, true, true, true, true, true, false, false, false, false, false, false, false, false, false, false] rfl rfl (any_of HT_.out (by kernel_rfl)) (fun _ _ _ h => h) (Or.inl ⟨by rfl, ?_⟩) ?_ ?_
    rotate_left
    · intro w'
      go_simp
      try (with_reducible rfl)
    rotate_left
    · simp only [Act.put, List.setIfInBounds_toArray, List.set_cons_zero, List.set_cons_succ, i64_w, i32_w]
      rfl
    refine pure_ (i := 18) (N := some 68) (v := ?_) (a' := ?_) #[true, true, true, true, true, true, true, true, true, true, true, true, true, true, true, true, true, true, true, false, false, false, false, false, false, false, false, false] rfl rfl (any_of HT_.out (by kernel_rfl)) (fun _ _ _ h => h) (Or.inl ⟨by rfl, ?_⟩) ?_ ?_
    rotate_left
    · intro w'
      go_simp
      try (with_reducible rfl)
    rotate_left
    · simp only [Act.put, List.setIfInBounds_toArray, List.set_cons_zero, List.set_cons_succ, i64_w, i32_w]
      rfl
    refine pure_ (i := 19) (N := some 69) (v := ?_) (a' := ?_) #[true, true, true, true, true, true, true, true, true, true, true, true, true, true, true, true, true, true, true, true, false, false, false, false, false, false, false, false] rfl rfl (any_of HT_.out (by kernel_rfl)) (fun _ _ _ h => h) (Or.inl ⟨by rfl, ?_⟩) ?_ ?_
    rotate_left
    · intro w'
      go_simp
      try (with_reducible rfl)
    rotate_left
    · simp only [Act.put, List.setIfInBounds_toArray, List.set_cons_zero, List.set_cons_succ, i64_w, i32_w]
      rfl
    refine pure_ (i := 20) (N := some 70) (v := ?_) (a' := ?_) #[true, true, true, true, true, true, true, true, true, true, true, true, true, true, true, true, true, true, true, true, true, false, false, false, false, false, false, false] rfl rfl (any_of HT_.out (by kernel_rfl)) (fun _ _ _ h => h) (Or.inl ⟨by rfl, ?_⟩) ?_ ?_
    rotate_left
    · intro w'
      go_simp
      try (with_reducible rfl)
    rotate_left
    · simp only [Act.put, List.setIfInBounds_toArray, List.set_cons_zero, List.set_cons_succ, i64_w, i32_w]
      rfl
    refine pure_ (i := 21) (N := some 71) (v := ?_) (a' := ?_) #[true, true, true, true, true, true, true, true, true, true, true, true, true, true, true, true, true, true, true, true, true, true, false, false, false, false, false, false] rfl rfl (any_of HT_.out (by kernel_rfl)) (fun _ _ _ h => h) (Or.inl ⟨by rfl, ?_⟩) ?_ ?_
    rotate_left
    · intro w'
      go_simp
      try (with_reducible rfl)
    rotate_left
    · simp only [Act.put, List.setIfInBounds_toArray, List.set_cons_zero, List.set_cons_succ, i64_w, i32_w]
      rfl
    refine pure_ (i := 24) (N := some 74) (v := ?_) (a' := ?_) #[true, true, true, true, true, true, true, true, true, true, true, true, true, true, true, true, true, true, true, true, true, true, false, false, true, false, false, false] rfl rfl (any_of HT_.out (by kernel_rfl)) (fun _ _ _ h => h) (Or.inl ⟨by rfl, ?_⟩) ?_ ?_
    rotate_left
    · intro w'
      go_simp
      try (with_reducible rfl)
    rotate_left
    · simp only [Act.put, List.setIfInBounds_toArray, List.set_cons_zero, List.set_cons_succ, i64_w, i32_w]
      rfl
    refine take_ (i := 25) (N := some 75) (v := ?_) (a' := ?_) #[true, true, true, true, true, true, true, true, true, true, true, true, true, true, true, true, true, true, true, true, true, true, false, false, true, true, false, false] rfl rfl (take_ofW HT_.out HW_.out (by kernel_rfl)) (fun _ _ _ h => h) (Or.inl ⟨by rfl, ?_⟩) hHeld ?_ ?_
    rotate_left
    · rintro w' ⟨s0, s1⟩
      go_simp
      try (with_reducible rfl)
    rotate_left
    · simp only [Act.put, List.setIfInBounds_toArray, List.set_cons_zero, List.set_cons_succ, i64_w, i32_w]
      rfl
    refine one_ (i := 22) (N := some 72) #[true, true, true, true, true, true, true, true, true, true, true, true, true, true, true, true, true, true, true, true, true, true, true, false, true, true, false, false] rfl rfl (one_of HT_.out (by kernel_rfl)) (by decide) (fun K hK => ?_)
    refine goes_ Try.func35 (by kernel_rfl) rfl #[.slice A0 l0.length c0, .slice Ao own.length co, .int .u64 0] (by rfl) rfl rfl (by (try simp only [List.map_toArray, List.map_cons, List.map_nil]); first | done | rfl) ?_
    refine (rel_Apply.calls k A0 c0 l0 Ao co own 0 l0 _ (Kd.C_drew (Kd.C_below HC0.out HB4.out)) hc0 (Kd.C_drew (Kd.R_reads' HO4.out).2.2) (Kd.R_reads' HO4.out).2.1 HZ.out).mono ?_
    rintro e w5 ⟨v5, rfl, hr5, hb5⟩
    obtain ⟨Az, cz, rfl⟩ := Kd.R_slice hr5
    have HB5 := Aside0.mk (below_then (B := w4.heap.size) (w := w4) (below_drew1 (Below.refl _ _)) (Nat.le_refl _) hb5)
    have hz5 := Kd.C_string (P := Try.prog) (c := cz) Try.underlying45 Try.underlying5 Try.underlying9 (Kd.R_reads' hr5).2.2
    have hS5 := And.intro (Kd.C_string (P := Try.prog) (c := ck) Try.underlying45 Try.underlying5 Try.underlying9 (Kd.C_below (Kd.R_reads' HK4.out).2.2 HB5.out)) (Kd.C_string (P := Try.prog) (c := c0) Try.underlying45 Try.underlying5 Try.underlying9 (Kd.C_below (Kd.C_below HC0.out HB4.out) HB5.out))
    clear hr5 hb5
    refine ⟨_, rfl, ?_⟩
    refine hK.out _ _ hS5 (fun hHeld => ?_)
    clear hK K
    refine one_ (i := 23) (N := some 73) #[true, true, true, true, true, true, true, true, true, true, true, true, true, true, true, true, true, true, true, true, true, true, true, true, true, true, false, false] rfl rfl (one_of HT_.out (by kernel_rfl)) (by decide) (fun K hK => ?_)
    refine event_stepN (N := some 73) (by rfl) rfl (w1 := w5) (v := .string (strOfNums l0)) (by go_simp) ?_
    refine hK.out _ _ hS5 (fun hHeld => ?_)
    clear hK K
    refine pure_ (i := 26) (N := some 76) (v := ?_) (a' := ?_) #[true, true, true, true, true, true, true, true, true, true, true, true, true, true, true, true, true, true, true, true, true, true, true, true, true, true, true, false] rfl rfl (any_of HT_.out (by kernel_rfl)) (fun _ _ _ h => h) (Or.inl ⟨by rfl, ?_⟩) ?_ ?_
    rotate_left
    · intro w'
      go_simp
      try (with_reducible rfl)
    rotate_left
    · simp only [Act.put, List.setIfInBounds_toArray, List.set_cons_zero, List.set_cons_succ, i64_w, i32_w]
      rfl
    refine pure_ (i := 27) (N := some 77) (v := ?_) (a' := ?_) #[true, true, true, true, true, true, true, true, true, true, true, true, true, true, true, true, true, true, true, true, true, true, true, true, true, true, true, true] rfl rfl (any_of HT_.out (by kernel_rfl)) (fun _ _ _ h => h) (Or.inl ⟨by rfl, ?_⟩) ?_ ?_
    rotate_left
    · intro w'
      go_simp
      try (with_reducible rfl)
    rotate_left
    · simp only [Act.put, List.setIfInBounds_toArray, List.set_cons_zero, List.set_cons_succ, i64_w, i32_w]
      rfl
    refine done_ (done_of HT_.out (by kernel_rfl)) ?_
    go_wp2_with fail
    go_meet
    exact ⟨rfl, HB5⟩
  case rest =>
    obtain ⟨rfl, HBc⟩ := hcut
    have HB8 := Aside0.mk (below_then HB4.out HB4.out.size HBc.out)
    have HL0 := Aside0.mk (show LB w wc.heap.size own (.slice Ao own.length co) p (.slice Ap p.length cp) q (.slice Aq q.length cq) l0.length (bsAt l0.length [] 0 0) (wc.alloc (.cells (madeCells #[.bool false] l0.length) 4 (0, 0))) by
      have mv : ∀ {α : Type} {d : Kd α} {e : Nat} {v : Value} {xs : List α} {b : Nat} {ok : Nat → Prop}, w.heap.size ≤ b → Kd.R d e w4 b ok v xs → Kd.R d e (wc.alloc (.cells (madeCells #[.bool false] l0.length) 4 (0, 0))) w.heap.size (fun k => k ≠ wc.heap.size) v xs := by
        intro α d e v xs b ok hb h
        exact Kd.R_alloc (Kd.R_mono (Kd.R_bound (Kd.R_below (Kd.R_lower h hb) HBc.out)) (fun k hk => by have := hk.2.2.1; show k ≠ wc.heap.size; omega)) _
      refine ⟨below_alloc HB8.out _, mv (Nat.le_refl _) HO4.out, mv HB1.out.size HP4.out, mv HB2.out.size HQ4.out, HB8.out.size, ?_⟩
      rw [bsAt_zero]
      have h1 := own_made_of' (enc := Value.bool) (d := false) wc w.heap.size 4 l0.length HB8.out.size (by omega)
      rwa [List.length_replicate] at h1)
    clear HK4 HQ4 HP4 HO4 HB4 HBc HB3
    go_wp2_with fail
    go_loopw [14, 15, 16, 17, 18, 19, 20, 21, 22] (fun v14 v15 v16 v17 v18 v19 v20 v21 v22 wr => ∃ i : Nat, i ≤ own.length ∧ v14 = .int .i64 (i : Int) ∧ (∃ x, v15 = x) ∧ (∃ x, v16 = x) ∧ (∃ x, v17 = x) ∧ (∃ x, v18 = x) ∧ (∃ x, v19 = x) ∧ (∃ x, v20 = x) ∧ (∃ x, v21 = x) ∧ (∃ x, v22 = x) ∧ Aside0 (LB w wc.heap.size own (.slice Ao own.length co) p (.slice Ap p.length cp) q (.slice Aq q.length cq) l0.length (bsAt l0.length (own.take i) 0 0) wr)) (fun v14 _ _ _ _ _ _ _ _ _ => own.length - (intOf v14).toNat)
    case atStart => exact ⟨0, Nat.zero_le _, rfl, ⟨_, rfl⟩, ⟨_, rfl⟩, ⟨_, rfl⟩, ⟨_, rfl⟩, ⟨_, rfl⟩, ⟨_, rfl⟩, ⟨_, rfl⟩, ⟨_, rfl⟩, HL0⟩
    case round =>
      clear HL0
      obtain ⟨i, hi, rfl, ⟨x15, rfl⟩, ⟨x16, rfl⟩, ⟨x17, rfl⟩, ⟨x18, rfl⟩, ⟨x19, rfl⟩, ⟨x20, rfl⟩, ⟨x21, rfl⟩, ⟨x22, rfl⟩, HL⟩ := hrel
      by_cases hlt : i < own.length
      · have hd := decide_eq_true hlt
        obtain ⟨wo, rfl⟩ : ∃ y : World, y = wr := ⟨_, rfl⟩
        obtain ⟨hb, hO, hP, hQ, hG, hbs⟩ := HL.out
        have HCO := Aside0.mk (Kd.R_reads' hO).2.2
        obtain ⟨ad, e, hy0, hy1⟩ := at_T60 (Kd.R_reads' hO).2.2 (i : Int) (by omega) (by omega)
        cases e
        rw [Int.toNat_natCast] at hy0 hy1
        have hmem : rd_T60 own (i : Int) ∈ own := by
          simp only [rd_T60, Int.toNat_natCast, List.getD_eq_getElem?_getD, List.getElem?_eq_getElem hlt, Option.getD_some]
          exact List.getElem_mem _
        have hin1 := HIN.out _ hmem
        have hs := HSITE.out _ hmem
        have HTK := Aside0.mk (show own.take (i + 1) = own.take i ++ [rd_T60 own (i : Int)] by
          rw [List.take_succ_eq_append_getElem hlt]
          congr 2
          simp [rd_T60, hlt])
        obtain ⟨x, hx⟩ : ∃ x, rd_T60 own (i : Int) = x := ⟨_, rfl⟩
        rw [hx] at hy0 hy1 hin1 hs HTK
        have HXX := Aside0.mk hx
        clear hx hmem
        simp only [bsIn, Bool.and_eq_true, Bool.or_eq_true, decide_eq_true_eq] at hin1
        obtain ⟨⟨hin1, hin2⟩, hin3⟩ := hin1
        obtain ⟨a, hr⟩ := Int.eq_ofNat_of_zero_le hin2
        have HNX := Aside0.mk (fun k h1 => bsAt_next l0.length (own.take i) x a k 0 hr (h1 : bsLen x = (k : Int)))
        obtain ⟨cp0, cp1, _, _, cpn⟩ := CV.mk' (c := cp) (Kd.R_reads' hP).2.2
        obtain ⟨cq0, cq1, _, _, cqn⟩ := CV.mk' (c := cq) (Kd.R_reads' hQ).2.2
        unfold bsSite at hs
        clear hb hO hP hQ hbs
        by_cases h10 : x.f0 = 10
        · have hk10 : (x.f0 == 10) = true := by rw [beq_iff_eq]; omega
          have hbl : bsLen x = 8 := by unfold bsLen; rw [if_pos (by omega)]
          rw [hbl] at hs hin3
          rcases hv : slipwayref1_Num.f k (strOfNums p) x.f1 8 with _ | ⟨v, vb⟩
          · rw [hv] at hs; cases hs
          rcases hu : slipwayref1_Num.f k (strOfNums q) x.f1 8 with _ | ⟨u, ub⟩
          · rw [hv, hu] at hs; cases hs
          rw [hv, hu] at hs
          simp only [bsDiff] at hs
          rw [if_neg (by decide)] at hs
          have hne : (IntKind.u64.wrap (v - u) != IntKind.u64.wrap (a2 - a3)) = false := by simpa using hs
          have HV := Aside0.mk hv
          have HU := Aside0.mk hu
          rw [hr] at HV HU hy1
          have HX := Aside0.mk hr
          clear hv hu hs hin1
          go_wp2
          go_quiet ((go_at_call 38; first | exact quiet_of0 (slipwayref1_Num.calls k (strOfNums p) (a : Int) 8 v vb _ HV.out) | exact quiet_of_add (slipwayref1_Num.calls k (strOfNums p) (a : Int) 8 v vb _ HV.out)))
          go_wp2
          go_quiet ((go_at_call 38; first | exact quiet_of0 (slipwayref1_Num.calls k (strOfNums q) (a : Int) 8 u ub _ HU.out) | exact quiet_of_add (slipwayref1_Num.calls k (strOfNums q) (a : Int) 8 u ub _ HU.out)))
          go_wp2
          have HI0 := Aside0.mk (show ∀ m, LB w wc.heap.size own (.slice (some ad) own.length co) p (.slice Ap p.length cp) q (.slice Aq q.length cq) l0.length (bsAt l0.length (own.take i) a 0) (wo.drewN m) from fun m => by rw [bsAt_none _ _ a 0]; exact HL.out.drewN m)
          have HNE := Aside0.mk (show bsAt l0.length (own.take i) a 8 = bsAt l0.length (own.take (i + 1)) 0 0 by rw [HTK.out]; exact HNX.out 8 hbl)
          have hal : a + 8 ≤ l0.length := by have := hr ▸ hin3; omega
          clear hy0 hy1 cp0 cp1 cpn cq0 cq1 cqn hne hin2 hbl hin3 hr
          go_loopw [22] (fun v22 wr => ∃ kk : Nat, kk ≤ 8 ∧ v22 = .int .i64 (kk : Int) ∧ Aside0 (LB w wc.heap.size own (.slice (some ad) own.length co) p (.slice Ap p.length cp) q (.slice Aq q.length cq) l0.length (bsAt l0.length (own.take i) a kk) wr)) (fun v22 _ => 8 - (intOf v22).toNat)
          case atStart => exact ⟨0, Nat.zero_le _, rfl, ⟨HI0.out _⟩⟩
          case round =>
            clear HI0
            obtain ⟨kk, hkk, rfl, HK⟩ := hrel
            by_cases hk8 : kk < 8
            · have hd8 := decide_eq_true (show (kk : Int) < 8 by omega)
              obtain ⟨_, hO2, _, _, _, hbs2⟩ := HK.out
              obtain ⟨ad2, e, hy0, hy1⟩ := at_T60 (Kd.R_reads' hO2).2.2 (i : Int) (by omega) (by omega)
              cases e
              rw [Int.toNat_natCast] at hy0 hy1
              rw [HXX.out, HX.out] at hy1
              obtain ⟨hc1', hc2'⟩ := own_at_of (d := false) hbs2 ((a + kk : Nat) : Int) (by omega) (by omega)
              rw [Int.toNat_natCast] at hc1' hc2'
              generalize rdOf false (bsAt l0.length (own.take i) a kk) ((a + kk : Nat) : Int) = old at *
              have HN2 := Aside0.mk (show LB w wc.heap.size own (.slice (some ad) own.length co) p (.slice Ap p.length cp) q (.slice Aq q.length cq) l0.length (bsAt l0.length (own.take i) a (kk + 1)) (wr.setCell ⟨wc.heap.size, a + kk, none⟩ (.bool true)) by rw [← bsAt_set]; exact HK.out.set (a + kk) true)
              have hsum : IntKind.i64.wrap ((a : Int) + (kk : Int)) = ((a + kk : Nat) : Int) := by exact IntWalk.i64_in _ (by omega)
              have hakl : a + kk < l0.length := by omega
              clear hy0 hO2 hbs2
              obtain ⟨ak, hak⟩ : ∃ ak, a + kk = ak := ⟨_, rfl⟩
              rw [hak] at hc1' hc2' HN2 hsum hakl
              clear hak
              go_wp2
              go_roundw
              case rel => exact ⟨kk + 1, by omega, by go_num, HN2⟩
              case measure => simp [intOf]; omega
            · obtain rfl : kk = 8 := by omega
              have hd8 := decide_eq_false (show ¬ ((8 : Int) < 8) by omega)
              rw [HNE.out] at HK
              clear HNE
              go_wp2
              go_roundw
              case rel => exact ⟨i + 1, by omega, by go_num, ⟨_, rfl⟩, ⟨_, rfl⟩, ⟨_, rfl⟩, ⟨_, rfl⟩, ⟨_, rfl⟩, ⟨_, rfl⟩, ⟨_, rfl⟩, ⟨_, rfl⟩, HK⟩
              case measure => simp [intOf]; omega
        · have hk10 : (x.f0 == 10) = false := by rw [beq_eq_false_iff_ne]; omega
          have hbl : bsLen x = 4 := by unfold bsLen; rw [if_neg (by omega)]
          rw [hbl] at hs hin3
          rcases hv : slipwayref1_Num.f k (strOfNums p) x.f1 4 with _ | ⟨v, vb⟩
          · rw [hv] at hs; cases hs
          rcases hu : slipwayref1_Num.f k (strOfNums q) x.f1 4 with _ | ⟨u, ub⟩
          · rw [hv, hu] at hs; cases hs
          rw [hv, hu] at hs
          simp only [bsDiff] at hs
          rw [if_pos trivial] at hs
          have hne : (Go.bits .and .u64 (IntKind.u64.wrap (v - u)) 4294967295 != Go.bits .and .u64 (IntKind.u64.wrap (a2 - a3)) 4294967295) = false := by simpa using hs
          have HV := Aside0.mk hv
          have HU := Aside0.mk hu
          rw [hr] at HV HU hy1
          have HX := Aside0.mk hr
          clear hv hu hs hin1
          go_wp2
          go_quiet ((go_at_call 38; first | exact quiet_of0 (slipwayref1_Num.calls k (strOfNums p) (a : Int) 4 v vb _ HV.out) | exact quiet_of_add (slipwayref1_Num.calls k (strOfNums p) (a : Int) 4 v vb _ HV.out)))
          go_wp2
          go_quiet ((go_at_call 38; first | exact quiet_of0 (slipwayref1_Num.calls k (strOfNums q) (a : Int) 4 u ub _ HU.out) | exact quiet_of_add (slipwayref1_Num.calls k (strOfNums q) (a : Int) 4 u ub _ HU.out)))
          go_wp2
          have HI0 := Aside0.mk (show ∀ m, LB w wc.heap.size own (.slice (some ad) own.length co) p (.slice Ap p.length cp) q (.slice Aq q.length cq) l0.length (bsAt l0.length (own.take i) a 0) (wo.drewN m) from fun m => by rw [bsAt_none _ _ a 0]; exact HL.out.drewN m)
          have HNE := Aside0.mk (show bsAt l0.length (own.take i) a 4 = bsAt l0.length (own.take (i + 1)) 0 0 by rw [HTK.out]; exact HNX.out 4 hbl)
          have hal : a + 4 ≤ l0.length := by have := hr ▸ hin3; omega
          clear hy0 hy1 cp0 cp1 cpn cq0 cq1 cqn hne hin2 hbl hin3 hr
          go_loopw [22] (fun v22 wr => ∃ kk : Nat, kk ≤ 4 ∧ v22 = .int .i64 (kk : Int) ∧ Aside0 (LB w wc.heap.size own (.slice (some ad) own.length co) p (.slice Ap p.length cp) q (.slice Aq q.length cq) l0.length (bsAt l0.length (own.take i) a kk) wr)) (fun v22 _ => 4 - (intOf v22).toNat)
          case atStart => exact ⟨0, Nat.zero_le _, rfl, ⟨HI0.out _⟩⟩
          case round =>
            clear HI0
            obtain ⟨kk, hkk, rfl, HK⟩ := hrel
            by_cases hk8 : kk < 4
            · have hd8 := decide_eq_true (show (kk : Int) < 4 by omega)
              obtain ⟨_, hO2, _, _, _, hbs2⟩ := HK.out
              obtain ⟨ad2, e, hy0, hy1⟩ := at_T60 (Kd.R_reads' hO2).2.2 (i : Int) (by omega) (by omega)
              cases e
              rw [Int.toNat_natCast] at hy0 hy1
              rw [HXX.out, HX.out] at hy1
              obtain ⟨hc1', hc2'⟩ := own_at_of (d := false) hbs2 ((a + kk : Nat) : Int) (by omega) (by omega)
              rw [Int.toNat_natCast] at hc1' hc2'
              generalize rdOf false (bsAt l0.length (own.take i) a kk) ((a + kk : Nat) : Int) = old at *
              have HN2 := Aside0.mk (show LB w wc.heap.size own (.slice (some ad) own.length co) p (.slice Ap p.length cp) q (.slice Aq q.length cq) l0.length (bsAt l0.length (own.take i) a (kk + 1)) (wr.setCell ⟨wc.heap.size, a + kk, none⟩ (.bool true)) by rw [← bsAt_set]; exact HK.out.set (a + kk) true)
              have hsum : IntKind.i64.wrap ((a : Int) + (kk : Int)) = ((a + kk : Nat) : Int) := by exact IntWalk.i64_in _ (by omega)
              have hakl : a + kk < l0.length := by omega
              clear hy0 hO2 hbs2
              obtain ⟨ak, hak⟩ : ∃ ak, a + kk = ak := ⟨_, rfl⟩
              rw [hak] at hc1' hc2' HN2 hsum hakl
              clear hak
              go_wp2
              go_roundw
              case rel => exact ⟨kk + 1, by omega, by go_num, HN2⟩
              case measure => simp [intOf]; omega
            · obtain rfl : kk = 4 := by omega
              have hd8 := decide_eq_false (show ¬ ((4 : Int) < 4) by omega)
              rw [HNE.out] at HK
              clear HNE
              go_wp2
              go_roundw
              case rel => exact ⟨i + 1, by omega, by go_num, ⟨_, rfl⟩, ⟨_, rfl⟩, ⟨_, rfl⟩, ⟨_, rfl⟩, ⟨_, rfl⟩, ⟨_, rfl⟩, ⟨_, rfl⟩, ⟨_, rfl⟩, HK⟩
              case measure => simp [intOf]; omega
      · obtain rfl : i = own.length := by omega
        have hd := decide_eq_false (show ¬ (own.length < own.length) by omega)
        have HL2 := Aside0.mk (show LB w wc.heap.size own (.slice Ao own.length co) p (.slice Ap p.length cp) q (.slice Aq q.length cq) l0.length (bsAt l0.length own 0 0) wr by have := HL.out; rwa [List.take_length] at this)
        clear HL HSITE HIN HOWN HZ hd
        go_wp2
        go_loopw [23] (fun v23 wr => ∃ j : Nat, j ≤ l0.length ∧ v23 = .int .i64 (j : Int) ∧ Aside0 (LB w wc.heap.size own (.slice Ao own.length co) p (.slice Ap p.length cp) q (.slice Aq q.length cq) l0.length (bsAt l0.length own 0 0) wr)) (fun v23 _ => l0.length - (intOf v23).toNat)
        case atStart => exact ⟨0, Nat.zero_le _, rfl, HL2⟩
        case round =>
          clear HL2
          obtain ⟨j, hj, rfl, HL⟩ := hrel
          by_cases hlt : j < l0.length
          · have hd := decide_eq_true hlt
            obtain ⟨hb, hO, hP, hQ, hG, hbs⟩ := HL.out
            have hrj := HREST.out j (List.mem_range.2 hlt)
            obtain ⟨hc1', hc2'⟩ := own_at_of (d := false) hbs (j : Int) (by omega) (by omega)
            rw [bsAt_get l0.length own 0 j hlt] at hc1'
            rw [Int.toNat_natCast] at hc1'
            have hpl := HPL.out
            have hql := HQL.out
            obtain ⟨ap, ep, hpc⟩ := Kd.at_int (Kd.R_reads' hP).2.2 (j : Int) (by omega) (by omega)
            obtain ⟨aq, eq_, hqc⟩ := Kd.at_int (Kd.R_reads' hQ).2.2 (j : Int) (by omega) (by omega)
            obtain ⟨ab, eb, hbc⟩ := Kd.at_int (Kd.C_below HC0.out hb) (j : Int) (by omega) (by omega)
            cases ep
            cases eq_
            cases eb
            rw [Int.toNat_natCast] at hpc hqc hbc
            have hjp : j < p.length := by omega
            have hjq : j < q.length := by omega
            unfold bsRest at hrj
            clear hb hO hP hQ hbs hc2' hpl hql
            rcases hcv : bsCov own j with _ | _
            · rw [hcv] at hrj hc1'
              simp only [Bool.false_or, Bool.and_eq_true, beq_iff_eq] at hrj
              have e1 : (rd p (j : Int) != rd l0 (j : Int)) = false := by simpa [rd] using hrj.1
              have e2 : (rd q (j : Int) != rd l0 (j : Int)) = false := by simpa [rd] using hrj.2
              clear hrj hcv
              go_wp2
              go_quiet (fail)
              go_wp2
              go_roundw
              case rel => exact ⟨j + 1, by omega, by go_num, ⟨HL.out.drewN _⟩⟩
              case measure => simp [intOf]; omega
            · rw [hcv] at hc1'
              clear hrj hcv
              go_wp2
              go_quiet (fail)
              go_wp2
              go_roundw
              case rel => exact ⟨j + 1, by omega, by go_num, ⟨HL.out.drewN _⟩⟩
              case measure => simp [intOf]; omega
          · obtain rfl : j = l0.length := by omega
            have hd := decide_eq_false (show ¬ (l0.length < l0.length) by omega)
            have HBE := Aside0.mk HL.out.1
            clear HL HREST
            go_wp2_with (go_at_call 29; refine (slipwaylaw10_awake.calls k r _ HA.out).mono ?_; rintro e w' ⟨rfl, hb⟩; have HBF := Aside0.mk (below_then HBE.out HBE.out.size hb); clear hb)
            go_ret
            exact ⟨rfl, HBF.out⟩

end Go.Proofs.Ytjifmpjpccibnaa.D
