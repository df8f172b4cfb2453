/- slipwaylaw10.RelBack: what this function computes, with its contract; by hand. (No condition.) -/
import Derived.Test.YtjifmpjpccibnaaDx0
import Derived.Test.YtjifmpjpccibnaaDx57
import Derived.Test.YtjifmpjpccibnaaDx65
import Derived.Test.YtjifmpjpccibnaaDx73
import Derived.Test.YtjifmpjpccibnaaDx75
import Derived.Test.YtjifmpjpccibnaaE
import Derived.Test.YtjifmpjpccibnaaA
import Derived.Shelf.Abstract
import Derived.Shelf.Bytes.SlIndexAt
import Derived.Laws.CopyOwn
import Derived.Deep.RegionLaw
import Derived.Lib.Walk
import Derived.Lib.SliceRun
import Derived.WalkSpells
import Derived.IntWalk
namespace Go.Proofs.Ytjifmpjpccibnaa.D
open Go.RowKit Go.Proofs.YtjifmpjpccibnaaW.PrintWords Go.Proofs.YtjifmpjpccibnaaW.PrintLast Go.Proofs.YtjifmpjpccibnaaW.PrintMore Go.Proofs.YtjifmpjpccibnaaE
attribute [local go_sem] max2_int min2_int max_two min_two max_three min_three max_four min_four
set_option linter.unusedVariables false
set_option linter.unusedSimpArgs false
theorem R60_empty {W : World} {base g : Nat} {ok : Nat → Prop} (h : W.heap[g]? = some (.cells #[] 60 (0, 0))) (hb : base ≤ g) (hok : ok g) : Kd.R k60 60 W base ok (.slice (some ⟨g, 0, none⟩) 0 0) [] := by
  refine ⟨fun k hk => ?_, [], ⟨by simp, .inr ⟨g, 0, #[], rfl, hb, h, Nat.le_refl _, Nat.zero_le _, by simp, by simp⟩⟩, Reps.none _ _⟩
  obtain rfl : g = k := by simpa [Value.ownBlock] using hk
  exact hok
theorem K60_M {W W1 : World} {base : Nat} {x : S60} {cs : List Value} (h : k60.K W x cs) : k60.M W1 base (fun _ => False) x cs := by
  obtain rfl := k60_open h
  exact k60_mkM _ _ _ _
theorem blk_new' (W : World) (o : Obj) (g : Nat) (h : g = W.heap.size) : (W.alloc o).heap[g]? = some o := by
  subst h
  exact blk_new W o
theorem box_C {W : World} {g : Nat} {x : S60} (h : W.heap[g]? = some (.cells #[.int .i64 x.f0, .int .i64 x.f1] 60 (0, 0))) : Kd.C k60 W (some ⟨g, 0, none⟩) 1 [x] := by
  refine ⟨rfl, by decide, fun _ => ⟨_, rfl, fun j p hj => ?_⟩⟩
  rcases j with _ | j
  · simp at hj
    subst hj
    refine ⟨[.int .i64 x.f0, .int .i64 x.f1], rfl, k60_mk _ _, fun i u hu => ?_⟩
    rw [Nat.zero_mul, Nat.zero_add, add_plain, blk_cell h i]
    simpa using hu
  · simp at hj
/-- The place of the site that is moved over. -/
def backAt (a1 : Int) (own : List S60) : Int := Int.tmod (Go.bits .and .i64 a1 255) (own.length : Int)
def backBad (a1 : Int) (own : List S60) : List S60 := own ++ [⟨3, (rd_T60 own (backAt a1 own)).f1 + 3⟩]
def slipwaylaw10_RelBack.f (k : Nat) (l0 : List S60) (a1 : Int) : Option Bool :=
  (slipwaylaw10_Apart.f k l0 10000).bind fun own =>
  if own.length ≤ 100 ∧ (own.all fun x => decide (0 ≤ x.f1) && decide (x.f1 ≤ 20000)) = true then
  (slipwaylaw10_Made.f k own 10000).bind fun m => (rel_Parse.f k m.1 m.2.1 m.2.2).bind fun p =>
  if p.2 = 0 ∧ slipwayref1_SameRels.f k p.1 own = some true then
    if own = [] then slipwaylaw10_awake.f k
    else (slipwaylaw10_Made.f k (backBad a1 own) 10020).bind fun m2 => (rel_Parse.f k m2.1 m2.2.1 m2.2.2).bind fun q =>
      if q.2 = 9 then slipwaylaw10_awake.f k else none
  else none
  else none
set_option maxHeartbeats 4000000 in
set_option maxRecDepth 100000 in
theorem slipwaylaw10_RelBack.calls (k : Nat) (A0 : Option Addr) (c0 : Nat) (l0 : List (S60)) (a1 : Int) (r : Bool) (w : World) (hr0 : Kd.C k60 w A0 l0.length l0) (hc0 : l0.length ≤ c0) (h : slipwaylaw10_RelBack.f k l0 a1 = some r) :
    Calls Try.prog 10 #[.slice A0 l0.length c0, .int .i64 a1] w fun e w' => e = .returned (.bool r) ∧ Below w.heap.size w w' := by
  have hu48 := Try.underlying48
  have hu60 := Try.underlying60
  unfold slipwaylaw10_RelBack.f at h
  obtain ⟨own, hown, h⟩ := Option.bind_eq_some_iff.mp h
  by_cases hlen : own.length ≤ 100 ∧ (own.all fun x => decide (0 ≤ x.f1) && decide (x.f1 ≤ 20000)) = true
  rotate_left
  · rw [if_neg hlen] at h; cases h
  rw [if_pos hlen] at h
  obtain ⟨⟨img, d0, d1⟩, hm, h⟩ := Option.bind_eq_some_iff.mp h
  obtain ⟨⟨p, pe⟩, hp, h⟩ := Option.bind_eq_some_iff.mp h
  by_cases hg : pe = 0 ∧ slipwayref1_SameRels.f k p own = some true
  rotate_left
  · rw [if_neg hg] at h; cases h
  rw [if_pos hg] at h
  obtain ⟨rfl, hsame⟩ := hg
  have HC := Aside0.mk hr0
  have HOWN := Aside0.mk hown
  have HM := Aside0.mk hm
  have HP := Aside0.mk hp
  have HS := Aside0.mk hsame
  have HALL := Aside0.mk hlen.2
  have hol := hlen.1
  clear hr0 hown hm hp hsame hlen
  have HH := Aside0.mk h
  clear h
  by_cases h0 : own = []
  · subst h0
    have HA := Aside0.mk (show slipwaylaw10_awake.f k = some r by have := HH.out; rw [if_pos rfl] at this; exact this)
    clear HH
    go_enter Try.func10, Try.ntmps10
    go_wp2_with fail
    refine (slipwaylaw10_Apart.calls k A0 c0 l0 10000 [] w HC.out hc0 HOWN.out).mono ?_
    rintro e w1 ⟨v1, rfl, hr1, hb1⟩
    obtain ⟨A1, c1, rfl⟩ := Kd.R_slice hr1
    have HR1 := Aside0.mk hr1
    have HB1 := Aside0.mk hb1
    clear hr1 hb1
    go_wp2_with fail
    refine (slipwaylaw10_Made.calls k A1 c1 [] 10000 img d0 d1 w1 (Kd.R_reads' HR1.out).2.2 (Kd.R_reads' HR1.out).2.1 HM.out).mono ?_
    rintro e w2 ⟨v2, rfl, hr2, hb2⟩
    obtain ⟨A2, c2, rfl⟩ := Kd.R_slice hr2
    have HR2 := Aside0.mk hr2
    have HB2 := Aside0.mk hb2
    clear hr2 hb2
    have HRo2 := Aside0.mk (Kd.R_below HR1.out HB2.out)
    have HBB2 := Aside0.mk (below_then HB1.out HB1.out.size HB2.out)
    go_wp2_with fail
    refine (rel_Parse.calls k A2 c2 img d0 d1 p 0 _ (Kd.C_alloc (Kd.R_reads' HR2.out).2.2 _) (Kd.R_reads' HR2.out).2.1 HP.out).mono ?_
    rintro e w3 ⟨v3, rfl, hr3, hb3⟩
    obtain ⟨A3, c3, rfl⟩ := Kd.R_slice hr3
    have HR3 := Aside0.mk hr3
    have HRo3 := Aside0.mk (Kd.R_below (Kd.R_alloc HRo2.out _) hb3)
    have HBB3 := Aside0.mk (below_then HBB2.out HBB2.out.size (below_then (below_alloc (Below.refl w2.heap.size w2) _) (by simp) hb3))
    clear hr3 hb3
    go_wp2_with (first | (go_at_call 34; refine (slipwayref1_SameRels.calls k A3 c3 p A1 c1 [] true _ (Kd.R_reads' HR3.out).2.2 (Kd.R_reads' HR3.out).2.1 (Kd.R_reads' HRo3.out).2.2 (Kd.R_reads' HRo3.out).2.1 HS.out).mono ?_; rintro e w4 ⟨rfl, ⟨m4, rfl⟩⟩) | (go_at_call 29; refine (slipwaylaw10_awake.calls k r _ HA.out).mono ?_; rintro e w' ⟨rfl, hb⟩; have HBE := Aside0.mk hb; clear hb))
    go_ret
    exact ⟨rfl, below_then (pw_below_drewN HBB3.out _) HBB3.out.size HBE.out⟩
  · have h := HH.out
    rw [if_neg h0] at h
    obtain ⟨⟨img2, e0, e1⟩, hm2, h⟩ := Option.bind_eq_some_iff.mp h
    obtain ⟨⟨q, qe⟩, hq, h⟩ := Option.bind_eq_some_iff.mp h
    by_cases hg : qe = 9
    rotate_left
    · rw [if_neg hg] at h; cases h
    rw [if_pos hg] at h
    subst hg
    have HA := Aside0.mk h
    have HM2 := Aside0.mk hm2
    have HQ := Aside0.mk hq
    have hpos : 0 < own.length := List.length_pos_iff.2 h0
    have dlen : ((own.length : Int) == 0) = false := by rw [beq_eq_false_iff_ne]; omega
    clear h hm2 hq HH h0
    obtain ⟨n255, hn255, hbits⟩ := YtjifmpjpccibnaaA.i64_and a1 255 (by decide)
    rw [show ((255 : Nat) : Int) = 255 from rfl] at hbits
    obtain ⟨kk, hkk⟩ : ∃ kk, n255 % own.length = kk := ⟨_, rfl⟩
    have hkl : kk < own.length := by rw [← hkk]; exact Nat.mod_lt _ hpos
    have hmod : (Go.bits .and .i64 a1 255).tmod (own.length : Int) = (kk : Int) := by rw [hbits, Int.tmod_eq_emod_of_nonneg (by omega), ← hkk]; simp
    have hbad : backBad a1 own = own ++ [⟨3, (rd_T60 own (kk : Int)).f1 + 3⟩] := by unfold backBad backAt; rw [hmod]
    rw [hbad] at HM2
    have hrv := List.all_eq_true.1 HALL.out (rd_T60 own (kk : Int)) (by
      simp only [rd_T60, Int.toNat_natCast, List.getD_eq_getElem?_getD, List.getElem?_eq_getElem hkl, Option.getD_some]
      exact List.getElem_mem _)
    simp only [Bool.and_eq_true, decide_eq_true_eq] at hrv
    obtain ⟨rv, hrve⟩ : ∃ rv, (rd_T60 own (kk : Int)).f1 = rv := ⟨_, rfl⟩
    rw [hrve] at HM2 hrv
    obtain ⟨hrv0, hrv1⟩ := hrv
    have hwr : IntKind.i64.wrap (rv + 3) = rv + 3 := IntWalk.i64_in _ (by omega)
    obtain ⟨bad, hbd⟩ : ∃ bad, own ++ [⟨3, rv + 3⟩] = bad := ⟨_, rfl⟩
    rw [hbd] at HM2
    have HBAD := Aside0.mk hbd
    have hbl : bad.length = own.length + 1 := by rw [← hbd]; simp
    have HBL := Aside0.mk hbl
    have HRV := Aside0.mk hrve
    clear hbits hkk hbad hbd hbl hrve
    go_enter Try.func10, Try.ntmps10
    go_wp2_with fail
    refine (slipwaylaw10_Apart.calls k A0 c0 l0 10000 own w HC.out hc0 HOWN.out).mono ?_
    rintro e w1 ⟨v1, rfl, hr1, hb1⟩
    obtain ⟨A1, c1, rfl⟩ := Kd.R_slice hr1
    have HR1 := Aside0.mk hr1
    have HB1 := Aside0.mk hb1
    clear hr1 hb1
    go_wp2_with fail
    refine (slipwaylaw10_Made.calls k A1 c1 own 10000 img d0 d1 w1 (Kd.R_reads' HR1.out).2.2 (Kd.R_reads' HR1.out).2.1 HM.out).mono ?_
    rintro e w2 ⟨v2, rfl, hr2, hb2⟩
    obtain ⟨A2, c2, rfl⟩ := Kd.R_slice hr2
    have HR2 := Aside0.mk hr2
    have HB2 := Aside0.mk hb2
    clear hr2 hb2
    have HRo2 := Aside0.mk (Kd.R_below HR1.out HB2.out)
    have HWW := Aside0.mk (show w.heap.size ≤ w2.heap.size from Nat.le_trans HB1.out.size HB2.out.size)
    have HBB2 := Aside0.mk (below_then HB1.out HB1.out.size HB2.out)
    go_wp2_with fail
    refine (rel_Parse.calls k A2 c2 img d0 d1 p 0 _ (Kd.C_alloc (Kd.R_reads' HR2.out).2.2 _) (Kd.R_reads' HR2.out).2.1 HP.out).mono ?_
    rintro e w3 ⟨v3, rfl, hr3, hb3⟩
    obtain ⟨A3, c3, rfl⟩ := Kd.R_slice hr3
    have HR3 := Aside0.mk hr3
    have HX3 := Aside0.mk (blk_below (blk_new w2 (.cells #[.int .i64 d0, .int .i64 d1] 48 (0, 0))) hb3)
    have HRo3 := Aside0.mk (show Kd.R k60 60 w3 w.heap.size (fun k => k < w2.heap.size) (.slice A1 own.length c1) own from Kd.R_below (Kd.R_alloc (Kd.R_mono (Kd.R_bound HRo2.out) (fun k hk => hk.2.2.1)) _) hb3)
    have HBB3 := Aside0.mk (below_then HBB2.out HBB2.out.size (below_then (below_alloc (Below.refl w2.heap.size w2) _) (by simp) hb3))
    clear hr3 hb3
    go_wp2_with (go_at_call 34; refine (slipwayref1_SameRels.calls k A3 c3 p A1 c1 own true _ (Kd.R_reads' HR3.out).2.2 (Kd.R_reads' HR3.out).2.1 (Kd.R_reads' HRo3.out).2.2 (Kd.R_reads' HRo3.out).2.1 HS.out).mono ?_; rintro e w4 ⟨rfl, ⟨m4, rfl⟩⟩)
    go_upto_region 9 with (fail)
    obtain ⟨W9, hW9⟩ : ∃ W, w3.drewN m4 = W := ⟨_, rfl⟩
    have HX9 := Aside0.mk (show W9.heap[w2.heap.size]? = some (.cells #[.int .i64 d0, .int .i64 d1] 48 (0, 0)) by rw [← hW9]; exact HX3.out)
    have HRo9 := Aside0.mk (show Kd.R k60 60 W9 w.heap.size (fun k => k < w2.heap.size) (.slice A1 own.length c1) own by rw [← hW9]; exact HRo3.out)
    have HBB9 := Aside0.mk (show Below w.heap.size w W9 by rw [← hW9]; exact pw_below_drewN HBB3.out _)
    rw [hW9]
    clear hW9 HRo3 HBB3 HX3 HRo2 HBB2 HR2 HB2 HR1 HB1 HP HS HM HR3
    go_cut [11] (fun v11 wc => (∃ A c, v11 = .slice A bad.length c ∧ Aside0 (Kd.R k60 60 wc W9.heap.size (fun _ => True) (.slice A bad.length c) bad)) ∧ Aside0 (Below W9.heap.size W9 wc))
    case first =>
      have HCo := Aside0.mk (Kd.R_reads' HRo9.out).2.2
      obtain ⟨ad, e1, hx0, hx1⟩ := at_T60 HCo.out (kk : Int) (by omega) (by omega)
      cases e1
      rw [Int.toNat_natCast] at hx0 hx1
      rw [HRV.out] at hx1
      have hbk : ad.block < W9.heap.size := by
        have := World.block_lt_of_cell? W9 _ hx1
        rwa [add_block] at this
      have hxa : ∀ o, (W9.alloc o).cell? ⟨(ad.add (kk * 2)).block, (ad.add (kk * 2)).off + 1, none⟩ = some (.int .i64 rv) := fun o => pw_cell_below (below_alloc (Below.refl _ _) o) hx1
      clear hx0
      go_region_law (first
        | (refine Kd.R_append_rows_step k60 (Rr := k60.K _) (w0 := W9) W9.heap.size (by rfl) (.tmp 44) (.tmp 45) 56 60 (.agg #[(.int .i64 0), (.int .i64 0)]) 16 (by rfl) Try.underlying56 info60 (by rfl) (by decide) (by omega) _ [] own _ own.length c1 (fun _ => True) (fun _ => False) (by rfl) (by rfl) (R60_empty (by first | exact blk_new' _ _ _ (by simp) | exact blk_alloc (blk_new' _ _ _ (by simp)) _) (by simp) trivial) (Kd.C_below HCo.out (by repeat (first | exact Below.refl _ _ | apply below_alloc | apply below_drew1))) (fun _ _ hq => K60_M hq) (fun _ hq => hq.elim) (fun _ _ => trivial) (by repeat (first | exact Below.refl _ _ | apply below_alloc | apply below_drew1)) (by simp <;> omega) (by simp; omega) ?_; intro v4 w4 hr4 hb4 hg4 _; have HR4 := Aside0.mk (show Kd.R k60 60 w4 W9.heap.size (fun _ => True) v4 own from hr4); have HB4 := Aside0.mk hb4; have HX4 := Aside0.mk (fun g o (h : _ = some o) (hne : some g ≠ _) => blk_grown (g := g) (o := o) h hg4 hne); have hx4 := (pw_cell_below (hb4 : Below W9.heap.size W9 w4) hx1); have hs4 := hg4.size; obtain ⟨A4, c4, rfl⟩ := Kd.R_slice HR4.out; clear hr4 hb4 hg4)
        | (refine Kd.R_append_rows_step k60 (Rr := k60.K _) (w0 := W9) W9.heap.size (by rfl) (.tmp 46) (.tmp 54) 56 60 (.agg #[(.int .i64 0), (.int .i64 0)]) 16 (by rfl) Try.underlying56 info60 (by rfl) (by decide) (by omega) (.slice A4 own.length c4) own [⟨3, rv + 3⟩] _ 1 1 (fun _ => True) (fun _ => False) (by rfl) (by rfl) (Kd.R_below HR4.out (by repeat (first | exact Below.refl _ _ | apply below_alloc | apply below_drew1))) (box_C (by first | exact blk_new' _ _ _ (by simp) | exact HX4.out _ _ (by first | exact blk_new' _ _ _ (by simp) | exact blk_alloc (blk_new' _ _ _ (by simp)) _) (by simp [Value.ownBlock]))) (fun _ _ hq => K60_M hq) (fun _ hq => hq.elim) (fun _ _ => trivial) (by repeat (first | exact HB4.out | apply below_alloc | apply below_drew1)) (by have := HB4.out.size; simp; omega) (by omega) ?_; intro v5 w5 hr5 hb5 _ _; rw [HBAD.out] at hr5; have HR5 := Aside0.mk hr5; have HB5 := Aside0.mk hb5; obtain ⟨A5, c5, rfl⟩ := Kd.R_slice HR5.out; clear hr5 hb5))
      all_goals (go_wp2_with fail; go_meet; exact ⟨⟨A5, c5, rfl, HR5⟩, HB5⟩)
    case rest =>
      obtain ⟨⟨A5, c5, rfl, HR5⟩, HB5⟩ := hcut
      have HX5 := Aside0.mk (blk_below HX9.out HB5.out)
      have HBB5 := Aside0.mk (below_then HBB9.out HBB9.out.size HB5.out)
      have hXw := HX9.out
      have hw2 : w.heap.size ≤ w2.heap.size := HWW.out
      have hX9lt : w2.heap.size < wc.heap.size := blk_lt HX5.out
      clear hXw HX9 HRo9 HBB9
      go_wp2_with fail
      refine (slipwaylaw10_Made.calls k A5 c5 bad 10020 img2 e0 e1 wc (Kd.R_reads' HR5.out).2.2 (Kd.R_reads' HR5.out).2.1 HM2.out).mono ?_
      rintro e w6 ⟨v6, rfl, hr6, hb6⟩
      obtain ⟨A6, c6, rfl⟩ := Kd.R_slice hr6
      have hX6 := blk_below HX5.out hb6
      have HR6 := Aside0.mk (show Kd.R (Kd.int .u8) 5 ((w6.setCell ⟨w2.heap.size, 0, none⟩ (.int .i64 e0)).setCell ⟨w2.heap.size, 1, none⟩ (.int .i64 e1)) wc.heap.size (fun k => k ≠ w2.heap.size) (.slice A6 img2.length c6) img2 from Kd.R_far (p := ⟨w2.heap.size, 1, none⟩) (Kd.R_far (p := ⟨w2.heap.size, 0, none⟩) (Kd.R_mono (Kd.R_bound hr6) (fun k hk => by have := hk.2.1; show k ≠ w2.heap.size; omega)) (fun _ h => h) _) (fun _ h => h) _)
      have HB6 := Aside0.mk (((below_then HBB5.out HBB5.out.size hb6).setCell (p := ⟨w2.heap.size, 0, none⟩) hw2 (.int .i64 e0)).setCell (p := ⟨w2.heap.size, 1, none⟩) hw2 (.int .i64 e1))
      have hf0 := blk_frozen hX6 0
      have hf1 := blk_frozen hX6 1
      have hg0 := blk_cell hX6 0
      have hg1 := blk_cell hX6 1
      have hk0 : (w6.setCell ⟨w2.heap.size, 0, none⟩ (.int .i64 e0)).cell? ⟨w2.heap.size, 0, none⟩ = some (.int .i64 e0) := (blk_cell (blk_set hX6 0 _) 0).trans rfl
      have hk1 : ((w6.setCell ⟨w2.heap.size, 0, none⟩ (.int .i64 e0)).setCell ⟨w2.heap.size, 1, none⟩ (.int .i64 e1)).cell? ⟨w2.heap.size, 1, none⟩ = some (.int .i64 e1) := (blk_cell (blk_set (blk_set hX6 0 _) 1 _) 1).trans rfl
      clear hr6 hb6 hX6
      go_wp2_with fail
      refine (rel_Parse.calls k A6 c6 img2 e0 e1 q 9 _ (Kd.R_reads' HR6.out).2.2 (Kd.R_reads' HR6.out).2.1 HQ.out).mono ?_
      rintro e w7 ⟨v7, rfl, hr7, hb7⟩
      obtain ⟨A7, c7, rfl⟩ := Kd.R_slice hr7
      have HB7 := Aside0.mk (below_then HB6.out HB6.out.size hb7)
      clear hr7 hb7 hf0 hf1 hg0 hg1 hk0 hk1
      go_wp2_with (go_at_call 29; refine (slipwaylaw10_awake.calls k r _ HA.out).mono ?_; rintro e w' ⟨rfl, hb⟩; have HBE := Aside0.mk hb; clear hb)
      go_ret
      exact ⟨rfl, below_then HB7.out HB7.out.size HBE.out⟩

end Go.Proofs.Ytjifmpjpccibnaa.D
