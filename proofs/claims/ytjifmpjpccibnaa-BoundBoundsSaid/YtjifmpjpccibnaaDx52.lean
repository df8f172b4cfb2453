/- What Go functions of the program compute, each as a Lean function with its contract: written by a program of this session; some by hand. (No condition.) -/
import Derived.Test.YtjifmpjpccibnaaDx0
import Derived.Test.YtjifmpjpccibnaaDx23
import Derived.Test.YtjifmpjpccibnaaDx37
import Derived.Test.YtjifmpjpccibnaaDx42
import Derived.Test.YtjifmpjpccibnaaDx43
import Derived.Test.YtjifmpjpccibnaaDx51
namespace Go.Proofs.Ytjifmpjpccibnaa.D
open Go.RowKit Go.Proofs.YtjifmpjpccibnaaW.PrintWords Go.Proofs.YtjifmpjpccibnaaW.PrintLast Go.Proofs.YtjifmpjpccibnaaW.PrintMore
attribute [local go_sem] max2_int min2_int max_two min_two max_three min_three max_four min_four   -- for this text's walks alone
set_option linter.unusedVariables false
set_option linter.unusedSimpArgs false

/-! ### slipwaylaw9_BoundBounds: function 4 -/
mutual
def slipwaylaw9_BoundBounds.l0 : Nat → Int → Int → Int → List (S42) → Int → Option (Bool)
  | 0, _, _, _, _, _ => none
  | k + 1, x0, x1, x2, x7, x8 => if x8 < x0 then ((slipwayref1_Digits.f k x8).bind fun t196 => (if 1 + t196.size ≤ 9223372036854775807 then (if x7.length < 5864062014805 then (slipwaylaw9_BoundBounds.l0 k x0 x1 x2 (x7 ++ [(⟨(⟨#[109]⟩ : ByteArray) ++ t196, wrap64 (x8 + 1)⟩ : S42)]) (wrap64 (x8 + 1))) else (none)) else (none))) else ((slipwaylaw9_Made.f k x7 ([] : List Int)).bind fun t200 => ((bound_Parse.f k t200 16 0).bind fun bt203 => (if ((bt203.2 == 0) != (decide (x0 ≤ 32))) = true then (slipwaylaw9_BoundBounds.j1 k x1 x2 x7 true) else (if bt203.2 = 0 then ((slipwayref1_SameBounds.f k bt203.1 x7).bind fun t207 => (if t207 = true then (slipwaylaw9_BoundBounds.j1 k x1 x2 x7 false) else (slipwaylaw9_BoundBounds.j1 k x1 x2 x7 true))) else (if bt203.2 = 8 then (slipwaylaw9_BoundBounds.j1 k x1 x2 x7 ((bt203.1.length : Int) != 0)) else (slipwaylaw9_BoundBounds.j1 k x1 x2 x7 true))))))
def slipwaylaw9_BoundBounds.j1 : Nat → Int → Int → List (S42) → Bool → Option (Bool)
  | 0, _, _, _, _ => none
  | k + 1, x1, x2, x7, x67 => if x67 = true then (some false) else (if 6 ≤ (x7.length : Int) then ((some (x7.take (6 : Int).toNat : List (S42))).bind fun y208 => (if 6 ≤ 35184372088832 then ((some (List.replicate 6 0 : List Int)).bind fun y211 => (if 0 ≤ (Int.tmod (Go.bits .and .i64 x1 255) 6) then (if (Int.tmod (Go.bits .and .i64 x1 255) 6) < (y211.length : Int) then ((some (y211.set ((Int.tmod (Go.bits .and .i64 x1 255) 6) : Int).toNat (Go.bits .and .i64 x2 3) : List Int)).bind fun y214 => ((slipwaylaw9_Made.f k y208 y214).bind fun t215 => ((bound_Parse.f k t215 16 0).bind fun bt218 => (if ((bt218.2 == 0) == (decide ((wrap64 ((Int.tmod (Go.bits .and .i64 x1 255) 6) + (rd y214 (Int.tmod (Go.bits .and .i64 x1 255) 6)))) < 6))) = true then (if ((wrap64 ((Int.tmod (Go.bits .and .i64 x1 255) 6) + (rd y214 (Int.tmod (Go.bits .and .i64 x1 255) 6)))) < 6) then ((slipwayref1_SameBounds.f k bt218.1 y208).bind fun t223 => (if t223 = true then ((slipwaylaw9_awake.f k).bind fun t224 => (some t224)) else (some false))) else ((slipwaylaw9_awake.f k).bind fun t225 => (some t225))) else (some false))))) else (none)) else (none))) else (none))) else (none))
end
def slipwaylaw9_BoundBounds.f (k : Nat) (a0 : Int) (a1 : Int) (a2 : Int) : Option (Bool) := slipwaylaw9_BoundBounds.l0 k (wrap64 ((Go.bits .and .i64 a0 7) + 28)) a1 a2 ([] : List (S42)) 0
theorem slipwaylaw9_BoundBounds.mono_l : ∀ k, (∀ y0 y1 y2 y3 y4, LeO (slipwaylaw9_BoundBounds.l0 k y0 y1 y2 y3 y4) (slipwaylaw9_BoundBounds.l0 (k + 1) y0 y1 y2 y3 y4)) ∧ (∀ y0 y1 y2 y3, LeO (slipwaylaw9_BoundBounds.j1 k y0 y1 y2 y3) (slipwaylaw9_BoundBounds.j1 (k + 1) y0 y1 y2 y3))
  | 0 => ⟨fun _ _ _ _ _ r h => by simp [slipwaylaw9_BoundBounds.l0] at h, fun _ _ _ _ r h => by simp [slipwaylaw9_BoundBounds.j1] at h⟩
  | k + 1 => by
    obtain ⟨ih0, ih1⟩ := slipwaylaw9_BoundBounds.mono_l k
    refine ⟨?_, ?_⟩
    · intro y0 y1 y2 y3 y4
      unfold slipwaylaw9_BoundBounds.l0
      repeat' first
      | (with_reducible exact ih0 _ _ _ _ _)
      | (with_reducible exact ih1 _ _ _ _)
      | (with_reducible exact bound_Parse.mono _ _ _ _)
      | (with_reducible exact slipwaylaw9_Made.mono _ _ _)
      | (with_reducible exact slipwaylaw9_awake.mono _)
      | (with_reducible exact slipwayref1_Digits.mono _ _)
      | (with_reducible exact slipwayref1_SameBounds.mono _ _ _)
      | (with_reducible exact LeO.refl _)
      | (with_reducible exact LeO.none _)
      | (with_reducible refine LeO.ite ?_ ?_)
      | (with_reducible refine LeO.bind ?_ (fun _ => ?_))
      | exact ih0 _ _ _ _ _
      | exact ih1 _ _ _ _
      | exact bound_Parse.mono _ _ _ _
      | exact slipwaylaw9_Made.mono _ _ _
      | exact slipwaylaw9_awake.mono _
      | exact slipwayref1_Digits.mono _ _
      | exact slipwayref1_SameBounds.mono _ _ _
      | exact LeO.none _
      | refine LeO.ite ?_ ?_
      | refine LeO.bind ?_ (fun _ => ?_)
    · intro y0 y1 y2 y3
      unfold slipwaylaw9_BoundBounds.j1
      repeat' first
      | (with_reducible exact ih0 _ _ _ _ _)
      | (with_reducible exact ih1 _ _ _ _)
      | (with_reducible exact bound_Parse.mono _ _ _ _)
      | (with_reducible exact slipwaylaw9_Made.mono _ _ _)
      | (with_reducible exact slipwaylaw9_awake.mono _)
      | (with_reducible exact slipwayref1_Digits.mono _ _)
      | (with_reducible exact slipwayref1_SameBounds.mono _ _ _)
      | (with_reducible exact LeO.refl _)
      | (with_reducible exact LeO.none _)
      | (with_reducible refine LeO.ite ?_ ?_)
      | (with_reducible refine LeO.bind ?_ (fun _ => ?_))
      | exact ih0 _ _ _ _ _
      | exact ih1 _ _ _ _
      | exact bound_Parse.mono _ _ _ _
      | exact slipwaylaw9_Made.mono _ _ _
      | exact slipwaylaw9_awake.mono _
      | exact slipwayref1_Digits.mono _ _
      | exact slipwayref1_SameBounds.mono _ _ _
      | exact LeO.none _
      | refine LeO.ite ?_ ?_
      | refine LeO.bind ?_ (fun _ => ?_)
theorem slipwaylaw9_BoundBounds.mono : ∀ a0 a1 a2 k, LeO (slipwaylaw9_BoundBounds.f k a0 a1 a2) (slipwaylaw9_BoundBounds.f (k + 1) a0 a1 a2) := by
  intro a0 a1 a2 k
  obtain ⟨ih0, ih1⟩ := slipwaylaw9_BoundBounds.mono_l k
  unfold slipwaylaw9_BoundBounds.f
  repeat' first
      | (with_reducible exact ih0 _ _ _ _ _)
      | (with_reducible exact ih1 _ _ _ _)
      | (with_reducible exact bound_Parse.mono _ _ _ _)
      | (with_reducible exact slipwaylaw9_Made.mono _ _ _)
      | (with_reducible exact slipwaylaw9_awake.mono _)
      | (with_reducible exact slipwayref1_Digits.mono _ _)
      | (with_reducible exact slipwayref1_SameBounds.mono _ _ _)
      | (with_reducible exact LeO.refl _)
      | (with_reducible exact LeO.none _)
      | (with_reducible refine LeO.ite ?_ ?_)
      | (with_reducible refine LeO.bind ?_ (fun _ => ?_))
      | exact ih0 _ _ _ _ _
      | exact ih1 _ _ _ _
      | exact bound_Parse.mono _ _ _ _
      | exact slipwaylaw9_Made.mono _ _ _
      | exact slipwaylaw9_awake.mono _
      | exact slipwayref1_Digits.mono _ _
      | exact slipwayref1_SameBounds.mono _ _ _
      | exact LeO.none _
      | refine LeO.ite ?_ ?_
      | refine LeO.bind ?_ (fun _ => ?_)
set_option maxHeartbeats 8000000 in
set_option maxRecDepth 100000 in
theorem slipwaylaw9_BoundBounds.calls (k : Nat) (a0 : Int) (a1 : Int) (a2 : Int) (r : Bool) (w : World) (h : slipwaylaw9_BoundBounds.f k a0 a1 a2 = some r) :
    Calls Try.prog 4 #[.int .i64 a0, .int .i64 a1, .int .i64 a2] w fun e w' => e = .returned (.bool r) ∧ Below w.heap.size w w' := by
  have hu42 := Try.underlying42
  have hu48 := Try.underlying48
  have HB := Aside0.mk (Below.refl w.heap.size w)
  have H : (slipwaylaw9_BoundBounds.l0 k (wrap64 ((Go.bits .and .i64 a0 7) + 28)) a1 a2 ([] : List (S42)) 0) = some r := h
  clear h
  have H' := Aside0.mk H
  clear H
  go_enter Try.func4, Try.ntmps4
  go_wp2
  go_loopg [7, 8] k (fun kq v7 v8 w' => ∃ (x7_1 : List (S42)) (x8_1 : Int), v8 = .int .i64 x8_1 ∧ Aside0 (slipwaylaw9_BoundBounds.l0 kq (wrap64 ((Go.bits .and .i64 a0 7) + 28)) a1 a2 x7_1 x8_1 = some r) ∧ Aside0 (kq ≤ k) ∧ Aside0 (Kd.R k42 42 w' w.heap.size (fun _ => True) v7 x7_1) ∧ Aside0 (Below w.heap.size w w'))
  case atStart => exact ⟨(([] : List (S42))), (0), (by first | rfl | (simp; done) | (simp [*]; done)), H', ⟨Nat.le_refl _⟩, ⟨by first | exact Kd.R_nil _ _ _ _ _ | exact Kd.N_nil _ _ _ _ _ | exact Kd.V_nil _ _ _ _ _ | exact Kd.Q_nil _ _ _ _ _ | exact Kd.S_nil _ _ _ _ _⟩, ⟨by repeat (first | (with_reducible first | exact HB.out | apply below_alloc | apply pw_below_drewN | apply below_drew1) | exact HB.out)⟩⟩
  case round =>
    clear H'
    try clear p2
    obtain ⟨x7_1, x8_1, rfl, HA, HK1, HO_7, HB⟩ := hrel
    cases gk with
    | zero => exact absurd HA.out (by simp [slipwaylaw9_BoundBounds.l0])
    | succ k1 =>
      have H := HA.out
      clear HA
      simp only [slipwaylaw9_BoundBounds.l0] at H
      by_cases c4 : x8_1 < (wrap64 ((Go.bits .and .i64 a0 7) + 28))
      · rw [if_pos c4] at H
        have c4b0 : decide (x8_1 < (wrap64 ((Go.bits .and .i64 a0 7) + 28))) = true := decide_eq_true c4
        clear c4
        replace H := Option.bind_eq_some_iff.mp H
        obtain ⟨t196, A50, H⟩ := H
        replace H : (if 1 + t196.size ≤ 9223372036854775807 then (if x7_1.length < 5864062014805 then (slipwaylaw9_BoundBounds.l0 k1 (wrap64 ((Go.bits .and .i64 a0 7) + 28)) a1 a2 (x7_1 ++ [(⟨(⟨#[109]⟩ : ByteArray) ++ t196, wrap64 (x8_1 + 1)⟩ : S42)]) (wrap64 (x8_1 + 1))) else (none)) else (none)) = some r := H
        have A5 := Aside0.mk A50
        clear A50
        by_cases c6 : 1 + t196.size ≤ 9223372036854775807
        · rw [if_pos c6] at H
          have c6b0 := eq_true c6
          have c6b1 : decide (1 + t196.size ≤ 9223372036854775807) = true := decide_eq_true c6
          try have c6b2 : (9223372036854775807 < 1 + t196.size) = False := eq_false (Nat.not_lt.2 c6)
          by_cases c7 : x7_1.length < 5864062014805
          · rw [if_pos c7] at H
            have LMc7 := Aside0.mk c7
            clear c7
            obtain ⟨y197, hy197⟩ : ∃ y_ : List (S42), y_ = (x7_1 ++ [(⟨(⟨#[109]⟩ : ByteArray) ++ t196, wrap64 (x8_1 + 1)⟩ : S42)]) := ⟨_, rfl⟩
            replace H : (slipwaylaw9_BoundBounds.l0 k1 (wrap64 ((Go.bits .and .i64 a0 7) + 28)) a1 a2 y197 (wrap64 (x8_1 + 1))) = some r := by first | (rw [hy197]; with_reducible exact H) | (have H2_ := (Option.bind_some _ _).symm.trans H; rw [hy197]; with_reducible exact H2_) | (have H2_ := (Option.bind_some _ _).symm.trans H; with_reducible exact H2_) | with_reducible exact H | (rw [hy197]; exact H) | exact H
            have Ny197 := Aside0.mk hy197
            clear hy197
            have H' := Aside0.mk H
            clear H
            go_wp2_with (first | ((with_reducible refine gate_callee (f := 22) rfl ?_); refine goesL_ (some 26) rfl rfl Try.func22 (by kernel_rfl) rfl #[.int .i64 x8_1] rfl (by (try simp only [List.map_toArray, List.map_cons, List.map_nil]); first | done | rfl | (simp only [List.length_drop, List.length_take]; rfl)) ?_; (with_reducible refine (slipwayref1_Digits.calls k1 x8_1 t196 _ A5.out).mono ?_); rintro e w' ⟨rfl, ⟨nd, rfl⟩⟩; refine ⟨_, rfl, ?_⟩) | ((with_reducible refine gate_builtin (b := .append) (xs := #[.tmp 24, .tmp 31]) rfl ?_); (try (refine gate_guard (by rfl) ?_; dsimp only)); at_builtin; refine Kd.R_append k42 (w0 := w) w.heap.size rfl (.tmp 24) (.tmp 31) 39 42 (.agg #[(.string ⟨#[]⟩), (.int .i64 0)]) 24 rfl Try.underlying39 info42 rfl (by decide) (by omega) u7 x7_1 (⟨(⟨#[109]⟩ : ByteArray) ++ t196, wrap64 (x8_1 + 1)⟩ : S42) [.string ((⟨#[109]⟩ : ByteArray) ++ t196), .int .i64 (wrap64 (x8_1 + 1))] (fun _ => True) (fun _ => False) rfl rfl ?aP (fun _ hk => hk.elim) ?aF ?aO ?aB ?aS ?aL ?_; (case aP => exact k42_mkM _ _ _ (⟨(⟨#[109]⟩ : ByteArray) ++ t196, wrap64 (x8_1 + 1)⟩ : S42)); (case aB => exact (by repeat (first | (with_reducible first | exact HB.out | apply below_alloc | apply pw_below_drewN | apply below_drew1) | exact HB.out))); (case aF => exact (fun _ _ => trivial)); (case aO => exact (by (with_reducible repeat (first | apply Kd.R_alloc | apply Kd.R_drewN | apply Kd.R_drew)); exact HO_7.out)); (case aS => exact (below_size (by repeat (first | (with_reducible first | exact HB.out | apply below_alloc | apply pw_below_drewN | apply below_drew1) | exact HB.out)))); (case aL => have := LMc7.out; omega); intro v198 w8 ho hb hg hat; rw [← Ny197.out] at ho; have n0_ := Aside0.mk (hb); have n1_ := Aside0.mk (ho); clear HB; clear HO_7; have HB := n0_; have HO199 := n1_; clear n0_ n1_; clear ho hb hg hat))
            go_roundg k1
            case measure => have := HK1.out; omega
            case rel => exact ⟨(y197), (wrap64 (x8_1 + 1)), (by first | rfl | (simp; done) | (simp [*]; done)), H', ⟨by have := HK1.out; omega⟩, ⟨by (with_reducible repeat (first | apply Kd.R_alloc | apply Kd.R_drewN | apply Kd.R_drew)); exact HO199.out⟩, ⟨by repeat (first | (with_reducible first | exact HB.out | apply below_alloc | apply pw_below_drewN | apply below_drew1) | exact HB.out)⟩⟩
          · rw [if_neg c7] at H
            exact absurd H (by simp)
        · rw [if_neg c6] at H
          exact absurd H (by simp)
      · rw [if_neg c4] at H
        have c4b0 : decide (x8_1 < (wrap64 ((Go.bits .and .i64 a0 7) + 28))) = false := decide_eq_false c4
        clear c4
        replace H := Option.bind_eq_some_iff.mp H
        obtain ⟨t200, A90, H⟩ := H
        replace H : ((bound_Parse.f k1 t200 16 0).bind fun bt203 => (if ((bt203.2 == 0) != (decide ((wrap64 ((Go.bits .and .i64 a0 7) + 28)) ≤ 32))) = true then (slipwaylaw9_BoundBounds.j1 k1 a1 a2 x7_1 true) else (if bt203.2 = 0 then ((slipwayref1_SameBounds.f k1 bt203.1 x7_1).bind fun t207 => (if t207 = true then (slipwaylaw9_BoundBounds.j1 k1 a1 a2 x7_1 false) else (slipwaylaw9_BoundBounds.j1 k1 a1 a2 x7_1 true))) else (if bt203.2 = 8 then (slipwaylaw9_BoundBounds.j1 k1 a1 a2 x7_1 ((bt203.1.length : Int) != 0)) else (slipwaylaw9_BoundBounds.j1 k1 a1 a2 x7_1 true))))) = some r := H
        have A9 := Aside0.mk A90
        clear A90
        replace H := Option.bind_eq_some_iff.mp H
        obtain ⟨⟨t203, t206⟩, A100, H⟩ := H
        replace H : (if ((t206 == 0) != (decide ((wrap64 ((Go.bits .and .i64 a0 7) + 28)) ≤ 32))) = true then (slipwaylaw9_BoundBounds.j1 k1 a1 a2 x7_1 true) else (if t206 = 0 then ((slipwayref1_SameBounds.f k1 t203 x7_1).bind fun t207 => (if t207 = true then (slipwaylaw9_BoundBounds.j1 k1 a1 a2 x7_1 false) else (slipwaylaw9_BoundBounds.j1 k1 a1 a2 x7_1 true))) else (if t206 = 8 then (slipwaylaw9_BoundBounds.j1 k1 a1 a2 x7_1 ((t203.length : Int) != 0)) else (slipwaylaw9_BoundBounds.j1 k1 a1 a2 x7_1 true)))) = some r := H
        have A10 := Aside0.mk A100
        clear A100
        have HC11 := Aside0.mk H
        clear H
        obtain ⟨Ao12, co12, eo12⟩ := Kd.R_slice HO_7.out
        subst eo12
        go_upto_region 8 with (first | ((with_reducible refine gate_callee (f := 24) rfl ?_); refine goesL_ (some 35) rfl rfl Try.func24 (by kernel_rfl) rfl #[.slice Ao12 x7_1.length co12, .slice none 0 0] rfl (by (try simp only [List.map_toArray, List.map_cons, List.map_nil]); first | done | rfl | (simp only [List.length_drop, List.length_take]; rfl)) ?_; (refine (slipwaylaw9_Made.calls k1 _ _ x7_1 _ _ ([] : List Int) t200 _ ?side1 ?side2 ?side3 ?side4 A9.out).mono ?_); (case side1 => repeat (first | exact (Kd.R_reads' HO_7.out).2.2 | (with_reducible refine Kd.C_alloc ?_ _) | (with_reducible refine Kd.C_drewN ?_ _) | (with_reducible refine Kd.C_drew ?_))); (case side2 => exact (Kd.R_reads' HO_7.out).2.1); (case side3 => exact Kd.C_nil _ _); (case side4 => exact Nat.le_refl _); rintro e w13 ⟨v201, rfl, ho0, hb⟩; refine ⟨_, rfl, ?_⟩; have n0_ := Aside0.mk (Kd.R_below (by (with_reducible repeat (first | apply Kd.R_alloc | apply Kd.R_drewN | apply Kd.R_drew)); exact HO_7.out) hb); have n1_ := Aside0.mk (Kd.V_lower (Kd.V_mono (ok' := fun k_ => some k_ ≠ (.slice Ao12 x7_1.length co12 : Value).ownBlock) ho0 (fun k_ hk_ => (Kd.fresh' (Kd.R_lt (by (with_reducible repeat (first | apply Kd.R_alloc | apply Kd.R_drewN | apply Kd.R_drew)); exact HO_7.out)) k_ hk_))) (below_size (by repeat (first | (with_reducible first | exact HB.out | apply below_alloc | apply pw_below_drewN | apply below_drew1) | exact HB.out)))); have n2_ := Aside0.mk (below_step (by repeat (first | (with_reducible first | exact HB.out | apply below_alloc | apply pw_below_drewN | apply below_drew1) | exact HB.out)) hb); clear HO_7; clear HB; have HO_7 := n0_; have HO202 := n1_; have HB := n2_; clear n0_ n1_ n2_; (try clear hb); (try clear hb2); (try clear hk); (try clear hi); (try clear ho0); obtain ⟨Ao14, co14, eo14⟩ := Kd.V_slice HO202.out; subst eo14) | ((with_reducible refine gate_callee (f := 23) rfl ?_); refine goesL_ (some 37) rfl rfl Try.func23 (by kernel_rfl) rfl #[.slice Ao14 t200.length co14, .agg #[.int .i64 16, .int .i64 0]] rfl (by (try simp only [List.map_toArray, List.map_cons, List.map_nil]); first | done | rfl | (simp only [List.length_drop, List.length_take]; rfl)) ?_; (with_reducible refine (bound_Parse.calls k1 _ _ t200 16 0 t203 t206 _ ?side1 ?side2 A10.out).mono ?_); (case side1 => repeat (first | exact (Kd.V_reads' HO202.out).2.2 | (with_reducible refine Kd.C_alloc ?_ _) | (with_reducible refine Kd.C_drewN ?_ _) | (with_reducible refine Kd.C_drew ?_))); (case side2 => exact (Kd.V_reads' HO202.out).2.1); rintro e w15 ⟨v204, rfl, ho0, hb⟩; refine ⟨_, rfl, ?_⟩; have n0_ := Aside0.mk (Kd.R_elder' (by (with_reducible repeat (first | apply Kd.R_alloc | apply Kd.R_drewN | apply Kd.R_drew)); exact HO_7.out) (Kd.R_base ho0) hb); have n1_ := Aside0.mk (Kd.V_elder' (by (with_reducible repeat (first | apply Kd.V_alloc | apply Kd.V_drewN | apply Kd.V_drew)); exact HO202.out) (Kd.R_base ho0) hb); have n2_ := Aside0.mk (Kd.R_lower (Kd.R_new' ho0 (Kd.R_lt (by (with_reducible repeat (first | apply Kd.R_alloc | apply Kd.R_drewN | apply Kd.R_drew)); exact HO_7.out))) (below_size (by repeat (first | (with_reducible first | exact HB.out | apply below_alloc | apply pw_below_drewN | apply below_drew1) | exact HB.out)))); have n3_ := Aside0.mk (below_step (by repeat (first | (with_reducible first | exact HB.out | apply below_alloc | apply pw_below_drewN | apply below_drew1) | exact HB.out)) hb); clear HO_7; clear HO202; clear HB; have HO_7 := n0_; have HO202 := n1_; have HO205 := n2_; have HB := n3_; clear n0_ n1_ n2_ n3_; (try clear hb); (try clear hb2); (try clear hk); (try clear hi); (try clear ho0)))
        (try simp only [Act.put, List.setIfInBounds_toArray, List.set_cons_zero, List.set_cons_succ])
        go_cut [67] (fun v67 wc => ∃ (kq : Nat) (x67_10 : Bool), v67 = .bool x67_10 ∧ Aside0 (slipwaylaw9_BoundBounds.j1 kq a1 a2 x7_1 x67_10 = some r) ∧ Aside0 (kq ≤ k1) ∧ Aside0 (Kd.R k42 42 wc w.heap.size (fun _ => True) (.slice Ao12 x7_1.length co12) x7_1) ∧ Aside0 (Below w.heap.size w wc))
        case first =>
          have H := HC11.out
          clear HC11
          by_cases c16 : ((t206 == 0) != (decide ((wrap64 ((Go.bits .and .i64 a0 7) + 28)) ≤ 32))) = true
          · rw [if_pos c16] at H
            have c16b0 : ((t206 == 0) != (decide ((wrap64 ((Go.bits .and .i64 a0 7) + 28)) ≤ 32))) = true := c16
            (try (have c16b1 : decide ((t206 == 0) = (decide ((wrap64 ((Go.bits .and .i64 a0 7) + 28)) ≤ 32))) = false := by simpa using c16))
            (try (have c16b2 : ((t206 == 0) == (decide ((wrap64 ((Go.bits .and .i64 a0 7) + 28)) ≤ 32))) = false := by simpa using c16))
            (try (have c16b3 : ¬ ((t206 == 0) = (decide ((wrap64 ((Go.bits .and .i64 a0 7) + 28)) ≤ 32))) := by simpa using c16))
            clear c16
            (first | rw [c16b0] | (simp only [i64_w, i32_w]; rw [c16b0]) | skip)
            have H' := Aside0.mk H
            clear H
            go_wp2
            go_meet
            case rel => exact ⟨_, (true), (by first | rfl | (simp; done) | (simp [*]; done)), H', ⟨by have := HK1.out; first | omega | exact Nat.le_refl _⟩, ⟨by (with_reducible repeat (first | apply Kd.R_alloc | apply Kd.R_drewN | apply Kd.R_drew)); exact Kd.R_mono HO_7.out (fun _ hk => trivial)⟩, ⟨by repeat (first | (with_reducible first | exact HB.out | apply below_alloc | apply pw_below_drewN | apply below_drew1) | exact HB.out)⟩⟩
          · rw [if_neg c16] at H
            have c16b0 : ((t206 == 0) != (decide ((wrap64 ((Go.bits .and .i64 a0 7) + 28)) ≤ 32))) = false := by simpa using c16
            (try (have c16b1 : decide ((t206 == 0) = (decide ((wrap64 ((Go.bits .and .i64 a0 7) + 28)) ≤ 32))) = true := by simpa using c16))
            (try (have c16b2 : ((t206 == 0) == (decide ((wrap64 ((Go.bits .and .i64 a0 7) + 28)) ≤ 32))) = true := by simpa using c16))
            clear c16
            (first | rw [c16b0] | (simp only [i64_w, i32_w]; rw [c16b0]) | skip)
            by_cases c17 : t206 = 0
            · rw [if_pos c17] at H
              have c17b0 : (t206 == 0) = true := beq_iff_eq.mpr c17
              have c17b1 : (t206 != 0) = false := bne_eq_false_iff_eq.mpr c17
              (try (have c17d0 : decide ((wrap64 ((Go.bits .and .i64 a0 7) + 28)) ≤ 32) = true := by simpa [c17b0] using c16b0))
              (try (have c17d1 : decide ((wrap64 ((Go.bits .and .i64 a0 7) + 28)) ≤ 32) = false := by simpa [c17b0] using c16b0))
              clear c17
              replace H := Option.bind_eq_some_iff.mp H
              obtain ⟨t207, A180, H⟩ := H
              replace H : (if t207 = true then (slipwaylaw9_BoundBounds.j1 k1 a1 a2 x7_1 false) else (slipwaylaw9_BoundBounds.j1 k1 a1 a2 x7_1 true)) = some r := H
              have A18 := Aside0.mk A180
              clear A180
              by_cases c19 : t207 = true
              · subst c19
                have H1 : (slipwaylaw9_BoundBounds.j1 k1 a1 a2 x7_1 false) = some r := by rw [if_pos rfl] at H; exact H
                clear H
                have H := H1
                clear H1
                have H' := Aside0.mk H
                clear H
                obtain ⟨Ao20, co20, eo20⟩ := Kd.R_slice HO205.out
                subst eo20
                go_wp2_with (first | (go_at_call 25; (with_reducible refine (slipwayref1_SameBounds.calls k1 _ _ t203 _ _ x7_1 true _ ?side1 ?side2 ?side3 ?side4 A18.out).mono ?_); (case side1 => repeat (first | exact (Kd.R_reads' HO205.out).2.2 | (with_reducible refine Kd.C_alloc ?_ _) | (with_reducible refine Kd.C_drewN ?_ _) | (with_reducible refine Kd.C_drew ?_))); (case side2 => exact (Kd.R_reads' HO205.out).2.1); (case side3 => repeat (first | exact (Kd.R_reads' HO_7.out).2.2 | (with_reducible refine Kd.C_alloc ?_ _) | (with_reducible refine Kd.C_drewN ?_ _) | (with_reducible refine Kd.C_drew ?_))); (case side4 => exact (Kd.R_reads' HO_7.out).2.1); rintro e w' ⟨rfl, ⟨nd, rfl⟩⟩))
                go_meet
                case rel => exact ⟨_, (false), (by first | rfl | (simp; done) | (simp [*]; done)), H', ⟨by have := HK1.out; first | omega | exact Nat.le_refl _⟩, ⟨by (with_reducible repeat (first | apply Kd.R_alloc | apply Kd.R_drewN | apply Kd.R_drew)); exact Kd.R_mono HO_7.out (fun _ hk => trivial)⟩, ⟨by repeat (first | (with_reducible first | exact HB.out | apply below_alloc | apply pw_below_drewN | apply below_drew1) | exact HB.out)⟩⟩
              · replace c19 := Bool.eq_false_iff.mpr c19
                subst c19
                have H1 : (slipwaylaw9_BoundBounds.j1 k1 a1 a2 x7_1 true) = some r := by rw [if_neg (show ¬ (false = true) by decide)] at H; exact H
                clear H
                have H := H1
                clear H1
                have H' := Aside0.mk H
                clear H
                obtain ⟨Ao21, co21, eo21⟩ := Kd.R_slice HO205.out
                subst eo21
                go_wp2_with (first | (go_at_call 25; (with_reducible refine (slipwayref1_SameBounds.calls k1 _ _ t203 _ _ x7_1 false _ ?side1 ?side2 ?side3 ?side4 A18.out).mono ?_); (case side1 => repeat (first | exact (Kd.R_reads' HO205.out).2.2 | (with_reducible refine Kd.C_alloc ?_ _) | (with_reducible refine Kd.C_drewN ?_ _) | (with_reducible refine Kd.C_drew ?_))); (case side2 => exact (Kd.R_reads' HO205.out).2.1); (case side3 => repeat (first | exact (Kd.R_reads' HO_7.out).2.2 | (with_reducible refine Kd.C_alloc ?_ _) | (with_reducible refine Kd.C_drewN ?_ _) | (with_reducible refine Kd.C_drew ?_))); (case side4 => exact (Kd.R_reads' HO_7.out).2.1); rintro e w' ⟨rfl, ⟨nd, rfl⟩⟩))
                go_meet
                case rel => exact ⟨_, (true), (by first | rfl | (simp; done) | (simp [*]; done)), H', ⟨by have := HK1.out; first | omega | exact Nat.le_refl _⟩, ⟨by (with_reducible repeat (first | apply Kd.R_alloc | apply Kd.R_drewN | apply Kd.R_drew)); exact Kd.R_mono HO_7.out (fun _ hk => trivial)⟩, ⟨by repeat (first | (with_reducible first | exact HB.out | apply below_alloc | apply pw_below_drewN | apply below_drew1) | exact HB.out)⟩⟩
            · rw [if_neg c17] at H
              have c17b0 : (t206 == 0) = false := beq_eq_false_iff_ne.mpr c17
              have c17b1 : (t206 != 0) = true := bne_iff_ne.mpr c17
              (try (have c17d0 : decide ((wrap64 ((Go.bits .and .i64 a0 7) + 28)) ≤ 32) = true := by simpa [c17b0] using c16b0))
              (try (have c17d1 : decide ((wrap64 ((Go.bits .and .i64 a0 7) + 28)) ≤ 32) = false := by simpa [c17b0] using c16b0))
              by_cases c22 : t206 = 8
              · rw [if_pos c22] at H
                have c22b0 : (t206 == 8) = true := beq_iff_eq.mpr c22
                have c22b1 : (t206 != 8) = false := bne_eq_false_iff_eq.mpr c22
                clear c22
                have H' := Aside0.mk H
                clear H
                obtain ⟨Ao23, co23, eo23⟩ := Kd.R_slice HO205.out
                subst eo23
                go_wp2
                go_meet
                case rel => exact ⟨_, (((t203.length : Int) != 0)), (by first | rfl | (simp; done) | (simp [*]; done)), H', ⟨by have := HK1.out; first | omega | exact Nat.le_refl _⟩, ⟨by (with_reducible repeat (first | apply Kd.R_alloc | apply Kd.R_drewN | apply Kd.R_drew)); exact Kd.R_mono HO_7.out (fun _ hk => trivial)⟩, ⟨by repeat (first | (with_reducible first | exact HB.out | apply below_alloc | apply pw_below_drewN | apply below_drew1) | exact HB.out)⟩⟩
              · rw [if_neg c22] at H
                have c22b0 : (t206 == 8) = false := beq_eq_false_iff_ne.mpr c22
                have c22b1 : (t206 != 8) = true := bne_iff_ne.mpr c22
                have H' := Aside0.mk H
                clear H
                go_wp2
                go_meet
                case rel => exact ⟨_, (true), (by first | rfl | (simp; done) | (simp [*]; done)), H', ⟨by have := HK1.out; first | omega | exact Nat.le_refl _⟩, ⟨by (with_reducible repeat (first | apply Kd.R_alloc | apply Kd.R_drewN | apply Kd.R_drew)); exact Kd.R_mono HO_7.out (fun _ hk => trivial)⟩, ⟨by repeat (first | (with_reducible first | exact HB.out | apply below_alloc | apply pw_below_drewN | apply below_drew1) | exact HB.out)⟩⟩
        case rest =>
          clear HC11
          try clear c1
          try clear c2
          try clear p2
          try clear c4
          try clear c4b0
          try clear c6
          try clear c6b0
          try clear c6b1
          try clear c6b2
          try clear p6
          try clear c7
          try clear c16
          try clear c16b0
          try clear c16b1
          try clear c16b2
          try clear c17
          try clear c17b0
          try clear c17b1
          try clear c19
          try clear c22
          try clear c22b0
          try clear c22b1
          try clear c23
          try clear p2
          obtain ⟨kq, x67_10, rfl, HA, HJ10, HO_7, HB⟩ := hcut
          cases kq with
          | zero => exact absurd HA.out (by simp [slipwaylaw9_BoundBounds.j1])
          | succ kj10 =>
            have H := HA.out
            clear HA
            simp only [slipwaylaw9_BoundBounds.j1] at H
            by_cases c24 : x67_10 = true
            · subst c24
              have H1 : (some false) = some r := by rw [if_pos rfl] at H; exact H
              clear H
              have H := H1
              clear H1
              obtain rfl := Option.some.inj H
              go_wp2
              go_ret
              exact ⟨by first | rfl | (simp [errW_none, errW_some] <;> rfl) | (simp [*, errW_none, errW_some] <;> rfl), by repeat (first | (with_reducible first | exact HB.out | apply below_alloc | apply pw_below_drewN | apply below_drew1) | exact HB.out)⟩
            · replace c24 := Bool.eq_false_iff.mpr c24
              subst c24
              have H1 : (if 6 ≤ (x7_1.length : Int) then ((some (x7_1.take (6 : Int).toNat : List (S42))).bind fun y208 => (if 6 ≤ 35184372088832 then ((some (List.replicate 6 0 : List Int)).bind fun y211 => (if 0 ≤ (Int.tmod (Go.bits .and .i64 a1 255) 6) then (if (Int.tmod (Go.bits .and .i64 a1 255) 6) < (y211.length : Int) then ((some (y211.set ((Int.tmod (Go.bits .and .i64 a1 255) 6) : Int).toNat (Go.bits .and .i64 a2 3) : List Int)).bind fun y214 => ((slipwaylaw9_Made.f kj10 y208 y214).bind fun t215 => ((bound_Parse.f kj10 t215 16 0).bind fun bt218 => (if ((bt218.2 == 0) == (decide ((wrap64 ((Int.tmod (Go.bits .and .i64 a1 255) 6) + (rd y214 (Int.tmod (Go.bits .and .i64 a1 255) 6)))) < 6))) = true then (if ((wrap64 ((Int.tmod (Go.bits .and .i64 a1 255) 6) + (rd y214 (Int.tmod (Go.bits .and .i64 a1 255) 6)))) < 6) then ((slipwayref1_SameBounds.f kj10 bt218.1 y208).bind fun t223 => (if t223 = true then ((slipwaylaw9_awake.f kj10).bind fun t224 => (some t224)) else (some false))) else ((slipwaylaw9_awake.f kj10).bind fun t225 => (some t225))) else (some false))))) else (none)) else (none))) else (none))) else (none)) = some r := by rw [if_neg (show ¬ (false = true) by decide)] at H; exact H
              clear H
              have H := H1
              clear H1
              by_cases c25 : 6 ≤ (x7_1.length : Int)
              · rw [if_pos c25] at H
                have c25b0 := eq_true c25
                have c25b1 : decide (6 ≤ (x7_1.length : Int)) = true := decide_eq_true c25
                clear c25
                obtain ⟨y208, hy208⟩ : ∃ y_ : List (S42), y_ = (x7_1.take (6 : Int).toNat) := ⟨_, rfl⟩
                replace H : (if 6 ≤ 35184372088832 then ((some (List.replicate 6 0 : List Int)).bind fun y211 => (if 0 ≤ (Int.tmod (Go.bits .and .i64 a1 255) 6) then (if (Int.tmod (Go.bits .and .i64 a1 255) 6) < (y211.length : Int) then ((some (y211.set ((Int.tmod (Go.bits .and .i64 a1 255) 6) : Int).toNat (Go.bits .and .i64 a2 3) : List Int)).bind fun y214 => ((slipwaylaw9_Made.f kj10 y208 y214).bind fun t215 => ((bound_Parse.f kj10 t215 16 0).bind fun bt218 => (if ((bt218.2 == 0) == (decide ((wrap64 ((Int.tmod (Go.bits .and .i64 a1 255) 6) + (rd y214 (Int.tmod (Go.bits .and .i64 a1 255) 6)))) < 6))) = true then (if ((wrap64 ((Int.tmod (Go.bits .and .i64 a1 255) 6) + (rd y214 (Int.tmod (Go.bits .and .i64 a1 255) 6)))) < 6) then ((slipwayref1_SameBounds.f kj10 bt218.1 y208).bind fun t223 => (if t223 = true then ((slipwaylaw9_awake.f kj10).bind fun t224 => (some t224)) else (some false))) else ((slipwaylaw9_awake.f kj10).bind fun t225 => (some t225))) else (some false))))) else (none)) else (none))) else (none)) = some r := by first | (rw [hy208]; with_reducible exact H) | (have H2_ := (Option.bind_some _ _).symm.trans H; rw [hy208]; with_reducible exact H2_) | (have H2_ := (Option.bind_some _ _).symm.trans H; with_reducible exact H2_) | with_reducible exact H | (rw [hy208]; exact H) | exact H
                have Ny208 := Aside0.mk hy208
                clear hy208
                by_cases c26 : 6 ≤ 35184372088832
                · rw [if_pos c26] at H
                  have c26b0 := eq_true c26
                  have c26b1 : decide (6 ≤ 35184372088832) = true := decide_eq_true c26
                  clear c26
                  obtain ⟨y211, hy211⟩ : ∃ y_ : List Int, y_ = (List.replicate 6 0) := ⟨_, rfl⟩
                  replace H : (if 0 ≤ (Int.tmod (Go.bits .and .i64 a1 255) 6) then (if (Int.tmod (Go.bits .and .i64 a1 255) 6) < (y211.length : Int) then ((some (y211.set ((Int.tmod (Go.bits .and .i64 a1 255) 6) : Int).toNat (Go.bits .and .i64 a2 3) : List Int)).bind fun y214 => ((slipwaylaw9_Made.f kj10 y208 y214).bind fun t215 => ((bound_Parse.f kj10 t215 16 0).bind fun bt218 => (if ((bt218.2 == 0) == (decide ((wrap64 ((Int.tmod (Go.bits .and .i64 a1 255) 6) + (rd y214 (Int.tmod (Go.bits .and .i64 a1 255) 6)))) < 6))) = true then (if ((wrap64 ((Int.tmod (Go.bits .and .i64 a1 255) 6) + (rd y214 (Int.tmod (Go.bits .and .i64 a1 255) 6)))) < 6) then ((slipwayref1_SameBounds.f kj10 bt218.1 y208).bind fun t223 => (if t223 = true then ((slipwaylaw9_awake.f kj10).bind fun t224 => (some t224)) else (some false))) else ((slipwaylaw9_awake.f kj10).bind fun t225 => (some t225))) else (some false))))) else (none)) else (none)) = some r := by first | (rw [hy211]; with_reducible exact H) | (have H2_ := (Option.bind_some _ _).symm.trans H; rw [hy211]; with_reducible exact H2_) | (have H2_ := (Option.bind_some _ _).symm.trans H; with_reducible exact H2_) | with_reducible exact H | (rw [hy211]; exact H) | exact H
                  have Ny211 := Aside0.mk hy211
                  clear hy211
                  obtain ⟨ji27, hji27⟩ : ∃ j_ : Int, (Int.tmod (Go.bits .and .i64 a1 255) 6) = j_ := ⟨_, rfl⟩
                  replace H : (if 0 ≤ (ji27) then (if (ji27) < (y211.length : Int) then ((some (y211.set ((ji27) : Int).toNat (Go.bits .and .i64 a2 3) : List Int)).bind fun y214 => ((slipwaylaw9_Made.f kj10 y208 y214).bind fun t215 => ((bound_Parse.f kj10 t215 16 0).bind fun bt218 => (if ((bt218.2 == 0) == (decide ((wrap64 ((ji27) + (rd y214 (ji27)))) < 6))) = true then (if ((wrap64 ((ji27) + (rd y214 (ji27)))) < 6) then ((slipwayref1_SameBounds.f kj10 bt218.1 y208).bind fun t223 => (if t223 = true then ((slipwaylaw9_awake.f kj10).bind fun t224 => (some t224)) else (some false))) else ((slipwaylaw9_awake.f kj10).bind fun t225 => (some t225))) else (some false))))) else (none)) else (none)) = some r := by first | (rw [hji27] at H; exact H) | (simp only [hji27] at H ⊢; exact H)
                  by_cases c28 : 0 ≤ (ji27)
                  · rw [if_pos c28] at H
                    have c28b0 : decide (0 ≤ (ji27)) = true := decide_eq_true c28
                    clear c28
                    by_cases c29 : (ji27) < (y211.length : Int)
                    · rw [if_pos c29] at H
                      have c29b0 : decide ((ji27) < (y211.length : Int)) = true := decide_eq_true c29
                      clear c29
                      obtain ⟨y214, hy214⟩ : ∃ y_ : List Int, y_ = (y211.set ((ji27) : Int).toNat (Go.bits .and .i64 a2 3)) := ⟨_, rfl⟩
                      replace H : ((slipwaylaw9_Made.f kj10 y208 y214).bind fun t215 => ((bound_Parse.f kj10 t215 16 0).bind fun bt218 => (if ((bt218.2 == 0) == (decide ((wrap64 ((ji27) + (rd y214 (ji27)))) < 6))) = true then (if ((wrap64 ((ji27) + (rd y214 (ji27)))) < 6) then ((slipwayref1_SameBounds.f kj10 bt218.1 y208).bind fun t223 => (if t223 = true then ((slipwaylaw9_awake.f kj10).bind fun t224 => (some t224)) else (some false))) else ((slipwaylaw9_awake.f kj10).bind fun t225 => (some t225))) else (some false)))) = some r := by first | (rw [hy214]; with_reducible exact H) | (have H2_ := (Option.bind_some _ _).symm.trans H; rw [hy214]; with_reducible exact H2_) | (have H2_ := (Option.bind_some _ _).symm.trans H; with_reducible exact H2_) | with_reducible exact H | (rw [hy214]; exact H) | exact H
                      have Ny214 := Aside0.mk hy214
                      clear hy214
                      replace H := Option.bind_eq_some_iff.mp H
                      obtain ⟨t215, A310, H⟩ := H
                      replace H : ((bound_Parse.f kj10 t215 16 0).bind fun bt218 => (if ((bt218.2 == 0) == (decide ((wrap64 ((ji27) + (rd y214 (ji27)))) < 6))) = true then (if ((wrap64 ((ji27) + (rd y214 (ji27)))) < 6) then ((slipwayref1_SameBounds.f kj10 bt218.1 y208).bind fun t223 => (if t223 = true then ((slipwaylaw9_awake.f kj10).bind fun t224 => (some t224)) else (some false))) else ((slipwaylaw9_awake.f kj10).bind fun t225 => (some t225))) else (some false))) = some r := H
                      have A31 := Aside0.mk A310
                      clear A310
                      replace H := Option.bind_eq_some_iff.mp H
                      obtain ⟨⟨t218, t221⟩, A320, H⟩ := H
                      replace H : (if ((t221 == 0) == (decide ((wrap64 ((ji27) + (rd y214 (ji27)))) < 6))) = true then (if ((wrap64 ((ji27) + (rd y214 (ji27)))) < 6) then ((slipwayref1_SameBounds.f kj10 t218 y208).bind fun t223 => (if t223 = true then ((slipwaylaw9_awake.f kj10).bind fun t224 => (some t224)) else (some false))) else ((slipwaylaw9_awake.f kj10).bind fun t225 => (some t225))) else (some false)) = some r := H
                      have A32 := Aside0.mk A320
                      clear A320
                      by_cases c33 : ((t221 == 0) == (decide ((wrap64 ((ji27) + (rd y214 (ji27)))) < 6))) = true
                      · rw [if_pos c33] at H
                        have c33b0 : ((t221 == 0) == (decide ((wrap64 ((ji27) + (rd y214 (ji27)))) < 6))) = true := c33
                        (try (have c33b1 : decide ((t221 == 0) = (decide ((wrap64 ((ji27) + (rd y214 (ji27)))) < 6))) = true := by simpa using c33))
                        (try (have c33b2 : ((t221 == 0) == (decide ((wrap64 ((ji27) + (rd y214 (ji27)))) < 6))) = true := by simpa using c33))
                        clear c33
                        by_cases c34 : ((wrap64 ((ji27) + (rd y214 (ji27)))) < 6)
                        · rw [if_pos c34] at H
                          have c34b0 : decide ((wrap64 ((ji27) + (rd y214 (ji27)))) < 6) = true := decide_eq_true c34
                          (try (have c34d0 : (t221 == 0) = true := by simpa [c34b0] using c33b0))
                          (try (have c34d1 : (t221 == 0) = false := by simpa [c34b0] using c33b0))
                          clear c34
                          replace H := Option.bind_eq_some_iff.mp H
                          obtain ⟨t223, A350, H⟩ := H
                          replace H : (if t223 = true then ((slipwaylaw9_awake.f kj10).bind fun t224 => (some t224)) else (some false)) = some r := H
                          have A35 := Aside0.mk A350
                          clear A350
                          by_cases c36 : t223 = true
                          · subst c36
                            have H1 : ((slipwaylaw9_awake.f kj10).bind fun t224 => (some t224)) = some r := by rw [if_pos rfl] at H; exact H
                            clear H
                            have H := H1
                            clear H1
                            replace H := Option.bind_eq_some_iff.mp H
                            obtain ⟨t224, A370, H⟩ := H
                            replace H : (some t224) = some r := H
                            have A37 := Aside0.mk A370
                            clear A370
                            obtain rfl := Option.some.inj H
                            have q38 : (6 : Int) ≤ ((x7_1.length : Int) : Int) := of_decide_eq_true (by first | (with_reducible assumption) | assumption)
                            obtain ⟨i038, hi038, _, hsz38, _⟩ := info_parts info42
                            have hcut38 := cut_to (P := Try.prog) 39 42 .i64 Try.underlying39 hi038 Ao12 x7_1.length co12 6 (by omega) q38 (Kd.R_reads' HO_7.out).2.1
                            have hr38 := Kd.R_take (m := (6 : Int).toNat) HO_7.out (by omega)
                            have hy38 : y208.length = (6 : Int).toNat := (by rw [Ny208.out, List.length_take]; omega)
                            rw [← Ny208.out] at hr38
                            rw [← hy38] at hr38 hcut38
                            clear hy38 hi038 hsz38 HO_7
                            have HO210 := Aside0.mk hr38
                            clear hr38
                            replace q38 := eq_true q38
                            go_wp2_with (first | ((with_reducible refine gate_dst (N := 73) rfl ?_); (try (refine gate_guard (by rfl) ?_; dsimp only)); refine Kd.R_make (Kd.int .i64) _ 3 rfl (N := 73) rfl 50 _ _ rfl 6 rfl rfl Try.underlying50 (.int .i64 0) 8 info3 rfl (by decide) (by omega) 0 (ok := fun _ => True) (okp := fun _ => True) rfl (fun _ hk => hk) trivial (by omega) (by omega) (Below.refl _ _) (Nat.le_refl _) ?_; intro v212 w39 ho40 hb hg_ hnew_; clear hg_ hnew_; (first | rw [← Ny211.out] at ho40 | (simp only [Int.reduceToNat] at ho40; rw [← Ny211.out] at ho40)); have n0_ := Aside0.mk (Kd.R_below (by (with_reducible repeat (first | apply Kd.R_alloc | apply Kd.R_drewN | apply Kd.R_drew)); exact HO210.out) hb); have n1_ := Aside0.mk (Kd.R_lower ho40 (below_size (by repeat (first | (with_reducible first | exact HB.out | apply below_alloc | apply pw_below_drewN | apply below_drew1) | exact HB.out)))); have n2_ := Aside0.mk (below_step (by repeat (first | (with_reducible first | exact HB.out | apply below_alloc | apply pw_below_drewN | apply below_drew1) | exact HB.out)) hb); clear HO210; clear HB; have HO210 := n0_; have HO213 := n1_; have HB := n2_; clear n0_ n1_ n2_; clear hb ho40; have p30 : 0 ≤ ((ji27) : Int) := of_decide_eq_true (by first | (with_reducible assumption) | assumption); have q30 : ((ji27) : Int) < ((y211.length : Int) : Int) := of_decide_eq_true (by first | (with_reducible assumption) | assumption); obtain ⟨go30, co30, eo30, gb30, gl30, cl30, HG30⟩ := Kd.R_form HO213.out (by omega); (first | cases eo30 | (injection eo30 with ea_ en_ ec_; (first | subst ea_ | (injection ea_ with ea_; subst ea_)); subst ec_; clear en_)); have GB30 := Aside0.mk gb30; have GG30 := Aside0.mk HG30; clear gb30 gl30 HG30; obtain ⟨hx30_0, hf30_0⟩ := Kd.R_celln 0 HO213.out ((ji27) : Int) p30 q30; replace p30 := eq_true p30; replace q30 := eq_true q30; obtain ⟨hy41_, hz41_⟩ := Kd.R_celln 0 HO213.out ((ji27) : Int) (of_decide_eq_true (by first | (with_reducible assumption) | assumption)) (of_decide_eq_true (by first | (with_reducible assumption) | assumption)); have HP41 := Kd.R_putg HO213.out ((ji27) : Int) (Go.bits .and .i64 a2 3)) | ((with_reducible refine gate_store (t := 3) (p := 78) rfl ?_); refine store_event (t := 3) (p := 78) (v := ?vo_w42) (w1 := (w39.setCell ⟨go30, ((ji27) : Int).toNat, none⟩ (.int .i64 (Go.bits .and .i64 a2 3)))) ?hg ?ho ?hn ?hr ?_; (case ho => rfl); (case hg => rfl); (case hn => rfl); (case hr => first | (go_simp; done) | (go_simp; rfl)); intro w42 hw; have hg : w39.grownBy w42 (some go30) := (by rw [hw]; exact HP41.2); have hp_ : Kd.R (Kd.int .i64) 3 w42 w.heap.size (fun _ => True) (.slice (some ⟨go30, 0, none⟩) y211.length co30) y214 := (by rw [hw, Ny214.out]; exact HP41.1); clear HP41; have n0_ := Aside0.mk (Kd.R_over' (v := (.slice (some ⟨go30, 0, none⟩) y211.length co30)) (by (with_reducible repeat (first | apply Kd.R_alloc | apply Kd.R_drewN | apply Kd.R_drew)); exact HO210.out) (Kd.R_typed HO213.out) (by decide) hg); have n1_ := Aside0.mk (hp_); have n2_ := Aside0.mk ((by rw [hw]; exact below_set (HB.out) GB30.out : Below w.heap.size w w42)); clear HO210; clear HO213; clear HB; have HO210 := n0_; have HO213 := n1_; have HB := n2_; clear n0_ n1_ n2_; clear hg hw hp_) | ((with_reducible refine gate_callee (f := 24) rfl ?_); refine goesL_ (some 82) rfl rfl Try.func24 (by kernel_rfl) rfl #[.slice Ao12 y208.length co12, .slice (some ⟨go30, 0, none⟩) y214.length co30] rfl (by (try simp only [List.map_toArray, List.map_cons, List.map_nil]); first | done | (rw [show y214.length = y211.length from (Kd.R_reads' HO213.out).1.symm] <;> rfl) | rfl | (simp only [List.length_drop, List.length_take]; rfl)) ?_; (with_reducible refine (slipwaylaw9_Made.calls kj10 _ _ y208 _ _ y214 t215 _ ?side1 ?side2 ?side3 ?side4 A31.out).mono ?_); (case side1 => repeat (first | exact (Kd.R_reads' HO210.out).2.2 | (with_reducible refine Kd.C_alloc ?_ _) | (with_reducible refine Kd.C_drewN ?_ _) | (with_reducible refine Kd.C_drew ?_))); (case side2 => exact (Kd.R_reads' HO210.out).2.1); (case side3 => repeat (first | exact (Kd.R_reads' HO213.out).2.2 | (with_reducible refine Kd.C_alloc ?_ _) | (with_reducible refine Kd.C_drewN ?_ _) | (with_reducible refine Kd.C_drew ?_))); (case side4 => rw [show y214.length = y211.length from (Kd.R_reads' HO213.out).1.symm]; exact (Kd.R_reads' HO213.out).2.1); rintro e w43 ⟨v216, rfl, ho0, hb⟩; refine ⟨_, rfl, ?_⟩; have n0_ := Aside0.mk (Kd.R_below (by (with_reducible repeat (first | apply Kd.R_alloc | apply Kd.R_drewN | apply Kd.R_drew)); exact HO210.out) hb); have n1_ := Aside0.mk (Kd.R_below (by (with_reducible repeat (first | apply Kd.R_alloc | apply Kd.R_drewN | apply Kd.R_drew)); exact HO213.out) hb); have n2_ := Aside0.mk (Kd.V_lower (Kd.V_mono (ok' := fun k_ => some k_ ≠ (.slice Ao12 y208.length co12 : Value).ownBlock ∧ some k_ ≠ (.slice (some ⟨go30, 0, none⟩) y211.length co30 : Value).ownBlock) ho0 (fun k_ hk_ => ⟨(Kd.fresh' (Kd.R_lt (by (with_reducible repeat (first | apply Kd.R_alloc | apply Kd.R_drewN | apply Kd.R_drew)); exact HO210.out)) k_ hk_), (Kd.fresh' (Kd.R_lt (by (with_reducible repeat (first | apply Kd.R_alloc | apply Kd.R_drewN | apply Kd.R_drew)); exact HO213.out)) k_ hk_)⟩)) (below_size (by repeat (first | (with_reducible first | exact HB.out | apply below_alloc | apply pw_below_drewN | apply below_drew1) | exact HB.out)))); have n3_ := Aside0.mk (below_step (by repeat (first | (with_reducible first | exact HB.out | apply below_alloc | apply pw_below_drewN | apply below_drew1) | exact HB.out)) hb); clear HO210; clear HO213; clear HB; have HO210 := n0_; have HO213 := n1_; have HO217 := n2_; have HB := n3_; clear n0_ n1_ n2_ n3_; (try clear hb); (try clear hb2); (try clear hk); (try clear hi); (try clear ho0); obtain ⟨Ao44, co44, eo44⟩ := Kd.V_slice HO217.out; subst eo44) | ((with_reducible refine gate_callee (f := 23) rfl ?_); refine goesL_ (some 84) rfl rfl Try.func23 (by kernel_rfl) rfl #[.slice Ao44 t215.length co44, .agg #[.int .i64 16, .int .i64 0]] rfl (by (try simp only [List.map_toArray, List.map_cons, List.map_nil]); first | done | rfl | (simp only [List.length_drop, List.length_take]; rfl)) ?_; (with_reducible refine (bound_Parse.calls kj10 _ _ t215 16 0 t218 t221 _ ?side1 ?side2 A32.out).mono ?_); (case side1 => repeat (first | exact (Kd.V_reads' HO217.out).2.2 | (with_reducible refine Kd.C_alloc ?_ _) | (with_reducible refine Kd.C_drewN ?_ _) | (with_reducible refine Kd.C_drew ?_))); (case side2 => exact (Kd.V_reads' HO217.out).2.1); rintro e w45 ⟨v219, rfl, ho0, hb⟩; refine ⟨_, rfl, ?_⟩; have n0_ := Aside0.mk (Kd.R_elder' (by (with_reducible repeat (first | apply Kd.R_alloc | apply Kd.R_drewN | apply Kd.R_drew)); exact HO210.out) (Kd.R_base ho0) hb); have n1_ := Aside0.mk (Kd.R_below (by (with_reducible repeat (first | apply Kd.R_alloc | apply Kd.R_drewN | apply Kd.R_drew)); exact HO213.out) hb); have n2_ := Aside0.mk (Kd.V_elder' (by (with_reducible repeat (first | apply Kd.V_alloc | apply Kd.V_drewN | apply Kd.V_drew)); exact HO217.out) (Kd.R_base ho0) hb); have n3_ := Aside0.mk (Kd.R_lower (Kd.R_new' ho0 (Kd.R_lt (by (with_reducible repeat (first | apply Kd.R_alloc | apply Kd.R_drewN | apply Kd.R_drew)); exact HO210.out))) (below_size (by repeat (first | (with_reducible first | exact HB.out | apply below_alloc | apply pw_below_drewN | apply below_drew1) | exact HB.out)))); have n4_ := Aside0.mk (below_step (by repeat (first | (with_reducible first | exact HB.out | apply below_alloc | apply pw_below_drewN | apply below_drew1) | exact HB.out)) hb); clear HO210; clear HO213; clear HO217; clear HB; have HO210 := n0_; have HO213 := n1_; have HO217 := n2_; have HO220 := n3_; have HB := n4_; clear n0_ n1_ n2_ n3_ n4_; (try clear hb); (try clear hb2); (try clear hk); (try clear hi); (try clear ho0); have p222 : 0 ≤ ((ji27) : Int) := of_decide_eq_true (by first | (with_reducible assumption) | assumption); have q222 : (ji27) < (y214.length : Int) := (by have h_ : ((ji27) : Int) < ((y211.length : Int) : Int) := of_decide_eq_true (by first | (with_reducible assumption) | assumption); first | (have e_ := (Kd.R_reads' HO213.out).1; omega) | simpa only [Ny214.out, List.length_set] using h_); have ql222 : (((ji27) : Int) < ((y211.length : Int) : Int)) = True := eq_true (of_decide_eq_true (by first | (with_reducible assumption) | assumption)); obtain ⟨ad222, e222, hx222_0⟩ := Kd.at_int (Kd.R_reads' HO213.out).2.2 (ji27) p222 q222; obtain rfl : (⟨go30, 0, none⟩ : Addr) = ad222 := (by injection e222); (first | simp only [add_plain] at hx222_0 | simp only [add_at] at hx222_0 | simp only [Addr.add, Nat.zero_add] at hx222_0 | skip); replace p222 := eq_true p222; replace q222 := eq_true q222; obtain ⟨Ao46, co46, eo46⟩ := Kd.R_slice HO220.out; subst eo46) | (go_at_call 25; (with_reducible refine (slipwayref1_SameBounds.calls kj10 _ _ t218 _ _ y208 true _ ?side1 ?side2 ?side3 ?side4 A35.out).mono ?_); (case side1 => repeat (first | exact (Kd.R_reads' HO220.out).2.2 | (with_reducible refine Kd.C_alloc ?_ _) | (with_reducible refine Kd.C_drewN ?_ _) | (with_reducible refine Kd.C_drew ?_))); (case side2 => exact (Kd.R_reads' HO220.out).2.1); (case side3 => repeat (first | exact (Kd.R_reads' HO210.out).2.2 | (with_reducible refine Kd.C_alloc ?_ _) | (with_reducible refine Kd.C_drewN ?_ _) | (with_reducible refine Kd.C_drew ?_))); (case side4 => exact (Kd.R_reads' HO210.out).2.1); rintro e w' ⟨rfl, ⟨nd, rfl⟩⟩) | (go_at_call 26; (with_reducible refine (slipwaylaw9_awake.calls kj10  t224 _ A37.out).mono ?_); rintro e w47 ⟨rfl, hb⟩; have n0_ := Aside0.mk (Kd.R_below (by (with_reducible repeat (first | apply Kd.R_alloc | apply Kd.R_drewN | apply Kd.R_drew)); exact HO210.out) hb); have n1_ := Aside0.mk (Kd.R_below (by (with_reducible repeat (first | apply Kd.R_alloc | apply Kd.R_drewN | apply Kd.R_drew)); exact HO213.out) hb); have n2_ := Aside0.mk (Kd.V_below (by (with_reducible repeat (first | apply Kd.V_alloc | apply Kd.V_drewN | apply Kd.V_drew)); exact HO217.out) hb); have n3_ := Aside0.mk (Kd.R_below (by (with_reducible repeat (first | apply Kd.R_alloc | apply Kd.R_drewN | apply Kd.R_drew)); exact HO220.out) hb); have n4_ := Aside0.mk (below_step (by repeat (first | (with_reducible first | exact HB.out | apply below_alloc | apply pw_below_drewN | apply below_drew1) | exact HB.out)) hb); clear HO210; clear HO213; clear HO217; clear HO220; clear HB; have HO210 := n0_; have HO213 := n1_; have HO217 := n2_; have HO220 := n3_; have HB := n4_; clear n0_ n1_ n2_ n3_ n4_; (try clear hb); (try clear hb2); (try clear hk); (try clear hi)))
                            go_ret
                            exact ⟨by first | rfl | (simp [errW_none, errW_some] <;> rfl) | (simp only [← hji27]; first | rfl | (simp [errW_none, errW_some] <;> rfl)) | (simp [*, errW_none, errW_some] <;> rfl), by repeat (first | (with_reducible first | exact HB.out | apply below_alloc | apply pw_below_drewN | apply below_drew1) | exact HB.out)⟩
                          · replace c36 := Bool.eq_false_iff.mpr c36
                            subst c36
                            have H1 : (some false) = some r := by rw [if_neg (show ¬ (false = true) by decide)] at H; exact H
                            clear H
                            have H := H1
                            clear H1
                            obtain rfl := Option.some.inj H
                            have q48 : (6 : Int) ≤ ((x7_1.length : Int) : Int) := of_decide_eq_true (by first | (with_reducible assumption) | assumption)
                            obtain ⟨i048, hi048, _, hsz48, _⟩ := info_parts info42
                            have hcut48 := cut_to (P := Try.prog) 39 42 .i64 Try.underlying39 hi048 Ao12 x7_1.length co12 6 (by omega) q48 (Kd.R_reads' HO_7.out).2.1
                            have hr48 := Kd.R_take (m := (6 : Int).toNat) HO_7.out (by omega)
                            have hy48 : y208.length = (6 : Int).toNat := (by rw [Ny208.out, List.length_take]; omega)
                            rw [← Ny208.out] at hr48
                            rw [← hy48] at hr48 hcut48
                            clear hy48 hi048 hsz48 HO_7
                            have HO210 := Aside0.mk hr48
                            clear hr48
                            replace q48 := eq_true q48
                            go_wp2_with (first | ((with_reducible refine gate_dst (N := 73) rfl ?_); (try (refine gate_guard (by rfl) ?_; dsimp only)); refine Kd.R_make (Kd.int .i64) _ 3 rfl (N := 73) rfl 50 _ _ rfl 6 rfl rfl Try.underlying50 (.int .i64 0) 8 info3 rfl (by decide) (by omega) 0 (ok := fun _ => True) (okp := fun _ => True) rfl (fun _ hk => hk) trivial (by omega) (by omega) (Below.refl _ _) (Nat.le_refl _) ?_; intro v212 w49 ho50 hb hg_ hnew_; clear hg_ hnew_; (first | rw [← Ny211.out] at ho50 | (simp only [Int.reduceToNat] at ho50; rw [← Ny211.out] at ho50)); have n0_ := Aside0.mk (Kd.R_below (by (with_reducible repeat (first | apply Kd.R_alloc | apply Kd.R_drewN | apply Kd.R_drew)); exact HO210.out) hb); have n1_ := Aside0.mk (Kd.R_lower ho50 (below_size (by repeat (first | (with_reducible first | exact HB.out | apply below_alloc | apply pw_below_drewN | apply below_drew1) | exact HB.out)))); have n2_ := Aside0.mk (below_step (by repeat (first | (with_reducible first | exact HB.out | apply below_alloc | apply pw_below_drewN | apply below_drew1) | exact HB.out)) hb); clear HO210; clear HB; have HO210 := n0_; have HO213 := n1_; have HB := n2_; clear n0_ n1_ n2_; clear hb ho50; have p30 : 0 ≤ ((ji27) : Int) := of_decide_eq_true (by first | (with_reducible assumption) | assumption); have q30 : ((ji27) : Int) < ((y211.length : Int) : Int) := of_decide_eq_true (by first | (with_reducible assumption) | assumption); obtain ⟨go30, co30, eo30, gb30, gl30, cl30, HG30⟩ := Kd.R_form HO213.out (by omega); (first | cases eo30 | (injection eo30 with ea_ en_ ec_; (first | subst ea_ | (injection ea_ with ea_; subst ea_)); subst ec_; clear en_)); have GB30 := Aside0.mk gb30; have GG30 := Aside0.mk HG30; clear gb30 gl30 HG30; obtain ⟨hx30_0, hf30_0⟩ := Kd.R_celln 0 HO213.out ((ji27) : Int) p30 q30; replace p30 := eq_true p30; replace q30 := eq_true q30; obtain ⟨hy51_, hz51_⟩ := Kd.R_celln 0 HO213.out ((ji27) : Int) (of_decide_eq_true (by first | (with_reducible assumption) | assumption)) (of_decide_eq_true (by first | (with_reducible assumption) | assumption)); have HP51 := Kd.R_putg HO213.out ((ji27) : Int) (Go.bits .and .i64 a2 3)) | ((with_reducible refine gate_store (t := 3) (p := 78) rfl ?_); refine store_event (t := 3) (p := 78) (v := ?vo_w52) (w1 := (w49.setCell ⟨go30, ((ji27) : Int).toNat, none⟩ (.int .i64 (Go.bits .and .i64 a2 3)))) ?hg ?ho ?hn ?hr ?_; (case ho => rfl); (case hg => rfl); (case hn => rfl); (case hr => first | (go_simp; done) | (go_simp; rfl)); intro w52 hw; have hg : w49.grownBy w52 (some go30) := (by rw [hw]; exact HP51.2); have hp_ : Kd.R (Kd.int .i64) 3 w52 w.heap.size (fun _ => True) (.slice (some ⟨go30, 0, none⟩) y211.length co30) y214 := (by rw [hw, Ny214.out]; exact HP51.1); clear HP51; have n0_ := Aside0.mk (Kd.R_over' (v := (.slice (some ⟨go30, 0, none⟩) y211.length co30)) (by (with_reducible repeat (first | apply Kd.R_alloc | apply Kd.R_drewN | apply Kd.R_drew)); exact HO210.out) (Kd.R_typed HO213.out) (by decide) hg); have n1_ := Aside0.mk (hp_); have n2_ := Aside0.mk ((by rw [hw]; exact below_set (HB.out) GB30.out : Below w.heap.size w w52)); clear HO210; clear HO213; clear HB; have HO210 := n0_; have HO213 := n1_; have HB := n2_; clear n0_ n1_ n2_; clear hg hw hp_) | ((with_reducible refine gate_callee (f := 24) rfl ?_); refine goesL_ (some 82) rfl rfl Try.func24 (by kernel_rfl) rfl #[.slice Ao12 y208.length co12, .slice (some ⟨go30, 0, none⟩) y214.length co30] rfl (by (try simp only [List.map_toArray, List.map_cons, List.map_nil]); first | done | (rw [show y214.length = y211.length from (Kd.R_reads' HO213.out).1.symm] <;> rfl) | rfl | (simp only [List.length_drop, List.length_take]; rfl)) ?_; (with_reducible refine (slipwaylaw9_Made.calls kj10 _ _ y208 _ _ y214 t215 _ ?side1 ?side2 ?side3 ?side4 A31.out).mono ?_); (case side1 => repeat (first | exact (Kd.R_reads' HO210.out).2.2 | (with_reducible refine Kd.C_alloc ?_ _) | (with_reducible refine Kd.C_drewN ?_ _) | (with_reducible refine Kd.C_drew ?_))); (case side2 => exact (Kd.R_reads' HO210.out).2.1); (case side3 => repeat (first | exact (Kd.R_reads' HO213.out).2.2 | (with_reducible refine Kd.C_alloc ?_ _) | (with_reducible refine Kd.C_drewN ?_ _) | (with_reducible refine Kd.C_drew ?_))); (case side4 => rw [show y214.length = y211.length from (Kd.R_reads' HO213.out).1.symm]; exact (Kd.R_reads' HO213.out).2.1); rintro e w53 ⟨v216, rfl, ho0, hb⟩; refine ⟨_, rfl, ?_⟩; have n0_ := Aside0.mk (Kd.R_below (by (with_reducible repeat (first | apply Kd.R_alloc | apply Kd.R_drewN | apply Kd.R_drew)); exact HO210.out) hb); have n1_ := Aside0.mk (Kd.R_below (by (with_reducible repeat (first | apply Kd.R_alloc | apply Kd.R_drewN | apply Kd.R_drew)); exact HO213.out) hb); have n2_ := Aside0.mk (Kd.V_lower (Kd.V_mono (ok' := fun k_ => some k_ ≠ (.slice Ao12 y208.length co12 : Value).ownBlock ∧ some k_ ≠ (.slice (some ⟨go30, 0, none⟩) y211.length co30 : Value).ownBlock) ho0 (fun k_ hk_ => ⟨(Kd.fresh' (Kd.R_lt (by (with_reducible repeat (first | apply Kd.R_alloc | apply Kd.R_drewN | apply Kd.R_drew)); exact HO210.out)) k_ hk_), (Kd.fresh' (Kd.R_lt (by (with_reducible repeat (first | apply Kd.R_alloc | apply Kd.R_drewN | apply Kd.R_drew)); exact HO213.out)) k_ hk_)⟩)) (below_size (by repeat (first | (with_reducible first | exact HB.out | apply below_alloc | apply pw_below_drewN | apply below_drew1) | exact HB.out)))); have n3_ := Aside0.mk (below_step (by repeat (first | (with_reducible first | exact HB.out | apply below_alloc | apply pw_below_drewN | apply below_drew1) | exact HB.out)) hb); clear HO210; clear HO213; clear HB; have HO210 := n0_; have HO213 := n1_; have HO217 := n2_; have HB := n3_; clear n0_ n1_ n2_ n3_; (try clear hb); (try clear hb2); (try clear hk); (try clear hi); (try clear ho0); obtain ⟨Ao54, co54, eo54⟩ := Kd.V_slice HO217.out; subst eo54) | ((with_reducible refine gate_callee (f := 23) rfl ?_); refine goesL_ (some 84) rfl rfl Try.func23 (by kernel_rfl) rfl #[.slice Ao54 t215.length co54, .agg #[.int .i64 16, .int .i64 0]] rfl (by (try simp only [List.map_toArray, List.map_cons, List.map_nil]); first | done | rfl | (simp only [List.length_drop, List.length_take]; rfl)) ?_; (with_reducible refine (bound_Parse.calls kj10 _ _ t215 16 0 t218 t221 _ ?side1 ?side2 A32.out).mono ?_); (case side1 => repeat (first | exact (Kd.V_reads' HO217.out).2.2 | (with_reducible refine Kd.C_alloc ?_ _) | (with_reducible refine Kd.C_drewN ?_ _) | (with_reducible refine Kd.C_drew ?_))); (case side2 => exact (Kd.V_reads' HO217.out).2.1); rintro e w55 ⟨v219, rfl, ho0, hb⟩; refine ⟨_, rfl, ?_⟩; have n0_ := Aside0.mk (Kd.R_elder' (by (with_reducible repeat (first | apply Kd.R_alloc | apply Kd.R_drewN | apply Kd.R_drew)); exact HO210.out) (Kd.R_base ho0) hb); have n1_ := Aside0.mk (Kd.R_below (by (with_reducible repeat (first | apply Kd.R_alloc | apply Kd.R_drewN | apply Kd.R_drew)); exact HO213.out) hb); have n2_ := Aside0.mk (Kd.V_elder' (by (with_reducible repeat (first | apply Kd.V_alloc | apply Kd.V_drewN | apply Kd.V_drew)); exact HO217.out) (Kd.R_base ho0) hb); have n3_ := Aside0.mk (Kd.R_lower (Kd.R_new' ho0 (Kd.R_lt (by (with_reducible repeat (first | apply Kd.R_alloc | apply Kd.R_drewN | apply Kd.R_drew)); exact HO210.out))) (below_size (by repeat (first | (with_reducible first | exact HB.out | apply below_alloc | apply pw_below_drewN | apply below_drew1) | exact HB.out)))); have n4_ := Aside0.mk (below_step (by repeat (first | (with_reducible first | exact HB.out | apply below_alloc | apply pw_below_drewN | apply below_drew1) | exact HB.out)) hb); clear HO210; clear HO213; clear HO217; clear HB; have HO210 := n0_; have HO213 := n1_; have HO217 := n2_; have HO220 := n3_; have HB := n4_; clear n0_ n1_ n2_ n3_ n4_; (try clear hb); (try clear hb2); (try clear hk); (try clear hi); (try clear ho0); have p222 : 0 ≤ ((ji27) : Int) := of_decide_eq_true (by first | (with_reducible assumption) | assumption); have q222 : (ji27) < (y214.length : Int) := (by have h_ : ((ji27) : Int) < ((y211.length : Int) : Int) := of_decide_eq_true (by first | (with_reducible assumption) | assumption); first | (have e_ := (Kd.R_reads' HO213.out).1; omega) | simpa only [Ny214.out, List.length_set] using h_); have ql222 : (((ji27) : Int) < ((y211.length : Int) : Int)) = True := eq_true (of_decide_eq_true (by first | (with_reducible assumption) | assumption)); obtain ⟨ad222, e222, hx222_0⟩ := Kd.at_int (Kd.R_reads' HO213.out).2.2 (ji27) p222 q222; obtain rfl : (⟨go30, 0, none⟩ : Addr) = ad222 := (by injection e222); (first | simp only [add_plain] at hx222_0 | simp only [add_at] at hx222_0 | simp only [Addr.add, Nat.zero_add] at hx222_0 | skip); replace p222 := eq_true p222; replace q222 := eq_true q222; obtain ⟨Ao56, co56, eo56⟩ := Kd.R_slice HO220.out; subst eo56) | (go_at_call 25; (with_reducible refine (slipwayref1_SameBounds.calls kj10 _ _ t218 _ _ y208 false _ ?side1 ?side2 ?side3 ?side4 A35.out).mono ?_); (case side1 => repeat (first | exact (Kd.R_reads' HO220.out).2.2 | (with_reducible refine Kd.C_alloc ?_ _) | (with_reducible refine Kd.C_drewN ?_ _) | (with_reducible refine Kd.C_drew ?_))); (case side2 => exact (Kd.R_reads' HO220.out).2.1); (case side3 => repeat (first | exact (Kd.R_reads' HO210.out).2.2 | (with_reducible refine Kd.C_alloc ?_ _) | (with_reducible refine Kd.C_drewN ?_ _) | (with_reducible refine Kd.C_drew ?_))); (case side4 => exact (Kd.R_reads' HO210.out).2.1); rintro e w' ⟨rfl, ⟨nd, rfl⟩⟩))
                            go_ret
                            exact ⟨by first | rfl | (simp [errW_none, errW_some] <;> rfl) | (simp only [← hji27]; first | rfl | (simp [errW_none, errW_some] <;> rfl)) | (simp [*, errW_none, errW_some] <;> rfl), by repeat (first | (with_reducible first | exact HB.out | apply below_alloc | apply pw_below_drewN | apply below_drew1) | exact HB.out)⟩
                        · rw [if_neg c34] at H
                          have c34b0 : decide ((wrap64 ((ji27) + (rd y214 (ji27)))) < 6) = false := decide_eq_false c34
                          (try (have c34d0 : (t221 == 0) = true := by simpa [c34b0] using c33b0))
                          (try (have c34d1 : (t221 == 0) = false := by simpa [c34b0] using c33b0))
                          clear c34
                          replace H := Option.bind_eq_some_iff.mp H
                          obtain ⟨t225, A570, H⟩ := H
                          replace H : (some t225) = some r := H
                          have A57 := Aside0.mk A570
                          clear A570
                          obtain rfl := Option.some.inj H
                          have q58 : (6 : Int) ≤ ((x7_1.length : Int) : Int) := of_decide_eq_true (by first | (with_reducible assumption) | assumption)
                          obtain ⟨i058, hi058, _, hsz58, _⟩ := info_parts info42
                          have hcut58 := cut_to (P := Try.prog) 39 42 .i64 Try.underlying39 hi058 Ao12 x7_1.length co12 6 (by omega) q58 (Kd.R_reads' HO_7.out).2.1
                          have hr58 := Kd.R_take (m := (6 : Int).toNat) HO_7.out (by omega)
                          have hy58 : y208.length = (6 : Int).toNat := (by rw [Ny208.out, List.length_take]; omega)
                          rw [← Ny208.out] at hr58
                          rw [← hy58] at hr58 hcut58
                          clear hy58 hi058 hsz58 HO_7
                          have HO210 := Aside0.mk hr58
                          clear hr58
                          replace q58 := eq_true q58
                          go_wp2_with (first | ((with_reducible refine gate_dst (N := 73) rfl ?_); (try (refine gate_guard (by rfl) ?_; dsimp only)); refine Kd.R_make (Kd.int .i64) _ 3 rfl (N := 73) rfl 50 _ _ rfl 6 rfl rfl Try.underlying50 (.int .i64 0) 8 info3 rfl (by decide) (by omega) 0 (ok := fun _ => True) (okp := fun _ => True) rfl (fun _ hk => hk) trivial (by omega) (by omega) (Below.refl _ _) (Nat.le_refl _) ?_; intro v212 w59 ho60 hb hg_ hnew_; clear hg_ hnew_; (first | rw [← Ny211.out] at ho60 | (simp only [Int.reduceToNat] at ho60; rw [← Ny211.out] at ho60)); have n0_ := Aside0.mk (Kd.R_below (by (with_reducible repeat (first | apply Kd.R_alloc | apply Kd.R_drewN | apply Kd.R_drew)); exact HO210.out) hb); have n1_ := Aside0.mk (Kd.R_lower ho60 (below_size (by repeat (first | (with_reducible first | exact HB.out | apply below_alloc | apply pw_below_drewN | apply below_drew1) | exact HB.out)))); have n2_ := Aside0.mk (below_step (by repeat (first | (with_reducible first | exact HB.out | apply below_alloc | apply pw_below_drewN | apply below_drew1) | exact HB.out)) hb); clear HO210; clear HB; have HO210 := n0_; have HO213 := n1_; have HB := n2_; clear n0_ n1_ n2_; clear hb ho60; have p30 : 0 ≤ ((ji27) : Int) := of_decide_eq_true (by first | (with_reducible assumption) | assumption); have q30 : ((ji27) : Int) < ((y211.length : Int) : Int) := of_decide_eq_true (by first | (with_reducible assumption) | assumption); obtain ⟨go30, co30, eo30, gb30, gl30, cl30, HG30⟩ := Kd.R_form HO213.out (by omega); (first | cases eo30 | (injection eo30 with ea_ en_ ec_; (first | subst ea_ | (injection ea_ with ea_; subst ea_)); subst ec_; clear en_)); have GB30 := Aside0.mk gb30; have GG30 := Aside0.mk HG30; clear gb30 gl30 HG30; obtain ⟨hx30_0, hf30_0⟩ := Kd.R_celln 0 HO213.out ((ji27) : Int) p30 q30; replace p30 := eq_true p30; replace q30 := eq_true q30; obtain ⟨hy61_, hz61_⟩ := Kd.R_celln 0 HO213.out ((ji27) : Int) (of_decide_eq_true (by first | (with_reducible assumption) | assumption)) (of_decide_eq_true (by first | (with_reducible assumption) | assumption)); have HP61 := Kd.R_putg HO213.out ((ji27) : Int) (Go.bits .and .i64 a2 3)) | ((with_reducible refine gate_store (t := 3) (p := 78) rfl ?_); refine store_event (t := 3) (p := 78) (v := ?vo_w62) (w1 := (w59.setCell ⟨go30, ((ji27) : Int).toNat, none⟩ (.int .i64 (Go.bits .and .i64 a2 3)))) ?hg ?ho ?hn ?hr ?_; (case ho => rfl); (case hg => rfl); (case hn => rfl); (case hr => first | (go_simp; done) | (go_simp; rfl)); intro w62 hw; have hg : w59.grownBy w62 (some go30) := (by rw [hw]; exact HP61.2); have hp_ : Kd.R (Kd.int .i64) 3 w62 w.heap.size (fun _ => True) (.slice (some ⟨go30, 0, none⟩) y211.length co30) y214 := (by rw [hw, Ny214.out]; exact HP61.1); clear HP61; have n0_ := Aside0.mk (Kd.R_over' (v := (.slice (some ⟨go30, 0, none⟩) y211.length co30)) (by (with_reducible repeat (first | apply Kd.R_alloc | apply Kd.R_drewN | apply Kd.R_drew)); exact HO210.out) (Kd.R_typed HO213.out) (by decide) hg); have n1_ := Aside0.mk (hp_); have n2_ := Aside0.mk ((by rw [hw]; exact below_set (HB.out) GB30.out : Below w.heap.size w w62)); clear HO210; clear HO213; clear HB; have HO210 := n0_; have HO213 := n1_; have HB := n2_; clear n0_ n1_ n2_; clear hg hw hp_) | ((with_reducible refine gate_callee (f := 24) rfl ?_); refine goesL_ (some 82) rfl rfl Try.func24 (by kernel_rfl) rfl #[.slice Ao12 y208.length co12, .slice (some ⟨go30, 0, none⟩) y214.length co30] rfl (by (try simp only [List.map_toArray, List.map_cons, List.map_nil]); first | done | (rw [show y214.length = y211.length from (Kd.R_reads' HO213.out).1.symm] <;> rfl) | rfl | (simp only [List.length_drop, List.length_take]; rfl)) ?_; (with_reducible refine (slipwaylaw9_Made.calls kj10 _ _ y208 _ _ y214 t215 _ ?side1 ?side2 ?side3 ?side4 A31.out).mono ?_); (case side1 => repeat (first | exact (Kd.R_reads' HO210.out).2.2 | (with_reducible refine Kd.C_alloc ?_ _) | (with_reducible refine Kd.C_drewN ?_ _) | (with_reducible refine Kd.C_drew ?_))); (case side2 => exact (Kd.R_reads' HO210.out).2.1); (case side3 => repeat (first | exact (Kd.R_reads' HO213.out).2.2 | (with_reducible refine Kd.C_alloc ?_ _) | (with_reducible refine Kd.C_drewN ?_ _) | (with_reducible refine Kd.C_drew ?_))); (case side4 => rw [show y214.length = y211.length from (Kd.R_reads' HO213.out).1.symm]; exact (Kd.R_reads' HO213.out).2.1); rintro e w63 ⟨v216, rfl, ho0, hb⟩; refine ⟨_, rfl, ?_⟩; have n0_ := Aside0.mk (Kd.R_below (by (with_reducible repeat (first | apply Kd.R_alloc | apply Kd.R_drewN | apply Kd.R_drew)); exact HO210.out) hb); have n1_ := Aside0.mk (Kd.R_below (by (with_reducible repeat (first | apply Kd.R_alloc | apply Kd.R_drewN | apply Kd.R_drew)); exact HO213.out) hb); have n2_ := Aside0.mk (Kd.V_lower (Kd.V_mono (ok' := fun k_ => some k_ ≠ (.slice Ao12 y208.length co12 : Value).ownBlock ∧ some k_ ≠ (.slice (some ⟨go30, 0, none⟩) y211.length co30 : Value).ownBlock) ho0 (fun k_ hk_ => ⟨(Kd.fresh' (Kd.R_lt (by (with_reducible repeat (first | apply Kd.R_alloc | apply Kd.R_drewN | apply Kd.R_drew)); exact HO210.out)) k_ hk_), (Kd.fresh' (Kd.R_lt (by (with_reducible repeat (first | apply Kd.R_alloc | apply Kd.R_drewN | apply Kd.R_drew)); exact HO213.out)) k_ hk_)⟩)) (below_size (by repeat (first | (with_reducible first | exact HB.out | apply below_alloc | apply pw_below_drewN | apply below_drew1) | exact HB.out)))); have n3_ := Aside0.mk (below_step (by repeat (first | (with_reducible first | exact HB.out | apply below_alloc | apply pw_below_drewN | apply below_drew1) | exact HB.out)) hb); clear HO210; clear HO213; clear HB; have HO210 := n0_; have HO213 := n1_; have HO217 := n2_; have HB := n3_; clear n0_ n1_ n2_ n3_; (try clear hb); (try clear hb2); (try clear hk); (try clear hi); (try clear ho0); obtain ⟨Ao64, co64, eo64⟩ := Kd.V_slice HO217.out; subst eo64) | ((with_reducible refine gate_callee (f := 23) rfl ?_); refine goesL_ (some 84) rfl rfl Try.func23 (by kernel_rfl) rfl #[.slice Ao64 t215.length co64, .agg #[.int .i64 16, .int .i64 0]] rfl (by (try simp only [List.map_toArray, List.map_cons, List.map_nil]); first | done | rfl | (simp only [List.length_drop, List.length_take]; rfl)) ?_; (with_reducible refine (bound_Parse.calls kj10 _ _ t215 16 0 t218 t221 _ ?side1 ?side2 A32.out).mono ?_); (case side1 => repeat (first | exact (Kd.V_reads' HO217.out).2.2 | (with_reducible refine Kd.C_alloc ?_ _) | (with_reducible refine Kd.C_drewN ?_ _) | (with_reducible refine Kd.C_drew ?_))); (case side2 => exact (Kd.V_reads' HO217.out).2.1); rintro e w65 ⟨v219, rfl, ho0, hb⟩; refine ⟨_, rfl, ?_⟩; have n0_ := Aside0.mk (Kd.R_elder' (by (with_reducible repeat (first | apply Kd.R_alloc | apply Kd.R_drewN | apply Kd.R_drew)); exact HO210.out) (Kd.R_base ho0) hb); have n1_ := Aside0.mk (Kd.R_below (by (with_reducible repeat (first | apply Kd.R_alloc | apply Kd.R_drewN | apply Kd.R_drew)); exact HO213.out) hb); have n2_ := Aside0.mk (Kd.V_elder' (by (with_reducible repeat (first | apply Kd.V_alloc | apply Kd.V_drewN | apply Kd.V_drew)); exact HO217.out) (Kd.R_base ho0) hb); have n3_ := Aside0.mk (Kd.R_lower (Kd.R_new' ho0 (Kd.R_lt (by (with_reducible repeat (first | apply Kd.R_alloc | apply Kd.R_drewN | apply Kd.R_drew)); exact HO210.out))) (below_size (by repeat (first | (with_reducible first | exact HB.out | apply below_alloc | apply pw_below_drewN | apply below_drew1) | exact HB.out)))); have n4_ := Aside0.mk (below_step (by repeat (first | (with_reducible first | exact HB.out | apply below_alloc | apply pw_below_drewN | apply below_drew1) | exact HB.out)) hb); clear HO210; clear HO213; clear HO217; clear HB; have HO210 := n0_; have HO213 := n1_; have HO217 := n2_; have HO220 := n3_; have HB := n4_; clear n0_ n1_ n2_ n3_ n4_; (try clear hb); (try clear hb2); (try clear hk); (try clear hi); (try clear ho0); have p222 : 0 ≤ ((ji27) : Int) := of_decide_eq_true (by first | (with_reducible assumption) | assumption); have q222 : (ji27) < (y214.length : Int) := (by have h_ : ((ji27) : Int) < ((y211.length : Int) : Int) := of_decide_eq_true (by first | (with_reducible assumption) | assumption); first | (have e_ := (Kd.R_reads' HO213.out).1; omega) | simpa only [Ny214.out, List.length_set] using h_); have ql222 : (((ji27) : Int) < ((y211.length : Int) : Int)) = True := eq_true (of_decide_eq_true (by first | (with_reducible assumption) | assumption)); obtain ⟨ad222, e222, hx222_0⟩ := Kd.at_int (Kd.R_reads' HO213.out).2.2 (ji27) p222 q222; obtain rfl : (⟨go30, 0, none⟩ : Addr) = ad222 := (by injection e222); (first | simp only [add_plain] at hx222_0 | simp only [add_at] at hx222_0 | simp only [Addr.add, Nat.zero_add] at hx222_0 | skip); replace p222 := eq_true p222; replace q222 := eq_true q222) | (go_at_call 26; (with_reducible refine (slipwaylaw9_awake.calls kj10  t225 _ A57.out).mono ?_); rintro e w66 ⟨rfl, hb⟩; have n0_ := Aside0.mk (Kd.R_below (by (with_reducible repeat (first | apply Kd.R_alloc | apply Kd.R_drewN | apply Kd.R_drew)); exact HO210.out) hb); have n1_ := Aside0.mk (Kd.R_below (by (with_reducible repeat (first | apply Kd.R_alloc | apply Kd.R_drewN | apply Kd.R_drew)); exact HO213.out) hb); have n2_ := Aside0.mk (Kd.V_below (by (with_reducible repeat (first | apply Kd.V_alloc | apply Kd.V_drewN | apply Kd.V_drew)); exact HO217.out) hb); have n3_ := Aside0.mk (Kd.R_below (by (with_reducible repeat (first | apply Kd.R_alloc | apply Kd.R_drewN | apply Kd.R_drew)); exact HO220.out) hb); have n4_ := Aside0.mk (below_step (by repeat (first | (with_reducible first | exact HB.out | apply below_alloc | apply pw_below_drewN | apply below_drew1) | exact HB.out)) hb); clear HO210; clear HO213; clear HO217; clear HO220; clear HB; have HO210 := n0_; have HO213 := n1_; have HO217 := n2_; have HO220 := n3_; have HB := n4_; clear n0_ n1_ n2_ n3_ n4_; (try clear hb); (try clear hb2); (try clear hk); (try clear hi)))
                          go_ret
                          exact ⟨by first | rfl | (simp [errW_none, errW_some] <;> rfl) | (simp only [← hji27]; first | rfl | (simp [errW_none, errW_some] <;> rfl)) | (simp [*, errW_none, errW_some] <;> rfl), by repeat (first | (with_reducible first | exact HB.out | apply below_alloc | apply pw_below_drewN | apply below_drew1) | exact HB.out)⟩
                      · rw [if_neg c33] at H
                        have c33b0 : ((t221 == 0) == (decide ((wrap64 ((ji27) + (rd y214 (ji27)))) < 6))) = false := by simpa using c33
                        (try (have c33b1 : decide ((t221 == 0) = (decide ((wrap64 ((ji27) + (rd y214 (ji27)))) < 6))) = false := by simpa using c33))
                        (try (have c33b2 : ((t221 == 0) == (decide ((wrap64 ((ji27) + (rd y214 (ji27)))) < 6))) = false := by simpa using c33))
                        (try (have c33b3 : ¬ ((t221 == 0) = (decide ((wrap64 ((ji27) + (rd y214 (ji27)))) < 6))) := by simpa using c33))
                        clear c33
                        obtain rfl := Option.some.inj H
                        have q67 : (6 : Int) ≤ ((x7_1.length : Int) : Int) := of_decide_eq_true (by first | (with_reducible assumption) | assumption)
                        obtain ⟨i067, hi067, _, hsz67, _⟩ := info_parts info42
                        have hcut67 := cut_to (P := Try.prog) 39 42 .i64 Try.underlying39 hi067 Ao12 x7_1.length co12 6 (by omega) q67 (Kd.R_reads' HO_7.out).2.1
                        have hr67 := Kd.R_take (m := (6 : Int).toNat) HO_7.out (by omega)
                        have hy67 : y208.length = (6 : Int).toNat := (by rw [Ny208.out, List.length_take]; omega)
                        rw [← Ny208.out] at hr67
                        rw [← hy67] at hr67 hcut67
                        clear hy67 hi067 hsz67 HO_7
                        have HO210 := Aside0.mk hr67
                        clear hr67
                        replace q67 := eq_true q67
                        go_wp2_with (first | ((with_reducible refine gate_dst (N := 73) rfl ?_); (try (refine gate_guard (by rfl) ?_; dsimp only)); refine Kd.R_make (Kd.int .i64) _ 3 rfl (N := 73) rfl 50 _ _ rfl 6 rfl rfl Try.underlying50 (.int .i64 0) 8 info3 rfl (by decide) (by omega) 0 (ok := fun _ => True) (okp := fun _ => True) rfl (fun _ hk => hk) trivial (by omega) (by omega) (Below.refl _ _) (Nat.le_refl _) ?_; intro v212 w68 ho69 hb hg_ hnew_; clear hg_ hnew_; (first | rw [← Ny211.out] at ho69 | (simp only [Int.reduceToNat] at ho69; rw [← Ny211.out] at ho69)); have n0_ := Aside0.mk (Kd.R_below (by (with_reducible repeat (first | apply Kd.R_alloc | apply Kd.R_drewN | apply Kd.R_drew)); exact HO210.out) hb); have n1_ := Aside0.mk (Kd.R_lower ho69 (below_size (by repeat (first | (with_reducible first | exact HB.out | apply below_alloc | apply pw_below_drewN | apply below_drew1) | exact HB.out)))); have n2_ := Aside0.mk (below_step (by repeat (first | (with_reducible first | exact HB.out | apply below_alloc | apply pw_below_drewN | apply below_drew1) | exact HB.out)) hb); clear HO210; clear HB; have HO210 := n0_; have HO213 := n1_; have HB := n2_; clear n0_ n1_ n2_; clear hb ho69; have p30 : 0 ≤ ((ji27) : Int) := of_decide_eq_true (by first | (with_reducible assumption) | assumption); have q30 : ((ji27) : Int) < ((y211.length : Int) : Int) := of_decide_eq_true (by first | (with_reducible assumption) | assumption); obtain ⟨go30, co30, eo30, gb30, gl30, cl30, HG30⟩ := Kd.R_form HO213.out (by omega); (first | cases eo30 | (injection eo30 with ea_ en_ ec_; (first | subst ea_ | (injection ea_ with ea_; subst ea_)); subst ec_; clear en_)); have GB30 := Aside0.mk gb30; have GG30 := Aside0.mk HG30; clear gb30 gl30 HG30; obtain ⟨hx30_0, hf30_0⟩ := Kd.R_celln 0 HO213.out ((ji27) : Int) p30 q30; replace p30 := eq_true p30; replace q30 := eq_true q30; obtain ⟨hy70_, hz70_⟩ := Kd.R_celln 0 HO213.out ((ji27) : Int) (of_decide_eq_true (by first | (with_reducible assumption) | assumption)) (of_decide_eq_true (by first | (with_reducible assumption) | assumption)); have HP70 := Kd.R_putg HO213.out ((ji27) : Int) (Go.bits .and .i64 a2 3)) | ((with_reducible refine gate_store (t := 3) (p := 78) rfl ?_); refine store_event (t := 3) (p := 78) (v := ?vo_w71) (w1 := (w68.setCell ⟨go30, ((ji27) : Int).toNat, none⟩ (.int .i64 (Go.bits .and .i64 a2 3)))) ?hg ?ho ?hn ?hr ?_; (case ho => rfl); (case hg => rfl); (case hn => rfl); (case hr => first | (go_simp; done) | (go_simp; rfl)); intro w71 hw; have hg : w68.grownBy w71 (some go30) := (by rw [hw]; exact HP70.2); have hp_ : Kd.R (Kd.int .i64) 3 w71 w.heap.size (fun _ => True) (.slice (some ⟨go30, 0, none⟩) y211.length co30) y214 := (by rw [hw, Ny214.out]; exact HP70.1); clear HP70; have n0_ := Aside0.mk (Kd.R_over' (v := (.slice (some ⟨go30, 0, none⟩) y211.length co30)) (by (with_reducible repeat (first | apply Kd.R_alloc | apply Kd.R_drewN | apply Kd.R_drew)); exact HO210.out) (Kd.R_typed HO213.out) (by decide) hg); have n1_ := Aside0.mk (hp_); have n2_ := Aside0.mk ((by rw [hw]; exact below_set (HB.out) GB30.out : Below w.heap.size w w71)); clear HO210; clear HO213; clear HB; have HO210 := n0_; have HO213 := n1_; have HB := n2_; clear n0_ n1_ n2_; clear hg hw hp_) | ((with_reducible refine gate_callee (f := 24) rfl ?_); refine goesL_ (some 82) rfl rfl Try.func24 (by kernel_rfl) rfl #[.slice Ao12 y208.length co12, .slice (some ⟨go30, 0, none⟩) y214.length co30] rfl (by (try simp only [List.map_toArray, List.map_cons, List.map_nil]); first | done | (rw [show y214.length = y211.length from (Kd.R_reads' HO213.out).1.symm] <;> rfl) | rfl | (simp only [List.length_drop, List.length_take]; rfl)) ?_; (with_reducible refine (slipwaylaw9_Made.calls kj10 _ _ y208 _ _ y214 t215 _ ?side1 ?side2 ?side3 ?side4 A31.out).mono ?_); (case side1 => repeat (first | exact (Kd.R_reads' HO210.out).2.2 | (with_reducible refine Kd.C_alloc ?_ _) | (with_reducible refine Kd.C_drewN ?_ _) | (with_reducible refine Kd.C_drew ?_))); (case side2 => exact (Kd.R_reads' HO210.out).2.1); (case side3 => repeat (first | exact (Kd.R_reads' HO213.out).2.2 | (with_reducible refine Kd.C_alloc ?_ _) | (with_reducible refine Kd.C_drewN ?_ _) | (with_reducible refine Kd.C_drew ?_))); (case side4 => rw [show y214.length = y211.length from (Kd.R_reads' HO213.out).1.symm]; exact (Kd.R_reads' HO213.out).2.1); rintro e w72 ⟨v216, rfl, ho0, hb⟩; refine ⟨_, rfl, ?_⟩; have n0_ := Aside0.mk (Kd.R_below (by (with_reducible repeat (first | apply Kd.R_alloc | apply Kd.R_drewN | apply Kd.R_drew)); exact HO210.out) hb); have n1_ := Aside0.mk (Kd.R_below (by (with_reducible repeat (first | apply Kd.R_alloc | apply Kd.R_drewN | apply Kd.R_drew)); exact HO213.out) hb); have n2_ := Aside0.mk (Kd.V_lower (Kd.V_mono (ok' := fun k_ => some k_ ≠ (.slice Ao12 y208.length co12 : Value).ownBlock ∧ some k_ ≠ (.slice (some ⟨go30, 0, none⟩) y211.length co30 : Value).ownBlock) ho0 (fun k_ hk_ => ⟨(Kd.fresh' (Kd.R_lt (by (with_reducible repeat (first | apply Kd.R_alloc | apply Kd.R_drewN | apply Kd.R_drew)); exact HO210.out)) k_ hk_), (Kd.fresh' (Kd.R_lt (by (with_reducible repeat (first | apply Kd.R_alloc | apply Kd.R_drewN | apply Kd.R_drew)); exact HO213.out)) k_ hk_)⟩)) (below_size (by repeat (first | (with_reducible first | exact HB.out | apply below_alloc | apply pw_below_drewN | apply below_drew1) | exact HB.out)))); have n3_ := Aside0.mk (below_step (by repeat (first | (with_reducible first | exact HB.out | apply below_alloc | apply pw_below_drewN | apply below_drew1) | exact HB.out)) hb); clear HO210; clear HO213; clear HB; have HO210 := n0_; have HO213 := n1_; have HO217 := n2_; have HB := n3_; clear n0_ n1_ n2_ n3_; (try clear hb); (try clear hb2); (try clear hk); (try clear hi); (try clear ho0); obtain ⟨Ao73, co73, eo73⟩ := Kd.V_slice HO217.out; subst eo73) | ((with_reducible refine gate_callee (f := 23) rfl ?_); refine goesL_ (some 84) rfl rfl Try.func23 (by kernel_rfl) rfl #[.slice Ao73 t215.length co73, .agg #[.int .i64 16, .int .i64 0]] rfl (by (try simp only [List.map_toArray, List.map_cons, List.map_nil]); first | done | rfl | (simp only [List.length_drop, List.length_take]; rfl)) ?_; (with_reducible refine (bound_Parse.calls kj10 _ _ t215 16 0 t218 t221 _ ?side1 ?side2 A32.out).mono ?_); (case side1 => repeat (first | exact (Kd.V_reads' HO217.out).2.2 | (with_reducible refine Kd.C_alloc ?_ _) | (with_reducible refine Kd.C_drewN ?_ _) | (with_reducible refine Kd.C_drew ?_))); (case side2 => exact (Kd.V_reads' HO217.out).2.1); rintro e w74 ⟨v219, rfl, ho0, hb⟩; refine ⟨_, rfl, ?_⟩; have n0_ := Aside0.mk (Kd.R_elder' (by (with_reducible repeat (first | apply Kd.R_alloc | apply Kd.R_drewN | apply Kd.R_drew)); exact HO210.out) (Kd.R_base ho0) hb); have n1_ := Aside0.mk (Kd.R_below (by (with_reducible repeat (first | apply Kd.R_alloc | apply Kd.R_drewN | apply Kd.R_drew)); exact HO213.out) hb); have n2_ := Aside0.mk (Kd.V_elder' (by (with_reducible repeat (first | apply Kd.V_alloc | apply Kd.V_drewN | apply Kd.V_drew)); exact HO217.out) (Kd.R_base ho0) hb); have n3_ := Aside0.mk (Kd.R_lower (Kd.R_new' ho0 (Kd.R_lt (by (with_reducible repeat (first | apply Kd.R_alloc | apply Kd.R_drewN | apply Kd.R_drew)); exact HO210.out))) (below_size (by repeat (first | (with_reducible first | exact HB.out | apply below_alloc | apply pw_below_drewN | apply below_drew1) | exact HB.out)))); have n4_ := Aside0.mk (below_step (by repeat (first | (with_reducible first | exact HB.out | apply below_alloc | apply pw_below_drewN | apply below_drew1) | exact HB.out)) hb); clear HO210; clear HO213; clear HO217; clear HB; have HO210 := n0_; have HO213 := n1_; have HO217 := n2_; have HO220 := n3_; have HB := n4_; clear n0_ n1_ n2_ n3_ n4_; (try clear hb); (try clear hb2); (try clear hk); (try clear hi); (try clear ho0); have p222 : 0 ≤ ((ji27) : Int) := of_decide_eq_true (by first | (with_reducible assumption) | assumption); have q222 : (ji27) < (y214.length : Int) := (by have h_ : ((ji27) : Int) < ((y211.length : Int) : Int) := of_decide_eq_true (by first | (with_reducible assumption) | assumption); first | (have e_ := (Kd.R_reads' HO213.out).1; omega) | simpa only [Ny214.out, List.length_set] using h_); have ql222 : (((ji27) : Int) < ((y211.length : Int) : Int)) = True := eq_true (of_decide_eq_true (by first | (with_reducible assumption) | assumption)); obtain ⟨ad222, e222, hx222_0⟩ := Kd.at_int (Kd.R_reads' HO213.out).2.2 (ji27) p222 q222; obtain rfl : (⟨go30, 0, none⟩ : Addr) = ad222 := (by injection e222); (first | simp only [add_plain] at hx222_0 | simp only [add_at] at hx222_0 | simp only [Addr.add, Nat.zero_add] at hx222_0 | skip); replace p222 := eq_true p222; replace q222 := eq_true q222))
                        go_ret
                        exact ⟨by first | rfl | (simp [errW_none, errW_some] <;> rfl) | (simp only [← hji27]; first | rfl | (simp [errW_none, errW_some] <;> rfl)) | (simp [*, errW_none, errW_some] <;> rfl), by repeat (first | (with_reducible first | exact HB.out | apply below_alloc | apply pw_below_drewN | apply below_drew1) | exact HB.out)⟩
                    · rw [if_neg c29] at H
                      exact absurd H (by simp)
                  · rw [if_neg c28] at H
                    exact absurd H (by simp)
                · rw [if_neg c26] at H
                  exact absurd H (by simp)
              · rw [if_neg c25] at H
                exact absurd H (by simp)

/-- THE ONE PURE STATEMENT of slipwaylaw9_BoundBounds: yours. -/
def slipwaylaw9_BoundBounds.Pure : Prop := ∀ (a0 : Int) (a1 : Int) (a2 : Int), (Lit.int .i64 a0).wf = true → (Lit.int .i64 a1).wf = true → (Lit.int .i64 a2).wf = true → ∃ k, slipwaylaw9_BoundBounds.f k a0 a1 a2 = some true
theorem slipwaylaw9_BoundBounds.walk (P : slipwaylaw9_BoundBounds.Pure) (a0 : Int) (a1 : Int) (a2 : Int) (w : World) (w0 : (Lit.int .i64 a0).wf = true) (w1 : (Lit.int .i64 a1).wf = true) (w2 : (Lit.int .i64 a2).wf = true) :
    Calls Try.prog 4 #[.int .i64 a0, .int .i64 a1, .int .i64 a2] w fun e w' => e = .returned (.bool true) ∧ Below w.heap.size w w' := by
  obtain ⟨k, h⟩ := P a0 a1 a2 w0 w1 w2
  refine (slipwaylaw9_BoundBounds.calls k a0 a1 a2 true w h).mono ?_
  rintro e w' ⟨rfl, hd⟩
  exact ⟨rfl, hd⟩

end Go.Proofs.Ytjifmpjpccibnaa.D
