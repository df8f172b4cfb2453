/- What Go functions of the program compute, each as a Lean function with its contract: written by a program of this session; some by hand. (No condition.) -/
import Derived.Test.YtjifmpjpccibnaaDx0
import Derived.Test.YtjifmpjpccibnaaDx40
namespace Go.Proofs.Ytjifmpjpccibnaa.D
open Go.RowKit Go.Proofs.YtjifmpjpccibnaaW.PrintWords Go.Proofs.YtjifmpjpccibnaaW.PrintLast Go.Proofs.YtjifmpjpccibnaaW.PrintMore
attribute [local go_sem] max2_int min2_int max_two min_two max_three min_three max_four min_four   -- for this text's walks alone
set_option linter.unusedVariables false
set_option linter.unusedSimpArgs false

/-! ### slipwaylaw9_At: function 54 (given by hand) -/
open Go.Proofs.YtjifmpjpccibnaaE
def at9More (l2 : List Int) (i : Nat) : Int := if i < l2.length then Go.bits .and .i64 (rd l2 i) 3 else 0
def at9Row (k : Nat) (l1 : List S42) (l2 : List Int) (i : Nat) (b : List Int) : Option (List Int) :=
  if b.length ≤ 1099511627776 then
    (slipwayref1_Put.f k (strOfNums b) (16 + 8 * (i : Int)) 4 (IntKind.u64.wrap (rd_T42 l1 i).f1)).bind fun s1 =>
    (slipwayref1_Put.f k s1.1 (20 + 8 * (i : Int)) 2 (IntKind.u64.wrap ((b.length : Int) - 16))).bind fun s2 =>
    (slipwayref1_Put.f k s2.1 (22 + 8 * (i : Int)) 2 (IntKind.u64.wrap (at9More l2 i))).bind fun s3 =>
    if s3.1.size + (rd_T42 l1 i).f0.size ≤ 1099511627776 then some (bytesOf s3.1 ++ bytesOf (rd_T42 l1 i).f0 ++ [0]) else none
  else none
def at9Loop (k : Nat) (l1 : List S42) (l2 : List Int) : Nat → Nat → List Int → Option (List Int)
  | 0, _, b => some b
  | m + 1, i, b => (at9Row k l1 l2 i b).bind fun b' => at9Loop k l1 l2 m (i + 1) b'
def slipwaylaw9_At.f (k : Nat) (a0 : Int) (l1 : List (S42)) (l2 : List Int) : Option (List Int) :=
  if a0 = 16 then at9Loop k l1 l2 (min l1.length 34) 0 (List.replicate (24 + 8 * min l1.length 34) 0) else none
theorem at9Row.mono (l1 : List S42) (l2 : List Int) (i : Nat) (b : List Int) (k : Nat) : LeO (at9Row k l1 l2 i b) (at9Row (k + 1) l1 l2 i b) := by
  unfold at9Row
  exact LeO.ite (LeO.bind (slipwayref1_Put.mono _ _ _ _ _) fun _ => LeO.bind (slipwayref1_Put.mono _ _ _ _ _) fun _ => LeO.bind (slipwayref1_Put.mono _ _ _ _ _) fun _ => LeO.refl _) (LeO.refl _)
theorem at9Loop.mono (l1 : List S42) (l2 : List Int) (k : Nat) : ∀ (m i : Nat) (b : List Int), LeO (at9Loop k l1 l2 m i b) (at9Loop (k + 1) l1 l2 m i b)
  | 0, _, _ => LeO.refl _
  | m + 1, i, b => LeO.bind (at9Row.mono _ _ _ _ _) fun _ => at9Loop.mono l1 l2 k m (i + 1) _
theorem slipwaylaw9_At.mono : ∀ a0 a1 a2 k, LeO (slipwaylaw9_At.f k a0 a1 a2) (slipwaylaw9_At.f (k + 1) a0 a1 a2) := by
  intro a0 a1 a2 k
  unfold slipwaylaw9_At.f
  exact LeO.ite (at9Loop.mono _ _ _ _ _ _) (LeO.refl _)
set_option maxHeartbeats 4000000 in
set_option maxRecDepth 100000 in
theorem slipwaylaw9_At.calls (k : Nat) (a0 : Int) (A1 : Option Addr) (c1 : Nat) (l1 : List (S42)) (A2 : Option Addr) (c2 : Nat) (l2 : List Int) (r : List Int) (w : World) (hr1 : Kd.C k42 w A1 l1.length l1) (hc1 : l1.length ≤ c1) (hr2 : Kd.C (Kd.int .i64) w A2 l2.length l2) (hc2 : l2.length ≤ c2) (h : slipwaylaw9_At.f k a0 l1 l2 = some r) :
    Calls Try.prog 54 #[.int .i64 a0, .slice A1 l1.length c1, .slice A2 l2.length c2] w fun e w' => ∃ v0_ : Value, e = .returned (v0_) ∧ Kd.V (Kd.int .u8) 5 w' w.heap.size (fun k_ => (w.heap.size ≤ k_)) v0_ r ∧ Below w.heap.size w w' := by
  have HR1 := Aside0.mk hr1
  have HR2 := Aside0.mk hr2
  have hn2 : l2.length ≤ 9223372036854775807 := (Kd.reads_of_C (d := (0 : Int)) hr2).2.1
  clear hr1 hr2
  unfold slipwaylaw9_At.f at h
  by_cases h16 : ¬ (a0 = 16)
  · rw [if_neg h16] at h; cases h
  have h16' : a0 = 16 := Decidable.not_not.mp h16
  clear h16
  subst h16'
  rw [if_pos rfl] at h
  rcases Nat.lt_or_ge 34 l1.length with hA | hA
  · rw [show min l1.length 34 = 34 by omega] at h
    have dA : decide (34 < (l1.length : Int)) = true := decide_eq_true (by omega)
    have H := Aside0.mk h
    clear h
    have hmk0 := print_make (P := Try.prog) 45 5 .u8 1 Try.underlying45 info5 (by decide) 296 (by omega)
    have hmk : ∀ W : World, (Instr.makeSlice 45 (.int .i64 296) (.int .i64 296)).run Try.prog W = .ok (.slice (some ⟨W.heap.size, 0, none⟩) 296 296) (W.alloc (.cells (madeCells #[.int .u8 0] 296) 5)) := by
      intro W; have := hmk0 W; rwa [show ((296 : Nat) : Int) = 296 by omega] at this
    clear hmk0
    go_enter Try.func54, Try.ntmps54
    go_wp2
    have hown := Aside0.mk (ERow.made w 5 296 (by omega))
    have hbel := Aside0.mk (below_alloc (Below.refl w.heap.size w) (.cells (madeCells #[.int .u8 0] 296) 5))
    go_loopw [8, 9, 10, 11, 12] (fun v8 v9 v10 v11 v12 wr => ∃ (i : Nat) (b : List Int), i ≤ 34 ∧ v9 = .int .i64 i ∧ (∃ y, v10 = y) ∧ (∃ y, v11 = y) ∧ (∃ y, v12 = y) ∧ Aside0 (ERow wr w.heap.size v8 b) ∧ Aside0 (at9Loop k l1 l2 (34 - i) i b = some r) ∧ Aside0 (Below w.heap.size w wr)) (fun _ v9 _ _ _ _ => 34 - (intOf v9).toNat)
    case atStart => exact ⟨0, _, Nat.zero_le _, rfl, ⟨_, rfl⟩, ⟨_, rfl⟩, ⟨_, rfl⟩, hown, ⟨by first | exact H.out | simpa using H.out⟩, hbel⟩
    case round =>
      obtain ⟨i, b, hi, rfl, ⟨y10, rfl⟩, ⟨y11, rfl⟩, ⟨y12, rfl⟩, HE, HL, HB⟩ := hrel
      by_cases hlt : i < 34
      · have hl := HL.out
        clear HL
        rw [show 34 - i = (34 - (i + 1)) + 1 by omega] at hl
        unfold at9Loop at hl
        obtain ⟨b', hb', hl'⟩ := Option.bind_eq_some_iff.mp hl
        have HL := Aside0.mk hl'
        clear hl hl'
        unfold at9Row at hb'
        by_cases hbl : ¬ (b.length ≤ 1099511627776)
        · rw [if_neg hbl] at hb'; cases hb'
        have hbl' : b.length ≤ 1099511627776 := Decidable.not_not.mp hbl
        rw [if_pos hbl'] at hb'
        clear hbl
        obtain ⟨⟨s1, o1⟩, hs1, hb'⟩ := Option.bind_eq_some_iff.mp hb'
        obtain ⟨⟨s2, o2⟩, hs2, hb'⟩ := Option.bind_eq_some_iff.mp hb'
        obtain ⟨⟨s3, o3⟩, hs3, hb'⟩ := Option.bind_eq_some_iff.mp hb'
        by_cases hsl : ¬ (s3.size + (rd_T42 l1 i).f0.size ≤ 1099511627776)
        · rw [if_neg hsl] at hb'; cases hb'
        have hsl' : s3.size + (rd_T42 l1 i).f0.size ≤ 1099511627776 := Decidable.not_not.mp hsl
        rw [if_pos hsl'] at hb'
        clear hsl
        obtain rfl := Option.some.inj hb'
        clear hb'
        have S1 := Aside0.mk hs1
        have S2 := Aside0.mk hs2
        have S3 := Aside0.mk hs3
        clear hs1 hs2 hs3
        obtain ⟨A8, c8, rfl, hl8, hm8⟩ := HE.out.slice
        have hconv := fun n => (HE.out.drewN n).string (P := Try.prog) (src := 45) (dst := 9) (e := 5) Try.underlying45 Try.underlying5 Try.underlying9
        have hconv1 := HE.out.drew.string (P := Try.prog) (src := 45) (dst := 9) (e := 5) Try.underlying45 Try.underlying5 Try.underlying9
        obtain ⟨ad, e, hx0, hx1⟩ := at_T42 (Kd.C_below HR1.out HB.out) (i : Int) (by omega) (by omega)
        cases e
        rw [Int.toNat_natCast] at hx0 hx1
        have hw1 : IntKind.i64.wrap (8 * (i : Int)) = 8 * (i : Int) := IntWalk.i64_in _ (by omega)
        have hw2 : IntKind.i64.wrap (16 + 8 * (i : Int)) = 16 + 8 * (i : Int) := IntWalk.i64_in _ (by omega)
        have hil : i < l1.length := by omega
        have HX := Aside0.mk (show at9More l2 i = at9More l2 i from rfl)
        go_wp2
        go_region_law (first | (go_simp; go_at_call 43; refine (slipwayref1_Put.calls k (strOfNums b) (16 + 8 * (i : Int)) 4 (IntKind.u64.wrap (rd_T42 l1 i).f1) s1 o1 _ S1.out).mono ?_; rintro e w1 ⟨rfl, hb⟩; have HB1 := Aside0.mk (below_then (below_drew HB.out) HB.out.size hb); clear hb))
        all_goals
          go_wp2_with fail
          refine (slipwayref1_Put.calls k s1 (20 + 8 * (i : Int)) 2 _ s2 o2 _ S2.out).mono ?_
          rintro e w2 ⟨rfl, hb⟩
          have HB2 := Aside0.mk (below_then HB1.out HB1.out.size hb)
          clear hb hconv hconv1 hx0 hx1
          by_cases hi2 : i < l2.length
          · have di : decide (i < l2.length) = true := decide_eq_true hi2
            obtain ⟨ad2, e2, hx2⟩ := Kd.at_int (Kd.C_below HR2.out HB2.out) (i : Int) (by omega) (by omega)
            cases e2
            rw [Int.toNat_natCast] at hx2
            have S4 : Aside0 (slipwayref1_Put.f k s2 (22 + 8 * (i : Int)) 2 (IntKind.u64.wrap (Go.bits .and .i64 (rd l2 i) 3)) = some (s3, o3)) := ⟨by have := S3.out; unfold at9More at this; rw [if_pos hi2] at this; exact this⟩
            go_wp2_with fail
            refine (slipwayref1_Put.calls k s2 (22 + 8 * (i : Int)) 2 _ s3 o3 _ S4.out).mono ?_
            rintro e w3 ⟨rfl, hb⟩
            have HB3 := Aside0.mk (below_then HB2.out HB2.out.size hb)
            clear hb
            obtain ⟨hE4, hB4⟩ := ERow.conv w3 5 s3 (by omega)
            have hcv := Lib.run_convert_string_bytes (P := Try.prog) w3 9 45 5 s3 Try.underlying9 Try.underlying45 Try.underlying5
            generalize Lib.bytesWorld w3 5 s3 = W4 at hcv hE4 hB4
            generalize grownCap w3 s3.size 0 5 = c4 at hcv hE4
            have HE4 := Aside0.mk (hE4.lower HB3.out.size)
            have HB4 := Aside0.mk (below_then HB3.out HB3.out.size hB4)
            clear hE4 hB4
            obtain ⟨ad', e', hy0, hy1⟩ := at_T42 (Kd.C_below HR1.out HB4.out) (i : Int) (by omega) (by omega)
            cases e'
            rw [Int.toNat_natCast] at hy0
            clear hy1
            have HLb := Aside0.mk (show (bytesOf s3).length = s3.size from bytesOf_length s3)
            have HLd := Aside0.mk (show (bytesOf (rd_T42 l1 i).f0).length = (rd_T42 l1 i).f0.size from bytesOf_length _)
            go_wp2_with (at_builtin; refine wp_append_E rfl (.tmp 80) (.tmp 85) 45 9 5 rfl Try.underlying45 info5 w.heap.size _ (bytesOf s3) (bytesOf (rd_T42 l1 i).f0) rfl HE4.out _ rfl (src_str Try.underlying9 _ _) ?cL ?cB ?_)
            case cL => rw [HLb.out, HLd.out]; omega
            case cB => exact HB4.out.size
            intro v5 w5 HE5 HG5
            have HB5 := Aside0.mk (pw_below_grown HB4.out _ HB4.out.size HG5.out (fun k e => (HE4.out.block k e).1))
            clear hcv hy0
            go_wp2_with (at_builtin; refine wp_append_E rfl (.tmp 86) (.tmp 87) 45 45 5 rfl Try.underlying45 info5 w.heap.size _ (bytesOf s3 ++ bytesOf (rd_T42 l1 i).f0) [0] rfl (HE5.out.alloc _) _ rfl (src_one Try.underlying45 _ _ _) ?dL ?dB ?_)
            case dL => rw [List.length_append, HLb.out, HLd.out]; simp; omega
            case dB => have := HB5.out.size; simp; omega
            intro v6 w6 HE6 HG6
            go_wp2
            go_roundw
            case rel => exact ⟨i + 1, _, by omega, by go_num, ⟨_, rfl⟩, ⟨_, rfl⟩, ⟨_, rfl⟩, HE6, ⟨by first | exact HL.out | (rw [← List.append_assoc]; exact HL.out)⟩, ⟨pw_below_grown (below_alloc HB5.out _) _ (below_alloc HB5.out _).size HG6.out (fun k e => (HE5.out.block k e).1)⟩⟩
            case measure => simp [intOf]; omega
          · have di : decide (i < l2.length) = false := decide_eq_false hi2
            have S4 : Aside0 (slipwayref1_Put.f k s2 (22 + 8 * (i : Int)) 2 0 = some (s3, o3)) := ⟨by have := S3.out; unfold at9More at this; rw [if_neg hi2] at this; exact this⟩
            go_wp2_with fail
            refine (slipwayref1_Put.calls k s2 (22 + 8 * (i : Int)) 2 _ s3 o3 _ S4.out).mono ?_
            rintro e w3 ⟨rfl, hb⟩
            have HB3 := Aside0.mk (below_then HB2.out HB2.out.size hb)
            clear hb
            obtain ⟨hE4, hB4⟩ := ERow.conv w3 5 s3 (by omega)
            have hcv := Lib.run_convert_string_bytes (P := Try.prog) w3 9 45 5 s3 Try.underlying9 Try.underlying45 Try.underlying5
            generalize Lib.bytesWorld w3 5 s3 = W4 at hcv hE4 hB4
            generalize grownCap w3 s3.size 0 5 = c4 at hcv hE4
            have HE4 := Aside0.mk (hE4.lower HB3.out.size)
            have HB4 := Aside0.mk (below_then HB3.out HB3.out.size hB4)
            clear hE4 hB4
            obtain ⟨ad', e', hy0, hy1⟩ := at_T42 (Kd.C_below HR1.out HB4.out) (i : Int) (by omega) (by omega)
            cases e'
            rw [Int.toNat_natCast] at hy0
            clear hy1
            have HLb := Aside0.mk (show (bytesOf s3).length = s3.size from bytesOf_length s3)
            have HLd := Aside0.mk (show (bytesOf (rd_T42 l1 i).f0).length = (rd_T42 l1 i).f0.size from bytesOf_length _)
            go_wp2_with (at_builtin; refine wp_append_E rfl (.tmp 80) (.tmp 85) 45 9 5 rfl Try.underlying45 info5 w.heap.size _ (bytesOf s3) (bytesOf (rd_T42 l1 i).f0) rfl HE4.out _ rfl (src_str Try.underlying9 _ _) ?cL ?cB ?_)
            case cL => rw [HLb.out, HLd.out]; omega
            case cB => exact HB4.out.size
            intro v5 w5 HE5 HG5
            have HB5 := Aside0.mk (pw_below_grown HB4.out _ HB4.out.size HG5.out (fun k e => (HE4.out.block k e).1))
            clear hcv hy0
            go_wp2_with (at_builtin; refine wp_append_E rfl (.tmp 86) (.tmp 87) 45 45 5 rfl Try.underlying45 info5 w.heap.size _ (bytesOf s3 ++ bytesOf (rd_T42 l1 i).f0) [0] rfl (HE5.out.alloc _) _ rfl (src_one Try.underlying45 _ _ _) ?dL ?dB ?_)
            case dL => rw [List.length_append, HLb.out, HLd.out]; simp; omega
            case dB => have := HB5.out.size; simp; omega
            intro v6 w6 HE6 HG6
            go_wp2
            go_roundw
            case rel => exact ⟨i + 1, _, by omega, by go_num, ⟨_, rfl⟩, ⟨_, rfl⟩, ⟨_, rfl⟩, HE6, ⟨by first | exact HL.out | (rw [← List.append_assoc]; exact HL.out)⟩, ⟨pw_below_grown (below_alloc HB5.out _) _ (below_alloc HB5.out _).size HG6.out (fun k e => (HE5.out.block k e).1)⟩⟩
            case measure => simp [intOf]; omega
      · have hi3 : i = 34 := by omega
        subst hi3
        have hl := HL.out
        rw [Nat.sub_self] at hl
        obtain rfl := Option.some.inj hl
        clear hl
        go_wp2
        go_ret
        exact ⟨_, rfl, HE.out.V 5, HB.out⟩
  · rw [show min l1.length 34 = l1.length by omega] at h
    have dA : decide (34 < (l1.length : Int)) = false := decide_eq_false (by omega)
    have H := Aside0.mk h
    clear h
    have hmk0 := print_make (P := Try.prog) 45 5 .u8 1 Try.underlying45 info5 (by decide) (24 + 8 * l1.length) (by omega)
    have hmk : ∀ W : World, (Instr.makeSlice 45 (.int .i64 (16 + 8 * (l1.length : Int) + 8)) (.int .i64 (16 + 8 * (l1.length : Int) + 8))).run Try.prog W = .ok (.slice (some ⟨W.heap.size, 0, none⟩) (24 + 8 * l1.length) (24 + 8 * l1.length)) (W.alloc (.cells (madeCells #[.int .u8 0] (24 + 8 * l1.length)) 5)) := by
      intro W; have := hmk0 W; rwa [show (((24 + 8 * l1.length) : Nat) : Int) = (16 + 8 * (l1.length : Int) + 8) by omega] at this
    clear hmk0
    go_enter Try.func54, Try.ntmps54
    go_wp2
    have hown := Aside0.mk (ERow.made w 5 (24 + 8 * l1.length) (by omega))
    have hbel := Aside0.mk (below_alloc (Below.refl w.heap.size w) (.cells (madeCells #[.int .u8 0] (24 + 8 * l1.length)) 5))
    go_loopw [8, 9, 10, 11, 12] (fun v8 v9 v10 v11 v12 wr => ∃ (i : Nat) (b : List Int), i ≤ l1.length ∧ v9 = .int .i64 i ∧ (∃ y, v10 = y) ∧ (∃ y, v11 = y) ∧ (∃ y, v12 = y) ∧ Aside0 (ERow wr w.heap.size v8 b) ∧ Aside0 (at9Loop k l1 l2 (l1.length - i) i b = some r) ∧ Aside0 (Below w.heap.size w wr)) (fun _ v9 _ _ _ _ => l1.length - (intOf v9).toNat)
    case atStart => exact ⟨0, _, Nat.zero_le _, rfl, ⟨_, rfl⟩, ⟨_, rfl⟩, ⟨_, rfl⟩, hown, ⟨by first | exact H.out | simpa using H.out⟩, hbel⟩
    case round =>
      obtain ⟨i, b, hi, rfl, ⟨y10, rfl⟩, ⟨y11, rfl⟩, ⟨y12, rfl⟩, HE, HL, HB⟩ := hrel
      by_cases hlt : i < l1.length
      · have hl := HL.out
        clear HL
        rw [show l1.length - i = (l1.length - (i + 1)) + 1 by omega] at hl
        unfold at9Loop at hl
        obtain ⟨b', hb', hl'⟩ := Option.bind_eq_some_iff.mp hl
        have HL := Aside0.mk hl'
        clear hl hl'
        unfold at9Row at hb'
        by_cases hbl : ¬ (b.length ≤ 1099511627776)
        · rw [if_neg hbl] at hb'; cases hb'
        have hbl' : b.length ≤ 1099511627776 := Decidable.not_not.mp hbl
        rw [if_pos hbl'] at hb'
        clear hbl
        obtain ⟨⟨s1, o1⟩, hs1, hb'⟩ := Option.bind_eq_some_iff.mp hb'
        obtain ⟨⟨s2, o2⟩, hs2, hb'⟩ := Option.bind_eq_some_iff.mp hb'
        obtain ⟨⟨s3, o3⟩, hs3, hb'⟩ := Option.bind_eq_some_iff.mp hb'
        by_cases hsl : ¬ (s3.size + (rd_T42 l1 i).f0.size ≤ 1099511627776)
        · rw [if_neg hsl] at hb'; cases hb'
        have hsl' : s3.size + (rd_T42 l1 i).f0.size ≤ 1099511627776 := Decidable.not_not.mp hsl
        rw [if_pos hsl'] at hb'
        clear hsl
        obtain rfl := Option.some.inj hb'
        clear hb'
        have S1 := Aside0.mk hs1
        have S2 := Aside0.mk hs2
        have S3 := Aside0.mk hs3
        clear hs1 hs2 hs3
        obtain ⟨A8, c8, rfl, hl8, hm8⟩ := HE.out.slice
        have hconv := fun n => (HE.out.drewN n).string (P := Try.prog) (src := 45) (dst := 9) (e := 5) Try.underlying45 Try.underlying5 Try.underlying9
        have hconv1 := HE.out.drew.string (P := Try.prog) (src := 45) (dst := 9) (e := 5) Try.underlying45 Try.underlying5 Try.underlying9
        obtain ⟨ad, e, hx0, hx1⟩ := at_T42 (Kd.C_below HR1.out HB.out) (i : Int) (by omega) (by omega)
        cases e
        rw [Int.toNat_natCast] at hx0 hx1
        have hw1 : IntKind.i64.wrap (8 * (i : Int)) = 8 * (i : Int) := IntWalk.i64_in _ (by omega)
        have hw2 : IntKind.i64.wrap (16 + 8 * (i : Int)) = 16 + 8 * (i : Int) := IntWalk.i64_in _ (by omega)
        have hil : i < l1.length := by omega
        have HX := Aside0.mk (show at9More l2 i = at9More l2 i from rfl)
        go_wp2
        go_region_law (first | (go_simp; go_at_call 43; refine (slipwayref1_Put.calls k (strOfNums b) (16 + 8 * (i : Int)) 4 (IntKind.u64.wrap (rd_T42 l1 i).f1) s1 o1 _ S1.out).mono ?_; rintro e w1 ⟨rfl, hb⟩; have HB1 := Aside0.mk (below_then (below_drew HB.out) HB.out.size hb); clear hb))
        all_goals
          go_wp2_with fail
          refine (slipwayref1_Put.calls k s1 (20 + 8 * (i : Int)) 2 _ s2 o2 _ S2.out).mono ?_
          rintro e w2 ⟨rfl, hb⟩
          have HB2 := Aside0.mk (below_then HB1.out HB1.out.size hb)
          clear hb hconv hconv1 hx0 hx1
          by_cases hi2 : i < l2.length
          · have di : decide (i < l2.length) = true := decide_eq_true hi2
            obtain ⟨ad2, e2, hx2⟩ := Kd.at_int (Kd.C_below HR2.out HB2.out) (i : Int) (by omega) (by omega)
            cases e2
            rw [Int.toNat_natCast] at hx2
            have S4 : Aside0 (slipwayref1_Put.f k s2 (22 + 8 * (i : Int)) 2 (IntKind.u64.wrap (Go.bits .and .i64 (rd l2 i) 3)) = some (s3, o3)) := ⟨by have := S3.out; unfold at9More at this; rw [if_pos hi2] at this; exact this⟩
            go_wp2_with fail
            refine (slipwayref1_Put.calls k s2 (22 + 8 * (i : Int)) 2 _ s3 o3 _ S4.out).mono ?_
            rintro e w3 ⟨rfl, hb⟩
            have HB3 := Aside0.mk (below_then HB2.out HB2.out.size hb)
            clear hb
            obtain ⟨hE4, hB4⟩ := ERow.conv w3 5 s3 (by omega)
            have hcv := Lib.run_convert_string_bytes (P := Try.prog) w3 9 45 5 s3 Try.underlying9 Try.underlying45 Try.underlying5
            generalize Lib.bytesWorld w3 5 s3 = W4 at hcv hE4 hB4
            generalize grownCap w3 s3.size 0 5 = c4 at hcv hE4
            have HE4 := Aside0.mk (hE4.lower HB3.out.size)
            have HB4 := Aside0.mk (below_then HB3.out HB3.out.size hB4)
            clear hE4 hB4
            obtain ⟨ad', e', hy0, hy1⟩ := at_T42 (Kd.C_below HR1.out HB4.out) (i : Int) (by omega) (by omega)
            cases e'
            rw [Int.toNat_natCast] at hy0
            clear hy1
            have HLb := Aside0.mk (show (bytesOf s3).length = s3.size from bytesOf_length s3)
            have HLd := Aside0.mk (show (bytesOf (rd_T42 l1 i).f0).length = (rd_T42 l1 i).f0.size from bytesOf_length _)
            go_wp2_with (at_builtin; refine wp_append_E rfl (.tmp 80) (.tmp 85) 45 9 5 rfl Try.underlying45 info5 w.heap.size _ (bytesOf s3) (bytesOf (rd_T42 l1 i).f0) rfl HE4.out _ rfl (src_str Try.underlying9 _ _) ?cL ?cB ?_)
            case cL => rw [HLb.out, HLd.out]; omega
            case cB => exact HB4.out.size
            intro v5 w5 HE5 HG5
            have HB5 := Aside0.mk (pw_below_grown HB4.out _ HB4.out.size HG5.out (fun k e => (HE4.out.block k e).1))
            clear hcv hy0
            go_wp2_with (at_builtin; refine wp_append_E rfl (.tmp 86) (.tmp 87) 45 45 5 rfl Try.underlying45 info5 w.heap.size _ (bytesOf s3 ++ bytesOf (rd_T42 l1 i).f0) [0] rfl (HE5.out.alloc _) _ rfl (src_one Try.underlying45 _ _ _) ?dL ?dB ?_)
            case dL => rw [List.length_append, HLb.out, HLd.out]; simp; omega
            case dB => have := HB5.out.size; simp; omega
            intro v6 w6 HE6 HG6
            go_wp2
            go_roundw
            case rel => exact ⟨i + 1, _, by omega, by go_num, ⟨_, rfl⟩, ⟨_, rfl⟩, ⟨_, rfl⟩, HE6, ⟨by first | exact HL.out | (rw [← List.append_assoc]; exact HL.out)⟩, ⟨pw_below_grown (below_alloc HB5.out _) _ (below_alloc HB5.out _).size HG6.out (fun k e => (HE5.out.block k e).1)⟩⟩
            case measure => simp [intOf]; omega
          · have di : decide (i < l2.length) = false := decide_eq_false hi2
            have S4 : Aside0 (slipwayref1_Put.f k s2 (22 + 8 * (i : Int)) 2 0 = some (s3, o3)) := ⟨by have := S3.out; unfold at9More at this; rw [if_neg hi2] at this; exact this⟩
            go_wp2_with fail
            refine (slipwayref1_Put.calls k s2 (22 + 8 * (i : Int)) 2 _ s3 o3 _ S4.out).mono ?_
            rintro e w3 ⟨rfl, hb⟩
            have HB3 := Aside0.mk (below_then HB2.out HB2.out.size hb)
            clear hb
            obtain ⟨hE4, hB4⟩ := ERow.conv w3 5 s3 (by omega)
            have hcv := Lib.run_convert_string_bytes (P := Try.prog) w3 9 45 5 s3 Try.underlying9 Try.underlying45 Try.underlying5
            generalize Lib.bytesWorld w3 5 s3 = W4 at hcv hE4 hB4
            generalize grownCap w3 s3.size 0 5 = c4 at hcv hE4
            have HE4 := Aside0.mk (hE4.lower HB3.out.size)
            have HB4 := Aside0.mk (below_then HB3.out HB3.out.size hB4)
            clear hE4 hB4
            obtain ⟨ad', e', hy0, hy1⟩ := at_T42 (Kd.C_below HR1.out HB4.out) (i : Int) (by omega) (by omega)
            cases e'
            rw [Int.toNat_natCast] at hy0
            clear hy1
            have HLb := Aside0.mk (show (bytesOf s3).length = s3.size from bytesOf_length s3)
            have HLd := Aside0.mk (show (bytesOf (rd_T42 l1 i).f0).length = (rd_T42 l1 i).f0.size from bytesOf_length _)
            go_wp2_with (at_builtin; refine wp_append_E rfl (.tmp 80) (.tmp 85) 45 9 5 rfl Try.underlying45 info5 w.heap.size _ (bytesOf s3) (bytesOf (rd_T42 l1 i).f0) rfl HE4.out _ rfl (src_str Try.underlying9 _ _) ?cL ?cB ?_)
            case cL => rw [HLb.out, HLd.out]; omega
            case cB => exact HB4.out.size
            intro v5 w5 HE5 HG5
            have HB5 := Aside0.mk (pw_below_grown HB4.out _ HB4.out.size HG5.out (fun k e => (HE4.out.block k e).1))
            clear hcv hy0
            go_wp2_with (at_builtin; refine wp_append_E rfl (.tmp 86) (.tmp 87) 45 45 5 rfl Try.underlying45 info5 w.heap.size _ (bytesOf s3 ++ bytesOf (rd_T42 l1 i).f0) [0] rfl (HE5.out.alloc _) _ rfl (src_one Try.underlying45 _ _ _) ?dL ?dB ?_)
            case dL => rw [List.length_append, HLb.out, HLd.out]; simp; omega
            case dB => have := HB5.out.size; simp; omega
            intro v6 w6 HE6 HG6
            go_wp2
            go_roundw
            case rel => exact ⟨i + 1, _, by omega, by go_num, ⟨_, rfl⟩, ⟨_, rfl⟩, ⟨_, rfl⟩, HE6, ⟨by first | exact HL.out | (rw [← List.append_assoc]; exact HL.out)⟩, ⟨pw_below_grown (below_alloc HB5.out _) _ (below_alloc HB5.out _).size HG6.out (fun k e => (HE5.out.block k e).1)⟩⟩
            case measure => simp [intOf]; omega
      · have hi3 : i = l1.length := by omega
        subst hi3
        have hl := HL.out
        rw [Nat.sub_self] at hl
        obtain rfl := Option.some.inj hl
        clear hl
        go_wp2
        go_ret
        exact ⟨_, rfl, HE.out.V 5, HB.out⟩


end Go.Proofs.Ytjifmpjpccibnaa.D
