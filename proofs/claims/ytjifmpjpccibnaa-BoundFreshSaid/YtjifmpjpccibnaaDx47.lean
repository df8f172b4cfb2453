/- What Go functions of the program compute, each as a Lean function with its contract: written by a program of this session; some by hand. (No condition.) -/
import Derived.Test.YtjifmpjpccibnaaDx0
namespace Go.Proofs.Ytjifmpjpccibnaa.D
open Go.RowKit Go.Proofs.YtjifmpjpccibnaaW.PrintWords Go.Proofs.YtjifmpjpccibnaaW.PrintLast Go.Proofs.YtjifmpjpccibnaaW.PrintMore
attribute [local go_sem] max2_int min2_int max_two min_two max_three min_three max_four min_four   -- for this text's walks alone
set_option linter.unusedVariables false
set_option linter.unusedSimpArgs false

/-! ### fold_Key: function 85 (given by hand) -/
open Go.Proofs.YtjifmpjpccibnaaE
set_option maxHeartbeats 400000 in
theorem stringslite_IndexByte.calls_ (s : ByteArray) (c : Int) (w : World) :
    Calls Try.prog 92 #[.string s, .int .u8 c] w fun e w' => e = .returned (.int .i64 (Lib.indexByte s.data.toList c.toNat.toUInt8)) ∧ w = w' := by
  go_enter Try.func92, Try.ntmps92
  go_wp2
  rw [run_callFunc_extern Try.func94 (by kernel_rfl) (by kernel_rfl) (by kernel_rfl) (e := Extern.BytealgIndexByte.indexByte) (by kernel_rfl), Lib.run_indexByteString]
  simp only [Result.andThen]
  rw [Oper.upon_value]
  go_wp2
  go_ret
  exact ⟨rfl, rfl⟩
set_option maxHeartbeats 400000 in
theorem strings_IndexByte.calls_ (s : ByteArray) (c : Int) (w : World) :
    Calls Try.prog 90 #[.string s, .int .u8 c] w fun e w' => e = .returned (.int .i64 (Lib.indexByte s.data.toList c.toNat.toUInt8)) ∧ w = w' := by
  go_enter Try.func90, Try.ntmps90
  go_wp2_with (go_at_call 92; refine (stringslite_IndexByte.calls_ _ _ _).mono ?_; rintro e w' ⟨rfl, rfl⟩)
  go_ret
  exact ⟨rfl, rfl⟩

def low (c : Int) : Int := if 65 ≤ c ∧ c ≤ 90 then (c + 32) % 256 else c
def dotDll : List Int := [46, 100, 108, 108]
def keyNums (s : ByteArray) : List Int := if s.data.toList.contains 46 then (bytesOf s).map low else (bytesOf s).map low ++ dotDll
def fold_Key.f (a0 : ByteArray) : Option (ByteArray) := if a0.size ≤ 140737488355000 then some (strOfNums (keyNums a0)) else none

/-- What stands in the row after k rounds. -/
def lowTo (l : List Int) (k : Nat) : List Int := (l.take k).map low ++ l.drop k
theorem lowTo_zero (l : List Int) : lowTo l 0 = l := by simp [lowTo]
theorem lowTo_length (l : List Int) (k : Nat) (hk : k ≤ l.length) : (lowTo l k).length = l.length := by simp [lowTo]; omega
theorem lowTo_at (l : List Int) (k : Nat) (hk : k < l.length) : rd (lowTo l k) k = rd l k := by
  have h1 : (lowTo l k)[k]? = l[k]? := by
    unfold lowTo
    rw [List.getElem?_append_right (by simp; omega)]
    simp [show min k l.length = k by omega]
  simp only [rd, Int.toNat_natCast, List.getD_eq_getElem?_getD, h1]
theorem lowTo_keep (l : List Int) (k : Nat) (hk : k < l.length) (h : ¬ (65 ≤ rd l k ∧ rd l k ≤ 90)) : lowTo l (k + 1) = lowTo l k := by
  have hr : rd l k = l[k] := by simp [rd, hk]
  unfold lowTo
  rw [List.take_succ_eq_append_getElem hk, List.map_append, List.drop_eq_getElem_cons hk]
  have : low l[k] = l[k] := by unfold low; rw [if_neg (by rw [← hr]; exact h)]
  simp [this]
theorem lowTo_set (l : List Int) (k : Nat) (hk : k < l.length) (h : 65 ≤ rd l k ∧ rd l k ≤ 90) : lowTo l (k + 1) = (lowTo l k).set k ((rd l k + 32) % 256) := by
  have hr : rd l k = l[k] := by simp [rd, hk]
  unfold lowTo
  rw [List.take_succ_eq_append_getElem hk, List.map_append, List.drop_eq_getElem_cons hk]
  have : low l[k] = (rd l k + 32) % 256 := by unfold low; rw [if_pos (by rw [← hr]; exact h), hr]
  rw [List.set_append_right _ _ (by simp; omega)]
  have h0 : k - (List.map low (List.take k l)).length = 0 := by simp; omega
  rw [h0, List.set_cons_zero, List.map_cons, List.map_nil, this]
  simp
theorem lowTo_all (l : List Int) : lowTo l l.length = l.map low := by simp [lowTo]

theorem keySrc (w : World) : Src Try.prog 1 9 (.string ⟨#[46, 100, 108, 108]⟩) dotDll.length (nums .u8 dotDll) w := Src.ofString (P := Try.prog) w (tx := 9) Try.underlying9 ⟨#[46, 100, 108, 108]⟩

set_option maxHeartbeats 4000000 in
set_option maxRecDepth 100000 in
theorem fold_Key.calls (a0 : ByteArray) (r : ByteArray) (w : World) (h : fold_Key.f a0 = some r) :
    Calls Try.prog 85 #[.string a0] w fun e w' => e = .returned (.string r) ∧ Below w.heap.size w w' := by
  unfold fold_Key.f at h
  by_cases hs : a0.size ≤ 140737488355000
  · rw [if_pos hs] at h
    obtain rfl := Option.some.inj h
    clear h
    have hconv := Lib.run_convert_string_bytes (P := Try.prog) w 9 45 5 a0 Try.underlying9 Try.underlying45 Try.underlying5
    obtain ⟨hE, hB⟩ := ERow.conv w 5 a0 (by omega)
    have hlen : (bytesOf a0).length = a0.size := bytesOf_length a0
    generalize Lib.bytesWorld w 5 a0 = W1 at hconv hE hB
    generalize grownCap w a0.size 0 5 = cap at hconv hE
    have HE := Aside0.mk hE
    have HB := Aside0.mk hB
    have HLEN := Aside0.mk hlen
    have hgw : w.heap.size < W1.heap.size := (hE.block w.heap.size rfl).2
    clear hE hB hlen
    go_enter Try.func85, Try.ntmps85
    go_wp2
    go_loopw [4, 5, 10] (fun v4 v5 v10 wr => ∃ k : Nat, k ≤ a0.size ∧ v10 = .int .i64 k ∧ (∃ x, v4 = x) ∧ (∃ x, v5 = x) ∧ Aside0 (ERow wr w.heap.size (.slice (some ⟨w.heap.size, 0, none⟩) a0.size cap) (lowTo (bytesOf a0) k)) ∧ Aside0 (Below w.heap.size w wr)) (fun _ _ v10 _ => a0.size - (intOf v10).toNat)
    case atStart => exact ⟨0, Nat.zero_le _, rfl, ⟨_, rfl⟩, ⟨_, rfl⟩, ⟨by rw [lowTo_zero]; exact HE.out⟩, HB⟩
    case round =>
      obtain ⟨k, hk, rfl, ⟨x4, rfl⟩, ⟨x5, rfl⟩, HE1, HB1⟩ := hrel
      by_cases hlt : k < a0.size
      · have hkl : k < (bytesOf a0).length := by rw [HLEN.out]; exact hlt
        obtain ⟨hc, hf⟩ := HE1.out.cell k (by rw [lowTo_length _ _ (by omega)]; exact hkl)
        rw [lowTo_at _ _ hkl] at hc
        by_cases h1 : 65 ≤ rd (bytesOf a0) k
        · have d1 : decide (65 ≤ rd (bytesOf a0) k) = true := decide_eq_true h1
          by_cases h2 : rd (bytesOf a0) k ≤ 90
          · have d2 : decide (rd (bytesOf a0) k ≤ 90) = true := decide_eq_true h2
            go_wp2
            go_roundw
            case rel =>
              refine ⟨k + 1, by omega, by go_num, ⟨_, rfl⟩, ⟨_, rfl⟩, ⟨?_⟩, ⟨?_⟩⟩
              · rw [lowTo_set _ _ hkl ⟨h1, h2⟩]
                have hx := HE1.out.set k (by rw [lowTo_length _ _ (by omega)]; exact hkl) ((rd (bytesOf a0) k + 32) % 256)
                have e : (rd (bytesOf a0) k + 32) % 256 = rd (bytesOf a0) k + 32 := by omega
                rw [e] at hx ⊢
                exact hx
              · exact HB1.out.setCell (by simp) _
            case measure => simp [intOf]; omega
          · have d2 : decide (rd (bytesOf a0) k ≤ 90) = false := decide_eq_false h2
            go_wp2
            go_roundw
            case rel => exact ⟨k + 1, by omega, by go_num, ⟨_, rfl⟩, ⟨_, rfl⟩, ⟨by rw [lowTo_keep _ _ hkl (fun h => h2 h.2)]; exact HE1.out⟩, HB1⟩
            case measure => simp [intOf]; omega
        · have d1 : decide (65 ≤ rd (bytesOf a0) k) = false := decide_eq_false h1
          go_wp2
          go_roundw
          case rel => exact ⟨k + 1, by omega, by go_num, ⟨_, rfl⟩, ⟨_, rfl⟩, ⟨by rw [lowTo_keep _ _ hkl (fun h => h1 h.1)]; exact HE1.out⟩, HB1⟩
          case measure => simp [intOf]; omega
      · have hk2 : k = a0.size := by omega
        have HE2 := Aside0.mk (show ERow wr w.heap.size (.slice (some ⟨w.heap.size, 0, none⟩) a0.size cap) ((bytesOf a0).map low) by have := HE1.out; rw [hk2, ← HLEN.out, lowTo_all, HLEN.out] at this; exact this)
        clear HE1 hk2
        have hneg := indexByte_neg a0.data.toList 46
        by_cases hd : a0.data.toList.contains 46 = true
        · have hk3 : keyNums a0 = (bytesOf a0).map low := by unfold keyNums; rw [if_pos hd]
          have hd2 : decide (Lib.indexByte a0.data.toList 46 < 0) = false := by rw [decide_eq_false_iff_not, hneg, hd]; simp
          have hcv := HE2.out.string (P := Try.prog) (src := 45) (dst := 9) (e := 5) Try.underlying45 Try.underlying5 Try.underlying9
          clear hneg hd
          have HK3 := Aside0.mk hk3
          clear hk3
          go_wp2_with (go_at_call 90; refine (strings_IndexByte.calls_ _ _ _).mono ?_; rintro e w' ⟨rfl, rfl⟩)
          go_ret
          exact ⟨by rw [HK3.out]; rfl, HB1.out⟩
        · have hd1 : a0.data.toList.contains 46 = false := by simpa using hd
          have hk3 : keyNums a0 = (bytesOf a0).map low ++ dotDll := by unfold keyNums; rw [if_neg hd]
          have hd2 : decide (Lib.indexByte a0.data.toList 46 < 0) = true := by rw [decide_eq_true_iff, hneg, hd1]
          clear hneg hd hd1
          have HK3 := Aside0.mk hk3
          clear hk3
          go_wp2_with (first | (go_at_call 90; refine (strings_IndexByte.calls_ _ _ _).mono ?_; rintro e w' ⟨rfl, rfl⟩) | (at_builtin; refine wp_append_E rfl _ _ 45 9 5 rfl Try.underlying45 info5 w.heap.size _ ((bytesOf a0).map low) dotDll rfl ?cE _ rfl ?cS ?cL ?cB ?_))
          case cE => exact HE2.out
          case cS => exact keySrc wr
          case cL => have h4 : dotDll.length = 4 := rfl; rw [h4, List.length_map, HLEN.out]; omega
          case cB => exact HB1.out.size
          intro v2 w2 HE3 HG
          have hcv := HE3.out.string (P := Try.prog) (src := 45) (dst := 9) (e := 5) Try.underlying45 Try.underlying5 Try.underlying9
          go_wp2
          go_ret
          exact ⟨by rw [HK3.out]; rfl, pw_below_grown HB1.out _ HB1.out.size HG.out (fun k e => (HE2.out.block k e).1)⟩
  · rw [if_neg hs] at h; cases h


end Go.Proofs.Ytjifmpjpccibnaa.D
