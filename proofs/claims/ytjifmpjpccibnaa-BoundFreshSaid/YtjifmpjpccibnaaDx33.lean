/- What Go functions of the program compute, each as a Lean function with its contract: written by a program of this session; some by hand. (No condition.) -/
import Derived.Test.YtjifmpjpccibnaaDx0
import Derived.Test.YtjifmpjpccibnaaDx32
namespace Go.Proofs.Ytjifmpjpccibnaa.D
open Go.RowKit Go.Proofs.YtjifmpjpccibnaaW.PrintWords Go.Proofs.YtjifmpjpccibnaaW.PrintLast Go.Proofs.YtjifmpjpccibnaaW.PrintMore
attribute [local go_sem] max2_int min2_int max_two min_two max_three min_three max_four min_four   -- for this text's walks alone
set_option linter.unusedVariables false
set_option linter.unusedSimpArgs false

/-! ### le_Text: function 73 (given by hand) -/
open Go.Proofs.YtjifmpjpccibnaaE
def idxB (l : List Int) : Int := Lib.indexByte (Lib.bytesOf l) 0
def le_Text.f (l0 : List Int) (a1 : Int) (a2 : Int) : Option (ByteArray × Bool) :=
  if a1 < 0 then some (⟨#[]⟩, false) else if a1 ≥ (l0.length : Int) then some (⟨#[]⟩, false)
  else if idxB (l0.drop a1.toNat) < 0 then some (⟨#[]⟩, false) else if idxB (l0.drop a1.toNat) > mx a2 0 then some (⟨#[]⟩, false)
  else some (strOfNums ((l0.drop a1.toNat).take (idxB (l0.drop a1.toNat)).toNat), true)
theorem indexByte_lt (l : List UInt8) (c : UInt8) : Lib.indexByte l c < (l.length : Int) ∨ Lib.indexByte l c < 0 := by
  induction l with
  | nil => right; simp [Lib.indexByte]
  | cons b l ih =>
    unfold Lib.indexByte
    simp only [List.length_cons]
    split
    · left; omega
    · split
      · right; omega
      · left; omega
theorem idxB_lt (l : List Int) (h : 0 ≤ idxB l) : idxB l < (l.length : Int) := by
  rcases indexByte_lt (Lib.bytesOf l) 0 with h1 | h1
  · simpa [idxB, Lib.bytesOf] using h1
  · unfold idxB at h; omega
theorem run_convert_bytes_at {P : Program} (w : World) {src dst e : TypeId} (hs : P.underlying src = some (.slice e)) (he : P.underlying e = some (.int .u8)) (hd : P.underlying dst = some .string) (a : Addr) (len cap : Nat) (xs : List Int)
    (hlen : xs.length = len) (hb : len ≤ 9223372036854775807) (hcell : ∀ i, i < len → w.cell? (a.add i) = some (.int .u8 (xs.getD i 0))) : (convert src dst (.slice (some a) len cap)).run P w = .ok (.string (strOfNums xs)) w := by
  subst hlen
  exact Kd.C_string hs he hd (Kd.C_of_reads (d := (0 : Int)) (h1 := fun _ => rfl) ⟨rfl, hb, fun _ => ⟨_, rfl, hcell⟩⟩)
set_option maxHeartbeats 4000000 in
set_option maxRecDepth 100000 in
theorem le_Text.calls (A0 : Option Addr) (c0 : Nat) (l0 : List Int) (a1 : Int) (a2 : Int) (r1 : ByteArray) (r2 : Bool) (w : World) (hr0 : Kd.C (Kd.int .u8) w A0 l0.length l0) (hc0 : l0.length ≤ c0) (h : le_Text.f l0 a1 a2 = some (r1, r2)) :
    Calls Try.prog 73 #[.slice A0 l0.length c0, .int .i64 a1, .int .i64 a2] w fun e w' => e = .returned (.tuple #[.string r1, .bool r2]) ∧ Drawn0 w w' := by
  have hR := Kd.reads_of_C (d := (0 : Int)) hr0
  have hn : l0.length ≤ 9223372036854775807 := hR.2.1
  have hnn : (0 : Int) ≤ (l0.length : Int) := by omega
  unfold le_Text.f at h
  have HR := Aside0.mk hR
  clear hR hr0
  by_cases c3 : a1 < 0
  · rw [if_pos c3] at h
    simp only [Option.some.injEq, Prod.mk.injEq] at h
    obtain ⟨rfl, rfl⟩ := h
    have d3 : decide (a1 < 0) = true := decide_eq_true c3
    go_enter Try.func73, Try.ntmps73
    go_wp2
    go_ret2
    exact ⟨rfl, Drawn0.refl _⟩
  rw [if_neg c3] at h
  have d3 : decide (a1 < 0) = false := decide_eq_false c3
  by_cases c4 : a1 ≥ (l0.length : Int)
  · rw [if_pos c4] at h
    simp only [Option.some.injEq, Prod.mk.injEq] at h
    obtain ⟨rfl, rfl⟩ := h
    have d4 : decide ((l0.length : Int) ≤ a1) = true := decide_eq_true c4
    go_enter Try.func73, Try.ntmps73
    go_wp2
    go_ret2
    exact ⟨rfl, Drawn0.refl _⟩
  rw [if_neg c4] at h
  have d4 : decide ((l0.length : Int) ≤ a1) = false := decide_eq_false c4
  obtain ⟨at_, rfl⟩ := Int.eq_ofNat_of_zero_le (show 0 ≤ a1 by omega)
  rw [Int.toNat_natCast] at h
  obtain ⟨ad, rfl, hc⟩ := HR.out.2.2 (by omega)
  have hlt : at_ < l0.length := by omega
  have hlen : (l0.drop at_).length = l0.length - at_ := by simp
  have hcs : ∀ j, j < (l0.drop at_).length → w.cell? ((ad.add at_).add j) = some (.int .u8 ((l0.drop at_).getD j 0)) := by
    intro j hj
    have h1 := hc (at_ + j) (by omega)
    rw [add_add ad at_ j, h1]
    simp [List.getD_eq_getElem?_getD]
  have HC2 := show Kd.C (Kd.int .u8) w (some (ad.add at_)) (l0.drop at_).length (l0.drop at_) from Kd.C_of_reads (d := (0 : Int)) (h1 := fun _ => rfl) ⟨rfl, by omega, fun _ => ⟨_, rfl, hcs⟩⟩
  have hc2 : ¬ (c0 = at_) := by omega
  have hb5 : at_ ≤ c0 := by omega
  have d4n : decide (l0.length ≤ at_) = false := decide_eq_false (by omega)
  have hidx := idxB_lt (l0.drop at_)
  have hcall := bytes_IndexByte.calls (some (ad.add at_)) (c0 - at_) (l0.drop at_) 0 (idxB (l0.drop at_)) w HC2 (by omega) rfl
  rw [hlen] at hidx hcall
  have HCALL := Aside0.mk hcall
  clear hcall HC2 HR hc
  have hcs2 := Aside0.mk hcs
  have HLEN := Aside0.mk hlen
  clear hcs hlen
  generalize hds : l0.drop at_ = ds at *
  have HDS := Aside0.mk hds
  clear hds
  by_cases c5 : idxB ds < 0
  · rw [if_pos c5] at h
    simp only [Option.some.injEq, Prod.mk.injEq] at h
    obtain ⟨rfl, rfl⟩ := h
    have d5 : decide (idxB ds < 0) = true := decide_eq_true c5
    go_enter Try.func73, Try.ntmps73
    go_wp2_with (go_at_call 83; refine HCALL.out.mono ?_; rintro e w' ⟨rfl, ⟨m, rfl⟩⟩)
    go_ret2
    exact ⟨rfl, by repeat (first | exact Drawn0.refl _ | apply Drawn0.step)⟩
  rw [if_neg c5] at h
  have d5 : decide (idxB ds < 0) = false := decide_eq_false c5
  have hi2 := hidx (by omega)
  obtain ⟨n, hn1⟩ := Int.eq_ofNat_of_zero_le (show 0 ≤ idxB ds by omega)
  have hn2 : n < l0.length - at_ := by omega
  have hconv := fun m => run_convert_bytes_at (P := Try.prog) (w.drewN m) (src := 45) (dst := 9) (e := 5) Try.underlying45 Try.underlying5 Try.underlying9 (ad.add at_) n (c0 - at_) (ds.take n) (by simp; have := HLEN.out; omega) (by omega) (fun i hi => by
    have h1 := hcs2.out i (by rw [HLEN.out]; omega)
    rw [show (w.drewN m).cell? ((ad.add at_).add i) = w.cell? ((ad.add at_).add i) from rfl, h1]
    simp [List.getD_eq_getElem?_getD, List.getElem?_take, hi])
  rw [hn1] at HCALL d5 h
  rw [Int.toNat_natCast] at h
  have HCONV := Aside0.mk hconv
  clear hconv c5 hidx hi2 hn1
  have hb6 : at_ + n ≤ l0.length := by omega
  have hb7 : at_ + n ≤ c0 := by omega
  by_cases ha : a2 < 0
  · have ha2 : decide (a2 < 0) = true := decide_eq_true ha
    have hm : mx a2 0 = 0 := by simp [mx, ha]
    rw [hm] at h
    clear hm
    by_cases c6 : (n : Int) > 0
    · rw [if_pos c6] at h
      simp only [Option.some.injEq, Prod.mk.injEq] at h
      obtain ⟨rfl, rfl⟩ := h
      have d6 : decide (0 < (n : Int)) = true := decide_eq_true c6
      go_enter Try.func73, Try.ntmps73
      go_wp2_with (go_at_call 83; refine HCALL.out.mono ?_; rintro e w' ⟨rfl, ⟨m, rfl⟩⟩)
      go_ret2
      exact ⟨rfl, by repeat (first | exact Drawn0.refl _ | apply Drawn0.step)⟩
    · rw [if_neg c6] at h
      simp only [Option.some.injEq, Prod.mk.injEq] at h
      obtain ⟨rfl, rfl⟩ := h
      have d6 : decide (0 < (n : Int)) = false := decide_eq_false c6
      go_enter Try.func73, Try.ntmps73
      go_wp2_with (go_at_call 83; refine HCALL.out.mono ?_; rintro e w' ⟨rfl, ⟨m, rfl⟩⟩; have hcv := HCONV.out m)
      go_ret2
      exact ⟨rfl, by repeat (first | exact Drawn0.refl _ | apply Drawn0.step)⟩
  · have ha2 : decide (a2 < 0) = false := decide_eq_false ha
    have hm : mx a2 0 = a2 := by simp [mx, ha]
    rw [hm] at h
    clear hm
    by_cases c6 : (n : Int) > a2
    · rw [if_pos c6] at h
      simp only [Option.some.injEq, Prod.mk.injEq] at h
      obtain ⟨rfl, rfl⟩ := h
      have d6 : decide (a2 < (n : Int)) = true := decide_eq_true c6
      go_enter Try.func73, Try.ntmps73
      go_wp2_with (go_at_call 83; refine HCALL.out.mono ?_; rintro e w' ⟨rfl, ⟨m, rfl⟩⟩)
      go_ret2
      exact ⟨rfl, by repeat (first | exact Drawn0.refl _ | apply Drawn0.step)⟩
    · rw [if_neg c6] at h
      simp only [Option.some.injEq, Prod.mk.injEq] at h
      obtain ⟨rfl, rfl⟩ := h
      have d6 : decide (a2 < (n : Int)) = false := decide_eq_false c6
      go_enter Try.func73, Try.ntmps73
      go_wp2_with (go_at_call 83; refine HCALL.out.mono ?_; rintro e w' ⟨rfl, ⟨m, rfl⟩⟩; have hcv := HCONV.out m)
      go_ret2
      exact ⟨rfl, by repeat (first | exact Drawn0.refl _ | apply Drawn0.step)⟩


end Go.Proofs.Ytjifmpjpccibnaa.D
