/- What Go functions of the program compute, each as a Lean function with its contract: written by a program of this session; some by hand. (No condition.) -/
import Derived.Test.YtjifmpjpccibnaaDx0
import Derived.Test.YtjifmpjpccibnaaDx38
namespace Go.Proofs.Ytjifmpjpccibnaa.D
open Go.RowKit Go.Proofs.YtjifmpjpccibnaaW.PrintWords Go.Proofs.YtjifmpjpccibnaaW.PrintLast Go.Proofs.YtjifmpjpccibnaaW.PrintMore
attribute [local go_sem] max2_int min2_int max_two min_two max_three min_three max_four min_four   -- for this text's walks alone
set_option linter.unusedVariables false
set_option linter.unusedSimpArgs false

/-! ### slipwaylaw10_Made: function 31 (given by hand) -/
open Go.Proofs.YtjifmpjpccibnaaE
/-- What lies ahead of the blocks. -/
def m10Head (n : Nat) : List Int := (List.range n).map fun i => ((i * i + 3 : Nat) : Int) % 256
def m10Part (n k : Nat) : List Int := (List.range n).map fun i => if i < k then ((i * i + 3 : Nat) : Int) % 256 else 0
theorem m10Part_len (n k : Nat) : (m10Part n k).length = n := by simp [m10Part]
theorem m10Part_zero (n : Nat) : m10Part n 0 = List.replicate n 0 := by
  apply List.ext_getElem <;> simp [m10Part]
theorem m10Part_full (n : Nat) : m10Part n n = m10Head n := by
  apply List.map_congr_left
  intro i hi
  rw [if_pos (by simpa using hi)]
theorem m10Part_set (n k : Nat) (hk : k < n) : (m10Part n k).set k (((k * k + 3 : Nat) : Int) % 256) = m10Part n (k + 1) := by
  apply List.ext_getElem
  · simp [m10Part]
  · intro i h1 h2
    rw [List.getElem_set]
    simp only [m10Part, List.getElem_map, List.getElem_range]
    by_cases hik : k = i
    · subst hik; rw [if_pos rfl, if_pos (by omega)]
    · rw [if_neg hik]
      by_cases h3 : i < k
      · rw [if_pos h3, if_pos (by omega)]
      · rw [if_neg h3, if_neg (by omega)]
/-- A site's kind, as it is laid. -/
def m10Kind (x : S60) : Nat := (Go.bits .and .i64 x.f0 15).toNat
def m10Val (x : S60) : Nat := m10Kind x * 4096 + x.f1.toNat % 4096
def m10Ent (x : S60) : List Int := [((m10Val x % 256 : Nat) : Int), ((m10Val x / 256 : Nat) : Int)]
/-- The sites of a page that stand ahead, and what is left. -/
def m10Row (p : Nat) : List S60 → List Int × List S60
  | [] => ([], [])
  | x :: r => if x.f1.toNat / 4096 = p then (m10Ent x ++ (m10Row p r).1, (m10Row p r).2) else ([], x :: r)
def m10Pad (row : List Int) : List Int := if row.length % 4 = 0 then row else row ++ [0, 0]
def m10Block (p : Nat) (row : List Int) : List Int := YtjifmpjpccibnaaA.leB ((p * 4096 : Nat) : Int) 4 ++ YtjifmpjpccibnaaA.leB ((8 + row.length : Nat) : Int) 4 ++ row
def m10Blocks : Nat → List S60 → List Int
  | 0, _ => []
  | _ + 1, [] => []
  | m + 1, x :: r => m10Block (x.f1.toNat / 4096) (m10Pad (m10Row (x.f1.toNat / 4096) (x :: r)).1) ++ m10Blocks m (m10Row (x.f1.toNat / 4096) (x :: r)).2
def m10Ok (l : List S60) (ahead : Int) : Bool := decide (0 ≤ ahead) && decide (ahead ≤ 1048576) && l.all fun x => decide (0 ≤ x.f1) && decide (x.f1 ≤ 2147483647)
def slipwaylaw10_Made.f (_k : Nat) (l0 : List S60) (a1 : Int) : Option (List Int × Int × Int) :=
  if m10Ok l0 a1 = true then some (m10Head a1.toNat ++ m10Blocks 61 (l0.take 60), a1, ((m10Blocks 61 (l0.take 60)).length : Int)) else none
theorem slipwaylaw10_Made.mono : ∀ a0 a1 k, LeO (slipwaylaw10_Made.f k a0 a1) (slipwaylaw10_Made.f (k + 1) a0 a1) := fun _ _ _ => LeO.refl _

theorem m10Bytes_l0 (v : Int) (hv : 0 ≤ v) (n : Nat) (hn : n ≤ 8) (d : Nat) : ∀ (k i : Nat), i ≤ n → n - i = d → d < k → slipwayref1_Bytes.l0 k v (n : Int) (strOfNums (YtjifmpjpccibnaaA.leB v i)) (i : Int) = some (strOfNums (YtjifmpjpccibnaaA.leB v n)) := by
  have hm : mn (n : Int) 8 = (n : Int) := by unfold mn; rw [if_neg (by omega)]
  induction d with
  | zero =>
    intro k i hi hd hk
    obtain ⟨k, rfl⟩ : ∃ m, k = m + 1 := ⟨k - 1, by omega⟩
    obtain rfl : i = n := by omega
    simp only [slipwayref1_Bytes.l0]
    rw [hm, if_neg (by omega)]
  | succ d ih =>
    intro k i hi hd hk
    obtain ⟨k, rfl⟩ : ∃ m, k = m + 1 := ⟨k - 1, by omega⟩
    have hw : wrap64 (8 * (i : Int)) = 8 * (i : Int) := by unfold wrap64; omega
    have hw1 : wrap64 ((i : Int) + 1) = ((i + 1 : Nat) : Int) := by unfold wrap64; omega
    have hs : shr .u64 v (8 * (i : Int)) = v / 2 ^ (8 * i) := by
      have e8 : (8 * (i : Int)).toNat = 8 * i := by omega
      have e64 : min (8 * i) 64 = 8 * i := by omega
      simp only [shr, e8, IntKind.bits, e64]
    simp only [slipwayref1_Bytes.l0]
    rw [hm, if_pos (by omega), hw, if_pos (by omega), hs, Option.bind_some, hw1]
    rw [if_pos (by rw [strOfNums_size, strOfNums_size, YtjifmpjpccibnaaA.leB_length]; simp; omega)]
    rw [← YtjifmpjpccibnaaA.str_append, ← YtjifmpjpccibnaaA.leB_succ]
    exact ih k (i + 1) (by omega) (by omega) (by omega)
theorem m10Bytes (v : Int) (hv : 0 ≤ v) (n : Nat) (hn : n ≤ 8) (k : Nat) (hk : n < k) : slipwayref1_Bytes.f k v (n : Int) = some (strOfNums (YtjifmpjpccibnaaA.leB v n)) := by
  have := m10Bytes_l0 v hv n hn n k 0 (Nat.zero_le _) (by omega) hk
  simpa [slipwayref1_Bytes.f, YtjifmpjpccibnaaA.leB, strOfNums] using this
theorem m10Row_page (p : Nat) (x : S60) (r : List S60) (h : x.f1.toNat / 4096 = p) : m10Row p (x :: r) = (m10Ent x ++ (m10Row p r).1, (m10Row p r).2) := by rw [m10Row, if_pos h]
theorem m10Row_other (p : Nat) (x : S60) (r : List S60) (h : x.f1.toNat / 4096 ≠ p) : m10Row p (x :: r) = ([], x :: r) := by rw [m10Row, if_neg h]
theorem m10Row_len (p : Nat) (l : List S60) : (m10Row p l).1.length = 2 * (l.length - (m10Row p l).2.length) ∧ (m10Row p l).2.length ≤ l.length := by
  induction l with
  | nil => simp [m10Row]
  | cons x r ih =>
    by_cases h : x.f1.toNat / 4096 = p
    · rw [m10Row_page p x r h]
      simp only [List.length_append, m10Ent, List.length_cons, List.length_nil]
      omega
    · rw [m10Row_other p x r h]; simp
theorem m10Pad_len (row : List Int) : (m10Pad row).length ≤ row.length + 2 := by
  unfold m10Pad
  split <;> simp
theorem m10Kind_is (x : S60) : Go.bits .and .i64 x.f0 15 = (m10Kind x : Int) ∧ m10Kind x ≤ 15 := by
  obtain ⟨n, h1, h2⟩ := YtjifmpjpccibnaaA.i64_and x.f0 15 (by decide)
  have h3 : Go.bits .and .i64 x.f0 15 = (n : Int) := h2
  unfold m10Kind
  rw [h3]
  exact ⟨by simp, by simpa using h1⟩
theorem m10Val_lt (x : S60) : m10Val x < 65536 := by
  have := (m10Kind_is x).2
  unfold m10Val
  omega
theorem m10Val_or (x : S60) (h0 : 0 ≤ x.f1) (h1 : x.f1 ≤ 2147483647) : Go.bits .and .i64 x.f1 4095 = ((x.f1.toNat % 4096 : Nat) : Int) ∧ Go.bits .or .i64 (((m10Kind x * 4096 : Nat)) : Int) ((x.f1.toNat % 4096 : Nat) : Int) = (m10Val x : Int) := by
  have hk := (m10Kind_is x).2
  constructor
  · have h := bits_mask .i64 62 (by decide) (fun n h0 h1 => by rw [IntKind.wrap_i64]; omega) 12 (by decide) x.f1 h0 (by omega)
    have e : (2 : Int) ^ 12 - 1 = 4095 := by decide
    rw [e] at h
    rw [h]
    omega
  · rw [bits_join .i64 62 (by decide) (fun n h0 h1 => by rw [IntKind.wrap_i64]; omega) 12 _ _ (by omega) (by omega) (by omega) (by omega) (by omega) (by omega)]
    unfold m10Val
    omega
/-- A string, or a row, appended to a row: what is new is known to lie apart. -/
theorem wp_append_E4 {P : Program} {w : World} {ops : Array Oper} {rest : List Oper} {o : Oper} {a : Act} {Q : Exit → Act → World → Prop} (hgd : o.guard = none) (s x : Operand) (t tx e : TypeId)
    (ho : o.op = .call { callee := .builtin .append, args := #[s, x], argTypes := #[t, tx] })
    (ht : P.underlying t = some (.slice e)) (hinfo : (P.info? e).map (fun i => (i.zero, i.size, i.bytes)) = some (some (.int .u8 0), 1, 1))
    (base : Nat) (v : Value) (xs ys : List Int) (hs : a.eval s = v) (h : ERow w base v xs) (xv : Value) (hx : a.eval x = xv) (hsrc : Src P 1 tx xv ys.length (nums .u8 ys) w)
    (hl : xs.length + ys.length ≤ 140737488355328) (hbase : base ≤ w.heap.size)
    (hk : ∀ v' w', Aside0 (ERow w' base v' (xs ++ ys)) → Aside0 (w.grownBy w' v.ownBlock) → Aside0 (v'.ownBlock = v.ownBlock ∨ ∃ b, v'.ownBlock = some b ∧ w.heap.size ≤ b) → wpList P ops Q rest (a.put o.dst v') w') : wpList P ops Q (o :: rest) a w := by
  refine wpList_plain hgd fun K hK => ?_
  obtain ⟨v', w', hr, h2, h3, h4⟩ := h.run_append t tx o.type e ht hinfo xv hsrc hl hbase
  unfold Oper.wp execOp
  simp only [ho, resolve, invoke, builtin, Sem.run_bind, Sem.run_pure, Result.andThen_ok, List.map_toArray, List.map_cons, List.map_nil, hs, hx, hr]
  exact hK _ _ (hk v' w' ⟨h2⟩ ⟨h3⟩ ⟨h4⟩)
theorem lit_C (W : World) (a b : Int) : Kd.C (Kd.int .u8) (W.alloc (.cells #[.int .u8 a, .int .u8 b] 5 (0, 0))) (some ⟨W.heap.size, 0, none⟩) 2 [a, b] :=
  (Kd.R_reads' (Kd.R_of_own (ok := fun _ => True) (own_lit W 0 5 .u8 [a, b] (Nat.zero_le _) (by simp)) (fun _ _ => trivial))).2.2
/-- What is known of where a row lies: none of the blocks from H to H1. -/
def NOk (H H1 : Nat) (v : Value) : Prop := ∀ k, v.ownBlock = some k → k < H ∨ H1 ≤ k
theorem NOk.next {H H1 : Nat} {v v' : Value} (h : NOk H H1 v) {n : Nat} (hn : H1 ≤ n) (hat : v'.ownBlock = v.ownBlock ∨ ∃ b, v'.ownBlock = some b ∧ n ≤ b) : NOk H H1 v' := by
  intro k hk
  rcases hat with e | ⟨b, e, hb⟩
  · exact h k (e ▸ hk)
  · rw [e] at hk
    injection hk with hk
    omega
theorem R_nok {H H1 : Nat} {v vr : Value} {xs : List Int} {W w1 : World} (hr : Kd.R (Kd.int .u8) 5 W H (fun k => H ≤ k ∧ k < H1) vr xs) (h : NOk H H1 v) (hg : W.grownBy w1 v.ownBlock) : Kd.R (Kd.int .u8) 5 w1 H (fun k => H ≤ k ∧ k < H1) vr xs :=
  Kd.R_grown hr hg (fun k hk e => by have := h k e.symm; omega)
theorem src_C {P : Program} {t e : TypeId} (hk : P.underlying t = some (.slice e)) {w : World} {A : Option Addr} {c : Nat} {xs : List Int} (h : Kd.C (Kd.int .u8) w A xs.length xs) : Src P 1 t (.slice A xs.length c) xs.length (nums .u8 xs) w := by
  have hR := Kd.reads_of_C (d := (0 : Int)) h
  rcases A with _ | ad
  · have h0 : xs.length = 0 := by
      rcases Nat.eq_zero_or_pos xs.length with h0 | h0
      · exact h0
      · obtain ⟨ad, e, _⟩ := hR.2.2 h0
        cases e
    obtain rfl := List.eq_nil_of_length_eq_zero h0
    exact Src.ofNil w hk c
  · refine Src.ofSlice w hk ad xs.length c (nums .u8 xs) (by simp [nums]) (fun j u hj => ?_) (fun u hu => ?_)
    · have hj' : j < xs.length := by
        have := (List.getElem?_eq_some_iff.1 hj).1
        simpa [nums] using this
      obtain ⟨ad', e, h2⟩ := hR.2.2 (by omega)
      cases e
      rw [h2 j hj', ← hj]
      simp [nums, hj']
    · simp only [nums, List.mem_map] at hu
      obtain ⟨x, _, rfl⟩ := hu
      rfl
theorem src_strN {P : Program} {tx : TypeId} (hk : P.underlying tx = some .string) (w : World) {xs : List Int} (hb : YtjifmpjpccibnaaA.Bytes xs) : Src P 1 tx (.string (strOfNums xs)) xs.length (nums .u8 xs) w := by
  have := src_str (P := P) hk w (strOfNums xs)
  rwa [YtjifmpjpccibnaaA.bytesOf_str hb] at this
/-- The first loop. -/
def M1 (w : World) (n k : Nat) (wr : World) : Prop :=
  wr.heap[w.heap.size]? = some (.cells #[.int .i64 0, .int .i64 0] 48 (0, 0)) ∧ wr.ownsRow w.heap.size 5 1 (.slice (some ⟨w.heap.size + 1, 0, none⟩) n n) n (nums .u8 (m10Part n k)) ∧ Below w.heap.size w wr
theorem M1.drew {w : World} {n k : Nat} {wr : World} (h : M1 w n k wr) : M1 w n k wr.drew := ⟨h.1, h.2.1, below_drew h.2.2⟩
theorem M1.start (w : World) (n : Nat) (hn : n ≤ 1048576) : M1 w n 0 ((w.alloc (.cells #[.int .i64 0, .int .i64 0] 48 (0, 0))).alloc (.cells (madeCells #[.int .u8 0] n) 5 (0, 0))) := by
  refine ⟨blk_alloc (blk_new w _) _, ?_, below_alloc (below_alloc (Below.refl _ _) _) _⟩
  have := own_made (w.alloc (.cells #[.int .i64 0, .int .i64 0] 48 (0, 0))) w.heap.size 5 .u8 n (by simp) (by omega)
  have hs : (w.alloc (.cells #[.int .i64 0, .int .i64 0] 48 (0, 0))).heap.size = w.heap.size + 1 := by simp
  rw [hs] at this
  rw [m10Part_zero]
  exact this
theorem M1.next {w : World} {n k : Nat} {wr : World} (h : M1 w n k wr) (hk : k < n) : M1 w n (k + 1) (wr.setCell ⟨w.heap.size + 1, k, none⟩ (.int .u8 (((k * k + 3 : Nat) : Int) % 256))) := by
  obtain ⟨h1, h2, h3⟩ := h
  have h4 := own_store h2 (k : Int) (((k * k + 3 : Nat) : Int) % 256)
  rw [Int.toNat_natCast, m10Part_set n k hk] at h4
  exact ⟨blk_far h1 (by simp) _, h4.1, h3.setCell (by simp) _⟩
/-- The loop over the blocks. -/
def M2 (w2 : World) (L : List S60) (B : List Int) (i : Nat) (vb : Value) (wr : World) : Prop :=
  ∃ bs fu, ERow wr w2.heap.size vb bs ∧ bs ++ m10Blocks fu (L.drop i) = B ∧ L.length - i < fu ∧ bs.length ≤ 12 * i ∧ Below w2.heap.size w2 wr
/-- The loop over a block's sites. -/
def M3 (wo : World) (L : List S60) (p i : Nat) (ROW : List Int) (REST : List S60) (k : Nat) (vr : Value) (wr : World) : Prop :=
  ∃ rw, Kd.R (Kd.int .u8) 5 wr wo.heap.size (fun _ => True) vr rw ∧ rw ++ (m10Row p (L.drop k)).1 = ROW ∧ (m10Row p (L.drop k)).2 = REST ∧ rw.length = 2 * (k - i) ∧ Below wo.heap.size wo wr
theorem drop_at (l : List S60) (i : Nat) (h : i < l.length) (h2 : i < 60) : (l.take 60).drop i = rd_T60 l (i : Int) :: (l.take 60).drop (i + 1) := by
  have h3 : i < (l.take 60).length := by simp; omega
  rw [List.drop_eq_getElem_cons h3]
  congr 1
  simp [rd_T60, List.getElem_take, h]
set_option maxHeartbeats 4000000 in
set_option maxRecDepth 100000 in
theorem slipwaylaw10_Made.calls (k : Nat) (A0 : Option Addr) (c0 : Nat) (l0 : List (S60)) (a1 : Int) (r1 : List Int) (r2_0 : Int) (r2_1 : Int) (w : World) (hr0 : Kd.C k60 w A0 l0.length l0) (hc0 : l0.length ≤ c0) (h : slipwaylaw10_Made.f k l0 a1 = some (r1, r2_0, r2_1)) :
    Calls Try.prog 31 #[.slice A0 l0.length c0, .int .i64 a1] w fun e w' => ∃ v0_ : Value, e = .returned (.tuple #[v0_, .agg #[.int .i64 r2_0, .int .i64 r2_1]]) ∧ Kd.R (Kd.int .u8) 5 w' w.heap.size (fun _ => True) v0_ r1 ∧ Below w.heap.size w w' := by
  unfold slipwaylaw10_Made.f at h
  by_cases hg : ¬ (m10Ok l0 a1 = true)
  · rw [if_neg hg] at h; cases h
  rw [if_pos (Decidable.not_not.mp hg)] at h
  simp only [Option.some.injEq, Prod.mk.injEq] at h
  obtain ⟨rfl, rfl, rfl⟩ := h
  have hg2 := Decidable.not_not.mp hg
  simp only [m10Ok, Bool.and_eq_true, decide_eq_true_eq, List.all_eq_true] at hg2
  obtain ⟨⟨hA0, hA1⟩, hAll⟩ := hg2
  clear hg
  obtain ⟨n, rfl⟩ := Int.eq_ofNat_of_zero_le hA0
  have HC := Aside0.mk hr0
  have hln : l0.length ≤ 9223372036854775807 := hr0.2.1
  rw [Int.toNat_natCast]
  have HALL := Aside0.mk hAll
  clear hAll hr0
  have hn : n ≤ 1048576 := by omega
  clear hA0 hA1
  have hmk := print_make 45 5 .u8 1 Try.underlying45 info5 (by omega) n (by omega)
  obtain ⟨B, hB⟩ : ∃ B, m10Blocks 61 (l0.take 60) = B := ⟨_, rfl⟩
  rw [hB]
  have HBL := Aside0.mk hB
  clear hB
  have hu48 := Try.underlying48
  have hu60 := Try.underlying60
  go_enter Try.func31, Try.ntmps31
  go_wp2
  have HM0 := Aside0.mk (M1.start w n hn)
  go_loopw [7, 18] (fun v7 v18 wr => ∃ k : Nat, k ≤ n ∧ v18 = .int .i64 (k : Int) ∧ (∃ x, v7 = x) ∧ Aside0 (M1 w n k wr)) (fun _ v18 _ => n - (intOf v18).toNat)
  case atStart => exact ⟨0, Nat.zero_le _, rfl, ⟨_, rfl⟩, HM0⟩
  case round =>
    clear HM0
    obtain ⟨i, hi, rfl, ⟨x7, rfl⟩, HM⟩ := hrel
    by_cases hlt : i < n
    · have hd := decide_eq_true (show (i : Int) < (n : Int) by omega)
      have hsq : i * i ≤ 1048576 * 1048576 := Nat.mul_le_mul (by omega) (by omega)
      have hw1 : IntKind.i64.wrap ((i : Int) * (i : Int)) = ((i * i : Nat) : Int) := by
        rw [show (i : Int) * (i : Int) = ((i * i : Nat) : Int) by simp]
        exact IntWalk.i64_in _ (by omega)
      obtain ⟨hc1, hc2⟩ := own_at HM.out.2.1 (i : Int) (by omega) (by omega)
      rw [Int.toNat_natCast] at hc1 hc2
      have HN := Aside0.mk (HM.out.next hlt)
      generalize hq : i * i = q at *
      have hw2 : IntKind.i64.wrap ((q : Int) + 3) = ((q + 3 : Nat) : Int) := by exact IntWalk.i64_in _ (by omega)
      have hw3 : IntKind.u8.wrap ((q + 3 : Nat) : Int) = ((q + 3 : Nat) : Int) % 256 := IntKind.wrap_u8 _
      clear hq
      go_wp2
      go_roundw
      case rel => exact ⟨i + 1, by omega, by go_num, ⟨_, rfl⟩, HN⟩
      case measure => simp [intOf]; omega
    · obtain rfl : n = i := by omega
      have hd := decide_eq_false (show ¬ ((n : Int) < (n : Int)) by omega)
      obtain ⟨w2, rfl⟩ : ∃ x : World, x = wr := ⟨_, rfl⟩
      have HW := Aside0.mk HM.out
      obtain ⟨L, hL⟩ : ∃ L, l0.take 60 = L := ⟨_, rfl⟩
      have HDA := Aside0.mk (fun i h h2 => hL ▸ drop_at l0 i h h2)
      have HLN := Aside0.mk (show L.length = min 60 l0.length by rw [← hL]; simp)
      have HS2 := Aside0.mk (show M2 w2 L B 0 (.slice none 0 0) w2 from ⟨[], 61, ERow.nil _ _, by rw [← HBL.out, ← hL]; rfl, by rw [HLN.out]; omega, by simp, Below.refl _ _⟩)
      have HCL := Aside0.mk (Kd.C_below HC.out HM.out.2.2)
      clear hL HM
      go_wp2
      go_loopw [8, 9, 10, 11, 12, 13] (fun v8 v9 v10 v11 v12 v13 wr => ∃ i : Nat, i ≤ L.length ∧ v9 = .int .i64 (i : Int) ∧ (∃ x, v10 = x) ∧ (∃ x, v11 = x) ∧ (∃ x, v12 = x) ∧ (∃ x, v13 = x) ∧ Aside0 (M2 w2 L B i v8 wr)) (fun _ v9 _ _ _ _ _ => L.length - (intOf v9).toNat)
      case atStart => exact ⟨0, Nat.zero_le _, rfl, ⟨_, rfl⟩, ⟨_, rfl⟩, ⟨_, rfl⟩, ⟨_, rfl⟩, HS2⟩
      case round =>
        clear HS2
        obtain ⟨i, hi, rfl, ⟨x10, rfl⟩, ⟨x11, rfl⟩, ⟨x12, rfl⟩, ⟨x13, rfl⟩, HM⟩ := hrel
        by_cases hlt : i < L.length
        · have hlen := HLN.out
          have hi1 : i < l0.length := by omega
          have hi2 : i < 60 := by omega
          have d1 := decide_eq_true (show (i : Int) < (l0.length : Int) by omega)
          have d2 := decide_eq_true (show (i : Int) < 60 by omega)
          obtain ⟨bs, fu, hE, hbs, hfu, hbl, hbe⟩ := HM.out
          obtain ⟨fu, rfl⟩ : ∃ q, fu = q + 1 := ⟨fu - 1, by omega⟩
          obtain ⟨ad, e, hx0, hx1⟩ := at_T60 (Kd.C_below HCL.out hbe) (i : Int) (by omega) (by omega)
          cases e
          rw [Int.toNat_natCast] at hx0 hx1
          have hda := HDA.out i hi1 hi2
          have hall := HALL.out (rd_T60 l0 (i : Int)) (by
            simp only [rd_T60, Int.toNat_natCast, List.getD_eq_getElem?_getD, List.getElem?_eq_getElem hi1, Option.getD_some]
            exact List.getElem_mem _)
          generalize rd_T60 l0 (i : Int) = x at *
          obtain ⟨r, hr⟩ := Int.eq_ofNat_of_zero_le hall.1
          rw [hr] at hx1
          have hr2 : r ≤ 2147483647 := by omega
          have hpg : (r : Int) / 4096 = ((r / 4096 : Nat) : Int) := by omega
          obtain ⟨wo, rfl⟩ : ∃ y : World, y = wr := ⟨_, rfl⟩
          generalize hp : r / 4096 = p at *
          have hpb : p ≤ 524287 := by omega
          have HXP := Aside0.mk (show x.f1.toNat / 4096 = p by omega)
          rw [hda] at hbs
          have HBS := Aside0.mk hbs
          have HE := Aside0.mk hE
          have HBE := Aside0.mk hbe
          have HDX := Aside0.mk hda
          clear hbs hE hbe hda hp hr hall hx0 HM
          obtain ⟨⟨ROW, REST⟩, hRR⟩ : ∃ R, m10Row p (L.drop i) = R := ⟨_, rfl⟩
          have HBT := Aside0.mk (show bs ++ (m10Block p (m10Pad ROW) ++ m10Blocks fu REST) = B by
            have h1 := HBS.out
            rw [← HDX.out] at h1
            rw [← h1, HDX.out, m10Blocks, HXP.out, ← HDX.out, hRR])
          have HS3 := Aside0.mk (show M3 wo L p i ROW REST i (.slice none 0 0) wo from ⟨[], Kd.R_nil _ _ _ _ _, by rw [hRR]; rfl, by rw [hRR], by simp, Below.refl _ _⟩)
          have HFU := Aside0.mk hfu
          clear hRR HBS hfu
          go_wp2
          go_loopw [11, 12, 13] (fun v11 v12 v13 wr => ∃ k : Nat, i ≤ k ∧ k ≤ L.length ∧ v12 = .int .i64 (k : Int) ∧ (∃ x, v13 = x) ∧ Aside0 (M3 wo L p i ROW REST k v11 wr)) (fun _ v12 _ _ => L.length - (intOf v12).toNat)
          case atStart => exact ⟨i, Nat.le_refl _, hi, rfl, ⟨_, rfl⟩, HS3⟩
          case round =>
            clear HS3 hx1 d1 d2 hpg hr2
            obtain ⟨k, hik, hk, rfl, ⟨x13, rfl⟩, HN⟩ := hrel
            obtain ⟨rw_, hR, hrow, hrest, hrl, hbw⟩ := HN.out
            have HRW := Aside0.mk hR
            have HBW := Aside0.mk hbw
            have HCK := Aside0.mk (Kd.C_below HCL.out (below_then HBE.out HBE.out.size hbw))
            obtain ⟨Ar, cr, rfl⟩ := Kd.R_slice hR
            have HRL := Aside0.mk hrl
            have hrl2 : rw_.length ≤ 2 * k := by omega
            clear hrl
            have HROW := Aside0.mk hrow
            have HREST := Aside0.mk hrest
            clear hR hbw hrow hrest HN
            by_cases hkl : k < L.length ∧ (rd_T60 l0 (k : Int)).f1.toNat / 4096 = p
            · obtain ⟨hkl, hpk⟩ := hkl
              have hk1 : k < l0.length := by omega
              have hk2 : k < 60 := by omega
              have d1 := decide_eq_true (show (k : Int) < (l0.length : Int) by omega)
              have d2 := decide_eq_true (show (k : Int) < 60 by omega)
              obtain ⟨ad2, e, hy0, hy1⟩ := at_T60 HCK.out (k : Int) (by omega) (by omega)
              cases e
              rw [Int.toNat_natCast] at hy0 hy1
              have hda := HDA.out k hk1 hk2
              have hall := HALL.out (rd_T60 l0 (k : Int)) (by
                simp only [rd_T60, Int.toNat_natCast, List.getD_eq_getElem?_getD, List.getElem?_eq_getElem hk1, Option.getD_some]
                exact List.getElem_mem _)
              generalize rd_T60 l0 (k : Int) = y at *
              obtain ⟨r, hr⟩ := Int.eq_ofNat_of_zero_le hall.1
              have hvo := m10Val_or y hall.1 hall.2
              have hki := m10Kind_is y
              have HV := Aside0.mk (m10Val_lt y)
              have HROW2 := Aside0.mk (show (rw_ ++ m10Ent y) ++ (m10Row p (L.drop (k + 1))).1 = ROW by have h1 := HROW.out; rw [hda, m10Row_page p y _ hpk] at h1; rw [← h1]; simp)
              have HREST2 := Aside0.mk (show (m10Row p (L.drop (k + 1))).2 = REST by have h1 := HREST.out; rw [hda, m10Row_page p y _ hpk] at h1; exact h1)
              have HENT := Aside0.mk (show m10Ent y = [((m10Val y % 256 : Nat) : Int), ((m10Val y / 256 : Nat) : Int)] from rfl)
              generalize m10Ent y = en at *
              rw [hr] at hy1 hvo
              rw [Int.toNat_natCast] at hvo
              have hr2 : r ≤ 2147483647 := by omega
              have hpq : ((r : Int) / 4096 == (p : Int)) = true := by rw [beq_iff_eq]; rw [hr] at hpk; omega
              obtain ⟨hv1, hv2⟩ := hvo
              obtain ⟨hv3, hv4⟩ := hki
              generalize m10Kind y = kd at *
              generalize m10Val y = v at *
              generalize r % 4096 = mm at *
              have hor : Go.bits .or .i64 ((kd : Int) * 4096) (mm : Int) = (v : Int) := by rw [← hv2]; simp
              obtain ⟨va, hva⟩ : ∃ va, v % 256 = va := ⟨_, rfl⟩
              obtain ⟨vb, hvb⟩ : ∃ vb, v / 256 = vb := ⟨_, rfl⟩
              have hva2 : (v : Int) % 256 = (va : Int) := by omega
              have hvb2 : (v : Int) / 256 % 256 = (vb : Int) := by have := HV.out; omega
              rw [hva, hvb] at HENT
              rw [HENT.out] at HROW2
              clear hv2 hva hvb HENT
              clear hda hall hr HROW HREST hpk
              go_wp2
              go_quiet (fail)
              go_wp2_with (at_builtin; refine Kd.R_append_row (Value.int .u8) (0 : Int) (h1 := fun _ => rfl) (w0 := wo) wo.heap.size rfl (.tmp 77) (.tmp 83) 45 5 (.int .u8 0) 1 rfl Try.underlying45 info5 rfl (by decide) (.slice Ar rw_.length cr) rw_ [(va : Int), (vb : Int)] (some ⟨wr.heap.size, 0, none⟩) 2 2 (fun _ => True) rfl rfl (fun _ _ => trivial) (Kd.R_alloc (Kd.R_drewN HRW.out _) _) (lit_C _ _ _) (below_alloc (pw_below_drewN HBW.out _) _) (by have := HBW.out.size; simp; omega) (by omega) ?_)
              intro v1 w1 hr1 hb1 _ _
              have HR1 := Aside0.mk hr1
              have HB1 := Aside0.mk hb1
              clear hr1 hb1
              go_wp2
              go_roundw
              case rel => exact ⟨k + 1, by omega, by omega, by go_num, ⟨_, rfl⟩, ⟨rw_ ++ [(va : Int), (vb : Int)], HR1.out, HROW2.out, HREST2.out, by have := HRL.out; simp; omega, HB1.out⟩⟩
              case measure => simp [intOf]; omega
            · have hki : i < k := by
                rcases Nat.lt_or_ge i k with h | h
                · exact h
                · obtain rfl : i = k := by omega
                  exfalso
                  apply hkl
                  refine ⟨hlt, ?_⟩
                  have h1 := HDA.out i hi1 hi2
                  rw [HDX.out] at h1
                  rw [← (List.cons.inj h1).1]
                  exact HXP.out
              have HXR := Aside0.mk (show m10Row p (L.drop k) = ([], L.drop k) by
                rcases Nat.lt_or_ge k L.length with h | h
                · rw [HDA.out k (by omega) (by omega)]
                  exact m10Row_other _ _ _ (fun e => hkl ⟨h, e⟩)
                · rw [List.drop_eq_nil_of_le h]; rfl)
              have hrow := HROW.out
              have hrest := HREST.out
              rw [HXR.out] at hrow hrest
              simp only [List.append_nil] at hrow hrest
              subst hrow
              subst hrest
              clear HROW HREST HXR
              have htest : (k = l0.length ∧ k ≤ 60) ∨ (k < l0.length ∧ k = 60) ∨ (k < l0.length ∧ k < 60 ∧ (rd_T60 l0 (k : Int)).f1.toNat / 4096 ≠ p) := by
                rcases Nat.lt_or_ge k L.length with h | h
                · exact .inr (.inr ⟨by omega, by omega, fun e => hkl ⟨h, e⟩⟩)
                · omega
              have HTEST := Aside0.mk htest
              clear hkl htest
              have HP4 := Aside0.mk (m10Bytes ((p * 4096 : Nat) : Int) (by omega) 4 (by omega) 9 (by omega))
              have HP4B := Aside0.mk (YtjifmpjpccibnaaA.leB_bytes ((p * 4096 : Nat) : Int) 4)
              have HP4L := Aside0.mk (YtjifmpjpccibnaaA.leB_length ((p * 4096 : Nat) : Int) 4)
              obtain ⟨rq, hrq⟩ : ∃ rq, m10Pad rw_ = rq := ⟨_, rfl⟩
              have HRQL := Aside0.mk (show rq.length ≤ 2 * (k - i) + 2 by have h1 := m10Pad_len rw_; have h2 := HRL.out; rw [hrq] at h1; omega)
              have hrql : rq.length ≤ 200 := by have := HRQL.out; omega
              have HZ4 := Aside0.mk (m10Bytes ((8 + rq.length : Nat) : Int) (by omega) 4 (by omega) 9 (by omega))
              have HZ4B := Aside0.mk (YtjifmpjpccibnaaA.leB_bytes ((8 + rq.length : Nat) : Int) 4)
              have HZ4L := Aside0.mk (YtjifmpjpccibnaaA.leB_length ((8 + rq.length : Nat) : Int) 4)
              have hend := HBT.out
              unfold m10Block at hend
              rw [hrq] at hend
              generalize YtjifmpjpccibnaaA.leB ((p * 4096 : Nat) : Int) 4 = P4 at *
              generalize YtjifmpjpccibnaaA.leB ((8 + rq.length : Nat) : Int) 4 = Z4 at *
              have hw4 : IntKind.u64.wrap ((p : Int) * 4096) = ((p * 4096 : Nat) : Int) := by
                rw [show (p : Int) * 4096 = ((p * 4096 : Nat) : Int) by simp]
                simp only [IntKind.wrap, IntKind.bits, IntKind.signed]; simp; omega
              have hz4 : IntKind.u64.wrap (8 + (rq.length : Int)) = ((8 + rq.length : Nat) : Int) := by
                simp only [IntKind.wrap, IntKind.bits, IntKind.signed]; simp; omega
              generalize p * 4096 = pv at *
              generalize 8 + rq.length = zv at *
              have HEND := Aside0.mk (show (bs ++ (P4 ++ (Z4 ++ rq))) ++ m10Blocks fu (L.drop k) = B by rw [← hend]; simp)
              have HPQ := Aside0.mk hrq
              clear hend hrq HBT
              rcases HTEST.out with ⟨t1, t2⟩ | ⟨t1, t2⟩ | ⟨t1, t2, t3⟩
              case' inl =>
                have d1 := decide_eq_false (show ¬ (k < l0.length) by omega)
                have t3 : l0.length ≤ k := by omega
                clear t1
              case' inr.inl =>
                have d1 := decide_eq_true t1
                have d2 := decide_eq_false (show ¬ ((k : Int) < 60) by omega)
                have t3 : 60 ≤ k := by omega
                clear t2
              case' inr.inr =>
                have d1 := decide_eq_true t1
                have d2 := decide_eq_true (show (k : Int) < 60 by omega)
                obtain ⟨ad2, e, hy0, hy1⟩ := at_T60 HCK.out (k : Int) (by omega) (by omega)
                cases e
                rw [Int.toNat_natCast] at hy0 hy1
                have hall := HALL.out (rd_T60 l0 (k : Int)) (by
                  simp only [rd_T60, Int.toNat_natCast, List.getD_eq_getElem?_getD, List.getElem?_eq_getElem t1, Option.getD_some]
                  exact List.getElem_mem _)
                generalize rd_T60 l0 (k : Int) = y at *
                obtain ⟨r, hr⟩ := Int.eq_ofNat_of_zero_le hall.1
                have hpq : ((r : Int) / 4096 == (p : Int)) = false := by rw [beq_eq_false_iff_ne]; rw [hr] at t3; omega
                rw [hr] at hy1
                have hr2 : r ≤ 2147483647 := by omega
                clear hy0 hr hall t3
              all_goals
                clear HTEST
                rcases hpad : decide (rw_.length % 4 = 0) with _ | _
              · have d3 : ((rw_.length : Int) % 4 != 0) = true := by have := of_decide_eq_false hpad; simp; omega
                have HQ2 := Aside0.mk (show rw_ ++ [0, 0] = rq by rw [← HPQ.out]; unfold m10Pad; rw [if_neg (of_decide_eq_false hpad)])
                clear hpad
                go_wp2_with (at_builtin; refine Kd.R_append_row (Value.int .u8) (0 : Int) (h1 := fun _ => rfl) (w0 := wo) wo.heap.size rfl (.tmp 91) (.tmp 92) 45 5 (.int .u8 0) 1 rfl Try.underlying45 info5 rfl (by decide) (.slice Ar rw_.length cr) rw_ [0, 0] (some ⟨wr.heap.size, 0, none⟩) 2 2 (fun _ => True) rfl rfl (fun _ _ => trivial) (Kd.R_alloc HRW.out _) (lit_C _ _ _) (below_alloc HBW.out _) (by have := HBW.out.size; simp; omega) (by omega) ?_)
                intro v1 w1 hr1 hb1 _ _
                rw [HQ2.out] at hr1
                obtain ⟨Aq, cq, rfl⟩ := Kd.R_slice hr1
                have HRV := Aside0.mk hr1
                have HBV := Aside0.mk hb1
                clear hr1 hb1
                go_wp2_with fail
                refine (slipwayref1_Bytes.calls 9 (pv : Int) 4 _ _ HP4.out).mono ?_
                rintro e w3 ⟨rfl, hb3⟩
                have HB3 := Aside0.mk (below_then HBV.out HBV.out.size hb3)
                have HR3 := Aside0.mk (show Kd.R (Kd.int .u8) 5 w3 wo.heap.size (fun k => wo.heap.size ≤ k ∧ k < w3.heap.size) (.slice Aq rq.length cq) rq from Kd.R_mono (Kd.R_bound (Kd.R_below HRV.out hb3)) (fun k hk => ⟨hk.2.1, hk.2.2.1⟩))
                have HN0 := Aside0.mk (show NOk wo.heap.size w3.heap.size u8 from fun k hk => .inl (HE.out.block k hk).2)
                have HB3' := Aside0.mk (below_then HBE.out HBE.out.size HB3.out)
                clear hb3
                go_wp2_with (at_builtin; refine wp_append_E4 rfl (.tmp 94) (.tmp 98) 45 9 5 rfl Try.underlying45 info5 w2.heap.size _ bs P4 rfl (HE.out.below HB3.out) _ rfl (src_strN Try.underlying9 _ HP4B.out) (by have := HP4L.out; omega) HB3'.out.size ?_)
                intro v4 w4 HE4 HG4 HAT4
                have HN4 := Aside0.mk (HN0.out.next (Nat.le_refl _) HAT4.out)
                have HR4 := Aside0.mk (R_nok HR3.out HN0.out HG4.out)
                have HB4 := Aside0.mk (pw_below_grown HB3'.out _ HB3'.out.size HG4.out (fun k e => ((HE.out.below HB3.out).block k e).1))
                have HS4 := Aside0.mk HG4.out.size
                go_wp2_with fail
                refine (slipwayref1_Bytes.calls 9 (zv : Int) 4 _ _ HZ4.out).mono ?_
                rintro e w5 ⟨rfl, hb5⟩
                have HE5 := Aside0.mk (HE4.out.below hb5)
                have HR5 := Aside0.mk (Kd.R_below HR4.out hb5)
                have HB5 := Aside0.mk (below_then HB4.out HB4.out.size hb5)
                have HS5 := Aside0.mk (Nat.le_trans HS4.out hb5.size)
                clear hb5
                go_wp2_with (at_builtin; refine wp_append_E4 rfl (.tmp 99) (.tmp 104) 45 9 5 rfl Try.underlying45 info5 w2.heap.size _ (bs ++ P4) Z4 rfl HE5.out _ rfl (src_strN Try.underlying9 _ HZ4B.out) (by have := HP4L.out; have := HZ4L.out; rw [List.length_append]; omega) HB5.out.size ?_)
                intro v6 w6 HE6 HG6 HAT6
                have HN6 := Aside0.mk (HN4.out.next HS5.out HAT6.out)
                have HR6 := Aside0.mk (R_nok HR5.out HN4.out HG6.out)
                have HB6 := Aside0.mk (pw_below_grown HB5.out _ HB5.out.size HG6.out (fun k e => (HE5.out.block k e).1))
                go_wp2_with (at_builtin; refine wp_append_E4 rfl (.tmp 105) (.tmp 106) 45 45 5 rfl Try.underlying45 info5 w2.heap.size _ (bs ++ (P4 ++ Z4)) rq rfl HE6.out _ rfl (src_C Try.underlying45 (Kd.R_reads' HR6.out).2.2) (by have := HP4L.out; have := HZ4L.out; rw [List.length_append, List.length_append]; omega) HB6.out.size ?_)
                intro v7 w7 HE7 HG7 _
                have HB7 := Aside0.mk (pw_below_grown HB6.out _ HB6.out.size HG7.out (fun k e => (HE6.out.block k e).1))
                go_wp2
                go_roundw
                case rel => exact ⟨k, by omega, rfl, ⟨_, rfl⟩, ⟨_, rfl⟩, ⟨_, rfl⟩, ⟨_, rfl⟩, ⟨bs ++ (P4 ++ (Z4 ++ rq)), fu, by first | exact HE7.out | (have h7 := HE7.out; simp only [List.append_assoc] at h7; exact h7), HEND.out, by have := HFU.out; omega, by have := HP4L.out; have := HZ4L.out; have := HRQL.out; simp only [List.length_append]; omega, HB7.out⟩⟩
                case measure => simp [intOf]; omega
              · have d3 : ((rw_.length : Int) % 4 != 0) = false := by have := of_decide_eq_true hpad; simp; omega
                have hq2 : rq = rw_ := by rw [← HPQ.out]; unfold m10Pad; rw [if_pos (of_decide_eq_true hpad)]
                subst hq2
                obtain ⟨Aq, rfl⟩ : ∃ x, x = Ar := ⟨_, rfl⟩
                obtain ⟨cq, rfl⟩ : ∃ x, x = cr := ⟨_, rfl⟩
                have HRV := HRW
                have HBV := HBW
                clear hpad
                go_wp2_with fail
                refine (slipwayref1_Bytes.calls 9 (pv : Int) 4 _ _ HP4.out).mono ?_
                rintro e w3 ⟨rfl, hb3⟩
                have HB3 := Aside0.mk (below_then HBV.out HBV.out.size hb3)
                have HR3 := Aside0.mk (show Kd.R (Kd.int .u8) 5 w3 wo.heap.size (fun k => wo.heap.size ≤ k ∧ k < w3.heap.size) (.slice Aq rq.length cq) rq from Kd.R_mono (Kd.R_bound (Kd.R_below HRV.out hb3)) (fun k hk => ⟨hk.2.1, hk.2.2.1⟩))
                have HN0 := Aside0.mk (show NOk wo.heap.size w3.heap.size u8 from fun k hk => .inl (HE.out.block k hk).2)
                have HB3' := Aside0.mk (below_then HBE.out HBE.out.size HB3.out)
                clear hb3
                go_wp2_with (at_builtin; refine wp_append_E4 rfl (.tmp 94) (.tmp 98) 45 9 5 rfl Try.underlying45 info5 w2.heap.size _ bs P4 rfl (HE.out.below HB3.out) _ rfl (src_strN Try.underlying9 _ HP4B.out) (by have := HP4L.out; omega) HB3'.out.size ?_)
                intro v4 w4 HE4 HG4 HAT4
                have HN4 := Aside0.mk (HN0.out.next (Nat.le_refl _) HAT4.out)
                have HR4 := Aside0.mk (R_nok HR3.out HN0.out HG4.out)
                have HB4 := Aside0.mk (pw_below_grown HB3'.out _ HB3'.out.size HG4.out (fun k e => ((HE.out.below HB3.out).block k e).1))
                have HS4 := Aside0.mk HG4.out.size
                go_wp2_with fail
                refine (slipwayref1_Bytes.calls 9 (zv : Int) 4 _ _ HZ4.out).mono ?_
                rintro e w5 ⟨rfl, hb5⟩
                have HE5 := Aside0.mk (HE4.out.below hb5)
                have HR5 := Aside0.mk (Kd.R_below HR4.out hb5)
                have HB5 := Aside0.mk (below_then HB4.out HB4.out.size hb5)
                have HS5 := Aside0.mk (Nat.le_trans HS4.out hb5.size)
                clear hb5
                go_wp2_with (at_builtin; refine wp_append_E4 rfl (.tmp 99) (.tmp 104) 45 9 5 rfl Try.underlying45 info5 w2.heap.size _ (bs ++ P4) Z4 rfl HE5.out _ rfl (src_strN Try.underlying9 _ HZ4B.out) (by have := HP4L.out; have := HZ4L.out; rw [List.length_append]; omega) HB5.out.size ?_)
                intro v6 w6 HE6 HG6 HAT6
                have HN6 := Aside0.mk (HN4.out.next HS5.out HAT6.out)
                have HR6 := Aside0.mk (R_nok HR5.out HN4.out HG6.out)
                have HB6 := Aside0.mk (pw_below_grown HB5.out _ HB5.out.size HG6.out (fun k e => (HE5.out.block k e).1))
                go_wp2_with (at_builtin; refine wp_append_E4 rfl (.tmp 105) (.tmp 106) 45 45 5 rfl Try.underlying45 info5 w2.heap.size _ (bs ++ (P4 ++ Z4)) rq rfl HE6.out _ rfl (src_C Try.underlying45 (Kd.R_reads' HR6.out).2.2) (by have := HP4L.out; have := HZ4L.out; rw [List.length_append, List.length_append]; omega) HB6.out.size ?_)
                intro v7 w7 HE7 HG7 _
                have HB7 := Aside0.mk (pw_below_grown HB6.out _ HB6.out.size HG7.out (fun k e => (HE6.out.block k e).1))
                go_wp2
                go_roundw
                case rel => exact ⟨k, by omega, rfl, ⟨_, rfl⟩, ⟨_, rfl⟩, ⟨_, rfl⟩, ⟨_, rfl⟩, ⟨bs ++ (P4 ++ (Z4 ++ rq)), fu, by first | exact HE7.out | (have h7 := HE7.out; simp only [List.append_assoc] at h7; exact h7), HEND.out, by have := HFU.out; omega, by have := HP4L.out; have := HZ4L.out; have := HRQL.out; simp only [List.length_append]; omega, HB7.out⟩⟩
                case measure => simp [intOf]; omega
              · have d3 : ((rw_.length : Int) % 4 != 0) = true := by have := of_decide_eq_false hpad; simp; omega
                have HQ2 := Aside0.mk (show rw_ ++ [0, 0] = rq by rw [← HPQ.out]; unfold m10Pad; rw [if_neg (of_decide_eq_false hpad)])
                clear hpad
                go_wp2_with (at_builtin; refine Kd.R_append_row (Value.int .u8) (0 : Int) (h1 := fun _ => rfl) (w0 := wo) wo.heap.size rfl (.tmp 91) (.tmp 92) 45 5 (.int .u8 0) 1 rfl Try.underlying45 info5 rfl (by decide) (.slice Ar rw_.length cr) rw_ [0, 0] (some ⟨wr.heap.size, 0, none⟩) 2 2 (fun _ => True) rfl rfl (fun _ _ => trivial) (Kd.R_alloc HRW.out _) (lit_C _ _ _) (below_alloc HBW.out _) (by have := HBW.out.size; simp; omega) (by omega) ?_)
                intro v1 w1 hr1 hb1 _ _
                rw [HQ2.out] at hr1
                obtain ⟨Aq, cq, rfl⟩ := Kd.R_slice hr1
                have HRV := Aside0.mk hr1
                have HBV := Aside0.mk hb1
                clear hr1 hb1
                go_wp2_with fail
                refine (slipwayref1_Bytes.calls 9 (pv : Int) 4 _ _ HP4.out).mono ?_
                rintro e w3 ⟨rfl, hb3⟩
                have HB3 := Aside0.mk (below_then HBV.out HBV.out.size hb3)
                have HR3 := Aside0.mk (show Kd.R (Kd.int .u8) 5 w3 wo.heap.size (fun k => wo.heap.size ≤ k ∧ k < w3.heap.size) (.slice Aq rq.length cq) rq from Kd.R_mono (Kd.R_bound (Kd.R_below HRV.out hb3)) (fun k hk => ⟨hk.2.1, hk.2.2.1⟩))
                have HN0 := Aside0.mk (show NOk wo.heap.size w3.heap.size u8 from fun k hk => .inl (HE.out.block k hk).2)
                have HB3' := Aside0.mk (below_then HBE.out HBE.out.size HB3.out)
                clear hb3
                go_wp2_with (at_builtin; refine wp_append_E4 rfl (.tmp 94) (.tmp 98) 45 9 5 rfl Try.underlying45 info5 w2.heap.size _ bs P4 rfl (HE.out.below HB3.out) _ rfl (src_strN Try.underlying9 _ HP4B.out) (by have := HP4L.out; omega) HB3'.out.size ?_)
                intro v4 w4 HE4 HG4 HAT4
                have HN4 := Aside0.mk (HN0.out.next (Nat.le_refl _) HAT4.out)
                have HR4 := Aside0.mk (R_nok HR3.out HN0.out HG4.out)
                have HB4 := Aside0.mk (pw_below_grown HB3'.out _ HB3'.out.size HG4.out (fun k e => ((HE.out.below HB3.out).block k e).1))
                have HS4 := Aside0.mk HG4.out.size
                go_wp2_with fail
                refine (slipwayref1_Bytes.calls 9 (zv : Int) 4 _ _ HZ4.out).mono ?_
                rintro e w5 ⟨rfl, hb5⟩
                have HE5 := Aside0.mk (HE4.out.below hb5)
                have HR5 := Aside0.mk (Kd.R_below HR4.out hb5)
                have HB5 := Aside0.mk (below_then HB4.out HB4.out.size hb5)
                have HS5 := Aside0.mk (Nat.le_trans HS4.out hb5.size)
                clear hb5
                go_wp2_with (at_builtin; refine wp_append_E4 rfl (.tmp 99) (.tmp 104) 45 9 5 rfl Try.underlying45 info5 w2.heap.size _ (bs ++ P4) Z4 rfl HE5.out _ rfl (src_strN Try.underlying9 _ HZ4B.out) (by have := HP4L.out; have := HZ4L.out; rw [List.length_append]; omega) HB5.out.size ?_)
                intro v6 w6 HE6 HG6 HAT6
                have HN6 := Aside0.mk (HN4.out.next HS5.out HAT6.out)
                have HR6 := Aside0.mk (R_nok HR5.out HN4.out HG6.out)
                have HB6 := Aside0.mk (pw_below_grown HB5.out _ HB5.out.size HG6.out (fun k e => (HE5.out.block k e).1))
                go_wp2_with (at_builtin; refine wp_append_E4 rfl (.tmp 105) (.tmp 106) 45 45 5 rfl Try.underlying45 info5 w2.heap.size _ (bs ++ (P4 ++ Z4)) rq rfl HE6.out _ rfl (src_C Try.underlying45 (Kd.R_reads' HR6.out).2.2) (by have := HP4L.out; have := HZ4L.out; rw [List.length_append, List.length_append]; omega) HB6.out.size ?_)
                intro v7 w7 HE7 HG7 _
                have HB7 := Aside0.mk (pw_below_grown HB6.out _ HB6.out.size HG7.out (fun k e => (HE6.out.block k e).1))
                go_wp2
                go_roundw
                case rel => exact ⟨k, by omega, rfl, ⟨_, rfl⟩, ⟨_, rfl⟩, ⟨_, rfl⟩, ⟨_, rfl⟩, ⟨bs ++ (P4 ++ (Z4 ++ rq)), fu, by first | exact HE7.out | (have h7 := HE7.out; simp only [List.append_assoc] at h7; exact h7), HEND.out, by have := HFU.out; omega, by have := HP4L.out; have := HZ4L.out; have := HRQL.out; simp only [List.length_append]; omega, HB7.out⟩⟩
                case measure => simp [intOf]; omega
              · have d3 : ((rw_.length : Int) % 4 != 0) = false := by have := of_decide_eq_true hpad; simp; omega
                have hq2 : rq = rw_ := by rw [← HPQ.out]; unfold m10Pad; rw [if_pos (of_decide_eq_true hpad)]
                subst hq2
                obtain ⟨Aq, rfl⟩ : ∃ x, x = Ar := ⟨_, rfl⟩
                obtain ⟨cq, rfl⟩ : ∃ x, x = cr := ⟨_, rfl⟩
                have HRV := HRW
                have HBV := HBW
                clear hpad
                go_wp2_with fail
                refine (slipwayref1_Bytes.calls 9 (pv : Int) 4 _ _ HP4.out).mono ?_
                rintro e w3 ⟨rfl, hb3⟩
                have HB3 := Aside0.mk (below_then HBV.out HBV.out.size hb3)
                have HR3 := Aside0.mk (show Kd.R (Kd.int .u8) 5 w3 wo.heap.size (fun k => wo.heap.size ≤ k ∧ k < w3.heap.size) (.slice Aq rq.length cq) rq from Kd.R_mono (Kd.R_bound (Kd.R_below HRV.out hb3)) (fun k hk => ⟨hk.2.1, hk.2.2.1⟩))
                have HN0 := Aside0.mk (show NOk wo.heap.size w3.heap.size u8 from fun k hk => .inl (HE.out.block k hk).2)
                have HB3' := Aside0.mk (below_then HBE.out HBE.out.size HB3.out)
                clear hb3
                go_wp2_with (at_builtin; refine wp_append_E4 rfl (.tmp 94) (.tmp 98) 45 9 5 rfl Try.underlying45 info5 w2.heap.size _ bs P4 rfl (HE.out.below HB3.out) _ rfl (src_strN Try.underlying9 _ HP4B.out) (by have := HP4L.out; omega) HB3'.out.size ?_)
                intro v4 w4 HE4 HG4 HAT4
                have HN4 := Aside0.mk (HN0.out.next (Nat.le_refl _) HAT4.out)
                have HR4 := Aside0.mk (R_nok HR3.out HN0.out HG4.out)
                have HB4 := Aside0.mk (pw_below_grown HB3'.out _ HB3'.out.size HG4.out (fun k e => ((HE.out.below HB3.out).block k e).1))
                have HS4 := Aside0.mk HG4.out.size
                go_wp2_with fail
                refine (slipwayref1_Bytes.calls 9 (zv : Int) 4 _ _ HZ4.out).mono ?_
                rintro e w5 ⟨rfl, hb5⟩
                have HE5 := Aside0.mk (HE4.out.below hb5)
                have HR5 := Aside0.mk (Kd.R_below HR4.out hb5)
                have HB5 := Aside0.mk (below_then HB4.out HB4.out.size hb5)
                have HS5 := Aside0.mk (Nat.le_trans HS4.out hb5.size)
                clear hb5
                go_wp2_with (at_builtin; refine wp_append_E4 rfl (.tmp 99) (.tmp 104) 45 9 5 rfl Try.underlying45 info5 w2.heap.size _ (bs ++ P4) Z4 rfl HE5.out _ rfl (src_strN Try.underlying9 _ HZ4B.out) (by have := HP4L.out; have := HZ4L.out; rw [List.length_append]; omega) HB5.out.size ?_)
                intro v6 w6 HE6 HG6 HAT6
                have HN6 := Aside0.mk (HN4.out.next HS5.out HAT6.out)
                have HR6 := Aside0.mk (R_nok HR5.out HN4.out HG6.out)
                have HB6 := Aside0.mk (pw_below_grown HB5.out _ HB5.out.size HG6.out (fun k e => (HE5.out.block k e).1))
                go_wp2_with (at_builtin; refine wp_append_E4 rfl (.tmp 105) (.tmp 106) 45 45 5 rfl Try.underlying45 info5 w2.heap.size _ (bs ++ (P4 ++ Z4)) rq rfl HE6.out _ rfl (src_C Try.underlying45 (Kd.R_reads' HR6.out).2.2) (by have := HP4L.out; have := HZ4L.out; rw [List.length_append, List.length_append]; omega) HB6.out.size ?_)
                intro v7 w7 HE7 HG7 _
                have HB7 := Aside0.mk (pw_below_grown HB6.out _ HB6.out.size HG7.out (fun k e => (HE6.out.block k e).1))
                go_wp2
                go_roundw
                case rel => exact ⟨k, by omega, rfl, ⟨_, rfl⟩, ⟨_, rfl⟩, ⟨_, rfl⟩, ⟨_, rfl⟩, ⟨bs ++ (P4 ++ (Z4 ++ rq)), fu, by first | exact HE7.out | (have h7 := HE7.out; simp only [List.append_assoc] at h7; exact h7), HEND.out, by have := HFU.out; omega, by have := HP4L.out; have := HZ4L.out; have := HRQL.out; simp only [List.length_append]; omega, HB7.out⟩⟩
                case measure => simp [intOf]; omega
              · have d3 : ((rw_.length : Int) % 4 != 0) = true := by have := of_decide_eq_false hpad; simp; omega
                have HQ2 := Aside0.mk (show rw_ ++ [0, 0] = rq by rw [← HPQ.out]; unfold m10Pad; rw [if_neg (of_decide_eq_false hpad)])
                clear hpad
                go_wp2_with (at_builtin; refine Kd.R_append_row (Value.int .u8) (0 : Int) (h1 := fun _ => rfl) (w0 := wo) wo.heap.size rfl (.tmp 91) (.tmp 92) 45 5 (.int .u8 0) 1 rfl Try.underlying45 info5 rfl (by decide) (.slice Ar rw_.length cr) rw_ [0, 0] (some ⟨wr.heap.size, 0, none⟩) 2 2 (fun _ => True) rfl rfl (fun _ _ => trivial) (Kd.R_alloc HRW.out _) (lit_C _ _ _) (below_alloc HBW.out _) (by have := HBW.out.size; simp; omega) (by omega) ?_)
                intro v1 w1 hr1 hb1 _ _
                rw [HQ2.out] at hr1
                obtain ⟨Aq, cq, rfl⟩ := Kd.R_slice hr1
                have HRV := Aside0.mk hr1
                have HBV := Aside0.mk hb1
                clear hr1 hb1
                go_wp2_with fail
                refine (slipwayref1_Bytes.calls 9 (pv : Int) 4 _ _ HP4.out).mono ?_
                rintro e w3 ⟨rfl, hb3⟩
                have HB3 := Aside0.mk (below_then HBV.out HBV.out.size hb3)
                have HR3 := Aside0.mk (show Kd.R (Kd.int .u8) 5 w3 wo.heap.size (fun k => wo.heap.size ≤ k ∧ k < w3.heap.size) (.slice Aq rq.length cq) rq from Kd.R_mono (Kd.R_bound (Kd.R_below HRV.out hb3)) (fun k hk => ⟨hk.2.1, hk.2.2.1⟩))
                have HN0 := Aside0.mk (show NOk wo.heap.size w3.heap.size u8 from fun k hk => .inl (HE.out.block k hk).2)
                have HB3' := Aside0.mk (below_then HBE.out HBE.out.size HB3.out)
                clear hb3
                go_wp2_with (at_builtin; refine wp_append_E4 rfl (.tmp 94) (.tmp 98) 45 9 5 rfl Try.underlying45 info5 w2.heap.size _ bs P4 rfl (HE.out.below HB3.out) _ rfl (src_strN Try.underlying9 _ HP4B.out) (by have := HP4L.out; omega) HB3'.out.size ?_)
                intro v4 w4 HE4 HG4 HAT4
                have HN4 := Aside0.mk (HN0.out.next (Nat.le_refl _) HAT4.out)
                have HR4 := Aside0.mk (R_nok HR3.out HN0.out HG4.out)
                have HB4 := Aside0.mk (pw_below_grown HB3'.out _ HB3'.out.size HG4.out (fun k e => ((HE.out.below HB3.out).block k e).1))
                have HS4 := Aside0.mk HG4.out.size
                go_wp2_with fail
                refine (slipwayref1_Bytes.calls 9 (zv : Int) 4 _ _ HZ4.out).mono ?_
                rintro e w5 ⟨rfl, hb5⟩
                have HE5 := Aside0.mk (HE4.out.below hb5)
                have HR5 := Aside0.mk (Kd.R_below HR4.out hb5)
                have HB5 := Aside0.mk (below_then HB4.out HB4.out.size hb5)
                have HS5 := Aside0.mk (Nat.le_trans HS4.out hb5.size)
                clear hb5
                go_wp2_with (at_builtin; refine wp_append_E4 rfl (.tmp 99) (.tmp 104) 45 9 5 rfl Try.underlying45 info5 w2.heap.size _ (bs ++ P4) Z4 rfl HE5.out _ rfl (src_strN Try.underlying9 _ HZ4B.out) (by have := HP4L.out; have := HZ4L.out; rw [List.length_append]; omega) HB5.out.size ?_)
                intro v6 w6 HE6 HG6 HAT6
                have HN6 := Aside0.mk (HN4.out.next HS5.out HAT6.out)
                have HR6 := Aside0.mk (R_nok HR5.out HN4.out HG6.out)
                have HB6 := Aside0.mk (pw_below_grown HB5.out _ HB5.out.size HG6.out (fun k e => (HE5.out.block k e).1))
                go_wp2_with (at_builtin; refine wp_append_E4 rfl (.tmp 105) (.tmp 106) 45 45 5 rfl Try.underlying45 info5 w2.heap.size _ (bs ++ (P4 ++ Z4)) rq rfl HE6.out _ rfl (src_C Try.underlying45 (Kd.R_reads' HR6.out).2.2) (by have := HP4L.out; have := HZ4L.out; rw [List.length_append, List.length_append]; omega) HB6.out.size ?_)
                intro v7 w7 HE7 HG7 _
                have HB7 := Aside0.mk (pw_below_grown HB6.out _ HB6.out.size HG7.out (fun k e => (HE6.out.block k e).1))
                go_wp2
                go_roundw
                case rel => exact ⟨k, by omega, rfl, ⟨_, rfl⟩, ⟨_, rfl⟩, ⟨_, rfl⟩, ⟨_, rfl⟩, ⟨bs ++ (P4 ++ (Z4 ++ rq)), fu, by first | exact HE7.out | (have h7 := HE7.out; simp only [List.append_assoc] at h7; exact h7), HEND.out, by have := HFU.out; omega, by have := HP4L.out; have := HZ4L.out; have := HRQL.out; simp only [List.length_append]; omega, HB7.out⟩⟩
                case measure => simp [intOf]; omega
              · have d3 : ((rw_.length : Int) % 4 != 0) = false := by have := of_decide_eq_true hpad; simp; omega
                have hq2 : rq = rw_ := by rw [← HPQ.out]; unfold m10Pad; rw [if_pos (of_decide_eq_true hpad)]
                subst hq2
                obtain ⟨Aq, rfl⟩ : ∃ x, x = Ar := ⟨_, rfl⟩
                obtain ⟨cq, rfl⟩ : ∃ x, x = cr := ⟨_, rfl⟩
                have HRV := HRW
                have HBV := HBW
                clear hpad
                go_wp2_with fail
                refine (slipwayref1_Bytes.calls 9 (pv : Int) 4 _ _ HP4.out).mono ?_
                rintro e w3 ⟨rfl, hb3⟩
                have HB3 := Aside0.mk (below_then HBV.out HBV.out.size hb3)
                have HR3 := Aside0.mk (show Kd.R (Kd.int .u8) 5 w3 wo.heap.size (fun k => wo.heap.size ≤ k ∧ k < w3.heap.size) (.slice Aq rq.length cq) rq from Kd.R_mono (Kd.R_bound (Kd.R_below HRV.out hb3)) (fun k hk => ⟨hk.2.1, hk.2.2.1⟩))
                have HN0 := Aside0.mk (show NOk wo.heap.size w3.heap.size u8 from fun k hk => .inl (HE.out.block k hk).2)
                have HB3' := Aside0.mk (below_then HBE.out HBE.out.size HB3.out)
                clear hb3
                go_wp2_with (at_builtin; refine wp_append_E4 rfl (.tmp 94) (.tmp 98) 45 9 5 rfl Try.underlying45 info5 w2.heap.size _ bs P4 rfl (HE.out.below HB3.out) _ rfl (src_strN Try.underlying9 _ HP4B.out) (by have := HP4L.out; omega) HB3'.out.size ?_)
                intro v4 w4 HE4 HG4 HAT4
                have HN4 := Aside0.mk (HN0.out.next (Nat.le_refl _) HAT4.out)
                have HR4 := Aside0.mk (R_nok HR3.out HN0.out HG4.out)
                have HB4 := Aside0.mk (pw_below_grown HB3'.out _ HB3'.out.size HG4.out (fun k e => ((HE.out.below HB3.out).block k e).1))
                have HS4 := Aside0.mk HG4.out.size
                go_wp2_with fail
                refine (slipwayref1_Bytes.calls 9 (zv : Int) 4 _ _ HZ4.out).mono ?_
                rintro e w5 ⟨rfl, hb5⟩
                have HE5 := Aside0.mk (HE4.out.below hb5)
                have HR5 := Aside0.mk (Kd.R_below HR4.out hb5)
                have HB5 := Aside0.mk (below_then HB4.out HB4.out.size hb5)
                have HS5 := Aside0.mk (Nat.le_trans HS4.out hb5.size)
                clear hb5
                go_wp2_with (at_builtin; refine wp_append_E4 rfl (.tmp 99) (.tmp 104) 45 9 5 rfl Try.underlying45 info5 w2.heap.size _ (bs ++ P4) Z4 rfl HE5.out _ rfl (src_strN Try.underlying9 _ HZ4B.out) (by have := HP4L.out; have := HZ4L.out; rw [List.length_append]; omega) HB5.out.size ?_)
                intro v6 w6 HE6 HG6 HAT6
                have HN6 := Aside0.mk (HN4.out.next HS5.out HAT6.out)
                have HR6 := Aside0.mk (R_nok HR5.out HN4.out HG6.out)
                have HB6 := Aside0.mk (pw_below_grown HB5.out _ HB5.out.size HG6.out (fun k e => (HE5.out.block k e).1))
                go_wp2_with (at_builtin; refine wp_append_E4 rfl (.tmp 105) (.tmp 106) 45 45 5 rfl Try.underlying45 info5 w2.heap.size _ (bs ++ (P4 ++ Z4)) rq rfl HE6.out _ rfl (src_C Try.underlying45 (Kd.R_reads' HR6.out).2.2) (by have := HP4L.out; have := HZ4L.out; rw [List.length_append, List.length_append]; omega) HB6.out.size ?_)
                intro v7 w7 HE7 HG7 _
                have HB7 := Aside0.mk (pw_below_grown HB6.out _ HB6.out.size HG7.out (fun k e => (HE6.out.block k e).1))
                go_wp2
                go_roundw
                case rel => exact ⟨k, by omega, rfl, ⟨_, rfl⟩, ⟨_, rfl⟩, ⟨_, rfl⟩, ⟨_, rfl⟩, ⟨bs ++ (P4 ++ (Z4 ++ rq)), fu, by first | exact HE7.out | (have h7 := HE7.out; simp only [List.append_assoc] at h7; exact h7), HEND.out, by have := HFU.out; omega, by have := HP4L.out; have := HZ4L.out; have := HRQL.out; simp only [List.length_append]; omega, HB7.out⟩⟩
                case measure => simp [intOf]; omega
        · obtain rfl : i = L.length := by omega
          obtain ⟨bs, fu, hE, hbs, hfu, hbl, hbe⟩ := HM.out
          have hbs2 : bs = B := by
            rw [← hbs, List.drop_length]
            cases fu <;> simp [m10Blocks]
          subst hbs2
          have hlen := HLN.out
          have hbl2 : bs.length ≤ 720 := by omega
          obtain ⟨Ab, cb, rfl, _, _⟩ := hE.slice
          have HCb := Aside0.mk hE.C.2.2
          have HWB := Aside0.mk (below_then HW.out.2.2 HW.out.2.2.size hbe)
          have HWX := Aside0.mk (blk_below HW.out.1 hbe)
          have HWR := Aside0.mk (show Kd.R (Kd.int .u8) 5 wr w.heap.size (fun k => k ≠ w.heap.size) (.slice (some ⟨w.heap.size + 1, 0, none⟩) n n) (m10Head n) by
            refine Kd.R_below (Kd.R_of_own (h1 := fun _ => rfl) ?_ (fun k hk => ?_)) hbe
            · rw [← m10Part_full, m10Part_len]
              exact HW.out.2.1
            · simp [Value.ownBlock] at hk
              omega)
          have HHL := Aside0.mk (show (m10Head n).length = n by simp [m10Head])
          have hcase : (l0.length ≤ L.length ∧ decide (L.length < l0.length) = false) ∨ (decide (L.length < l0.length) = true ∧ 60 ≤ L.length ∧ decide ((L.length : Int) < 60) = false) := by
            rcases Nat.lt_or_ge L.length l0.length with h | h
            · exact .inr ⟨decide_eq_true h, by omega, decide_eq_false (by omega)⟩
            · exact .inl ⟨h, decide_eq_false (by omega)⟩
          clear hE hbs hfu hbl hbe HM HBL hlen
          rcases hcase with ⟨t1, d1⟩ | ⟨d1, t1, d2⟩
          · go_wp2_with (at_builtin; refine Kd.R_append_row (Value.int .u8) (0 : Int) (h1 := fun _ => rfl) (w0 := w) w.heap.size rfl (.tmp 109) (.tmp 110) 45 5 (.int .u8 0) 1 rfl Try.underlying45 info5 rfl (by decide) (.slice (some ⟨w.heap.size + 1, 0, none⟩) n n) (m10Head n) bs Ab bs.length cb (fun k => k ≠ w.heap.size) rfl rfl (fun k hk => by have := blk_lt HWX.out; omega) HWR.out HCb.out HWB.out HWB.out.size (by have := HHL.out; omega) ?_)
            intro v1 w1 hr1 hb1 hg1 _
            have hX := blk_grown HWX.out hg1 (by simp [Value.ownBlock])
            have HR1 := Aside0.mk hr1
            have HB1 := Aside0.mk hb1
            have hf0 := blk_frozen hX 0
            have hf1 := blk_frozen hX 1
            have hg0 := blk_cell hX 0
            have hg2 := blk_cell hX 1
            have hk0 : (w1.setCell ⟨w.heap.size, 0, none⟩ (.int .i64 (n : Int))).cell? ⟨w.heap.size, 0, none⟩ = some (.int .i64 (n : Int)) := (blk_cell (blk_set hX 0 _) 0).trans rfl
            have hk1 : ((w1.setCell ⟨w.heap.size, 0, none⟩ (.int .i64 (n : Int))).setCell ⟨w.heap.size, 1, none⟩ (.int .i64 (bs.length : Int))).cell? ⟨w.heap.size, 1, none⟩ = some (.int .i64 (bs.length : Int)) := (blk_cell (blk_set (blk_set hX 0 _) 1 _) 1).trans rfl
            clear hr1 hb1 hg1
            go_wp2
            exact bodyPost_ret (v := .tuple #[v1, .agg #[.int .i64 (n : Int), .int .i64 (bs.length : Int)]]) (by simp [results, Try.results31, go_sem, hk0, hk1]) rfl ⟨_, rfl, Kd.R_mono (Kd.R_far (Kd.R_far HR1.out (fun _ h => h) _) (fun _ h => h) _) (fun _ _ => trivial), (HB1.out.setCell (by simp) _).setCell (by simp) _⟩
          · go_wp2_with (at_builtin; refine Kd.R_append_row (Value.int .u8) (0 : Int) (h1 := fun _ => rfl) (w0 := w) w.heap.size rfl (.tmp 109) (.tmp 110) 45 5 (.int .u8 0) 1 rfl Try.underlying45 info5 rfl (by decide) (.slice (some ⟨w.heap.size + 1, 0, none⟩) n n) (m10Head n) bs Ab bs.length cb (fun k => k ≠ w.heap.size) rfl rfl (fun k hk => by have := blk_lt HWX.out; omega) HWR.out HCb.out HWB.out HWB.out.size (by have := HHL.out; omega) ?_)
            intro v1 w1 hr1 hb1 hg1 _
            have hX := blk_grown HWX.out hg1 (by simp [Value.ownBlock])
            have HR1 := Aside0.mk hr1
            have HB1 := Aside0.mk hb1
            have hf0 := blk_frozen hX 0
            have hf1 := blk_frozen hX 1
            have hg0 := blk_cell hX 0
            have hg2 := blk_cell hX 1
            have hk0 : (w1.setCell ⟨w.heap.size, 0, none⟩ (.int .i64 (n : Int))).cell? ⟨w.heap.size, 0, none⟩ = some (.int .i64 (n : Int)) := (blk_cell (blk_set hX 0 _) 0).trans rfl
            have hk1 : ((w1.setCell ⟨w.heap.size, 0, none⟩ (.int .i64 (n : Int))).setCell ⟨w.heap.size, 1, none⟩ (.int .i64 (bs.length : Int))).cell? ⟨w.heap.size, 1, none⟩ = some (.int .i64 (bs.length : Int)) := (blk_cell (blk_set (blk_set hX 0 _) 1 _) 1).trans rfl
            clear hr1 hb1 hg1
            go_wp2
            exact bodyPost_ret (v := .tuple #[v1, .agg #[.int .i64 (n : Int), .int .i64 (bs.length : Int)]]) (by simp [results, Try.results31, go_sem, hk0, hk1]) rfl ⟨_, rfl, Kd.R_mono (Kd.R_far (Kd.R_far HR1.out (fun _ h => h) _) (fun _ h => h) _) (fun _ _ => trivial), (HB1.out.setCell (by simp) _).setCell (by simp) _⟩


end Go.Proofs.Ytjifmpjpccibnaa.D
