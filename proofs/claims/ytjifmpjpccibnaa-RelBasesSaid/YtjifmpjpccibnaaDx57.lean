/- What Go functions of the program compute, each as a Lean function with its contract: written by a program of this session; some by hand. (No condition.) -/
import Derived.Test.YtjifmpjpccibnaaDx0
import Derived.Test.YtjifmpjpccibnaaDx24
import Derived.Test.YtjifmpjpccibnaaDx25
import Derived.Test.YtjifmpjpccibnaaDx26
import Derived.Test.YtjifmpjpccibnaaDx29
import Derived.Test.YtjifmpjpccibnaaDx30
import Derived.Test.YtjifmpjpccibnaaDx54
namespace Go.Proofs.Ytjifmpjpccibnaa.D
open Go.RowKit Go.Proofs.YtjifmpjpccibnaaW.PrintWords Go.Proofs.YtjifmpjpccibnaaW.PrintLast Go.Proofs.YtjifmpjpccibnaaW.PrintMore
attribute [local go_sem] max2_int min2_int max_two min_two max_three min_three max_four min_four   -- for this text's walks alone
set_option linter.unusedVariables false
set_option linter.unusedSimpArgs false

/-! ### rel_Parse: function 28 (given by hand) -/
open Go.Proofs.YtjifmpjpccibnaaE
def byteB (l : List Int) : Bool := l.all fun x => decide (0 ≤ x) && decide (x ≤ 255)
theorem byteB_mem {l : List Int} : byteB l = true ↔ ∀ x ∈ l, 0 ≤ x ∧ x ≤ 255 := by simp [byteB]
theorem byteB_take {l : List Int} (h : byteB l = true) (n : Nat) : byteB (l.take n) = true := byteB_mem.2 fun x hx => byteB_mem.1 h x (List.mem_of_mem_take hx)
theorem byteB_drop {l : List Int} (h : byteB l = true) (n : Nat) : byteB (l.drop n) = true := byteB_mem.2 fun x hx => byteB_mem.1 h x (List.mem_of_mem_drop hx)
theorem byteB_append {a b : List Int} : byteB (a ++ b) = (byteB a && byteB b) := by simp [byteB]
/-- The number of some bytes, the lowest first. -/
def leN : List Int → Nat
  | [] => 0
  | x :: l => x.toNat + 256 * leN l
theorem leN_lt (l : List Int) (h : byteB l = true) : leN l < 256 ^ l.length := by
  induction l with
  | nil => simp [leN]
  | cons x l ih =>
    have hx := byteB_mem.1 h x (by simp)
    have hl := ih (byteB_mem.2 fun y hy => byteB_mem.1 h y (by simp [hy]))
    simp only [leN, List.length_cons, Nat.pow_succ]
    omega
theorem orLoop_is (l : List Int) : ∀ (i v : Nat), byteB l = true → i + l.length ≤ 8 → v < 256 ^ i → orLoop l i (v : Int) = ((v + 256 ^ i * leN l : Nat) : Int) := by
  induction l with
  | nil => intro i v _ _ _; simp [orLoop, leN]
  | cons c r ih =>
    intro i v h hi hv
    have hc := byteB_mem.1 h c (by simp)
    obtain ⟨n, rfl⟩ := Int.eq_ofNat_of_zero_le hc.1
    have hn : n ≤ 255 := by omega
    have hr : byteB r = true := byteB_mem.2 fun y hy => byteB_mem.1 h y (by simp [hy])
    have hi7 : i ≤ 7 := by simp only [List.length_cons] at hi; omega
    have h56 : 256 ^ i ≤ 2 ^ 56 := by
      have : 256 ^ i ≤ 256 ^ 7 := Nat.pow_le_pow_right (by decide) hi7
      calc 256 ^ i ≤ 256 ^ 7 := this
        _ = 2 ^ 56 := by decide
    have h8 : (2 : Nat) ^ (8 * i) = 256 ^ i := by rw [Nat.pow_mul]
    have hm : n * 256 ^ i < 2 ^ 64 := by
      have : n * 256 ^ i ≤ 255 * 2 ^ 56 := Nat.mul_le_mul hn h56
      omega
    have hs : shl .u64 (IntKind.u64.wrap (n : Int)) (8 * (i : Int)) = ((n * 256 ^ i : Nat) : Int) := by
      have hw : ∀ z : Nat, z < 2 ^ 64 → IntKind.u64.wrap (z : Int) = (z : Int) := fun z hz => by
        simp only [IntKind.wrap, IntKind.bits, IntKind.signed]
        simp
        omega
      unfold shl
      rw [hw n (by omega), show min (8 * (i : Int)).toNat IntKind.u64.bits = 8 * i by simp [IntKind.bits]; omega]
      rw [show (n : Int) * 2 ^ (8 * i) = ((n * 256 ^ i : Nat) : Int) by rw [← h8]; simp]
      exact hw _ hm
    have hor : Go.bits .or .u64 (v : Int) ((n * 256 ^ i : Nat) : Int) = ((v + 256 ^ i * n : Nat) : Int) := by
      rw [(bits_nat .u64 64 (by decide) (fun z h0 h1 => by simp only [IntKind.wrap, IntKind.bits, IntKind.signed]; simp; omega) v (n * 256 ^ i) (by omega) hm).2]
      congr 1
      rw [Nat.or_comm, Nat.mul_comm n, ← h8, ← Nat.two_pow_add_eq_or_of_lt (by rw [h8]; exact hv) n]
      omega
    show orLoop r (i + 1) (Go.bits .or .u64 (v : Int) (shl .u64 (IntKind.u64.wrap (n : Int)) (8 * (i : Int)))) = _
    rw [hs, hor, ih (i + 1) _ hr (by simp only [List.length_cons] at hi; omega) ?_]
    · congr 1
      simp only [leN, Int.toNat_natCast, Nat.pow_succ, Nat.mul_add, Nat.mul_assoc]
      omega
    · rw [Nat.pow_succ]
      have : 256 ^ i * n ≤ 256 ^ i * 255 := Nat.mul_le_mul_left _ hn
      omega
/-- n bytes' number at a place. -/
def numAt (l : List Int) (a n : Nat) : Nat := leN ((l.drop a).take n)
theorem numAt_lt {l : List Int} (h : byteB l = true) (a n : Nat) : numAt l a n < 256 ^ n := by
  have h1 := leN_lt ((l.drop a).take n) (byteB_take (byteB_drop h a) n)
  have h2 : 256 ^ ((l.drop a).take n).length ≤ 256 ^ n := Nat.pow_le_pow_right (by decide) (by simp; omega)
  unfold numAt
  omega
theorem number_is (l : List Int) (hb : byteB l = true) (a n : Nat) (h1 : 1 ≤ n) (h8 : n ≤ 8) (h : a + n ≤ l.length) : le_number.f l (a : Int) (n : Int) = some ((numAt l a n : Int), true) := by
  unfold le_number.f
  rw [if_pos (by omega), if_neg (by omega), if_neg (by omega), if_neg (by omega)]
  have := orLoop_is ((l.drop a).take n) 0 0 (byteB_take (byteB_drop hb a) n) (by simp; omega) (by simp)
  simp only [Nat.pow_zero, Nat.one_mul, Nat.zero_add, Int.natCast_zero] at this
  simp only [Int.toNat_natCast, this, numAt]
theorem number_no (l : List Int) (a : Nat) (n : Nat) (h1 : 1 ≤ n) (h8 : n ≤ 8) (h : ¬ a + n ≤ l.length) : le_number.f l (a : Int) (n : Int) = some (0, false) := by
  unfold le_number.f
  rw [if_pos (by omega), if_neg (by omega)]
  by_cases h2 : (a : Int) > (l.length : Int)
  · rw [if_pos h2]
  · rw [if_neg h2, if_pos (by omega)]
theorem U16_is (l : List Int) (hb : byteB l = true) (a : Nat) (h : a + 2 ≤ l.length) : le_U16.f l (a : Int) = some ((numAt l a 2 : Int), true) := by
  have h1 := numAt_lt hb a 2
  have h2 := number_is l hb a 2 (by omega) (by omega) h
  unfold le_U16.f
  rw [show ((2 : Nat) : Int) = 2 from rfl] at h2
  rw [h2]
  simp only [Option.bind_some]
  rw [IntWalk.wrap64_in _ (by omega)]
theorem U32_is (l : List Int) (hb : byteB l = true) (a : Nat) (h : a + 4 ≤ l.length) : le_U32.f l (a : Int) = some ((numAt l a 4 : Int), true) := by
  have h1 := numAt_lt hb a 4
  have h2 := number_is l hb a 4 (by omega) (by omega) h
  unfold le_U32.f
  rw [show ((4 : Nat) : Int) = 4 from rfl] at h2
  rw [h2]
  simp only [Option.bind_some]
  rw [IntWalk.wrap64_in _ (by omega)]
/-- How long a site is. -/
def relLong (kind : Nat) : Nat := if kind = 3 then 4 else if kind = 10 then 8 else 0
theorem relLong_ne {k : Nat} (h : relLong k = 0) : k ≠ 3 ∧ k ≠ 10 := by
  unfold relLong at h
  constructor <;> (rintro rfl; simp at h)
theorem long_eq (k : Nat) : rel_long.f (k : Int) = some (relLong k : Int) := by
  unfold rel_long.f relLong
  by_cases h1 : k = 3
  · subst h1; rfl
  · rw [if_neg (by omega), if_neg h1]
    by_cases h2 : k = 10
    · subst h2; rfl
    · rw [if_neg (by omega), if_neg h2]; rfl
def relEntry (n p v : Nat) (out : List S60) (tk : List Int) : Bool × List S60 × List Int :=
  if v / 4096 = 0 then (true, out, tk)
  else if relLong (v / 4096) = 0 then (false, out, tk)
  else if ¬ (p + v % 4096 + relLong (v / 4096) ≤ n) then (false, out, tk)
  else if out.length = 512 then (false, out, tk)
  else if ((tk.drop (p + v % 4096)).take (relLong (v / 4096))).all (fun x => x == 0) = false then (false, out, tk)
  else (true, out ++ [⟨((v / 4096 : Nat) : Int), ((p + v % 4096 : Nat) : Int)⟩], splice tk (p + v % 4096) (List.replicate (relLong (v / 4096)) 1))
/-- A reader at block g. -/
def RS (base : Nat) (w : World) (g : Nat) (A : Option Addr) (c : Nat) (img : List Int) (out : List S60) (tk : List Int) : Prop :=
  ∃ vo vt, w.heap[g]? = some (.cells #[.slice A img.length c, vo, vt] 123 (0, 0)) ∧ base ≤ g ∧ Kd.R k60 60 w base (fun k => some k ≠ vt.ownBlock) vo out ∧ Kd.R (Kd.int .u8) 5 w base (fun _ => True) vt tk ∧ tk.length = img.length
theorem RS.below {base : Nat} {w w1 : World} {g : Nat} {A : Option Addr} {c : Nat} {img : List Int} {out : List S60} {tk : List Int} (h : RS base w g A c img out tk) (hb : Below w.heap.size w w1) : RS base w1 g A c img out tk := by
  obtain ⟨vo, vt, h1, h2, h3, h4, h5⟩ := h
  exact ⟨vo, vt, (hb.block g (Array.getElem?_eq_some_iff.1 h1).1).trans h1, h2, Kd.R_below h3 hb, Kd.R_below h4 hb, h5⟩
theorem RS.drewN {base : Nat} {w : World} {g : Nat} {A : Option Addr} {c : Nat} {img : List Int} {out : List S60} {tk : List Int} (h : RS base w g A c img out tk) (n : Nat) : RS base (w.drewN n) g A c img out tk := h.below (pw_below_drewN (Below.refl _ _) n)
theorem alloc_at (w : World) (o : Obj) : (w.alloc o).heap[w.heap.size]? = some o := by
  show (w.heap.push o)[w.heap.size]? = some o
  simp
theorem splice_get (l : List Int) (q k : Nat) (h : q + k ≤ l.length) (j : Nat) : (splice l q (List.replicate k 1))[j]? = if j < q then l[j]? else if j < q + k then some 1 else l[j]? := by
  unfold splice
  rw [List.getElem?_append]
  have h1 : (l.take q).length = q := by simp; omega
  rw [h1]
  by_cases h2 : j < q
  · rw [if_pos h2, if_pos h2, List.getElem?_take, if_pos h2]
  · rw [if_neg h2, if_neg h2, List.getElem?_append, List.length_replicate]
    by_cases h3 : j < q + k
    · rw [if_pos (by omega), if_pos h3, List.getElem?_replicate, if_pos (by omega)]
    · rw [if_neg (by omega), if_neg h3, List.getElem?_drop]
      congr 1
      omega
theorem splice_len (l : List Int) (q k : Nat) (h : q + k ≤ l.length) : (splice l q (List.replicate k 1)).length = l.length := by
  unfold splice
  simp
  omega
theorem splice_set (l : List Int) (q k : Nat) (h : q + k < l.length) : (splice l q (List.replicate k 1)).set (q + k) 1 = splice l q (List.replicate (k + 1) 1) := by
  apply List.ext_getElem?
  intro j
  rw [List.getElem?_set, splice_get l q k (by omega), splice_get l q (k + 1) (by omega), splice_len l q k (by omega)]
  by_cases hj : q + k = j
  · subst hj
    rw [if_pos rfl, if_pos h, if_neg (by omega), if_pos (by omega)]
  · rw [if_neg hj]
    by_cases h2 : j < q
    · rw [if_pos h2, if_pos h2]
    · rw [if_neg h2, if_neg h2]
      by_cases h3 : j < q + k
      · rw [if_pos h3, if_pos (by omega)]
      · rw [if_neg h3, if_neg (by omega)]
/-- What holds in the loop of entry. -/
def RJ (w0 : World) (X g : Nat) (A : Option Addr) (c : Nat) (img : List Int) (out : List S60) (vo : Value) (gt ct : Nat) (xs : List Int) (kd q : Nat) (wr : World) : Prop :=
  wr.heap[g]? = some (.cells #[.slice A img.length c, vo, .slice (some ⟨gt, 0, none⟩) img.length ct] 123 (0, 0)) ∧ wr.heap[X]? = some (.cells #[.int .i64 (kd : Int), .int .i64 (q : Int)] 60 (0, 0)) ∧
  Kd.R k60 60 wr w0.heap.size (fun k => some k ≠ (Value.slice (some ⟨gt, 0, none⟩) img.length ct).ownBlock) vo out ∧ wr.ownsRow w0.heap.size 5 1 (.slice (some ⟨gt, 0, none⟩) img.length ct) img.length (encs (Value.int .u8) xs) ∧ Below w0.heap.size w0 wr
theorem RJ.drewN {w0 : World} {X g : Nat} {A : Option Addr} {c : Nat} {img : List Int} {out : List S60} {vo : Value} {gt ct : Nat} {xs : List Int} {kd q : Nat} {wr : World} (h : RJ w0 X g A c img out vo gt ct xs kd q wr) (n : Nat) : RJ w0 X g A c img out vo gt ct xs kd q (wr.drewN n) := by
  obtain ⟨h1, h2, h3, h4, h5⟩ := h
  exact ⟨h1, h2, Kd.R_drewN h3 n, h4, pw_below_drewN h5 n⟩
theorem RJ.drew {w0 : World} {X g : Nat} {A : Option Addr} {c : Nat} {img : List Int} {out : List S60} {vo : Value} {gt ct : Nat} {xs : List Int} {kd q : Nat} {wr : World} (h : RJ w0 X g A c img out vo gt ct xs kd q wr) : RJ w0 X g A c img out vo gt ct xs kd q wr.drew := by
  obtain ⟨h1, h2, h3, h4, h5⟩ := h
  exact ⟨h1, h2, Kd.R_drew h3, h4, below_drew h5⟩
theorem RJ.set {w0 : World} {X g : Nat} {A : Option Addr} {c : Nat} {img : List Int} {out : List S60} {vo : Value} {gt ct : Nat} {xs : List Int} {kd q : Nat} {wr : World} (h : RJ w0 X g A c img out vo gt ct xs kd q wr) (i : Nat) (x : Int) :
    RJ w0 X g A c img out vo gt ct (xs.set i x) kd q (wr.setCell ⟨gt, i, none⟩ (.int .u8 x)) := by
  obtain ⟨h1, h2, h3, h4, h5⟩ := h
  have hs := own_store_of h4 (i : Int) x
  rw [Int.toNat_natCast] at hs
  have hg1 : some g ≠ some gt := own_ne h4 h1 (by decide)
  have hX1 : some X ≠ some gt := own_ne h4 h2 (by decide)
  have hlt : ∀ k o, wr.heap[k]? = some o → k < wr.heap.size := fun k o h => (Array.getElem?_eq_some_iff.1 h).1
  refine ⟨?_, ?_, ?_, hs.1, ?_⟩
  · rw [hs.2.block g (hlt _ _ h1) hg1]; exact h1
  · rw [hs.2.block X (hlt _ _ h2) hX1]; exact h2
  · exact Kd.R_mono (Kd.R_move (Kd.R_bound h3) (fun k hk => hs.2.block k hk.2.2.1 hk.1)) (fun k hk => hk.1)
  · exact pw_below_grown h5 (some gt) h5.size hs.2 (fun k e => own_base h4 k (by rw [← e]; rfl))
theorem RJ.alloc {w0 : World} {X g : Nat} {A : Option Addr} {c : Nat} {img : List Int} {out : List S60} {vo : Value} {gt ct : Nat} {xs : List Int} {kd q : Nat} {wr : World} (h : RJ w0 X g A c img out vo gt ct xs kd q wr) (o : Obj) : RJ w0 X g A c img out vo gt ct xs kd q (wr.alloc o) := by
  obtain ⟨h1, h2, h3, h4, h5⟩ := h
  exact ⟨blk_alloc h1 o, blk_alloc h2 o, Kd.R_alloc h3 o, pw_own_below h4 (below_alloc (Below.refl _ _) o), below_alloc h5 o⟩
/-- What an append to the sites leaves. -/
theorem RJ.append {w0 : World} {X g : Nat} {A : Option Addr} {c : Nat} {img : List Int} {out : List S60} {vo : Value} {gt ct : Nat} {xs : List Int} {kd q : Nat} {W : World} (h : RJ w0 X g A c img out vo gt ct xs kd q W) (hb : w0.heap.size ≤ g) (hx : xs.length = img.length) (x : S60) {v1 : Value} {w1 : World}
    (hr : Kd.R k60 60 w1 w0.heap.size (fun k => some k ≠ (Value.slice (some ⟨gt, 0, none⟩) img.length ct).ownBlock) v1 (out ++ [x])) (hB1 : Below w0.heap.size w0 w1) (hg1 : W.grownBy w1 vo.ownBlock) :
    w1.cell? ⟨g, 1, none⟩ = some vo ∧ w1.frozen? ⟨g, 1, none⟩ = false ∧ RS w0.heap.size (w1.setCell ⟨g, 1, none⟩ v1) g A c img (out ++ [x]) xs ∧ Below w0.heap.size w0 (w1.setCell ⟨g, 1, none⟩ v1) := by
  obtain ⟨h1, h2, h3, h4, h5⟩ := h
  have hgo : some g ≠ vo.ownBlock := Kd.R_ne h3 h1 (by decide)
  have hg2 := blk_grown h1 hg1 hgo
  have hgt : some gt ≠ vo.ownBlock := fun e => h3.1 gt e.symm rfl
  have h6 := own_other h4 hg1 (.inr hgt)
  have h7 := Kd.R_set hr hg2 (by intro q hq; simp [k60, Kd.iso, Kd.pair, Kd.int, Kd.scalar] at hq; omega) 1 v1
  refine ⟨blk_cell hg2 1, blk_frozen hg2 1, ⟨v1, _, by rw [blk_set hg2]; rfl, hb, h7, Kd.R_of_own (h1 := fun _ => rfl) ?_ (fun _ _ => trivial), hx⟩, hB1.setCell hb _⟩
  rw [hx]
  exact own_setCell h6 (own_ne h4 h1 (by decide)) v1
theorem i64_and4095 (v : Nat) (hv : v ≤ 65535) : Go.bits .and .i64 (v : Int) 4095 = ((v % 4096 : Nat) : Int) := by
  have h := bits_mask .i64 62 (by decide) (fun n h0 h1 => by rw [IntKind.wrap_i64]; omega) 12 (by decide) (v : Int) (by omega) (by omega)
  have e : (2 : Int) ^ 12 - 1 = 4095 := by decide
  rw [e] at h
  rw [h]
  omega

theorem quiet_of_add {P : Program} {f : FuncId} {args : Array Value} {W : World} {k a : Nat} {v : Value} (h : Calls P f args (W.drewN (k + a)) fun e w' => e = .returned v ∧ Drawn0 (W.drewN (k + a)) w') :
    Calls P f args (W.drewN (k + a)) fun e w'' => e = .returned v ∧ ∃ n, w'' = W.drewN (k + n) :=
  h.mono fun _ _ ⟨he, m, hm⟩ => ⟨he, a + m, by rw [hm, World.drewN_drewN, Nat.add_assoc]⟩

set_option maxHeartbeats 4000000 in
set_option maxRecDepth 100000 in
theorem rel_entry.calls (base : Nat) (g : Nat) (A : Option Addr) (c : Nat) (img : List Int) (out : List S60) (tk : List Int) (p v : Nat) (hp : p ≤ 4294967295) (hv : v ≤ 65535) (hn : img.length ≤ 1099511627776) (ho : out.length ≤ 512)
    (w0 w : World) (hbase : base = w0.heap.size) (hB : Below w0.heap.size w0 w) (hS : RS base w g A c img out tk) :
    Calls Try.prog 76 #[.pointer (some ⟨g, 0, none⟩), .int .i64 (p : Int), .int .i64 (v : Int)] w fun e w' => e = .returned (.bool (relEntry img.length p v out tk).1) ∧ RS base w' g A c img (relEntry img.length p v out tk).2.1 (relEntry img.length p v out tk).2.2 ∧ Below w0.heap.size w0 w' := by
  subst hbase
  obtain ⟨vo, vt, hg, hbg, hO, hT, hl⟩ := hS
  obtain ⟨Ao, co, rfl⟩ := Kd.R_slice hO
  obtain ⟨At, ct, rfl⟩ := Kd.R_slice hT
  have hc0 : w.cell? ⟨g, 0, none⟩ = some (.slice A img.length c) := by simp [World.cell?, hg]
  have hc1 : w.cell? ⟨g, 1, none⟩ = some (.slice Ao out.length co) := by simp [World.cell?, hg]
  have hc2 : w.cell? ⟨g, 2, none⟩ = some (.slice At tk.length ct) := by simp [World.cell?, hg]
  have hgw : g < w.heap.size := (Array.getElem?_eq_some_iff.1 hg).1
  have hand : Go.bits .and .i64 (v : Int) 4095 = ((v % 4096 : Nat) : Int) := i64_and4095 v hv
  have hdiv : (v : Int) / 4096 = ((v / 4096 : Nat) : Int) := by omega
  have hkd : v / 4096 ≤ 15 := by omega
  have hmm : v % 4096 < 4096 := by omega
  have HG := Aside0.mk hg
  have HO := Aside0.mk hO
  have HT := Aside0.mk hT
  have HB := Aside0.mk hB
  clear hg hO hT hB
  have hu60 := Try.underlying60
  have hlong : rel_long.f ((v / 4096 : Nat) : Int) = some (relLong (v / 4096) : Int) := long_eq _
  have hq : p + v % 4096 ≤ 4294971392 := by omega
  have hsum : IntKind.i64.wrap ((p : Int) + ((v % 4096 : Nat) : Int)) = ((p + v % 4096 : Nat) : Int) := by exact IntWalk.i64_in _ (by omega)
  unfold relEntry
  have hLL : relLong (v / 4096) = 0 ∨ relLong (v / 4096) = 4 ∨ relLong (v / 4096) = 8 := by
    unfold relLong
    split
    · simp
    · split <;> simp
  generalize relLong (v / 4096) = L at *
  generalize p + v % 4096 = q at *
  generalize v % 4096 = m at *
  generalize v / 4096 = kd at *
  have HLONG := Aside0.mk hlong
  clear hlong
  by_cases hk : kd = 0
  · rw [if_pos hk]
    have hk1 : ((kd : Int) == 0) = true := by rw [beq_iff_eq]; omega
    clear hk
    go_enter Try.func76, Try.ntmps76
    go_wp2
    go_ret
    exact ⟨rfl, RS.below ⟨_, _, HG.out, hbg, HO.out, HT.out, hl⟩ (below_alloc (Below.refl _ _) _), below_then HB.out HB.out.size (below_alloc (Below.refl _ _) _)⟩
  rw [if_neg hk]
  have hk1 : ((kd : Int) == 0) = false := by rw [beq_eq_false_iff_ne]; omega
  by_cases hm : L = 0
  · rw [if_pos hm]
    subst hm
    go_enter Try.func76, Try.ntmps76
    go_wp2_with (go_at_call 58; refine (rel_long.calls _ _ _ HLONG.out).mono ?_; rintro e w' ⟨rfl, ⟨m1, rfl⟩⟩)
    go_quiet (fail)
    go_wp2
    go_ret
    exact ⟨rfl, RS.below ⟨_, _, HG.out, hbg, HO.out, HT.out, hl⟩ (by repeat (first | exact below_alloc (Below.refl _ _) _ | apply pw_below_drewN | apply below_drew1)), below_then HB.out HB.out.size (by repeat (first | exact below_alloc (Below.refl _ _) _ | apply pw_below_drewN | apply below_drew1))⟩
  rw [if_neg hm]
  have hL : L = 4 ∨ L = 8 := by omega
  have hL0 : ((L : Int) == 0) = false := by rw [beq_eq_false_iff_ne]; omega
  clear hm hk hLL
  by_cases hin : ¬ q + L ≤ img.length
  · rw [if_pos hin]
    have HIN := Aside0.mk (show le_In.f (img.length : Int) (q : Int) (L : Int) = some false by
      unfold le_In.f
      rw [if_pos (by omega), if_pos (by omega)]
      split
      · rw [IntWalk.wrap64_in _ (by omega)]
        congr 1
        rw [decide_eq_false_iff_not]
        omega
      · rfl)
    clear hin
    go_enter Try.func76, Try.ntmps76
    go_wp2_with (go_at_call 58; refine (rel_long.calls _ _ _ HLONG.out).mono ?_; rintro e w' ⟨rfl, ⟨m1, rfl⟩⟩)
    go_quiet ((go_at_call 56; exact quiet_of_add (le_In.calls _ _ _ _ _ HIN.out)))
    go_wp2
    go_ret
    exact ⟨rfl, RS.below ⟨_, _, HG.out, hbg, HO.out, HT.out, hl⟩ (by repeat (first | exact below_alloc (Below.refl _ _) _ | apply pw_below_drewN | apply below_drew1)), below_then HB.out HB.out.size (by repeat (first | exact below_alloc (Below.refl _ _) _ | apply pw_below_drewN | apply below_drew1))⟩
  rw [if_neg hin]
  have hin : q + L ≤ img.length := by omega
  have HIN := Aside0.mk (show le_In.f (img.length : Int) (q : Int) (L : Int) = some true by
    unfold le_In.f
    rw [if_pos (by omega), if_pos (by omega), if_pos (by omega), IntWalk.wrap64_in _ (by omega)]
    congr 1
    rw [decide_eq_true_iff]
    omega)
  by_cases ho5 : out.length = 512
  · rw [if_pos ho5]
    have ho6 : ((out.length : Int) == 512) = true := by rw [beq_iff_eq]; omega
    clear ho5
    go_enter Try.func76, Try.ntmps76
    go_wp2_with (go_at_call 58; refine (rel_long.calls _ _ _ HLONG.out).mono ?_; rintro e w' ⟨rfl, ⟨m1, rfl⟩⟩)
    go_quiet ((go_at_call 56; exact quiet_of_add (le_In.calls _ _ _ _ _ HIN.out)))
    go_wp2
    go_ret
    exact ⟨rfl, RS.below ⟨_, _, HG.out, hbg, HO.out, HT.out, hl⟩ (by repeat (first | exact below_alloc (Below.refl _ _) _ | apply pw_below_drewN | apply below_drew1)), below_then HB.out HB.out.size (by repeat (first | exact below_alloc (Below.refl _ _) _ | apply pw_below_drewN | apply below_drew1))⟩
  rw [if_neg ho5]
  have ho6 : ((out.length : Int) == 512) = false := by rw [beq_eq_false_iff_ne]; omega
  obtain ⟨hln, hct, hC⟩ := Kd.R_reads' HT.out
  have hR := Kd.reads_of_C (d := (0 : Int)) hC
  obtain ⟨ad, rfl, hc⟩ := hR.2.2 (by omega)
  obtain ⟨gt, capt, hgt, _⟩ := (Kd.own_of_R HT.out).form (by omega)
  injection hgt with hgt1 hgt2 hgt3
  obtain rfl := Option.some.inj hgt1
  obtain rfl := hgt3
  have hzl : ((tk.drop q).take L).length = L := by simp; omega
  have hcs : ∀ j, j < ((tk.drop q).take L).length → w.cell? (((⟨gt, 0, none⟩ : Addr).add q).add j) = some (.int .u8 (((tk.drop q).take L).getD j 0)) := by
    intro j hj
    rw [hzl] at hj
    have h1 := hc (q + j) (by omega)
    rw [add_add (⟨gt, 0, none⟩ : Addr) q j, h1]
    simp [List.getD_eq_getElem?_getD, List.getElem?_take, hj]
  have HC2 := show Kd.C (Kd.int .u8) w (some ((⟨gt, 0, none⟩ : Addr).add q)) ((tk.drop q).take L).length ((tk.drop q).take L) from Kd.C_of_reads (d := (0 : Int)) (h1 := fun _ => rfl) ⟨rfl, by omega, fun _ => ⟨_, rfl, hcs⟩⟩
  have hzero := fun r0 (h0 : ((tk.drop q).take L).all (fun x => x == 0) = r0) (k : Nat) => le_Zero.calls (some ((⟨gt, 0, none⟩ : Addr).add q)) (ct - q) ((tk.drop q).take L) r0 _ (Kd.C_drewN (Kd.C_alloc HC2 (Obj.cells #[Value.int IntKind.i64 (kd : Int), Value.int IntKind.i64 (q : Int)] 60 (0, 0))) k) (by omega) (by rw [← h0]; rfl)
  rw [hzl, add_plain] at hzero
  try rw [Nat.zero_add] at hzero
  have hsum2 : IntKind.i64.wrap ((q : Int) + (L : Int)) = ((q + L : Nat) : Int) := by exact IntWalk.i64_in _ (by omega)
  have hel : q + L - q = L := by omega
  have hb1 : q + L ≤ ct := by omega
  have hb2 : q ≤ q + L := by omega
  have hb3 : ¬ (ct = q) := by omega
  have hb5 : q + L ≤ tk.length := by omega
  have HIN2 := Aside0.mk hin
  generalize he : q + L = e at *
  have HE := Aside0.mk he
  clear he
  by_cases hz : (((tk.drop q).take L).all (fun x => x == 0)) = false
  · rw [if_pos hz]
    have HZ := Aside0.mk (hzero _ hz)
    clear hzero hz hcs hzl HC2 hc hR hC hin
    go_enter Try.func76, Try.ntmps76
    go_wp2_with (go_at_call 58; refine (rel_long.calls _ _ _ HLONG.out).mono ?_; rintro e w' ⟨rfl, ⟨m1, rfl⟩⟩)
    go_quiet ((first | (go_at_call 56; exact quiet_of_add (le_In.calls _ _ _ _ _ HIN.out)) | (go_at_call 71; exact quiet_of_add (HZ.out _))))
    go_wp2
    go_ret
    exact ⟨rfl, RS.below ⟨_, _, HG.out, hbg, HO.out, HT.out, hl⟩ (by repeat (first | exact below_alloc (Below.refl _ _) _ | apply pw_below_drewN | apply below_drew1)), below_then HB.out HB.out.size (by repeat (first | exact below_alloc (Below.refl _ _) _ | apply pw_below_drewN | apply below_drew1))⟩
  rw [if_neg hz]
  have hz1 : (((tk.drop q).take L).all (fun x => x == 0)) = true := by simpa using hz
  have HZ := Aside0.mk (hzero _ hz1)
  clear hzero hz hz1 hcs hzl HC2 hin
  go_enter Try.func76, Try.ntmps76
  go_wp2_with (go_at_call 58; refine (rel_long.calls _ _ _ HLONG.out).mono ?_; rintro e w' ⟨rfl, ⟨m1, rfl⟩⟩)
  go_quiet ((first | (go_at_call 56; exact quiet_of_add (le_In.calls _ _ _ _ _ HIN.out)) | (go_at_call 71; exact quiet_of_add (HZ.out _))))
  go_wp2
  have hloop0 : RJ w0 w.heap.size g A c img out (.slice Ao out.length co) gt ct tk kd q (((w.alloc (Obj.cells #[Value.int IntKind.i64 (kd : Int), Value.int IntKind.i64 (q : Int)] 60 (0, 0))).drewN m1).drewN nq) := by
    apply RJ.drewN
    apply RJ.drewN
    have hHG := HG.out
    have hHT := Kd.own_of_R HT.out
    rw [hl] at hHG hHT
    exact ⟨(below_alloc (Below.refl w.heap.size w) _).block g hgw ▸ hHG, alloc_at _ _, by have := Kd.R_alloc HO.out (Obj.cells #[Value.int IntKind.i64 (kd : Int), Value.int IntKind.i64 (q : Int)] 60 (0, 0)); rw [hl] at this; exact this, pw_own_below hHT (below_alloc (Below.refl w.heap.size w) _), below_then HB.out HB.out.size (below_alloc (Below.refl _ _) _)⟩
  have HLT := Aside0.mk hl
  have hq5 : q + L ≤ img.length := by have := HE.out; omega
  clear hl
  go_loopw [9, 61] (fun v9 v61 wr => ∃ k : Nat, k ≤ L ∧ v61 = .int .i64 (k : Int) ∧ (∃ x, v9 = x) ∧ Aside0 (RJ w0 w.heap.size g A c img out (.slice Ao out.length co) gt ct (splice tk q (List.replicate k 1)) kd q wr)) (fun _ v61 _ => L - (intOf v61).toNat)
  case atStart => exact ⟨0, Nat.zero_le _, rfl, ⟨_, rfl⟩, ⟨by simpa [splice] using hloop0⟩⟩
  case round =>
    clear hloop0
    obtain ⟨k, hk, rfl, ⟨x9, rfl⟩, HJ⟩ := hrel
    obtain ⟨h1, h2, h3, h4, h5⟩ := HJ.out
    have hj2 : wr.cell? ⟨g, 2, none⟩ = some (.slice (some ⟨gt, 0, none⟩) img.length ct) := by simp [World.cell?, h1]
    have hj3 : wr.cell? ⟨w.heap.size, 1, none⟩ = some (.int .i64 (q : Int)) := by simp [World.cell?, h2]
    by_cases hkl : k < L
    · have hlt : decide ((k : Int) < (L : Int)) = true := decide_eq_true (by omega)
      have hs3 : IntKind.i64.wrap ((q : Int) + (k : Int)) = ((q + k : Nat) : Int) := by exact IntWalk.i64_in _ (by omega)
      have hqk : q + k < img.length := by omega
      obtain ⟨hj4, hj5⟩ := own_at_of (d := (0 : Int)) h4 ((q + k : Nat) : Int) (by omega) (by omega)
      rw [Int.toNat_natCast] at hj4 hj5
      have hnext := HJ.out.set (q + k) 1
      rw [splice_set _ _ _ (by have := HLT.out; omega)] at hnext
      have HN := Aside0.mk hnext
      clear hnext h1 h2 h3 h4 h5
      generalize hqk2 : q + k = s at *
      clear hqk2
      generalize rdOf (0 : Int) (splice tk q (List.replicate k 1)) (s : Int) = u at *
      go_wp2
      go_region
      all_goals
        go_wp2
        go_roundw
        case rel => exact ⟨k + 1, by omega, by go_num, ⟨_, rfl⟩, ⟨HN.out.drew⟩⟩
        case measure => simp [intOf]; omega
    · obtain rfl : k = L := by omega
      have hlt : decide ((k : Int) < (k : Int)) = false := decide_eq_false (by omega)
      have hj1 : wr.cell? ⟨g, 1, none⟩ = some (.slice Ao out.length co) := by simp [World.cell?, h1]
      have hj8 : ∀ o, (wr.alloc o).cell? ⟨g, 1, none⟩ = some (.slice Ao out.length co) := fun o => by simp [World.cell?, blk_alloc h1 o]
      have hj6 : wr.cell? ⟨w.heap.size, 0, none⟩ = some (.int .i64 (kd : Int)) := by simp [World.cell?, h2]
      have hj7 : wr.frozen? ⟨g, 1, none⟩ = false := by simp [World.frozen?, h1]
      clear h1 h2 h3 h4 h5
      go_wp2
      have HJD := Aside0.mk HJ.out.drew
      have HXL := Aside0.mk (show (splice tk q (List.replicate k 1)).length = img.length by rw [splice_len _ _ _ (by have := HLT.out; omega)]; exact HLT.out)
      go_region_law ((refine Kd.R_append_step k60 (w0 := w0) (W := wr.drew) w0.heap.size (by rfl) (.tmp 78) (.tmp 80) 56 60 (.agg #[(.int .i64 0), (.int .i64 0)]) 16 (by rfl) Try.underlying56 info60 (by rfl) (by decide) (by omega) (.slice Ao out.length co) out (⟨(kd : Int), (q : Int)⟩ : S60) [.int .i64 (kd : Int), .int .i64 (q : Int)] (fun k_ => some k_ ≠ (Value.slice (some ⟨gt, 0, none⟩) img.length ct).ownBlock) (fun _ => False) (by rfl) (by rfl) (k60_mkM _ _ _ _) (fun _ hk => hk.elim) (fun k hk e => by have := own_lt HJD.out.2.2.2.1 k e.symm; omega) (HJD.out.2.2.1) HJD.out.2.2.2.2 HJD.out.2.2.2.2.size (by omega) ?_; intro v1 w1 hr1 hB1 hg1 _; obtain ⟨A1, c1, rfl⟩ := Kd.R_slice hr1; obtain ⟨hs1, hs2, hs3, hs4⟩ := HJD.out.append hbg HXL.out _ hr1 hB1 hg1; have HR1 := Aside0.mk hs3; have HB1 := Aside0.mk hs4; clear hs3 hs4 hr1 hB1 hg1))
      all_goals
        go_wp2
        go_ret
        have h6 := HR1.out
        have h7 := HB1.out
        rw [List.length_append] at h6 h7
        exact ⟨rfl, h6, h7⟩
theorem relEntry_len (n p v : Nat) (out : List S60) (tk : List Int) (h : out.length ≤ 512) : (relEntry n p v out tk).2.1.length ≤ 512 := by
  unfold relEntry
  split
  · exact h
  split
  · exact h
  split
  · exact h
  split
  · exact h
  split
  · exact h
  · simp; omega
/-- The entries of a block from a place on, so many. -/
def relEnts (img : List Int) (p : Nat) : Nat → Nat → List S60 → List Int → Bool × List S60 × List Int
  | 0, _, out, tk => (true, out, tk)
  | m + 1, a, out, tk => match relEntry img.length p (numAt img a 2) out tk with
    | (true, o, t) => relEnts img p m (a + 2) o t
    | (false, o, t) => (false, o, t)
theorem relEnts_yes {img : List Int} {p m a : Nat} {out : List S60} {tk : List Int} (h : (relEntry img.length p (numAt img a 2) out tk).1 = true) :
    relEnts img p (m + 1) a out tk = relEnts img p m (a + 2) (relEntry img.length p (numAt img a 2) out tk).2.1 (relEntry img.length p (numAt img a 2) out tk).2.2 := by
  rcases hr : relEntry img.length p (numAt img a 2) out tk with ⟨b, o, t⟩
  rw [hr] at h
  simp only at h
  subst h
  simp only [relEnts, hr]
theorem relEnts_no {img : List Int} {p m a : Nat} {out : List S60} {tk : List Int} (h : (relEntry img.length p (numAt img a 2) out tk).1 = false) :
    relEnts img p (m + 1) a out tk = (false, (relEntry img.length p (numAt img a 2) out tk).2.1, (relEntry img.length p (numAt img a 2) out tk).2.2) := by
  rcases hr : relEntry img.length p (numAt img a 2) out tk with ⟨b, o, t⟩
  rw [hr] at h
  simp only at h
  subst h
  simp only [relEnts, hr]
theorem relEnts_len (img : List Int) (p m : Nat) : ∀ (a : Nat) (out : List S60) (tk : List Int), out.length ≤ 512 → (relEnts img p m a out tk).2.1.length ≤ 512 := by
  induction m with
  | zero => intro a out tk h; exact h
  | succ m ih =>
    intro a out tk h
    rcases hb : (relEntry img.length p (numAt img a 2) out tk).1 with _ | _
    · rw [relEnts_no hb]; exact relEntry_len _ _ _ _ _ h
    · rw [relEnts_yes hb]; exact ih _ _ _ (relEntry_len _ _ _ _ _ h)
def blkOut (z : Nat) : Bool × List S60 × List Int → (Nat × Bool) × List S60 × List Int
  | (true, r) => ((z, true), r)
  | (false, r) => ((0, false), r)
theorem blkOut_snd (z : Nat) (R : Bool × List S60 × List Int) : (blkOut z R).2 = R.2 := by
  rcases R with ⟨b, r⟩
  cases b <;> rfl
def relBlock (img : List Int) (a e : Nat) (out : List S60) (tk : List Int) : (Nat × Bool) × List S60 × List Int :=
  if e - a < 8 then ((0, false), out, tk)
  else if numAt img a 4 % 4096 ≠ 0 then ((0, false), out, tk)
  else if numAt img (a + 4) 4 < 8 then ((0, false), out, tk)
  else if numAt img (a + 4) 4 % 4 ≠ 0 then ((0, false), out, tk)
  else if e - a < numAt img (a + 4) 4 then ((0, false), out, tk)
  else blkOut (numAt img (a + 4) 4) (relEnts img (numAt img a 4) ((numAt img (a + 4) 4 - 8) / 2) (a + 8) out tk)
theorem relBlock_len (img : List Int) (a e : Nat) (out : List S60) (tk : List Int) (h : out.length ≤ 512) : (relBlock img a e out tk).2.1.length ≤ 512 := by
  unfold relBlock
  have := relEnts_len img (numAt img a 4) ((numAt img (a + 4) 4 - 8) / 2) (a + 8) out tk h
  split
  · exact h
  split
  · exact h
  split
  · exact h
  split
  · exact h
  split
  · exact h
  rw [blkOut_snd]
  exact this
/-- What holds in the loop of block. -/
def BJ (w0 : World) (g : Nat) (A : Option Addr) (c : Nat) (img : List Int) (p m a : Nat) (R : Bool × List S60 × List Int) (wr : World) : Prop :=
  ∃ out tk, relEnts img p m a out tk = R ∧ out.length ≤ 512 ∧ RS w0.heap.size wr g A c img out tk ∧ Below w0.heap.size w0 wr

set_option maxHeartbeats 4000000 in
set_option maxRecDepth 100000 in
theorem rel_block.calls (base : Nat) (g : Nat) (A : Option Addr) (c : Nat) (img : List Int) (out : List S60) (tk : List Int) (a e : Nat) (hb : byteB img = true) (hn : img.length ≤ 1099511627776) (ho : out.length ≤ 512) (hae : a ≤ e) (hel : e ≤ img.length) (hc : img.length ≤ c)
    (w0 w : World) (hbase : base = w0.heap.size) (hI : Kd.C (Kd.int .u8) w0 A img.length img) (hB : Below w0.heap.size w0 w) (hS : RS base w g A c img out tk) :
    Calls Try.prog 57 #[.pointer (some ⟨g, 0, none⟩), .int .i64 (a : Int), .int .i64 (e : Int)] w fun r w' => r = .returned (.tuple #[.int .i64 ((relBlock img a e out tk).1.1 : Int), .bool (relBlock img a e out tk).1.2]) ∧ RS base w' g A c img (relBlock img a e out tk).2.1 (relBlock img a e out tk).2.2 ∧ Below w0.heap.size w0 w' := by
  subst hbase
  have HS := Aside0.mk hS
  have HB := Aside0.mk hB
  have HI := Aside0.mk hI
  have hI1 := Kd.C_below hI ⟨hB.os, hB.tape, hB.output, hB.size, hB.block⟩
  obtain ⟨vo, vt, hg, hbg, _⟩ := hS
  have hc0 : w.cell? ⟨g, 0, none⟩ = some (.slice A img.length c) := by simp [World.cell?, hg]
  clear hg hB hI
  unfold relBlock
  by_cases h1 : e - a < 8
  · rw [if_pos h1]
    have d1 : decide ((e : Int) - (a : Int) < 8) = true := decide_eq_true (by omega)
    go_enter Try.func57, Try.ntmps57
    go_wp2
    go_ret2
    exact ⟨rfl, HS.out, HB.out⟩
  rw [if_neg h1]
  have d1 : decide ((e : Int) - (a : Int) < 8) = false := decide_eq_false (by omega)
  have HP := Aside0.mk (U32_is img hb a (by omega))
  have HZ := Aside0.mk (U32_is img hb (a + 4) (by omega))
  have hpl := numAt_lt hb a 4
  have hzl := numAt_lt hb (a + 4) 4
  have HC1 := Aside0.mk hI1
  have hs4 : IntKind.i64.wrap ((a : Int) + 4) = ((a + 4 : Nat) : Int) := by exact IntWalk.i64_in _ (by omega)
  generalize hpp : numAt img a 4 = p at *
  generalize hzz : numAt img (a + 4) 4 = z at *
  clear hpp hzz hI1
  by_cases h2 : p % 4096 ≠ 0
  · rw [if_pos h2]
    have d2 : ((p : Int) % 4096 != 0) = true := by simp; omega
    go_enter Try.func57, Try.ntmps57
    go_wp2_with (first | (go_at_call 64; (with_reducible refine (le_U32.calls _ _ _ _ _ _ _ HC1.out hc HP.out).mono ?_); rintro r w' ⟨rfl, ⟨m1, rfl⟩⟩) | (go_at_call 64; refine (le_U32.calls _ _ _ _ _ _ _ (Kd.C_drewN HC1.out _) hc HZ.out).mono ?_; rintro r w' ⟨rfl, ⟨m2, rfl⟩⟩))
    go_ret2
    exact ⟨rfl, HS.out.drewN _, pw_below_drewN HB.out _⟩
  rw [if_neg h2]
  have d2 : ((p : Int) % 4096 != 0) = false := by simp; omega
  by_cases h3 : z < 8
  · rw [if_pos h3]
    have d3 : decide ((z : Int) < 8) = true := decide_eq_true (by omega)
    go_enter Try.func57, Try.ntmps57
    go_wp2_with (first | (go_at_call 64; (with_reducible refine (le_U32.calls _ _ _ _ _ _ _ HC1.out hc HP.out).mono ?_); rintro r w' ⟨rfl, ⟨m1, rfl⟩⟩) | (go_at_call 64; refine (le_U32.calls _ _ _ _ _ _ _ (Kd.C_drewN HC1.out _) hc HZ.out).mono ?_; rintro r w' ⟨rfl, ⟨m2, rfl⟩⟩))
    go_ret2
    exact ⟨rfl, HS.out.drewN _, pw_below_drewN HB.out _⟩
  rw [if_neg h3]
  have d3 : decide ((z : Int) < 8) = false := decide_eq_false (by omega)
  by_cases h4 : z % 4 ≠ 0
  · rw [if_pos h4]
    have d4 : ((z : Int) % 4 != 0) = true := by simp; omega
    go_enter Try.func57, Try.ntmps57
    go_wp2_with (first | (go_at_call 64; (with_reducible refine (le_U32.calls _ _ _ _ _ _ _ HC1.out hc HP.out).mono ?_); rintro r w' ⟨rfl, ⟨m1, rfl⟩⟩) | (go_at_call 64; refine (le_U32.calls _ _ _ _ _ _ _ (Kd.C_drewN HC1.out _) hc HZ.out).mono ?_; rintro r w' ⟨rfl, ⟨m2, rfl⟩⟩))
    go_ret2
    exact ⟨rfl, HS.out.drewN _, pw_below_drewN HB.out _⟩
  rw [if_neg h4]
  have d4 : ((z : Int) % 4 != 0) = false := by simp; omega
  by_cases h5 : e - a < z
  · rw [if_pos h5]
    have d5 : decide ((e : Int) - (a : Int) < (z : Int)) = true := decide_eq_true (by omega)
    go_enter Try.func57, Try.ntmps57
    go_wp2_with (first | (go_at_call 64; (with_reducible refine (le_U32.calls _ _ _ _ _ _ _ HC1.out hc HP.out).mono ?_); rintro r w' ⟨rfl, ⟨m1, rfl⟩⟩) | (go_at_call 64; refine (le_U32.calls _ _ _ _ _ _ _ (Kd.C_drewN HC1.out _) hc HZ.out).mono ?_; rintro r w' ⟨rfl, ⟨m2, rfl⟩⟩))
    go_ret2
    exact ⟨rfl, HS.out.drewN _, pw_below_drewN HB.out _⟩
  rw [if_neg h5]
  have d5 : decide ((e : Int) - (a : Int) < (z : Int)) = false := decide_eq_false (by omega)
  have hz8 : 8 ≤ z := by omega
  have hz4 : z % 4 = 0 := by omega
  have hze : a + z ≤ e := by omega
  have HZ4 := Aside0.mk hz4
  clear h1 h2 h3 h4 h5 hz4
  obtain ⟨R, hR⟩ : ∃ R, relEnts img p ((z - 8) / 2) (a + 8) out tk = R := ⟨_, rfl⟩
  rw [hR]
  have HJ0 := Aside0.mk (show ∀ m1, BJ w0 g A c img p ((z - 8) / 2) (a + 8) R (w.drewN m1) from fun m1 => ⟨out, tk, hR, ho, HS.out.drewN _, pw_below_drewN HB.out _⟩)
  clear hR
  go_enter Try.func57, Try.ntmps57
  go_wp2_with (first | (go_at_call 64; (with_reducible refine (le_U32.calls _ _ _ _ _ _ _ HC1.out hc HP.out).mono ?_); rintro r w' ⟨rfl, ⟨m1, rfl⟩⟩) | (go_at_call 64; refine (le_U32.calls _ _ _ _ _ _ _ (Kd.C_drewN HC1.out _) hc HZ.out).mono ?_; rintro r w' ⟨rfl, ⟨m2, rfl⟩⟩))
  go_loopw [12, 13, 14] (fun v12 v13 v14 wr => ∃ k : Nat, 8 ≤ k ∧ k ≤ z ∧ Aside0 (k % 2 = 0) ∧ v12 = .int .i64 (k : Int) ∧ (∃ x, v13 = x) ∧ (∃ x, v14 = x) ∧ Aside0 (BJ w0 g A c img p ((z - k) / 2) (a + k) R wr)) (fun v12 _ _ _ => z - (intOf v12).toNat)
  case atStart => exact ⟨8, by omega, by omega, ⟨rfl⟩, rfl, ⟨_, rfl⟩, ⟨_, rfl⟩, ⟨HJ0.out _⟩⟩
  case round =>
    obtain ⟨k, hk8, hkz, hk2, rfl, ⟨x13, rfl⟩, ⟨x14, rfl⟩, HJ⟩ := hrel
    obtain ⟨o1, t1, hR1, ho1, hS1, hB1⟩ := HJ.out
    have HS1 := Aside0.mk hS1
    have HB1 := Aside0.mk hB1
    obtain ⟨vo1, vt1, hg1, _, _⟩ := hS1
    have hd0 : wr.cell? ⟨g, 0, none⟩ = some (.slice A img.length c) := by simp [World.cell?, hg1]
    have HCr := Aside0.mk (Kd.C_below HI.out ⟨hB1.os, hB1.tape, hB1.output, hB1.size, hB1.block⟩)
    clear hg1 hB1 HJ HJ0
    by_cases hkl : k < z
    · have hlt : decide ((k : Int) < (z : Int)) = true := decide_eq_true (by omega)
      have hm : (z - k) / 2 = (z - (k + 2)) / 2 + 1 := by have := hk2.out; have := HZ4.out; omega
      have hak : IntKind.i64.wrap ((a : Int) + (k : Int)) = ((a + k : Nat) : Int) := by exact IntWalk.i64_in _ (by omega)
      have HV := Aside0.mk (U16_is img hb (a + k) (by have := hk2.out; have := HZ4.out; omega))
      have hvl := numAt_lt hb (a + k) 2
      rw [hm] at hR1
      have HY := Aside0.mk (fun h => relEnts_yes (img := img) (p := p) (m := (z - (k + 2)) / 2) (a := a + k) (out := o1) (tk := t1) h)
      have HN := Aside0.mk (fun h => relEnts_no (img := img) (p := p) (m := (z - (k + 2)) / 2) (a := a + k) (out := o1) (tk := t1) h)
      have HL := Aside0.mk (relEntry_len img.length p (numAt img (a + k) 2) o1 t1 ho1)
      have HR1 := Aside0.mk hR1
      clear hm hR1
      generalize numAt img (a + k) 2 = v at *
      have HE := fun (W : World) => rel_entry.calls w0.heap.size g A c img o1 t1 p v (by omega) (by omega) hn ho1 w0 W rfl
      rcases hr : relEntry img.length p v o1 t1 with ⟨b, o2, t2⟩
      rw [hr] at HY HN HL HE
      have HE2 := Aside0.mk HE
      clear HE hr
      rcases b with _ | _
      · have hR2 := Aside0.mk (HR1.out.symm.trans (HN.out rfl))
        clear HR1 HN HY
        go_wp2_with (first | (go_at_call 72; refine (le_U16.calls _ _ _ _ _ _ _ HCr.out hc HV.out).mono ?_; rintro r w' ⟨rfl, ⟨m3, rfl⟩⟩) | (go_at_call 76; refine (HE2.out _ (pw_below_drewN HB1.out _) (HS1.out.drewN _)).mono ?_; rintro r w' ⟨rfl, hs2, hb2⟩; have HS2 := Aside0.mk hs2; have HB2 := Aside0.mk hb2; clear hs2 hb2))
        go_ret2
        rw [hR2.out]
        exact ⟨rfl, HS2.out, HB2.out⟩
      · have hR2 := Aside0.mk ((HY.out rfl).symm.trans HR1.out)
        clear HR1 HN HY
        go_wp2_with (first | (go_at_call 72; refine (le_U16.calls _ _ _ _ _ _ _ HCr.out hc HV.out).mono ?_; rintro r w' ⟨rfl, ⟨m3, rfl⟩⟩) | (go_at_call 76; refine (HE2.out _ (pw_below_drewN HB1.out _) (HS1.out.drewN _)).mono ?_; rintro r w' ⟨rfl, hs2, hb2⟩; have HS2 := Aside0.mk hs2; have HB2 := Aside0.mk hb2; clear hs2 hb2))
        go_roundw
        case rel => exact ⟨k + 2, by omega, by have := hk2.out; have := HZ4.out; omega, ⟨by have := hk2.out; omega⟩, by go_num, ⟨_, rfl⟩, ⟨_, rfl⟩, ⟨o2, t2, hR2.out, HL.out, HS2.out, HB2.out⟩⟩
        case measure => simp [intOf]; omega
    · obtain rfl : k = z := by omega
      have hlt : decide ((k : Int) < (k : Int)) = false := decide_eq_false (by omega)
      have hR2 := Aside0.mk hR1
      clear hR1
      go_wp2
      go_ret2
      rw [← hR2.out, Nat.sub_self]
      exact ⟨rfl, HS1.out, HB1.out⟩
theorem relBlock_ok {img : List Int} {a e : Nat} {out : List S60} {tk : List Int} {n : Nat} {r : List S60 × List Int} (h : relBlock img a e out tk = ((n, true), r)) : 8 ≤ n ∧ (a ≤ e → a + n ≤ e) := by
  unfold relBlock at h
  split at h
  · simp at h
  split at h
  · simp at h
  split at h
  · simp at h
  split at h
  · simp at h
  split at h
  · simp at h
  · rcases hr : relEnts img (numAt img a 4) ((numAt img (a + 4) 4 - 8) / 2) (a + 8) out tk with ⟨b, r1⟩
    rw [hr] at h
    cases b <;> simp [blkOut] at h
    omega
/-- The blocks from a place on, up to an end. -/
def relLoop (img : List Int) (e : Nat) : Nat → Nat → List S60 → List Int → List S60 × Int
  | 0, _, out, _ => (out, 0)
  | m + 1, a, out, tk => if a < e then match relBlock img a e out tk with
      | ((n, true), o, t) => relLoop img e m (a + n) o t
      | ((_, false), _) => ([], 9)
    else (out, 0)
def rel_Parse.f (_k : Nat) (l0 : List Int) (a1_0 : Int) (a1_1 : Int) : Option (List S60 × Int) :=
  if byteB l0 = true ∧ l0.length ≤ 1099511627776 then
    if a1_0 = 0 then some ([], 0)
    else if 0 < a1_0 ∧ 0 ≤ a1_1 ∧ a1_0 + a1_1 ≤ (l0.length : Int) then some (relLoop l0 (a1_0 + a1_1).toNat (l0.length + 1) a1_0.toNat [] (List.replicate l0.length 0))
    else some ([], 9)
  else none
theorem rel_Parse.mono : ∀ a0 a1 a2 k, LeO (rel_Parse.f k a0 a1 a2) (rel_Parse.f (k + 1) a0 a1 a2) := fun _ _ _ _ => LeO.refl _
theorem RS_init (w0 W : World) (hB : Below w0.heap.size w0 W) (A : Option Addr) (c : Nat) (img : List Int) (hn : img.length ≤ 1099511627776) :
    RS w0.heap.size ((W.alloc (.cells (madeCells #[Value.int .u8 0] img.length) 5)).alloc (.cells #[.slice A img.length c, .slice none 0 0, .slice (some ⟨W.heap.size, 0, none⟩) img.length img.length] 123 (0, 0))) (W.heap.size + 1) A c img [] (List.replicate img.length 0) := by
  have hs : (W.alloc (.cells (madeCells #[Value.int .u8 0] img.length) 5)).heap.size = W.heap.size + 1 := by simp
  have hb := hB.size
  refine ⟨.slice none 0 0, .slice (some ⟨W.heap.size, 0, none⟩) img.length img.length, ?_, by omega, Kd.R_nil _ _ _ _ _, ?_, by simp⟩
  · have := alloc_at (W.alloc (.cells (madeCells #[Value.int .u8 0] img.length) 5)) (.cells #[.slice A img.length c, .slice none 0 0, .slice (some ⟨W.heap.size, 0, none⟩) img.length img.length] 123 (0, 0))
    rw [hs] at this
    exact this
  · apply Kd.R_alloc
    rw [show img.length = (List.replicate img.length (0 : Int)).length by simp]
    refine Kd.R_of_own (h1 := fun _ => rfl) ?_ (fun _ _ => trivial)
    have := own_made W w0.heap.size 5 .u8 img.length hb (by omega)
    simp only [List.length_replicate]
    exact this
def PJ (w0 : World) (g : Nat) (A : Option Addr) (c : Nat) (img : List Int) (e a : Nat) (R : List S60 × Int) (wr : World) : Prop :=
  ∃ m out tk, relLoop img e m a out tk = R ∧ e - a < m ∧ out.length ≤ 512 ∧ RS w0.heap.size wr g A c img out tk ∧ Below w0.heap.size w0 wr
set_option maxHeartbeats 4000000 in
set_option maxRecDepth 100000 in
theorem rel_Parse.calls (k : Nat) (A0 : Option Addr) (c0 : Nat) (l0 : List Int) (a1_0 : Int) (a1_1 : Int) (r1 : List (S60)) (r2 : Int) (w : World) (hr0 : Kd.C (Kd.int .u8) w A0 l0.length l0) (hc0 : l0.length ≤ c0) (h : rel_Parse.f k l0 a1_0 a1_1 = some (r1, r2)) :
    Calls Try.prog 28 #[.slice A0 l0.length c0, .agg #[.int .i64 a1_0, .int .i64 a1_1]] w fun e w' => ∃ v0_ : Value, e = .returned (.tuple #[v0_, .int .i64 r2]) ∧ Kd.R k60 60 w' w.heap.size (fun _ => True) v0_ r1 ∧ Below w.heap.size w w' := by
  have hu48 := Try.underlying48
  unfold rel_Parse.f at h
  by_cases hg : byteB l0 = true ∧ l0.length ≤ 1099511627776
  rotate_left
  · rw [if_neg hg] at h; cases h
  rw [if_pos hg] at h
  obtain ⟨hb, hn⟩ := hg
  have HI := Aside0.mk hr0
  clear hr0
  by_cases h0 : a1_0 = 0
  · rw [if_pos h0] at h
    simp only [Option.some.injEq, Prod.mk.injEq] at h
    obtain ⟨rfl, rfl⟩ := h
    subst h0
    go_enter Try.func28, Try.ntmps28
    go_wp2
    go_ret2
    exact ⟨_, rfl, Kd.R_nil _ _ _ _ _, by repeat (first | exact below_alloc (Below.refl _ _) _ | apply pw_below_drewN | apply below_drew1)⟩
  rw [if_neg h0] at h
  have d0 : (a1_0 == 0) = false := by simpa using h0
  by_cases h1 : 0 < a1_0 ∧ 0 ≤ a1_1 ∧ a1_0 + a1_1 ≤ (l0.length : Int)
  rotate_left
  · rw [if_neg h1] at h
    simp only [Option.some.injEq, Prod.mk.injEq] at h
    obtain ⟨rfl, rfl⟩ := h
    have HIN := Aside0.mk (show le_In.f (l0.length : Int) a1_0 a1_1 = some false by
      unfold le_In.f
      by_cases e1 : a1_0 ≥ 0
      · rw [if_pos e1]
        by_cases e2 : a1_1 ≥ 0
        · rw [if_pos e2]
          by_cases e3 : a1_0 ≤ (l0.length : Int)
          · rw [if_pos e3, IntWalk.wrap64_in _ (by omega)]
            congr 1
            rw [decide_eq_false_iff_not]
            omega
          · rw [if_neg e3]
        · rw [if_neg e2]
      · rw [if_neg e1])
    clear h0 h1
    go_enter Try.func28, Try.ntmps28
    go_wp2_with (go_at_call 56; refine (le_In.calls _ _ _ _ _ HIN.out).mono ?_; rintro e w' ⟨rfl, ⟨m1, rfl⟩⟩)
    go_ret2
    exact ⟨_, rfl, Kd.R_nil _ _ _ _ _, by repeat (first | exact below_alloc (Below.refl _ _) _ | apply pw_below_drewN | apply below_drew1)⟩
  rw [if_pos h1] at h
  have HIN := Aside0.mk (show le_In.f (l0.length : Int) a1_0 a1_1 = some true by
    unfold le_In.f
    rw [if_pos (by omega), if_pos (by omega), if_pos (by omega), IntWalk.wrap64_in _ (by omega)]
    congr 1
    rw [decide_eq_true_iff]
    omega)
  obtain ⟨p0, p1, p2⟩ := h1
  obtain ⟨a, rfl⟩ := Int.eq_ofNat_of_zero_le (show 0 ≤ a1_0 by omega)
  obtain ⟨z, rfl⟩ := Int.eq_ofNat_of_zero_le p1
  have hee : ((a : Int) + (z : Int)).toNat = a + z := by omega
  rw [hee, Int.toNat_natCast] at h
  have hsum : IntKind.i64.wrap ((a : Int) + (z : Int)) = ((a + z : Nat) : Int) := by exact IntWalk.i64_in _ (by omega)
  have hel : a + z ≤ l0.length := by omega
  have hae : a ≤ a + z := by omega
  generalize he : a + z = e at *
  have HE := Aside0.mk he
  clear he hee p0 p1 p2 h0
  have hmk := print_make 45 5 .u8 1 Try.underlying45 info5 (by omega) l0.length (by omega)
  have HR := Aside0.mk (Option.some.inj h)
  clear h
  have HJ0 := Aside0.mk (show ∀ (o : Obj) (m1 : Nat), PJ w (w.heap.size + 1 + 1) A0 c0 l0 e a (r1, r2) ((((w.alloc o).drewN m1).alloc (.cells (madeCells #[Value.int .u8 0] l0.length) 5)).alloc (.cells #[.slice A0 l0.length c0, .slice none 0 0, .slice (some ⟨w.heap.size + 1, 0, none⟩) l0.length l0.length] 123 (0, 0))) from fun o m1 => by
    have hB1 : Below w.heap.size w ((w.alloc o).drewN m1) := pw_below_drewN (below_alloc (Below.refl _ _) _) _
    have hs : ((w.alloc o).drewN m1).heap.size = w.heap.size + 1 := by simp [World.drewN]
    have hi := RS_init w _ hB1 A0 c0 l0 hn
    rw [hs] at hi
    exact ⟨l0.length + 1, [], _, HR.out, by omega, by simp, hi, below_alloc (below_alloc hB1 _) _⟩)
  go_enter Try.func28, Try.ntmps28
  go_wp2_with (go_at_call 56; refine (le_In.calls _ _ _ _ _ HIN.out).mono ?_; rintro e w' ⟨rfl, ⟨m1, rfl⟩⟩)
  go_loopw [8, 9, 10] (fun v8 v9 v10 wr => ∃ k : Nat, k ≤ e ∧ v8 = .int .i64 (k : Int) ∧ (∃ x, v9 = x) ∧ (∃ x, v10 = x) ∧ Aside0 (PJ w (w.heap.size + 1 + 1) A0 c0 l0 e k (r1, r2) wr)) (fun v8 _ _ _ => e - (intOf v8).toNat)
  case atStart => exact ⟨a, hae, rfl, ⟨_, rfl⟩, ⟨_, rfl⟩, ⟨HJ0.out _ _⟩⟩
  case round =>
    obtain ⟨k, hke, rfl, ⟨x9, rfl⟩, ⟨x10, rfl⟩, HJ⟩ := hrel
    obtain ⟨m, out, tk, hR1, hm1, ho1, hS1, hB1⟩ := HJ.out
    have HS1 := Aside0.mk hS1
    have HB1 := Aside0.mk hB1
    obtain ⟨m, rfl⟩ : ∃ q, m = q + 1 := ⟨m - 1, by omega⟩
    simp only [relLoop] at hR1
    by_cases hkl : k < e
    · rw [if_pos hkl] at hR1
      have hlt : decide ((k : Int) < (e : Int)) = true := decide_eq_true (by omega)
      have HE2 := Aside0.mk (fun (W : World) hB hS => rel_block.calls w.heap.size (w.heap.size + 1 + 1) A0 c0 l0 out tk k e hb hn ho1 hke hel hc0 w W rfl HI.out hB hS)
      have HL := Aside0.mk (relBlock_len l0 k e out tk ho1)
      have HO := Aside0.mk (fun n r h => relBlock_ok (img := l0) (a := k) (e := e) (out := out) (tk := tk) (n := n) (r := r) h)
      clear hS1 hB1 HJ HJ0
      rcases hr : relBlock l0 k e out tk with ⟨⟨n, b⟩, o2, t2⟩
      rw [hr] at hR1 HL HE2 HO
      rcases b with _ | _
      · simp only [Prod.mk.injEq] at hR1
        obtain ⟨rfl, rfl⟩ := hR1
        clear hr HO
        go_wp2_with (go_at_call 57; refine (HE2.out _ HB1.out HS1.out).mono ?_; rintro r w' ⟨rfl, hs2, hb2⟩; have HS2 := Aside0.mk hs2; have HB2 := Aside0.mk hb2; clear hs2 hb2)
        go_ret2
        exact ⟨_, rfl, Kd.R_nil _ _ _ _ _, HB2.out⟩
      · obtain ⟨hn8, hne⟩ := HO.out n (o2, t2) rfl
        have hne2 := hne hke
        have hkn : IntKind.i64.wrap ((k : Int) + (n : Int)) = ((k + n : Nat) : Int) := by exact IntWalk.i64_in _ (by omega)
        have HR2 := Aside0.mk hR1
        clear hr hR1 HO hne
        go_wp2_with (go_at_call 57; refine (HE2.out _ HB1.out HS1.out).mono ?_; rintro r w' ⟨rfl, hs2, hb2⟩; have HS2 := Aside0.mk hs2; have HB2 := Aside0.mk hb2; clear hs2 hb2)
        go_roundw
        case rel => exact ⟨k + n, hne2, by go_num, ⟨_, rfl⟩, ⟨_, rfl⟩, ⟨m, o2, t2, HR2.out, by omega, HL.out, HS2.out, HB2.out⟩⟩
        case measure => simp [intOf]; omega
    · rw [if_neg hkl] at hR1
      simp only [Prod.mk.injEq] at hR1
      obtain ⟨rfl, rfl⟩ := hR1
      have hlt : decide ((k : Int) < (e : Int)) = false := decide_eq_false (by omega)
      obtain ⟨vo, vt, hg1, hg2, hO, hT, _⟩ := hS1
      obtain ⟨Ao, co, rfl⟩ := Kd.R_slice hO
      have HO := Aside0.mk hO
      have hd1 : wr.cell? ⟨w.heap.size + 1 + 1, 1, none⟩ = some (.slice Ao out.length co) := by simp [World.cell?, hg1]
      clear hg1 hO hT HJ HJ0 hB1
      go_wp2
      go_ret2
      exact ⟨_, rfl, Kd.R_mono HO.out (fun _ _ => trivial), HB1.out⟩


end Go.Proofs.Ytjifmpjpccibnaa.D
