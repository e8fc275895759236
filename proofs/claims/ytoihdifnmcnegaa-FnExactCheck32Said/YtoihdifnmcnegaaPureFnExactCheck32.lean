/- For all bytes the program's Check32 answers as the reference's, and leaves them alone. Conditions: none. -/
import Derived.Test.YtoihdifnmcnegaaQFnExactCheck32x1
import Derived.Test.YtoihdifnmcnegaaEvx
namespace Go.Proofs.Ytoihdifnmcnegaa.Pure
open Go.RowKit Go.Proofs.Ytoihdifnmcnegaa.QFnExactCheck32 Go.Proofs.YtoihdifnmcnegaaW.PrintWords Go.Proofs.YtoihdifnmcnegaaW.PrintLast
set_option linter.unusedSimpArgs false
set_option linter.unusedVariables false

theorem copy_loop (l : List Int) (hl : l.length ≤ 1048576) (d : Nat) : ∀ (i : Nat) (x : List Int), i + d = l.length → x.length = l.length → x.take i = l.take i → Ev (fun k => laws_toByteS.l0 k l x (i : Int)) l := by
  induction d with
  | zero =>
    intro i x hi hx ht
    refine Ev.step (fun k => by rw [laws_toByteS.l0]) ?_
    refine Evx.neg (by omega) (Evx.eq (Ev.now _) ?_)
    rw [List.take_of_length_le (by omega), List.take_of_length_le (by omega)] at ht
    exact ht
  | succ d ih =>
    intro i x hi hx ht
    refine Ev.step (fun k => by rw [laws_toByteS.l0]) ?_
    refine Evx.pos (by omega) (Evx.pos (by omega) (Evx.pos (by omega) ?_))
    rw [Evx.w64 (by omega) (by omega)]
    refine Evx.fn (ih (i + 1) (x.set i (rd l (i : Int))) (by omega) (by rw [List.length_set]; exact hx) ?_) (by rw [Int.toNat_natCast]; rfl)
    rw [List.take_add_one, List.take_add_one, List.take_set_of_le (Nat.le_refl _), ht, List.getElem?_set_self (by omega), List.getElem?_eq_getElem (by omega)]
    unfold rd
    rw [Int.toNat_natCast, List.getD_eq_getElem?_getD, List.getElem?_eq_getElem (by omega)]
    rfl
theorem copied (l : List Int) (hl : l.length ≤ 1048576) : Ev (fun k => laws_toByteS.f k l) l := by
  unfold laws_toByteS.f
  refine Evx.pos (by omega) (Evx.pos (by rw [Int.toNat_natCast]; omega) ?_)
  refine copy_loop l hl l.length 0 _ (by omega) (by simp) (by simp)
theorem eq_loop (l : List Int) (hl : l.length ≤ 1048576) (d : Nat) : ∀ i : Nat, i + d = l.length → Ev (fun k => laws_eqByteS.l0 k l l (i : Int)) true := by
  induction d with
  | zero =>
    intro i hi
    refine Ev.step (fun k => by rw [laws_eqByteS.l0]) ?_
    exact Evx.neg (by omega) (Ev.now _)
  | succ d ih =>
    intro i hi
    refine Ev.step (fun k => by rw [laws_eqByteS.l0]) ?_
    refine Evx.pos (by omega) (Evx.pos (by omega) (Evx.pos (by omega) (Evx.pos rfl ?_)))
    rw [Evx.w64 (by omega) (by omega)]
    exact ih (i + 1) (by omega)
theorem same (l : List Int) (hl : l.length ≤ 1048576) : Ev (fun k => laws_eqByteS.f k l l) true := by
  unfold laws_eqByteS.f
  exact Evx.pos rfl (eq_loop l hl l.length 0 (by omega))
theorem xor_nat (k : IntKind) (j : Nat) (hj : j ≤ k.bits) (hk : ∀ n : Int, 0 ≤ n → n < 2 ^ j → k.wrap n = n) (a b : Nat) (ha : a < 2 ^ j) (hb : b < 2 ^ j) :
    Go.bits .xor k a b = ((a ^^^ b : Nat) : Int) := by
  have hp : 2 ^ j ≤ 2 ^ k.bits := Nat.pow_le_pow_right (by decide) hj
  have ha' : a % 2 ^ k.bits = a := Nat.mod_eq_of_lt (Nat.lt_of_lt_of_le ha hp)
  have hb' : b % 2 ^ k.bits = b := Nat.mod_eq_of_lt (Nat.lt_of_lt_of_le hb hp)
  have cast : ∀ n : Nat, n < 2 ^ j → ((n : Nat) : Int) < 2 ^ j := fun n h => by exact_mod_cast h
  simp only [Go.bits, BitVec.ofInt_natCast, BitVec.toNat_xor, BitVec.toNat_ofNat, ha', hb']
  exact hk _ (Int.natCast_nonneg _) (cast _ (Nat.xor_lt_two_pow ha hb))
theorem xor32 (a b : Nat) (ha : a < 4294967296) (hb : b < 4294967296) : Go.bits .xor .u32 (a : Int) (b : Int) = ((a ^^^ b : Nat) : Int) :=
  xor_nat .u32 32 (by decide) (fun n h0 h1 => by rw [IntKind.wrap_u32]; omega) a b ha hb
theorem xor64 (a b : Nat) (ha : a < 4294967296) (hb : b < 4294967296) : Go.bits .xor .i64 (a : Int) (b : Int) = ((a ^^^ b : Nat) : Int) :=
  xor_nat .i64 32 (by decide) (fun n h0 h1 => by rw [IntKind.wrap_i64]; omega) a b ha hb
theorem and1 (a : Nat) (ha : a < 4294967296) : Go.bits .and .u32 (a : Int) 1 = ((a % 2 : Nat) : Int) := by
  have := bits_mask .u32 32 (by decide) (fun n h0 h1 => by rw [IntKind.wrap_u32]; omega) 1 (by decide) (a : Int) (by omega) (by omega)
  simpa using this
theorem xlt {a b : Nat} (ha : a < 4294967296) (hb : b < 4294967296) : a ^^^ b < 4294967296 := Nat.xor_lt_two_pow (n := 32) ha hb
/-- One bit of the sum. -/
def bit (n : Nat) : Nat := if n % 2 = 1 then (n / 2) ^^^ 3988292384 else n / 2
theorem bit_lt {n : Nat} (h : n < 4294967296) : bit n < 4294967296 := by
  unfold bit
  split
  · exact xlt (by omega) (by omega)
  · omega
/-- Some bits. -/
def eight : Nat → Nat → Nat
  | 0, n => n
  | d + 1, n => eight d (bit n)
theorem eight_lt (d : Nat) : ∀ {n : Nat}, n < 4294967296 → eight d n < 4294967296 := by
  induction d with
  | zero => intro n h; exact h
  | succ d ih => intro n h; exact ih (bit_lt h)
/-- The sum over bytes. -/
def sum : List Int → Nat → Nat
  | [], n => n ^^^ 4294967295
  | c :: r, n => sum r (eight 8 (n ^^^ c.toNat))
/-- What both sides answer. -/
def ans (l : List Int) : Int := if (l.length : Int) > 65536 then 0 else ((sum l 4294967295 : Nat) : Int)
theorem sum_lt (l : List Int) (hx : ∀ x ∈ l, 0 ≤ x ∧ x < 256) : ∀ n : Nat, n < 4294967296 → sum l n < 4294967296 := by
  induction l with
  | nil => intro n h; exact xlt h (by omega)
  | cons c r ih =>
    intro n h
    have hc := hx c (by simp)
    exact ih (fun x hx2 => hx x (by simp [hx2])) _ (eight_lt 8 (xlt h (by omega)))
theorem rd_drop (l : List Int) (hx : ∀ x ∈ l, 0 ≤ x ∧ x < 256) {i : Nat} {c : Int} {r : List Int} (h : l.drop i = c :: r) : rd l (i : Int) = c ∧ l.drop (i + 1) = r ∧ i < l.length ∧ 0 ≤ c ∧ c < 256 := by
  have hi : i < l.length := by
    rcases Nat.lt_or_ge i l.length with h1 | h1
    · exact h1
    · rw [List.drop_eq_nil_of_le h1] at h; cases h
  have e : rd l (i : Int) = c := by
    unfold rd
    rw [Int.toNat_natCast, List.getD_eq_getElem?_getD, ← Nat.add_zero i, ← List.getElem?_drop, h]; rfl
  refine ⟨e, by rw [← List.tail_drop, h]; rfl, hi, ?_⟩
  have : c ∈ l := List.mem_of_mem_drop (by rw [h]; simp)
  exact hx c this
theorem spec_bits (l : List Int) {R : Int} (i : Nat) (d : Nat) : ∀ (j n : Nat), j + d = 8 → n < 4294967296 → Ev (fun k => spec_l07Check.l0 k l ((eight d n : Nat) : Int) (wrap64 ((i : Int) + 1))) R → Ev (fun k => spec_l07Check.l1 k l (n : Int) (i : Int) (j : Int)) R := by
  induction d with
  | zero =>
    intro j n hj hn h
    refine Ev.step (fun k => by rw [spec_l07Check.l1]) ?_
    exact Evx.neg (by omega) h
  | succ d ih =>
    intro j n hj hn h
    refine Ev.step (fun k => by rw [spec_l07Check.l1]) ?_
    have t1 : Int.tmod (n : Int) 2 = ((n % 2 : Nat) : Int) := by rw [Int.tmod_eq_emod_of_nonneg (by omega)]; omega
    have t2 : Int.tdiv (n : Int) 2 = ((n / 2 : Nat) : Int) := by rw [Int.tdiv_eq_ediv_of_nonneg (by omega)]; omega
    rw [t1, t2, Evx.w64 (i := ((n / 2 : Nat) : Int)) (by omega) (by omega), Evx.w64 (i := (j : Int) + 1) (by omega) (by omega)]
    have hb : bit n = if n % 2 = 1 then (n / 2) ^^^ 3988292384 else n / 2 := rfl
    have next := ih (j + 1) (bit n) (by omega) (bit_lt hn) h
    refine Evx.pos (by omega) (Evx.ite (fun a => ?_) (fun a => ?_))
    · rw [show (3988292384 : Int) = ((3988292384 : Nat) : Int) from rfl, xor64 _ _ (by omega) (by omega)]
      rw [hb, if_pos (by omega)] at next
      exact next
    · rw [hb, if_neg (by omega)] at next
      exact next
theorem spec_loop (l : List Int) (hl : l.length ≤ 1048576) (hx : ∀ x ∈ l, 0 ≤ x ∧ x < 256) (r : List Int) : ∀ (i n : Nat), l.drop i = r → n < 4294967296 → Ev (fun k => spec_l07Check.l0 k l (n : Int) (i : Int)) ((sum r n : Nat) : Int) := by
  induction r with
  | nil =>
    intro i n h hn
    have hi : l.length ≤ i := by
      rcases Nat.lt_or_ge i l.length with h1 | h1
      · have := congrArg List.length h; simp at this; omega
      · exact h1
    refine Ev.step (fun k => by rw [spec_l07Check.l0]) ?_
    refine Evx.neg (by omega) (Evx.eq (Ev.now _) ?_)
    exact xor64 n 4294967295 hn (by omega)
  | cons c r ih =>
    intro i n h hn
    obtain ⟨h1, h2, h3, h4, h5⟩ := rd_drop l hx h
    refine Ev.step (fun k => by rw [spec_l07Check.l0]) ?_
    obtain ⟨m, rfl⟩ : ∃ m : Nat, c = (m : Int) := ⟨c.toNat, by omega⟩
    rw [h1, Evx.w64 (i := (m : Int)) (by omega) (by omega), xor64 n m hn (by omega)]
    refine Evx.pos (by omega) (Evx.pos (by omega) ?_)
    refine spec_bits l i 8 0 _ rfl (xlt hn (by omega)) ?_
    rw [Evx.w64 (i := (i : Int) + 1) (by omega) (by omega)]
    exact ih (i + 1) _ h2 (eight_lt 8 (xlt hn (by omega)))
theorem impl_bits (l : List Int) {R L : Int} (i : Nat) (d : Nat) : ∀ (j n : Nat), j + d = 8 → n < 4294967296 → Ev (fun k => impl_crc.l0 k ((eight d n : Nat) : Int) l L (wrap64 ((i : Int) + 1))) R → Ev (fun k => impl_crc.l1 k (n : Int) l L (i : Int) (j : Int)) R := by
  induction d with
  | zero =>
    intro j n hj hn h
    refine Ev.step (fun k => by rw [impl_crc.l1]) ?_
    exact Evx.neg (by omega) h
  | succ d ih =>
    intro j n hj hn h
    refine Ev.step (fun k => by rw [impl_crc.l1]) ?_
    have next := ih (j + 1) (bit n) (by omega) (bit_lt hn) h
    have e : Go.bits .xor .u32 ((n : Int) / 2) ((3988292384 * (Go.bits .and .u32 (n : Int) 1)) % 4294967296) = ((bit n : Nat) : Int) := by
      rw [and1 n hn]
      have hb : bit n = if n % 2 = 1 then (n / 2) ^^^ 3988292384 else n / 2 := rfl
      rcases Nat.mod_two_eq_zero_or_one n with h0 | h0
      · rw [h0, hb, if_neg (by omega)]
        rw [show ((n : Int) / 2) = ((n / 2 : Nat) : Int) by omega, show (3988292384 * ((0 : Nat) : Int)) % 4294967296 = ((0 : Nat) : Int) from rfl, xor32 _ _ (by omega) (by omega), Nat.xor_zero]
      · rw [h0, hb, if_pos h0]
        rw [show ((n : Int) / 2) = ((n / 2 : Nat) : Int) by omega, show (3988292384 * ((1 : Nat) : Int)) % 4294967296 = ((3988292384 : Nat) : Int) from rfl, xor32 _ _ (by omega) (by omega)]
    rw [e, Evx.w64 (i := (j : Int) + 1) (by omega) (by omega)]
    exact Evx.pos (by omega) next
theorem impl_loop (l : List Int) (hl : l.length ≤ 1048576) (hx : ∀ x ∈ l, 0 ≤ x ∧ x < 256) (r : List Int) : ∀ (i n : Nat), l.drop i = r → n < 4294967296 → Ev (fun k => impl_crc.l0 k (n : Int) l (l.length : Int) (i : Int)) ((sum r n : Nat) : Int) := by
  induction r with
  | nil =>
    intro i n h hn
    have hi : l.length ≤ i := by
      rcases Nat.lt_or_ge i l.length with h1 | h1
      · have := congrArg List.length h; simp at this; omega
      · exact h1
    have hx32 : n ^^^ 4294967295 < 4294967296 := xlt hn (by omega)
    refine Ev.step (fun k => by rw [impl_crc.l0]) ?_
    refine Evx.neg (by omega) (Evx.eq (Ev.now _) ?_)
    have := xor32 4294967295 n (by omega) hn
    rw [show (4294967295 : Int) = ((4294967295 : Nat) : Int) from rfl, this, Nat.xor_comm]
    exact Evx.w64 (by omega) (by omega)
  | cons c r ih =>
    intro i n h hn
    obtain ⟨h1, h2, h3, h4, h5⟩ := rd_drop l hx h
    refine Ev.step (fun k => by rw [impl_crc.l0]) ?_
    obtain ⟨m, rfl⟩ : ∃ m : Nat, c = (m : Int) := ⟨c.toNat, by omega⟩
    rw [h1, show (m : Int) % 4294967296 = (m : Int) by omega, xor32 n m hn (by omega)]
    refine Evx.pos (by omega) (Evx.pos (by omega) (Evx.pos (by omega) ?_))
    refine impl_bits l i 8 0 _ rfl (xlt hn (by omega)) ?_
    rw [Evx.w64 (i := (i : Int) + 1) (by omega) (by omega)]
    exact ih (i + 1) _ h2 (eight_lt 8 (xlt hn (by omega)))

theorem FnExactCheck32 : laws_FnExactCheck32.Pure := by
  intro l0 hm hs hw
  refine Ev.rounds (g := fun k => laws_FnExactCheck32.f k l0) ?_
  unfold laws_FnExactCheck32.f
  refine Evx.ite (fun _ => Ev.now _) (fun hl => ?_)
  have hl' : l0.length ≤ 1048576 := by omega
  have hx : ∀ x ∈ l0, 0 ≤ x ∧ x < 256 := fun x h => by
    have := hw x h
    simp [Lit.wf, IntKind.min, IntKind.max, IntKind.signed, IntKind.bits] at this
    omega
  have k1 : Ev (fun k => spec_Check32.f k l0) (ans l0) := by
    unfold spec_Check32.f ans
    refine Evx.ite (fun h => ?_) (fun h => ?_)
    · rw [if_pos h]; exact Ev.now _
    · rw [if_neg h]
      refine Ev.bind (a := _) ?_ (Ev.now _)
      unfold spec_l07Check.f
      exact spec_loop l0 hl' hx l0 0 4294967295 rfl (by decide)
  have k2 : Ev (fun k => impl_Check32.f k l0) (ans l0) := by
    unfold impl_Check32.f ans
    refine Evx.ite (fun h => ?_) (fun h => ?_)
    · rw [if_pos h]; exact Ev.now _
    · rw [if_neg h]
      refine Ev.bind (a := _) ?_ (Ev.now _)
      unfold impl_crc.f
      exact impl_loop l0 hl' hx l0 0 4294967295 rfl (by decide)
  exact Ev.bind (copied l0 hl') (Ev.bind k1 (Ev.bind (copied l0 hl') (Ev.bind k2 (Evx.pos rfl (Ev.bind (copied l0 hl') (Ev.bind (same l0 hl') (Evx.pos rfl (Ev.now _))))))))

end Go.Proofs.Ytoihdifnmcnegaa.Pure
