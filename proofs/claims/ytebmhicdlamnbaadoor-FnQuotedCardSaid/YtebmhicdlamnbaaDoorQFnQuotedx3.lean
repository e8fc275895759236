/- Printed by a program of this session's own (wip/myprint.py): the functions that FnQuoted reaches as plain Lean functions, and that Go's calls do what they say. Conditions: as each theorem states. -/
import Derived.Test.YtebmhicdlamnbaaDoorQFnQuotedx0
import Derived.Test.YtebmhicdlamnbaaDoorQFnQuotedx2
namespace Go.Proofs.YtebmhicdlamnbaaDoor.QFnQuoted
open Go.RowKit Go.Proofs.YtebmhicdlamnbaaDoorW.PrintWords Go.Proofs.YtebmhicdlamnbaaDoorW.PrintLast Go.Proofs.YtebmhicdlamnbaaDoorW.PrintMore
attribute [local go_sem] max2_int min2_int max_two min_two max_three min_three max_four min_four   -- for this text's walks alone
set_option linter.unusedVariables false
set_option linter.unusedSimpArgs false

/-! ### spec_QuotedText: function 12 -/
def spec_QuotedText.f (k : Nat) (l0 : List Int) : Option (ByteArray × Int) := if (l0.length : Int) > 65536 then (some ((⟨#[]⟩ : ByteArray), 2)) else ((spec_l02Quoted.f k l0).bind fun t170 => (some (t170, 0)))
theorem spec_QuotedText.mono : ∀ a0 k, LeO (spec_QuotedText.f k a0) (spec_QuotedText.f (k + 1) a0) := by
  intro a0 k
  unfold spec_QuotedText.f
  repeat' first
      | (with_reducible exact spec_l02Quoted.mono _ _)
      | (with_reducible exact LeO.refl _)
      | (with_reducible exact LeO.none _)
      | (with_reducible refine LeO.ite ?_ ?_)
      | (with_reducible refine LeO.bind ?_ (fun _ => ?_))
      | exact spec_l02Quoted.mono _ _
      | exact LeO.none _
      | refine LeO.ite ?_ ?_
      | refine LeO.bind ?_ (fun _ => ?_)
set_option maxHeartbeats 8000000 in
set_option maxRecDepth 100000 in
theorem spec_QuotedText.calls (k : Nat) (A0 : Option Addr) (c0 : Nat) (l0 : List Int) (r1 : ByteArray) (r2 : Int) (w : World) (hr0 : Kd.C (Kd.int .u8) w A0 l0.length l0) (hc0 : l0.length ≤ c0) (h : spec_QuotedText.f k l0 = some (r1, r2)) :
    Calls Tryd.prog 12 #[.slice A0 l0.length c0] w fun e w' => e = .returned (.tuple #[.string r1, .int .i64 r2]) ∧ Below w.heap.size w w' := by
  have HR0 := Aside0.mk hr0
  have HC0 := Aside0.mk hc0
  clear hr0 hc0
  have HB := Aside0.mk (Below.refl w.heap.size w)
  have H : (if (l0.length : Int) > 65536 then (some ((⟨#[]⟩ : ByteArray), 2)) else ((spec_l02Quoted.f k l0).bind fun t170 => (some (t170, 0)))) = some (r1, r2) := h
  clear h
  by_cases c2 : (l0.length : Int) > 65536
  · rw [if_pos c2] at H
    have c2b0 : decide (65536 < (l0.length : Int)) = true := decide_eq_true c2
    have c2b1 : decide (65536 < l0.length) = true := decide_eq_true (by omega)
    clear c2
    simp only [Option.some.injEq, Prod.mk.injEq] at H
    obtain ⟨rfl, rfl⟩ := H
    go_enter Tryd.func12, Tryd.ntmps12
    go_wp2
    go_ret2
    exact ⟨by first | rfl | (simp [errW_none, errW_some] <;> rfl) | (simp [*, errW_none, errW_some] <;> rfl), by repeat (first | (with_reducible first | exact HB.out | apply below_alloc | apply pw_below_drewN | apply below_drew1) | exact HB.out)⟩
  · rw [if_neg c2] at H
    have c2b0 : decide (65536 < (l0.length : Int)) = false := decide_eq_false c2
    have c2b1 : decide (65536 < l0.length) = false := decide_eq_false (by omega)
    clear c2
    replace H := Option.bind_eq_some_iff.mp H
    obtain ⟨t170, A30, H⟩ := H
    replace H : (some (t170, 0)) = some (r1, r2) := H
    have A3 := Aside0.mk A30
    clear A30
    simp only [Option.some.injEq, Prod.mk.injEq] at H
    obtain ⟨rfl, rfl⟩ := H
    go_enter Tryd.func12, Tryd.ntmps12
    go_wp2_with (first | ((with_reducible refine gate_callee (f := 33) rfl ?_); refine goesL_ (some 8) rfl rfl Tryd.func33 (by kernel_rfl) rfl #[.slice A0 l0.length c0] rfl (by (try simp only [List.map_toArray, List.map_cons, List.map_nil]); first | done | rfl | (simp only [List.length_drop, List.length_take]; rfl)) ?_; (with_reducible refine (spec_l02Quoted.calls k _ _ l0 t170 _ ?side1 ?side2 A3.out).mono ?_); (case side1 => repeat (first | exact HR0.out | (with_reducible refine Kd.C_alloc ?_ _) | (with_reducible refine Kd.C_drewN ?_ _) | (with_reducible refine Kd.C_drew ?_))); (case side2 => exact HC0.out); rintro e w4 ⟨rfl, hb⟩; refine ⟨_, rfl, ?_⟩; have n0_ := Aside0.mk (below_step (by repeat (first | (with_reducible first | exact HB.out | apply below_alloc | apply pw_below_drewN | apply below_drew1) | exact HB.out)) hb); clear HB; have HB := n0_; clear n0_; (try clear hb); (try clear hb2); (try clear hk); (try clear hi)))
    go_ret2
    exact ⟨by first | rfl | (simp [errW_none, errW_some] <;> rfl) | (simp [*, errW_none, errW_some] <;> rfl), by repeat (first | (with_reducible first | exact HB.out | apply below_alloc | apply pw_below_drewN | apply below_drew1) | exact HB.out)⟩

/-! ### impl_quotedText: function 34, the quoted text of bytes: walked by hand -/
def impl_quotedText.hx : ByteArray := ⟨#[48, 49, 50, 51, 52, 53, 54, 55, 56, 57, 65, 66, 67, 68, 69, 70]⟩
/-- One byte quoted. -/
def impl_quotedText.tok (c : Int) (last : Bool) : List Int := if c < 32 ∨ 126 < c ∨ c = 61 ∨ (c = 32 ∧ last = true) then [61, bt impl_quotedText.hx (c / 16), bt impl_quotedText.hx (c % 16)] else [c]
/-- A line quoted, behind what is written so far. -/
def impl_quotedText.line : List Int → Nat → List Int → List Int
  | [], _, acc => acc
  | c :: l, col, acc => if (if l.isEmpty = true then 76 else 75) < col + (impl_quotedText.tok c l.isEmpty).length then impl_quotedText.line l (impl_quotedText.tok c l.isEmpty).length (acc ++ [61, 13, 10] ++ impl_quotedText.tok c l.isEmpty) else impl_quotedText.line l (col + (impl_quotedText.tok c l.isEmpty).length) (acc ++ impl_quotedText.tok c l.isEmpty)
/-- The lines, with ends of lines between. -/
def impl_quotedText.lns : List (List Int) → Bool → List Int → List Int
  | [], _, acc => acc
  | p :: ps, first, acc => impl_quotedText.lns ps false (impl_quotedText.line p 0 (if first = true then acc else acc ++ [13, 10]))
def impl_quotedText.up (l : List UInt8) : List Int := l.map fun b => (b.toNat : Int)
def impl_quotedText.pcs (l : List Int) : List (List Int) := (Lib.split (Lib.bytesOf l) [13, 10]).map impl_quotedText.up
def impl_quotedText.f (l0 : List Int) : Option (ByteArray) := if l0.length ≤ 1000000 ∧ (∀ x ∈ l0, 0 ≤ x ∧ x < 256) then some (strOfNums (impl_quotedText.lns (impl_quotedText.pcs l0) true [])) else none
theorem impl_quotedText.cells_of {xs : List Int} (h : ∀ x ∈ xs, 0 ≤ x ∧ x < 256) : Lib.byteCells (Lib.bytesOf xs) = xs.map (Value.int .u8) := by
  unfold Lib.byteCells Lib.bytesOf
  rw [List.map_map]
  refine List.map_congr_left fun x hx => ?_
  have := h x hx
  simp only [Function.comp, UInt8.toNat_ofNat']
  rw [show ((x.toNat % 2 ^ 8 : Nat) : Int) = x by omega]
theorem impl_quotedText.cells_more {acc xs : List Int} (h : ∀ x ∈ xs, 0 ≤ x ∧ x < 256) : Lib.byteCells (Lib.bytesOf acc) ++ xs.map (Value.int .u8) = Lib.byteCells (Lib.bytesOf (acc ++ xs)) := by
  rw [← impl_quotedText.cells_of h, ← Lib.byteCells_append]
  simp [Lib.bytesOf]
theorem impl_quotedText.cells_len (acc : List Int) : (Lib.byteCells (Lib.bytesOf acc)).length = acc.length := by rw [Lib.byteCells_length, Lib.bytesOf_length]
theorem impl_quotedText.bt_range (s : ByteArray) (i : Int) : 0 ≤ bt s i ∧ bt s i < 256 := by
  unfold bt
  split
  · have := (s[i.toNat]).toNat_lt
    omega
  · omega
theorem impl_quotedText.tok_range {c : Int} (h : 0 ≤ c ∧ c < 256) (b : Bool) : ∀ x ∈ impl_quotedText.tok c b, 0 ≤ x ∧ x < 256 := by
  intro x hx
  unfold impl_quotedText.tok at hx
  split at hx
  · simp only [List.mem_cons, List.not_mem_nil, or_false] at hx
    rcases hx with rfl | rfl | rfl
    · omega
    · exact impl_quotedText.bt_range _ _
    · exact impl_quotedText.bt_range _ _
  · rw [List.mem_singleton.1 hx]
    exact h
theorem impl_quotedText.tok_len (c : Int) (b : Bool) : 1 ≤ (impl_quotedText.tok c b).length ∧ (impl_quotedText.tok c b).length ≤ 3 := by
  unfold impl_quotedText.tok
  split <;> simp
theorem impl_quotedText.drop_at {α : Type} {xs : List α} {k : Nat} (h : k < xs.length) : xs.drop k = xs[k] :: xs.drop (k + 1) := List.drop_eq_getElem_cons h
theorem impl_quotedText.kept {W W' : World} {b g : Nat} {cs : Array Value} (h : W.heap[g]? = some (.cells cs 22 (0, 0))) (hk : Lib.OthersKept 5 (some b) W W') (hne : b ≠ g) : W'.heap[g]? = some (.cells cs 22 (0, 0)) :=
  hk g _ h (fun e => hne (Option.some.inj e).symm) (fun c fz e => by injection e with _ e2; cases e2)
theorem impl_quotedText.size_b {B : Nat} {w W : World} (h : Below B w W) (hB : B ≤ w.heap.size) : B ≤ W.heap.size := Nat.le_trans hB h.size
theorem impl_quotedText.cells_at {w : World} {g : Nat} {cs : List Value} (h : w.heap[g]? = some (.cells cs.toArray 5 (0, 0))) : ∀ (j : Nat) u, cs[j]? = some u → w.cell? ((⟨g, 0, none⟩ : Addr).add j) = some u := by
  intro j u hj
  have e : (⟨g, 0, none⟩ : Addr).add j = ⟨g, j, none⟩ := by
    unfold Addr.add
    by_cases h0 : j = 0
    · subst h0; rfl
    · simp [h0]
  rw [e, Lib.cell_of_heap h]
  simpa using hj
/-- What a row of the call's own says of its capacity. -/
theorem impl_quotedText.caps {α : Type} {d : Kd α} {e : Nat} {w : World} {base : Nat} {ok : Nat → Prop} {A : Option Addr} {n c : Nat} {xs : List α} (h : d.R e w base ok (.slice A n c) xs) : (A = none ∧ c = 0) ∨ ∃ ad, A = some ad ∧ c ≤ 9223372036854775807 := by
  obtain ⟨inner, ho⟩ := Kd.R_own h
  rcases ho.2 with ⟨hv, _⟩ | ⟨g, cap, cur, hv, _, _, _, hm, _⟩
  · injection hv with h1 h2 h3
    exact Or.inl ⟨h1, h3⟩
  · injection hv with h1 h2 h3
    subst h1 h3
    exact Or.inr ⟨_, rfl, hm⟩
/-- Some bytes of a row of their own written. -/
theorem impl_quotedText.emit (B b : Nat) (bs tk : List Int) (g cap : Nat) (w : World) (h : Lib.IsBuilderF 57 5 B b (Lib.byteCells (Lib.bytesOf bs)) w) (ht : w.heap[g]? = some (.cells (tk.map (Value.int .u8)).toArray 5 (0, 0))) (hg : g ≠ b) (hr : ∀ x ∈ tk, 0 ≤ x ∧ x < 256) (hl : bs.length + tk.length ≤ 140737488355328) (hBw : B ≤ w.heap.size) :
    Calls Tryd.prog 84 #[.pointer (some ⟨b, 0, none⟩), .slice (some ⟨g, 0, none⟩) tk.length cap] w fun e w' => e = .returned (.tuple #[.int .i64 tk.length, .nilIface]) ∧ (Lib.IsBuilderF 57 5 B b (Lib.byteCells (Lib.bytesOf (bs ++ tk))) w' ∧ Below B w w' ∧ Lib.OthersKept 5 (some b) w w') := by
  rw [← impl_quotedText.cells_more hr]
  refine Bld.write B b _ ⟨g, 0, none⟩ tk.length cap (tk.map (Value.int .u8)) w h (by simp) (impl_quotedText.cells_at ht) hg ?_ ?_ ?_ hBw
  · rintro k rfl
    exact (Array.getElem?_eq_some_iff.1 ht).1
  · intro u hu
    obtain ⟨x, _, rfl⟩ := List.mem_map.1 hu
    rfl
  · rw [impl_quotedText.cells_len]
    exact hl
/-- A soft end of line written. -/
theorem impl_quotedText.soft (B b : Nat) (bs : List Int) (W : World) (o : Obj) (h : Lib.IsBuilderF 57 5 B b (Lib.byteCells (Lib.bytesOf bs)) W) (hl : bs.length + 3 ≤ 140737488355328) (hBw : B ≤ W.heap.size) :
    Calls Tryd.prog 58 #[.pointer (some ⟨b, 0, none⟩), .string ⟨#[61, 13, 10]⟩] (W.alloc o) fun e w' => e = .returned (.tuple #[.int .i64 3, .nilIface]) ∧ (Lib.IsBuilderF 57 5 B b (Lib.byteCells (Lib.bytesOf (bs ++ [61, 13, 10]))) w' ∧ Below B (W.alloc o) w' ∧ Lib.OthersKept 5 (some b) (W.alloc o) w' ∧ w'.heap[W.heap.size]? = some o) := by
  rw [← impl_quotedText.cells_more (xs := [61, 13, 10]) (by intro x hx; simp only [List.mem_cons, List.not_mem_nil, or_false] at hx; omega)]
  exact Bld.writeStringK B b _ ⟨#[61, 13, 10]⟩ W o h (by rw [impl_quotedText.cells_len]; exact hl) hBw
theorem impl_quotedText.line_brk {x : Int} {l bs : List Int} {col : Nat} {la : Bool} (h : l.isEmpty = la) (hb : (if la = true then 76 else 75) < col + (impl_quotedText.tok x la).length) : impl_quotedText.line (x :: l) col bs = impl_quotedText.line l (impl_quotedText.tok x la).length (bs ++ [61, 13, 10] ++ impl_quotedText.tok x la) := by
  subst h
  rw [impl_quotedText.line, if_pos hb]
theorem impl_quotedText.line_go {x : Int} {l bs : List Int} {col : Nat} {la : Bool} (h : l.isEmpty = la) (hb : ¬ (if la = true then 76 else 75) < col + (impl_quotedText.tok x la).length) : impl_quotedText.line (x :: l) col bs = impl_quotedText.line l (col + (impl_quotedText.tok x la).length) (bs ++ impl_quotedText.tok x la) := by
  subst h
  rw [impl_quotedText.line, if_neg hb]
theorem impl_quotedText.tok_sp {x : Int} {la : Bool} (h : x < 32 ∨ 126 < x ∨ x = 61 ∨ (x = 32 ∧ la = true)) : impl_quotedText.tok x la = [61, bt ⟨#[48, 49, 50, 51, 52, 53, 54, 55, 56, 57, 65, 66, 67, 68, 69, 70]⟩ (x / 16), bt ⟨#[48, 49, 50, 51, 52, 53, 54, 55, 56, 57, 65, 66, 67, 68, 69, 70]⟩ (x % 16)] := by
  unfold impl_quotedText.tok
  rw [if_pos h]
  rfl
theorem impl_quotedText.tok_pl {x : Int} {la : Bool} (h : ¬ (x < 32 ∨ 126 < x ∨ x = 61 ∨ (x = 32 ∧ la = true))) : impl_quotedText.tok x la = [x] := by
  unfold impl_quotedText.tok
  rw [if_neg h]
set_option maxHeartbeats 16000000 in
set_option maxRecDepth 100000 in
theorem impl_quotedText.quoted (B b : Nat) (acc : List Int) (A : Option Addr) (c : Nat) (l : List Int) (w : World) (h : Lib.IsBuilderF 57 5 B b (Lib.byteCells (Lib.bytesOf acc)) w) (hl : l.length ≤ 1000000) (ha : acc.length ≤ 10000000000000) (hr : ∀ x ∈ l, 0 ≤ x ∧ x < 256)
    (hc : ∀ i, i < l.length → ∃ ad, A = some ad ∧ w.cell? (ad.add i) = some (.int .u8 (l.getD i 0)) ∧ (ad.add i).block < B) (hBw : B ≤ w.heap.size) :
    Calls Tryd.prog 59 #[.pointer (some ⟨b, 0, none⟩), .slice A l.length c] w fun e w' => e = .returned (.tuple #[]) ∧ (Lib.IsBuilderF 57 5 B b (Lib.byteCells (Lib.bytesOf (impl_quotedText.line l 0 acc))) w' ∧ Below B w w' ∧ Lib.OthersKept 5 (some b) w w') := by
  have HC := Aside0.mk hc
  have HR := Aside0.mk hr
  have HI0 := Aside0.mk h
  have HL := Aside0.mk hl
  have HA := Aside0.mk ha
  clear hc hr h hl ha
  obtain ⟨n, hn⟩ : ∃ n, l.length = n := ⟨_, rfl⟩
  rw [hn]
  have HN := Aside0.mk hn
  have hnb : n ≤ 1000000 := by rw [← hn]; exact HL.out
  clear hn
  go_enter Tryd.func59, Tryd.ntmps59
  go_wp2
  go_loopw [12, 4] (fun v12 v4 wr => ∃ (k col : Nat) (bs : List Int), k ≤ n ∧ v12 = .int .i64 k ∧ v4 = .int .i64 col ∧ Aside0 (Lib.IsBuilderF 57 5 B b (Lib.byteCells (Lib.bytesOf bs)) wr) ∧ Aside0 (Below B w wr) ∧ Aside0 (Lib.OthersKept 5 (some b) w wr) ∧ Aside0 (impl_quotedText.line (l.drop k) col bs = impl_quotedText.line l 0 acc) ∧ col ≤ 76 ∧ Aside0 (bs.length ≤ acc.length + 6 * k)) (fun v12 _ _ => n - (intOf v12).toNat)
  case atStart => exact ⟨0, 0, acc, Nat.zero_le _, rfl, rfl, HI0, ⟨Below.refl _ _⟩, ⟨Lib.OthersKept.refl _ _ _⟩, ⟨by rw [List.drop_zero]⟩, by omega, ⟨by omega⟩⟩
  case round =>
    obtain ⟨k, col, bs, hk, rfl, rfl, HI, HB, HK, HS, hcol, HLN⟩ := hrel
    by_cases hlt : k < n
    · have hkl : k < l.length := by rw [HN.out]; exact hlt
      obtain ⟨ad, rfl, hcw, hbl⟩ := HC.out k hkl
      have hcell : wr.cell? (ad.add k) = some (.int .u8 l[k]) := by
        rw [HB.out.cell hbl, hcw, List.getD_eq_getElem?_getD, List.getElem?_eq_getElem hkl]
        rfl
      have hrg := HR.out l[k] (List.getElem_mem hkl)
      have HS1 : Aside0 (impl_quotedText.line (l[k] :: l.drop (k + 1)) col bs = impl_quotedText.line l 0 acc) := ⟨by rw [← HS.out, impl_quotedText.drop_at hkl]⟩
      have hemp : (l.drop (k + 1)).isEmpty = decide (k + 1 = n) := by
        have e : (l.drop (k + 1)).length = n - (k + 1) := by rw [List.length_drop, HN.out]
        cases hd : l.drop (k + 1) with
        | nil => rw [hd] at e; simp at e; simp; omega
        | cons a r => rw [hd] at e; simp at e; simp; omega
      generalize l[k] = x at *
      clear HS hcw
      obtain ⟨la, hla, hlast⟩ : ∃ la : Bool, (l.drop (k + 1)).isEmpty = la ∧ ((k : Int) == (n : Int) - 1) = la := ⟨_, hemp, by
        rw [Bool.eq_iff_iff]
        simp
        omega⟩
      have HLA := Aside0.mk hla
      clear hla hemp
      have HBL : Aside0 (bs.length ≤ 10000006000000) := ⟨by have := HLN.out; have := HA.out; have := HL.out; have := HN.out; omega⟩
      have HBb : Aside0 (B ≤ wr.heap.size) := ⟨impl_quotedText.size_b HB.out hBw⟩
      have HBT := Aside0.mk (Bld.lt HI.out)
      have HX := Aside0.mk hrg
      have d0 : 0 ≤ x / 16 := by omega
      have d1 : x / 16 < 16 := by omega
      have d2 : 0 ≤ x % 16 := by omega
      have d3 : x % 16 < 16 := by omega
      have b1 := bt_at (⟨#[48, 49, 50, 51, 52, 53, 54, 55, 56, 57, 65, 66, 67, 68, 69, 70]⟩ : ByteArray) (x / 16)
      have b2 := bt_at (⟨#[48, 49, 50, 51, 52, 53, 54, 55, 56, 57, 65, 66, 67, 68, 69, 70]⟩ : ByteArray) (x % 16)
      by_cases h1 : x < 32
      · have g1 : x < 32 := h1
        have TOKEQ := Aside0.mk (impl_quotedText.tok_sp (x := x) (la := la) (Or.inl h1))
        have TKR : Aside0 (∀ y ∈ ([61, bt ⟨#[48, 49, 50, 51, 52, 53, 54, 55, 56, 57, 65, 66, 67, 68, 69, 70]⟩ (x / 16), bt ⟨#[48, 49, 50, 51, 52, 53, 54, 55, 56, 57, 65, 66, 67, 68, 69, 70]⟩ (x % 16)] : List Int), 0 ≤ y ∧ y < 256) := ⟨by have := impl_quotedText.tok_range HX.out la; rwa [TOKEQ.out] at this⟩
        cases la with
        | true =>
          by_cases hbr : 76 < col + 3
          · have hbz : 76 < (col : Int) + 3 := by omega
            have HT : Aside0 (impl_quotedText.line (l.drop (k + 1)) 3 (bs ++ [61, 13, 10] ++ [61, bt ⟨#[48, 49, 50, 51, 52, 53, 54, 55, 56, 57, 65, 66, 67, 68, 69, 70]⟩ (x / 16), bt ⟨#[48, 49, 50, 51, 52, 53, 54, 55, 56, 57, 65, 66, 67, 68, 69, 70]⟩ (x % 16)]) = impl_quotedText.line l 0 acc) := ⟨by rw [← HS1.out, impl_quotedText.line_brk HLA.out (by rw [TOKEQ.out]; simp; omega), TOKEQ.out]; rfl⟩
            clear TOKEQ HS1
            go_wp2
            go_region
            go_wp2_with (go_at_call 58; refine (impl_quotedText.soft B b bs (wr.alloc (.cells #[.int .u8 x] 5)).drew (.cells (([61, bt ⟨#[48, 49, 50, 51, 52, 53, 54, 55, 56, 57, 65, 66, 67, 68, 69, 70]⟩ (x / 16), bt ⟨#[48, 49, 50, 51, 52, 53, 54, 55, 56, 57, 65, 66, 67, 68, 69, 70]⟩ (x % 16)] : List Int).map (Value.int .u8)).toArray 5) (HI.out.alloc (.cells #[.int .u8 x] 5)) (by have := HBL.out; omega) (by show B ≤ (wr.heap.push _).size; rw [Array.size_push]; have := HBb.out; omega)).mono ?_)
            rintro e w3 ⟨rfl, h3, hb3, hk3, ht3⟩
            have HT3 : Aside0 (w3.heap[(wr.heap.size + 1)]? = some (Obj.cells (([61, bt ⟨#[48, 49, 50, 51, 52, 53, 54, 55, 56, 57, 65, 66, 67, 68, 69, 70]⟩ (x / 16), bt ⟨#[48, 49, 50, 51, 52, 53, 54, 55, 56, 57, 65, 66, 67, 68, 69, 70]⟩ (x % 16)] : List Int).map (Value.int .u8)).toArray 5 (0, 0))) := ⟨by have e_ := ht3; rw [show (wr.alloc (.cells #[.int .u8 x] 5)).drew.heap.size = wr.heap.size + 1 by show (wr.heap.push _).size = _; rw [Array.size_push]] at e_; exact e_⟩
            have HI3 := Aside0.mk h3
            have HB3 : Aside0 (Below B w w3) := ⟨((HB.out.alloc HBb.out (.cells #[.int .u8 x] 5)).drew.alloc (by show B ≤ (wr.heap.push _).size; rw [Array.size_push]; have := HBb.out; omega) (.cells (([61, bt ⟨#[48, 49, 50, 51, 52, 53, 54, 55, 56, 57, 65, 66, 67, 68, 69, 70]⟩ (x / 16), bt ⟨#[48, 49, 50, 51, 52, 53, 54, 55, 56, 57, 65, 66, 67, 68, 69, 70]⟩ (x % 16)] : List Int).map (Value.int .u8)).toArray 5)).trans hb3⟩
            have HK3 : Aside0 (Lib.OthersKept 5 (some b) w w3) := ⟨((HK.out.alloc (.cells #[.int .u8 x] 5)).drew.alloc (.cells (([61, bt ⟨#[48, 49, 50, 51, 52, 53, 54, 55, 56, 57, 65, 66, 67, 68, 69, 70]⟩ (x / 16), bt ⟨#[48, 49, 50, 51, 52, 53, 54, 55, 56, 57, 65, 66, 67, 68, 69, 70]⟩ (x % 16)] : List Int).map (Value.int .u8)).toArray 5)).trans hk3⟩
            clear h3 hb3 hk3 ht3 HB HK
            go_wp2_with (go_at_call 84; refine (impl_quotedText.emit B b _ ([61, bt ⟨#[48, 49, 50, 51, 52, 53, 54, 55, 56, 57, 65, 66, 67, 68, 69, 70]⟩ (x / 16), bt ⟨#[48, 49, 50, 51, 52, 53, 54, 55, 56, 57, 65, 66, 67, 68, 69, 70]⟩ (x % 16)] : List Int) (wr.heap.size + 1) _ w3 HI3.out HT3.out (by have := HBT.out; omega) (TKR.out) (by have := HBL.out; simp; omega) (impl_quotedText.size_b HB3.out hBw)).mono ?_)
            rintro e w4 ⟨rfl, h4, hb4, hk4⟩
            have HB4 : Aside0 (Below B w w4) := ⟨HB3.out.trans hb4⟩
            have HK4 : Aside0 (Lib.OthersKept 5 (some b) w w4) := ⟨HK3.out.trans hk4⟩
            have HI4 := Aside0.mk h4
            clear h4 hb4 hk4
            go_wp2
            go_roundw
            case rel => exact ⟨k + 1, 3, _, by omega, by go_num, by go_num, HI4, HB4, HK4, HT, by omega, ⟨by have := HLN.out; simp; omega⟩⟩
            case measure => simp [intOf]; omega
          · have hbz : ¬ 76 < (col : Int) + 3 := by omega
            have HT : Aside0 (impl_quotedText.line (l.drop (k + 1)) (col + 3) (bs ++ [61, bt ⟨#[48, 49, 50, 51, 52, 53, 54, 55, 56, 57, 65, 66, 67, 68, 69, 70]⟩ (x / 16), bt ⟨#[48, 49, 50, 51, 52, 53, 54, 55, 56, 57, 65, 66, 67, 68, 69, 70]⟩ (x % 16)]) = impl_quotedText.line l 0 acc) := ⟨by rw [← HS1.out, impl_quotedText.line_go HLA.out (by rw [TOKEQ.out]; simp; omega), TOKEQ.out]; rfl⟩
            clear TOKEQ HS1
            go_wp2
            go_region
            go_wp2_with (go_at_call 84; refine (impl_quotedText.emit B b bs ([61, bt ⟨#[48, 49, 50, 51, 52, 53, 54, 55, 56, 57, 65, 66, 67, 68, 69, 70]⟩ (x / 16), bt ⟨#[48, 49, 50, 51, 52, 53, 54, 55, 56, 57, 65, 66, 67, 68, 69, 70]⟩ (x % 16)] : List Int) (wr.heap.size + 1) _ (((wr.alloc (.cells #[.int .u8 x] 5)).drew).alloc (.cells (([61, bt ⟨#[48, 49, 50, 51, 52, 53, 54, 55, 56, 57, 65, 66, 67, 68, 69, 70]⟩ (x / 16), bt ⟨#[48, 49, 50, 51, 52, 53, 54, 55, 56, 57, 65, 66, 67, 68, 69, 70]⟩ (x % 16)] : List Int).map (Value.int .u8)).toArray 5)) (HI.out.alloc _ |>.alloc _) ?_ (by have := HBT.out; omega) (TKR.out) (by have := HBL.out; simp; omega) ?_).mono ?_)
            · have e_ := heap_alloc_new (wr.alloc (.cells #[.int .u8 x] 5)).drew (.cells (([61, bt ⟨#[48, 49, 50, 51, 52, 53, 54, 55, 56, 57, 65, 66, 67, 68, 69, 70]⟩ (x / 16), bt ⟨#[48, 49, 50, 51, 52, 53, 54, 55, 56, 57, 65, 66, 67, 68, 69, 70]⟩ (x % 16)] : List Int).map (Value.int .u8)).toArray 5); rw [show (wr.alloc (.cells #[.int .u8 x] 5)).drew.heap.size = wr.heap.size + 1 by show (wr.heap.push _).size = _; rw [Array.size_push]] at e_; exact e_
            · show B ≤ ((wr.heap.push _).push _).size; rw [Array.size_push, Array.size_push]; have := HBb.out; omega
            rintro e w4 ⟨rfl, h4, hb4, hk4⟩
            have HB4 : Aside0 (Below B w w4) := ⟨((HB.out.alloc HBb.out (.cells #[.int .u8 x] 5)).drew.alloc (by show B ≤ (wr.heap.push _).size; rw [Array.size_push]; have := HBb.out; omega) (.cells (([61, bt ⟨#[48, 49, 50, 51, 52, 53, 54, 55, 56, 57, 65, 66, 67, 68, 69, 70]⟩ (x / 16), bt ⟨#[48, 49, 50, 51, 52, 53, 54, 55, 56, 57, 65, 66, 67, 68, 69, 70]⟩ (x % 16)] : List Int).map (Value.int .u8)).toArray 5)).trans hb4⟩
            have HK4 : Aside0 (Lib.OthersKept 5 (some b) w w4) := ⟨((HK.out.alloc (.cells #[.int .u8 x] 5)).drew.alloc (.cells (([61, bt ⟨#[48, 49, 50, 51, 52, 53, 54, 55, 56, 57, 65, 66, 67, 68, 69, 70]⟩ (x / 16), bt ⟨#[48, 49, 50, 51, 52, 53, 54, 55, 56, 57, 65, 66, 67, 68, 69, 70]⟩ (x % 16)] : List Int).map (Value.int .u8)).toArray 5)).trans hk4⟩
            clear HB HK
            have HI4 := Aside0.mk h4
            clear h4 hb4 hk4
            go_wp2
            go_roundw
            case rel => exact ⟨k + 1, col + 3, _, by omega, by go_num, by go_num, HI4, HB4, HK4, HT, by omega, ⟨by have := HLN.out; simp; omega⟩⟩
            case measure => simp [intOf]; omega
        | false =>
          by_cases hbr : 75 < col + 3
          · have hbz : 75 < (col : Int) + 3 := by omega
            have HT : Aside0 (impl_quotedText.line (l.drop (k + 1)) 3 (bs ++ [61, 13, 10] ++ [61, bt ⟨#[48, 49, 50, 51, 52, 53, 54, 55, 56, 57, 65, 66, 67, 68, 69, 70]⟩ (x / 16), bt ⟨#[48, 49, 50, 51, 52, 53, 54, 55, 56, 57, 65, 66, 67, 68, 69, 70]⟩ (x % 16)]) = impl_quotedText.line l 0 acc) := ⟨by rw [← HS1.out, impl_quotedText.line_brk HLA.out (by rw [TOKEQ.out]; simp; omega), TOKEQ.out]; rfl⟩
            clear TOKEQ HS1
            go_wp2
            go_region
            go_wp2_with (go_at_call 58; refine (impl_quotedText.soft B b bs (wr.alloc (.cells #[.int .u8 x] 5)).drew (.cells (([61, bt ⟨#[48, 49, 50, 51, 52, 53, 54, 55, 56, 57, 65, 66, 67, 68, 69, 70]⟩ (x / 16), bt ⟨#[48, 49, 50, 51, 52, 53, 54, 55, 56, 57, 65, 66, 67, 68, 69, 70]⟩ (x % 16)] : List Int).map (Value.int .u8)).toArray 5) (HI.out.alloc (.cells #[.int .u8 x] 5)) (by have := HBL.out; omega) (by show B ≤ (wr.heap.push _).size; rw [Array.size_push]; have := HBb.out; omega)).mono ?_)
            rintro e w3 ⟨rfl, h3, hb3, hk3, ht3⟩
            have HT3 : Aside0 (w3.heap[(wr.heap.size + 1)]? = some (Obj.cells (([61, bt ⟨#[48, 49, 50, 51, 52, 53, 54, 55, 56, 57, 65, 66, 67, 68, 69, 70]⟩ (x / 16), bt ⟨#[48, 49, 50, 51, 52, 53, 54, 55, 56, 57, 65, 66, 67, 68, 69, 70]⟩ (x % 16)] : List Int).map (Value.int .u8)).toArray 5 (0, 0))) := ⟨by have e_ := ht3; rw [show (wr.alloc (.cells #[.int .u8 x] 5)).drew.heap.size = wr.heap.size + 1 by show (wr.heap.push _).size = _; rw [Array.size_push]] at e_; exact e_⟩
            have HI3 := Aside0.mk h3
            have HB3 : Aside0 (Below B w w3) := ⟨((HB.out.alloc HBb.out (.cells #[.int .u8 x] 5)).drew.alloc (by show B ≤ (wr.heap.push _).size; rw [Array.size_push]; have := HBb.out; omega) (.cells (([61, bt ⟨#[48, 49, 50, 51, 52, 53, 54, 55, 56, 57, 65, 66, 67, 68, 69, 70]⟩ (x / 16), bt ⟨#[48, 49, 50, 51, 52, 53, 54, 55, 56, 57, 65, 66, 67, 68, 69, 70]⟩ (x % 16)] : List Int).map (Value.int .u8)).toArray 5)).trans hb3⟩
            have HK3 : Aside0 (Lib.OthersKept 5 (some b) w w3) := ⟨((HK.out.alloc (.cells #[.int .u8 x] 5)).drew.alloc (.cells (([61, bt ⟨#[48, 49, 50, 51, 52, 53, 54, 55, 56, 57, 65, 66, 67, 68, 69, 70]⟩ (x / 16), bt ⟨#[48, 49, 50, 51, 52, 53, 54, 55, 56, 57, 65, 66, 67, 68, 69, 70]⟩ (x % 16)] : List Int).map (Value.int .u8)).toArray 5)).trans hk3⟩
            clear h3 hb3 hk3 ht3 HB HK
            go_wp2_with (go_at_call 84; refine (impl_quotedText.emit B b _ ([61, bt ⟨#[48, 49, 50, 51, 52, 53, 54, 55, 56, 57, 65, 66, 67, 68, 69, 70]⟩ (x / 16), bt ⟨#[48, 49, 50, 51, 52, 53, 54, 55, 56, 57, 65, 66, 67, 68, 69, 70]⟩ (x % 16)] : List Int) (wr.heap.size + 1) _ w3 HI3.out HT3.out (by have := HBT.out; omega) (TKR.out) (by have := HBL.out; simp; omega) (impl_quotedText.size_b HB3.out hBw)).mono ?_)
            rintro e w4 ⟨rfl, h4, hb4, hk4⟩
            have HB4 : Aside0 (Below B w w4) := ⟨HB3.out.trans hb4⟩
            have HK4 : Aside0 (Lib.OthersKept 5 (some b) w w4) := ⟨HK3.out.trans hk4⟩
            have HI4 := Aside0.mk h4
            clear h4 hb4 hk4
            go_wp2
            go_roundw
            case rel => exact ⟨k + 1, 3, _, by omega, by go_num, by go_num, HI4, HB4, HK4, HT, by omega, ⟨by have := HLN.out; simp; omega⟩⟩
            case measure => simp [intOf]; omega
          · have hbz : ¬ 75 < (col : Int) + 3 := by omega
            have HT : Aside0 (impl_quotedText.line (l.drop (k + 1)) (col + 3) (bs ++ [61, bt ⟨#[48, 49, 50, 51, 52, 53, 54, 55, 56, 57, 65, 66, 67, 68, 69, 70]⟩ (x / 16), bt ⟨#[48, 49, 50, 51, 52, 53, 54, 55, 56, 57, 65, 66, 67, 68, 69, 70]⟩ (x % 16)]) = impl_quotedText.line l 0 acc) := ⟨by rw [← HS1.out, impl_quotedText.line_go HLA.out (by rw [TOKEQ.out]; simp; omega), TOKEQ.out]; rfl⟩
            clear TOKEQ HS1
            go_wp2
            go_region
            go_wp2_with (go_at_call 84; refine (impl_quotedText.emit B b bs ([61, bt ⟨#[48, 49, 50, 51, 52, 53, 54, 55, 56, 57, 65, 66, 67, 68, 69, 70]⟩ (x / 16), bt ⟨#[48, 49, 50, 51, 52, 53, 54, 55, 56, 57, 65, 66, 67, 68, 69, 70]⟩ (x % 16)] : List Int) (wr.heap.size + 1) _ (((wr.alloc (.cells #[.int .u8 x] 5)).drew).alloc (.cells (([61, bt ⟨#[48, 49, 50, 51, 52, 53, 54, 55, 56, 57, 65, 66, 67, 68, 69, 70]⟩ (x / 16), bt ⟨#[48, 49, 50, 51, 52, 53, 54, 55, 56, 57, 65, 66, 67, 68, 69, 70]⟩ (x % 16)] : List Int).map (Value.int .u8)).toArray 5)) (HI.out.alloc _ |>.alloc _) ?_ (by have := HBT.out; omega) (TKR.out) (by have := HBL.out; simp; omega) ?_).mono ?_)
            · have e_ := heap_alloc_new (wr.alloc (.cells #[.int .u8 x] 5)).drew (.cells (([61, bt ⟨#[48, 49, 50, 51, 52, 53, 54, 55, 56, 57, 65, 66, 67, 68, 69, 70]⟩ (x / 16), bt ⟨#[48, 49, 50, 51, 52, 53, 54, 55, 56, 57, 65, 66, 67, 68, 69, 70]⟩ (x % 16)] : List Int).map (Value.int .u8)).toArray 5); rw [show (wr.alloc (.cells #[.int .u8 x] 5)).drew.heap.size = wr.heap.size + 1 by show (wr.heap.push _).size = _; rw [Array.size_push]] at e_; exact e_
            · show B ≤ ((wr.heap.push _).push _).size; rw [Array.size_push, Array.size_push]; have := HBb.out; omega
            rintro e w4 ⟨rfl, h4, hb4, hk4⟩
            have HB4 : Aside0 (Below B w w4) := ⟨((HB.out.alloc HBb.out (.cells #[.int .u8 x] 5)).drew.alloc (by show B ≤ (wr.heap.push _).size; rw [Array.size_push]; have := HBb.out; omega) (.cells (([61, bt ⟨#[48, 49, 50, 51, 52, 53, 54, 55, 56, 57, 65, 66, 67, 68, 69, 70]⟩ (x / 16), bt ⟨#[48, 49, 50, 51, 52, 53, 54, 55, 56, 57, 65, 66, 67, 68, 69, 70]⟩ (x % 16)] : List Int).map (Value.int .u8)).toArray 5)).trans hb4⟩
            have HK4 : Aside0 (Lib.OthersKept 5 (some b) w w4) := ⟨((HK.out.alloc (.cells #[.int .u8 x] 5)).drew.alloc (.cells (([61, bt ⟨#[48, 49, 50, 51, 52, 53, 54, 55, 56, 57, 65, 66, 67, 68, 69, 70]⟩ (x / 16), bt ⟨#[48, 49, 50, 51, 52, 53, 54, 55, 56, 57, 65, 66, 67, 68, 69, 70]⟩ (x % 16)] : List Int).map (Value.int .u8)).toArray 5)).trans hk4⟩
            clear HB HK
            have HI4 := Aside0.mk h4
            clear h4 hb4 hk4
            go_wp2
            go_roundw
            case rel => exact ⟨k + 1, col + 3, _, by omega, by go_num, by go_num, HI4, HB4, HK4, HT, by omega, ⟨by have := HLN.out; simp; omega⟩⟩
            case measure => simp [intOf]; omega
      · by_cases h2 : 126 < x
        · have g2 : 126 < x := h2
          have TOKEQ := Aside0.mk (impl_quotedText.tok_sp (x := x) (la := la) (Or.inr (Or.inl h2)))
          have TKR : Aside0 (∀ y ∈ ([61, bt ⟨#[48, 49, 50, 51, 52, 53, 54, 55, 56, 57, 65, 66, 67, 68, 69, 70]⟩ (x / 16), bt ⟨#[48, 49, 50, 51, 52, 53, 54, 55, 56, 57, 65, 66, 67, 68, 69, 70]⟩ (x % 16)] : List Int), 0 ≤ y ∧ y < 256) := ⟨by have := impl_quotedText.tok_range HX.out la; rwa [TOKEQ.out] at this⟩
          cases la with
          | true =>
            by_cases hbr : 76 < col + 3
            · have hbz : 76 < (col : Int) + 3 := by omega
              have HT : Aside0 (impl_quotedText.line (l.drop (k + 1)) 3 (bs ++ [61, 13, 10] ++ [61, bt ⟨#[48, 49, 50, 51, 52, 53, 54, 55, 56, 57, 65, 66, 67, 68, 69, 70]⟩ (x / 16), bt ⟨#[48, 49, 50, 51, 52, 53, 54, 55, 56, 57, 65, 66, 67, 68, 69, 70]⟩ (x % 16)]) = impl_quotedText.line l 0 acc) := ⟨by rw [← HS1.out, impl_quotedText.line_brk HLA.out (by rw [TOKEQ.out]; simp; omega), TOKEQ.out]; rfl⟩
              clear TOKEQ HS1
              go_wp2
              go_region
              go_wp2_with (go_at_call 58; refine (impl_quotedText.soft B b bs (wr.alloc (.cells #[.int .u8 x] 5)).drew (.cells (([61, bt ⟨#[48, 49, 50, 51, 52, 53, 54, 55, 56, 57, 65, 66, 67, 68, 69, 70]⟩ (x / 16), bt ⟨#[48, 49, 50, 51, 52, 53, 54, 55, 56, 57, 65, 66, 67, 68, 69, 70]⟩ (x % 16)] : List Int).map (Value.int .u8)).toArray 5) (HI.out.alloc (.cells #[.int .u8 x] 5)) (by have := HBL.out; omega) (by show B ≤ (wr.heap.push _).size; rw [Array.size_push]; have := HBb.out; omega)).mono ?_)
              rintro e w3 ⟨rfl, h3, hb3, hk3, ht3⟩
              have HT3 : Aside0 (w3.heap[(wr.heap.size + 1)]? = some (Obj.cells (([61, bt ⟨#[48, 49, 50, 51, 52, 53, 54, 55, 56, 57, 65, 66, 67, 68, 69, 70]⟩ (x / 16), bt ⟨#[48, 49, 50, 51, 52, 53, 54, 55, 56, 57, 65, 66, 67, 68, 69, 70]⟩ (x % 16)] : List Int).map (Value.int .u8)).toArray 5 (0, 0))) := ⟨by have e_ := ht3; rw [show (wr.alloc (.cells #[.int .u8 x] 5)).drew.heap.size = wr.heap.size + 1 by show (wr.heap.push _).size = _; rw [Array.size_push]] at e_; exact e_⟩
              have HI3 := Aside0.mk h3
              have HB3 : Aside0 (Below B w w3) := ⟨((HB.out.alloc HBb.out (.cells #[.int .u8 x] 5)).drew.alloc (by show B ≤ (wr.heap.push _).size; rw [Array.size_push]; have := HBb.out; omega) (.cells (([61, bt ⟨#[48, 49, 50, 51, 52, 53, 54, 55, 56, 57, 65, 66, 67, 68, 69, 70]⟩ (x / 16), bt ⟨#[48, 49, 50, 51, 52, 53, 54, 55, 56, 57, 65, 66, 67, 68, 69, 70]⟩ (x % 16)] : List Int).map (Value.int .u8)).toArray 5)).trans hb3⟩
              have HK3 : Aside0 (Lib.OthersKept 5 (some b) w w3) := ⟨((HK.out.alloc (.cells #[.int .u8 x] 5)).drew.alloc (.cells (([61, bt ⟨#[48, 49, 50, 51, 52, 53, 54, 55, 56, 57, 65, 66, 67, 68, 69, 70]⟩ (x / 16), bt ⟨#[48, 49, 50, 51, 52, 53, 54, 55, 56, 57, 65, 66, 67, 68, 69, 70]⟩ (x % 16)] : List Int).map (Value.int .u8)).toArray 5)).trans hk3⟩
              clear h3 hb3 hk3 ht3 HB HK
              go_wp2_with (go_at_call 84; refine (impl_quotedText.emit B b _ ([61, bt ⟨#[48, 49, 50, 51, 52, 53, 54, 55, 56, 57, 65, 66, 67, 68, 69, 70]⟩ (x / 16), bt ⟨#[48, 49, 50, 51, 52, 53, 54, 55, 56, 57, 65, 66, 67, 68, 69, 70]⟩ (x % 16)] : List Int) (wr.heap.size + 1) _ w3 HI3.out HT3.out (by have := HBT.out; omega) (TKR.out) (by have := HBL.out; simp; omega) (impl_quotedText.size_b HB3.out hBw)).mono ?_)
              rintro e w4 ⟨rfl, h4, hb4, hk4⟩
              have HB4 : Aside0 (Below B w w4) := ⟨HB3.out.trans hb4⟩
              have HK4 : Aside0 (Lib.OthersKept 5 (some b) w w4) := ⟨HK3.out.trans hk4⟩
              have HI4 := Aside0.mk h4
              clear h4 hb4 hk4
              go_wp2
              go_roundw
              case rel => exact ⟨k + 1, 3, _, by omega, by go_num, by go_num, HI4, HB4, HK4, HT, by omega, ⟨by have := HLN.out; simp; omega⟩⟩
              case measure => simp [intOf]; omega
            · have hbz : ¬ 76 < (col : Int) + 3 := by omega
              have HT : Aside0 (impl_quotedText.line (l.drop (k + 1)) (col + 3) (bs ++ [61, bt ⟨#[48, 49, 50, 51, 52, 53, 54, 55, 56, 57, 65, 66, 67, 68, 69, 70]⟩ (x / 16), bt ⟨#[48, 49, 50, 51, 52, 53, 54, 55, 56, 57, 65, 66, 67, 68, 69, 70]⟩ (x % 16)]) = impl_quotedText.line l 0 acc) := ⟨by rw [← HS1.out, impl_quotedText.line_go HLA.out (by rw [TOKEQ.out]; simp; omega), TOKEQ.out]; rfl⟩
              clear TOKEQ HS1
              go_wp2
              go_region
              go_wp2_with (go_at_call 84; refine (impl_quotedText.emit B b bs ([61, bt ⟨#[48, 49, 50, 51, 52, 53, 54, 55, 56, 57, 65, 66, 67, 68, 69, 70]⟩ (x / 16), bt ⟨#[48, 49, 50, 51, 52, 53, 54, 55, 56, 57, 65, 66, 67, 68, 69, 70]⟩ (x % 16)] : List Int) (wr.heap.size + 1) _ (((wr.alloc (.cells #[.int .u8 x] 5)).drew).alloc (.cells (([61, bt ⟨#[48, 49, 50, 51, 52, 53, 54, 55, 56, 57, 65, 66, 67, 68, 69, 70]⟩ (x / 16), bt ⟨#[48, 49, 50, 51, 52, 53, 54, 55, 56, 57, 65, 66, 67, 68, 69, 70]⟩ (x % 16)] : List Int).map (Value.int .u8)).toArray 5)) (HI.out.alloc _ |>.alloc _) ?_ (by have := HBT.out; omega) (TKR.out) (by have := HBL.out; simp; omega) ?_).mono ?_)
              · have e_ := heap_alloc_new (wr.alloc (.cells #[.int .u8 x] 5)).drew (.cells (([61, bt ⟨#[48, 49, 50, 51, 52, 53, 54, 55, 56, 57, 65, 66, 67, 68, 69, 70]⟩ (x / 16), bt ⟨#[48, 49, 50, 51, 52, 53, 54, 55, 56, 57, 65, 66, 67, 68, 69, 70]⟩ (x % 16)] : List Int).map (Value.int .u8)).toArray 5); rw [show (wr.alloc (.cells #[.int .u8 x] 5)).drew.heap.size = wr.heap.size + 1 by show (wr.heap.push _).size = _; rw [Array.size_push]] at e_; exact e_
              · show B ≤ ((wr.heap.push _).push _).size; rw [Array.size_push, Array.size_push]; have := HBb.out; omega
              rintro e w4 ⟨rfl, h4, hb4, hk4⟩
              have HB4 : Aside0 (Below B w w4) := ⟨((HB.out.alloc HBb.out (.cells #[.int .u8 x] 5)).drew.alloc (by show B ≤ (wr.heap.push _).size; rw [Array.size_push]; have := HBb.out; omega) (.cells (([61, bt ⟨#[48, 49, 50, 51, 52, 53, 54, 55, 56, 57, 65, 66, 67, 68, 69, 70]⟩ (x / 16), bt ⟨#[48, 49, 50, 51, 52, 53, 54, 55, 56, 57, 65, 66, 67, 68, 69, 70]⟩ (x % 16)] : List Int).map (Value.int .u8)).toArray 5)).trans hb4⟩
              have HK4 : Aside0 (Lib.OthersKept 5 (some b) w w4) := ⟨((HK.out.alloc (.cells #[.int .u8 x] 5)).drew.alloc (.cells (([61, bt ⟨#[48, 49, 50, 51, 52, 53, 54, 55, 56, 57, 65, 66, 67, 68, 69, 70]⟩ (x / 16), bt ⟨#[48, 49, 50, 51, 52, 53, 54, 55, 56, 57, 65, 66, 67, 68, 69, 70]⟩ (x % 16)] : List Int).map (Value.int .u8)).toArray 5)).trans hk4⟩
              clear HB HK
              have HI4 := Aside0.mk h4
              clear h4 hb4 hk4
              go_wp2
              go_roundw
              case rel => exact ⟨k + 1, col + 3, _, by omega, by go_num, by go_num, HI4, HB4, HK4, HT, by omega, ⟨by have := HLN.out; simp; omega⟩⟩
              case measure => simp [intOf]; omega
          | false =>
            by_cases hbr : 75 < col + 3
            · have hbz : 75 < (col : Int) + 3 := by omega
              have HT : Aside0 (impl_quotedText.line (l.drop (k + 1)) 3 (bs ++ [61, 13, 10] ++ [61, bt ⟨#[48, 49, 50, 51, 52, 53, 54, 55, 56, 57, 65, 66, 67, 68, 69, 70]⟩ (x / 16), bt ⟨#[48, 49, 50, 51, 52, 53, 54, 55, 56, 57, 65, 66, 67, 68, 69, 70]⟩ (x % 16)]) = impl_quotedText.line l 0 acc) := ⟨by rw [← HS1.out, impl_quotedText.line_brk HLA.out (by rw [TOKEQ.out]; simp; omega), TOKEQ.out]; rfl⟩
              clear TOKEQ HS1
              go_wp2
              go_region
              go_wp2_with (go_at_call 58; refine (impl_quotedText.soft B b bs (wr.alloc (.cells #[.int .u8 x] 5)).drew (.cells (([61, bt ⟨#[48, 49, 50, 51, 52, 53, 54, 55, 56, 57, 65, 66, 67, 68, 69, 70]⟩ (x / 16), bt ⟨#[48, 49, 50, 51, 52, 53, 54, 55, 56, 57, 65, 66, 67, 68, 69, 70]⟩ (x % 16)] : List Int).map (Value.int .u8)).toArray 5) (HI.out.alloc (.cells #[.int .u8 x] 5)) (by have := HBL.out; omega) (by show B ≤ (wr.heap.push _).size; rw [Array.size_push]; have := HBb.out; omega)).mono ?_)
              rintro e w3 ⟨rfl, h3, hb3, hk3, ht3⟩
              have HT3 : Aside0 (w3.heap[(wr.heap.size + 1)]? = some (Obj.cells (([61, bt ⟨#[48, 49, 50, 51, 52, 53, 54, 55, 56, 57, 65, 66, 67, 68, 69, 70]⟩ (x / 16), bt ⟨#[48, 49, 50, 51, 52, 53, 54, 55, 56, 57, 65, 66, 67, 68, 69, 70]⟩ (x % 16)] : List Int).map (Value.int .u8)).toArray 5 (0, 0))) := ⟨by have e_ := ht3; rw [show (wr.alloc (.cells #[.int .u8 x] 5)).drew.heap.size = wr.heap.size + 1 by show (wr.heap.push _).size = _; rw [Array.size_push]] at e_; exact e_⟩
              have HI3 := Aside0.mk h3
              have HB3 : Aside0 (Below B w w3) := ⟨((HB.out.alloc HBb.out (.cells #[.int .u8 x] 5)).drew.alloc (by show B ≤ (wr.heap.push _).size; rw [Array.size_push]; have := HBb.out; omega) (.cells (([61, bt ⟨#[48, 49, 50, 51, 52, 53, 54, 55, 56, 57, 65, 66, 67, 68, 69, 70]⟩ (x / 16), bt ⟨#[48, 49, 50, 51, 52, 53, 54, 55, 56, 57, 65, 66, 67, 68, 69, 70]⟩ (x % 16)] : List Int).map (Value.int .u8)).toArray 5)).trans hb3⟩
              have HK3 : Aside0 (Lib.OthersKept 5 (some b) w w3) := ⟨((HK.out.alloc (.cells #[.int .u8 x] 5)).drew.alloc (.cells (([61, bt ⟨#[48, 49, 50, 51, 52, 53, 54, 55, 56, 57, 65, 66, 67, 68, 69, 70]⟩ (x / 16), bt ⟨#[48, 49, 50, 51, 52, 53, 54, 55, 56, 57, 65, 66, 67, 68, 69, 70]⟩ (x % 16)] : List Int).map (Value.int .u8)).toArray 5)).trans hk3⟩
              clear h3 hb3 hk3 ht3 HB HK
              go_wp2_with (go_at_call 84; refine (impl_quotedText.emit B b _ ([61, bt ⟨#[48, 49, 50, 51, 52, 53, 54, 55, 56, 57, 65, 66, 67, 68, 69, 70]⟩ (x / 16), bt ⟨#[48, 49, 50, 51, 52, 53, 54, 55, 56, 57, 65, 66, 67, 68, 69, 70]⟩ (x % 16)] : List Int) (wr.heap.size + 1) _ w3 HI3.out HT3.out (by have := HBT.out; omega) (TKR.out) (by have := HBL.out; simp; omega) (impl_quotedText.size_b HB3.out hBw)).mono ?_)
              rintro e w4 ⟨rfl, h4, hb4, hk4⟩
              have HB4 : Aside0 (Below B w w4) := ⟨HB3.out.trans hb4⟩
              have HK4 : Aside0 (Lib.OthersKept 5 (some b) w w4) := ⟨HK3.out.trans hk4⟩
              have HI4 := Aside0.mk h4
              clear h4 hb4 hk4
              go_wp2
              go_roundw
              case rel => exact ⟨k + 1, 3, _, by omega, by go_num, by go_num, HI4, HB4, HK4, HT, by omega, ⟨by have := HLN.out; simp; omega⟩⟩
              case measure => simp [intOf]; omega
            · have hbz : ¬ 75 < (col : Int) + 3 := by omega
              have HT : Aside0 (impl_quotedText.line (l.drop (k + 1)) (col + 3) (bs ++ [61, bt ⟨#[48, 49, 50, 51, 52, 53, 54, 55, 56, 57, 65, 66, 67, 68, 69, 70]⟩ (x / 16), bt ⟨#[48, 49, 50, 51, 52, 53, 54, 55, 56, 57, 65, 66, 67, 68, 69, 70]⟩ (x % 16)]) = impl_quotedText.line l 0 acc) := ⟨by rw [← HS1.out, impl_quotedText.line_go HLA.out (by rw [TOKEQ.out]; simp; omega), TOKEQ.out]; rfl⟩
              clear TOKEQ HS1
              go_wp2
              go_region
              go_wp2_with (go_at_call 84; refine (impl_quotedText.emit B b bs ([61, bt ⟨#[48, 49, 50, 51, 52, 53, 54, 55, 56, 57, 65, 66, 67, 68, 69, 70]⟩ (x / 16), bt ⟨#[48, 49, 50, 51, 52, 53, 54, 55, 56, 57, 65, 66, 67, 68, 69, 70]⟩ (x % 16)] : List Int) (wr.heap.size + 1) _ (((wr.alloc (.cells #[.int .u8 x] 5)).drew).alloc (.cells (([61, bt ⟨#[48, 49, 50, 51, 52, 53, 54, 55, 56, 57, 65, 66, 67, 68, 69, 70]⟩ (x / 16), bt ⟨#[48, 49, 50, 51, 52, 53, 54, 55, 56, 57, 65, 66, 67, 68, 69, 70]⟩ (x % 16)] : List Int).map (Value.int .u8)).toArray 5)) (HI.out.alloc _ |>.alloc _) ?_ (by have := HBT.out; omega) (TKR.out) (by have := HBL.out; simp; omega) ?_).mono ?_)
              · have e_ := heap_alloc_new (wr.alloc (.cells #[.int .u8 x] 5)).drew (.cells (([61, bt ⟨#[48, 49, 50, 51, 52, 53, 54, 55, 56, 57, 65, 66, 67, 68, 69, 70]⟩ (x / 16), bt ⟨#[48, 49, 50, 51, 52, 53, 54, 55, 56, 57, 65, 66, 67, 68, 69, 70]⟩ (x % 16)] : List Int).map (Value.int .u8)).toArray 5); rw [show (wr.alloc (.cells #[.int .u8 x] 5)).drew.heap.size = wr.heap.size + 1 by show (wr.heap.push _).size = _; rw [Array.size_push]] at e_; exact e_
              · show B ≤ ((wr.heap.push _).push _).size; rw [Array.size_push, Array.size_push]; have := HBb.out; omega
              rintro e w4 ⟨rfl, h4, hb4, hk4⟩
              have HB4 : Aside0 (Below B w w4) := ⟨((HB.out.alloc HBb.out (.cells #[.int .u8 x] 5)).drew.alloc (by show B ≤ (wr.heap.push _).size; rw [Array.size_push]; have := HBb.out; omega) (.cells (([61, bt ⟨#[48, 49, 50, 51, 52, 53, 54, 55, 56, 57, 65, 66, 67, 68, 69, 70]⟩ (x / 16), bt ⟨#[48, 49, 50, 51, 52, 53, 54, 55, 56, 57, 65, 66, 67, 68, 69, 70]⟩ (x % 16)] : List Int).map (Value.int .u8)).toArray 5)).trans hb4⟩
              have HK4 : Aside0 (Lib.OthersKept 5 (some b) w w4) := ⟨((HK.out.alloc (.cells #[.int .u8 x] 5)).drew.alloc (.cells (([61, bt ⟨#[48, 49, 50, 51, 52, 53, 54, 55, 56, 57, 65, 66, 67, 68, 69, 70]⟩ (x / 16), bt ⟨#[48, 49, 50, 51, 52, 53, 54, 55, 56, 57, 65, 66, 67, 68, 69, 70]⟩ (x % 16)] : List Int).map (Value.int .u8)).toArray 5)).trans hk4⟩
              clear HB HK
              have HI4 := Aside0.mk h4
              clear h4 hb4 hk4
              go_wp2
              go_roundw
              case rel => exact ⟨k + 1, col + 3, _, by omega, by go_num, by go_num, HI4, HB4, HK4, HT, by omega, ⟨by have := HLN.out; simp; omega⟩⟩
              case measure => simp [intOf]; omega
        · by_cases h3 : x = 61
          · have g3 : (x == 61) = true := beq_iff_eq.2 h3
            have TOKEQ := Aside0.mk (impl_quotedText.tok_sp (x := x) (la := la) (Or.inr (Or.inr (Or.inl h3))))
            clear h3
            have TKR : Aside0 (∀ y ∈ ([61, bt ⟨#[48, 49, 50, 51, 52, 53, 54, 55, 56, 57, 65, 66, 67, 68, 69, 70]⟩ (x / 16), bt ⟨#[48, 49, 50, 51, 52, 53, 54, 55, 56, 57, 65, 66, 67, 68, 69, 70]⟩ (x % 16)] : List Int), 0 ≤ y ∧ y < 256) := ⟨by have := impl_quotedText.tok_range HX.out la; rwa [TOKEQ.out] at this⟩
            cases la with
            | true =>
              by_cases hbr : 76 < col + 3
              · have hbz : 76 < (col : Int) + 3 := by omega
                have HT : Aside0 (impl_quotedText.line (l.drop (k + 1)) 3 (bs ++ [61, 13, 10] ++ [61, bt ⟨#[48, 49, 50, 51, 52, 53, 54, 55, 56, 57, 65, 66, 67, 68, 69, 70]⟩ (x / 16), bt ⟨#[48, 49, 50, 51, 52, 53, 54, 55, 56, 57, 65, 66, 67, 68, 69, 70]⟩ (x % 16)]) = impl_quotedText.line l 0 acc) := ⟨by rw [← HS1.out, impl_quotedText.line_brk HLA.out (by rw [TOKEQ.out]; simp; omega), TOKEQ.out]; rfl⟩
                clear TOKEQ HS1
                go_wp2
                go_region
                go_wp2_with (go_at_call 58; refine (impl_quotedText.soft B b bs (wr.alloc (.cells #[.int .u8 x] 5)).drew (.cells (([61, bt ⟨#[48, 49, 50, 51, 52, 53, 54, 55, 56, 57, 65, 66, 67, 68, 69, 70]⟩ (x / 16), bt ⟨#[48, 49, 50, 51, 52, 53, 54, 55, 56, 57, 65, 66, 67, 68, 69, 70]⟩ (x % 16)] : List Int).map (Value.int .u8)).toArray 5) (HI.out.alloc (.cells #[.int .u8 x] 5)) (by have := HBL.out; omega) (by show B ≤ (wr.heap.push _).size; rw [Array.size_push]; have := HBb.out; omega)).mono ?_)
                rintro e w3 ⟨rfl, h3, hb3, hk3, ht3⟩
                have HT3 : Aside0 (w3.heap[(wr.heap.size + 1)]? = some (Obj.cells (([61, bt ⟨#[48, 49, 50, 51, 52, 53, 54, 55, 56, 57, 65, 66, 67, 68, 69, 70]⟩ (x / 16), bt ⟨#[48, 49, 50, 51, 52, 53, 54, 55, 56, 57, 65, 66, 67, 68, 69, 70]⟩ (x % 16)] : List Int).map (Value.int .u8)).toArray 5 (0, 0))) := ⟨by have e_ := ht3; rw [show (wr.alloc (.cells #[.int .u8 x] 5)).drew.heap.size = wr.heap.size + 1 by show (wr.heap.push _).size = _; rw [Array.size_push]] at e_; exact e_⟩
                have HI3 := Aside0.mk h3
                have HB3 : Aside0 (Below B w w3) := ⟨((HB.out.alloc HBb.out (.cells #[.int .u8 x] 5)).drew.alloc (by show B ≤ (wr.heap.push _).size; rw [Array.size_push]; have := HBb.out; omega) (.cells (([61, bt ⟨#[48, 49, 50, 51, 52, 53, 54, 55, 56, 57, 65, 66, 67, 68, 69, 70]⟩ (x / 16), bt ⟨#[48, 49, 50, 51, 52, 53, 54, 55, 56, 57, 65, 66, 67, 68, 69, 70]⟩ (x % 16)] : List Int).map (Value.int .u8)).toArray 5)).trans hb3⟩
                have HK3 : Aside0 (Lib.OthersKept 5 (some b) w w3) := ⟨((HK.out.alloc (.cells #[.int .u8 x] 5)).drew.alloc (.cells (([61, bt ⟨#[48, 49, 50, 51, 52, 53, 54, 55, 56, 57, 65, 66, 67, 68, 69, 70]⟩ (x / 16), bt ⟨#[48, 49, 50, 51, 52, 53, 54, 55, 56, 57, 65, 66, 67, 68, 69, 70]⟩ (x % 16)] : List Int).map (Value.int .u8)).toArray 5)).trans hk3⟩
                clear h3 hb3 hk3 ht3 HB HK
                go_wp2_with (go_at_call 84; refine (impl_quotedText.emit B b _ ([61, bt ⟨#[48, 49, 50, 51, 52, 53, 54, 55, 56, 57, 65, 66, 67, 68, 69, 70]⟩ (x / 16), bt ⟨#[48, 49, 50, 51, 52, 53, 54, 55, 56, 57, 65, 66, 67, 68, 69, 70]⟩ (x % 16)] : List Int) (wr.heap.size + 1) _ w3 HI3.out HT3.out (by have := HBT.out; omega) (TKR.out) (by have := HBL.out; simp; omega) (impl_quotedText.size_b HB3.out hBw)).mono ?_)
                rintro e w4 ⟨rfl, h4, hb4, hk4⟩
                have HB4 : Aside0 (Below B w w4) := ⟨HB3.out.trans hb4⟩
                have HK4 : Aside0 (Lib.OthersKept 5 (some b) w w4) := ⟨HK3.out.trans hk4⟩
                have HI4 := Aside0.mk h4
                clear h4 hb4 hk4
                go_wp2
                go_roundw
                case rel => exact ⟨k + 1, 3, _, by omega, by go_num, by go_num, HI4, HB4, HK4, HT, by omega, ⟨by have := HLN.out; simp; omega⟩⟩
                case measure => simp [intOf]; omega
              · have hbz : ¬ 76 < (col : Int) + 3 := by omega
                have HT : Aside0 (impl_quotedText.line (l.drop (k + 1)) (col + 3) (bs ++ [61, bt ⟨#[48, 49, 50, 51, 52, 53, 54, 55, 56, 57, 65, 66, 67, 68, 69, 70]⟩ (x / 16), bt ⟨#[48, 49, 50, 51, 52, 53, 54, 55, 56, 57, 65, 66, 67, 68, 69, 70]⟩ (x % 16)]) = impl_quotedText.line l 0 acc) := ⟨by rw [← HS1.out, impl_quotedText.line_go HLA.out (by rw [TOKEQ.out]; simp; omega), TOKEQ.out]; rfl⟩
                clear TOKEQ HS1
                go_wp2
                go_region
                go_wp2_with (go_at_call 84; refine (impl_quotedText.emit B b bs ([61, bt ⟨#[48, 49, 50, 51, 52, 53, 54, 55, 56, 57, 65, 66, 67, 68, 69, 70]⟩ (x / 16), bt ⟨#[48, 49, 50, 51, 52, 53, 54, 55, 56, 57, 65, 66, 67, 68, 69, 70]⟩ (x % 16)] : List Int) (wr.heap.size + 1) _ (((wr.alloc (.cells #[.int .u8 x] 5)).drew).alloc (.cells (([61, bt ⟨#[48, 49, 50, 51, 52, 53, 54, 55, 56, 57, 65, 66, 67, 68, 69, 70]⟩ (x / 16), bt ⟨#[48, 49, 50, 51, 52, 53, 54, 55, 56, 57, 65, 66, 67, 68, 69, 70]⟩ (x % 16)] : List Int).map (Value.int .u8)).toArray 5)) (HI.out.alloc _ |>.alloc _) ?_ (by have := HBT.out; omega) (TKR.out) (by have := HBL.out; simp; omega) ?_).mono ?_)
                · have e_ := heap_alloc_new (wr.alloc (.cells #[.int .u8 x] 5)).drew (.cells (([61, bt ⟨#[48, 49, 50, 51, 52, 53, 54, 55, 56, 57, 65, 66, 67, 68, 69, 70]⟩ (x / 16), bt ⟨#[48, 49, 50, 51, 52, 53, 54, 55, 56, 57, 65, 66, 67, 68, 69, 70]⟩ (x % 16)] : List Int).map (Value.int .u8)).toArray 5); rw [show (wr.alloc (.cells #[.int .u8 x] 5)).drew.heap.size = wr.heap.size + 1 by show (wr.heap.push _).size = _; rw [Array.size_push]] at e_; exact e_
                · show B ≤ ((wr.heap.push _).push _).size; rw [Array.size_push, Array.size_push]; have := HBb.out; omega
                rintro e w4 ⟨rfl, h4, hb4, hk4⟩
                have HB4 : Aside0 (Below B w w4) := ⟨((HB.out.alloc HBb.out (.cells #[.int .u8 x] 5)).drew.alloc (by show B ≤ (wr.heap.push _).size; rw [Array.size_push]; have := HBb.out; omega) (.cells (([61, bt ⟨#[48, 49, 50, 51, 52, 53, 54, 55, 56, 57, 65, 66, 67, 68, 69, 70]⟩ (x / 16), bt ⟨#[48, 49, 50, 51, 52, 53, 54, 55, 56, 57, 65, 66, 67, 68, 69, 70]⟩ (x % 16)] : List Int).map (Value.int .u8)).toArray 5)).trans hb4⟩
                have HK4 : Aside0 (Lib.OthersKept 5 (some b) w w4) := ⟨((HK.out.alloc (.cells #[.int .u8 x] 5)).drew.alloc (.cells (([61, bt ⟨#[48, 49, 50, 51, 52, 53, 54, 55, 56, 57, 65, 66, 67, 68, 69, 70]⟩ (x / 16), bt ⟨#[48, 49, 50, 51, 52, 53, 54, 55, 56, 57, 65, 66, 67, 68, 69, 70]⟩ (x % 16)] : List Int).map (Value.int .u8)).toArray 5)).trans hk4⟩
                clear HB HK
                have HI4 := Aside0.mk h4
                clear h4 hb4 hk4
                go_wp2
                go_roundw
                case rel => exact ⟨k + 1, col + 3, _, by omega, by go_num, by go_num, HI4, HB4, HK4, HT, by omega, ⟨by have := HLN.out; simp; omega⟩⟩
                case measure => simp [intOf]; omega
            | false =>
              by_cases hbr : 75 < col + 3
              · have hbz : 75 < (col : Int) + 3 := by omega
                have HT : Aside0 (impl_quotedText.line (l.drop (k + 1)) 3 (bs ++ [61, 13, 10] ++ [61, bt ⟨#[48, 49, 50, 51, 52, 53, 54, 55, 56, 57, 65, 66, 67, 68, 69, 70]⟩ (x / 16), bt ⟨#[48, 49, 50, 51, 52, 53, 54, 55, 56, 57, 65, 66, 67, 68, 69, 70]⟩ (x % 16)]) = impl_quotedText.line l 0 acc) := ⟨by rw [← HS1.out, impl_quotedText.line_brk HLA.out (by rw [TOKEQ.out]; simp; omega), TOKEQ.out]; rfl⟩
                clear TOKEQ HS1
                go_wp2
                go_region
                go_wp2_with (go_at_call 58; refine (impl_quotedText.soft B b bs (wr.alloc (.cells #[.int .u8 x] 5)).drew (.cells (([61, bt ⟨#[48, 49, 50, 51, 52, 53, 54, 55, 56, 57, 65, 66, 67, 68, 69, 70]⟩ (x / 16), bt ⟨#[48, 49, 50, 51, 52, 53, 54, 55, 56, 57, 65, 66, 67, 68, 69, 70]⟩ (x % 16)] : List Int).map (Value.int .u8)).toArray 5) (HI.out.alloc (.cells #[.int .u8 x] 5)) (by have := HBL.out; omega) (by show B ≤ (wr.heap.push _).size; rw [Array.size_push]; have := HBb.out; omega)).mono ?_)
                rintro e w3 ⟨rfl, h3, hb3, hk3, ht3⟩
                have HT3 : Aside0 (w3.heap[(wr.heap.size + 1)]? = some (Obj.cells (([61, bt ⟨#[48, 49, 50, 51, 52, 53, 54, 55, 56, 57, 65, 66, 67, 68, 69, 70]⟩ (x / 16), bt ⟨#[48, 49, 50, 51, 52, 53, 54, 55, 56, 57, 65, 66, 67, 68, 69, 70]⟩ (x % 16)] : List Int).map (Value.int .u8)).toArray 5 (0, 0))) := ⟨by have e_ := ht3; rw [show (wr.alloc (.cells #[.int .u8 x] 5)).drew.heap.size = wr.heap.size + 1 by show (wr.heap.push _).size = _; rw [Array.size_push]] at e_; exact e_⟩
                have HI3 := Aside0.mk h3
                have HB3 : Aside0 (Below B w w3) := ⟨((HB.out.alloc HBb.out (.cells #[.int .u8 x] 5)).drew.alloc (by show B ≤ (wr.heap.push _).size; rw [Array.size_push]; have := HBb.out; omega) (.cells (([61, bt ⟨#[48, 49, 50, 51, 52, 53, 54, 55, 56, 57, 65, 66, 67, 68, 69, 70]⟩ (x / 16), bt ⟨#[48, 49, 50, 51, 52, 53, 54, 55, 56, 57, 65, 66, 67, 68, 69, 70]⟩ (x % 16)] : List Int).map (Value.int .u8)).toArray 5)).trans hb3⟩
                have HK3 : Aside0 (Lib.OthersKept 5 (some b) w w3) := ⟨((HK.out.alloc (.cells #[.int .u8 x] 5)).drew.alloc (.cells (([61, bt ⟨#[48, 49, 50, 51, 52, 53, 54, 55, 56, 57, 65, 66, 67, 68, 69, 70]⟩ (x / 16), bt ⟨#[48, 49, 50, 51, 52, 53, 54, 55, 56, 57, 65, 66, 67, 68, 69, 70]⟩ (x % 16)] : List Int).map (Value.int .u8)).toArray 5)).trans hk3⟩
                clear h3 hb3 hk3 ht3 HB HK
                go_wp2_with (go_at_call 84; refine (impl_quotedText.emit B b _ ([61, bt ⟨#[48, 49, 50, 51, 52, 53, 54, 55, 56, 57, 65, 66, 67, 68, 69, 70]⟩ (x / 16), bt ⟨#[48, 49, 50, 51, 52, 53, 54, 55, 56, 57, 65, 66, 67, 68, 69, 70]⟩ (x % 16)] : List Int) (wr.heap.size + 1) _ w3 HI3.out HT3.out (by have := HBT.out; omega) (TKR.out) (by have := HBL.out; simp; omega) (impl_quotedText.size_b HB3.out hBw)).mono ?_)
                rintro e w4 ⟨rfl, h4, hb4, hk4⟩
                have HB4 : Aside0 (Below B w w4) := ⟨HB3.out.trans hb4⟩
                have HK4 : Aside0 (Lib.OthersKept 5 (some b) w w4) := ⟨HK3.out.trans hk4⟩
                have HI4 := Aside0.mk h4
                clear h4 hb4 hk4
                go_wp2
                go_roundw
                case rel => exact ⟨k + 1, 3, _, by omega, by go_num, by go_num, HI4, HB4, HK4, HT, by omega, ⟨by have := HLN.out; simp; omega⟩⟩
                case measure => simp [intOf]; omega
              · have hbz : ¬ 75 < (col : Int) + 3 := by omega
                have HT : Aside0 (impl_quotedText.line (l.drop (k + 1)) (col + 3) (bs ++ [61, bt ⟨#[48, 49, 50, 51, 52, 53, 54, 55, 56, 57, 65, 66, 67, 68, 69, 70]⟩ (x / 16), bt ⟨#[48, 49, 50, 51, 52, 53, 54, 55, 56, 57, 65, 66, 67, 68, 69, 70]⟩ (x % 16)]) = impl_quotedText.line l 0 acc) := ⟨by rw [← HS1.out, impl_quotedText.line_go HLA.out (by rw [TOKEQ.out]; simp; omega), TOKEQ.out]; rfl⟩
                clear TOKEQ HS1
                go_wp2
                go_region
                go_wp2_with (go_at_call 84; refine (impl_quotedText.emit B b bs ([61, bt ⟨#[48, 49, 50, 51, 52, 53, 54, 55, 56, 57, 65, 66, 67, 68, 69, 70]⟩ (x / 16), bt ⟨#[48, 49, 50, 51, 52, 53, 54, 55, 56, 57, 65, 66, 67, 68, 69, 70]⟩ (x % 16)] : List Int) (wr.heap.size + 1) _ (((wr.alloc (.cells #[.int .u8 x] 5)).drew).alloc (.cells (([61, bt ⟨#[48, 49, 50, 51, 52, 53, 54, 55, 56, 57, 65, 66, 67, 68, 69, 70]⟩ (x / 16), bt ⟨#[48, 49, 50, 51, 52, 53, 54, 55, 56, 57, 65, 66, 67, 68, 69, 70]⟩ (x % 16)] : List Int).map (Value.int .u8)).toArray 5)) (HI.out.alloc _ |>.alloc _) ?_ (by have := HBT.out; omega) (TKR.out) (by have := HBL.out; simp; omega) ?_).mono ?_)
                · have e_ := heap_alloc_new (wr.alloc (.cells #[.int .u8 x] 5)).drew (.cells (([61, bt ⟨#[48, 49, 50, 51, 52, 53, 54, 55, 56, 57, 65, 66, 67, 68, 69, 70]⟩ (x / 16), bt ⟨#[48, 49, 50, 51, 52, 53, 54, 55, 56, 57, 65, 66, 67, 68, 69, 70]⟩ (x % 16)] : List Int).map (Value.int .u8)).toArray 5); rw [show (wr.alloc (.cells #[.int .u8 x] 5)).drew.heap.size = wr.heap.size + 1 by show (wr.heap.push _).size = _; rw [Array.size_push]] at e_; exact e_
                · show B ≤ ((wr.heap.push _).push _).size; rw [Array.size_push, Array.size_push]; have := HBb.out; omega
                rintro e w4 ⟨rfl, h4, hb4, hk4⟩
                have HB4 : Aside0 (Below B w w4) := ⟨((HB.out.alloc HBb.out (.cells #[.int .u8 x] 5)).drew.alloc (by show B ≤ (wr.heap.push _).size; rw [Array.size_push]; have := HBb.out; omega) (.cells (([61, bt ⟨#[48, 49, 50, 51, 52, 53, 54, 55, 56, 57, 65, 66, 67, 68, 69, 70]⟩ (x / 16), bt ⟨#[48, 49, 50, 51, 52, 53, 54, 55, 56, 57, 65, 66, 67, 68, 69, 70]⟩ (x % 16)] : List Int).map (Value.int .u8)).toArray 5)).trans hb4⟩
                have HK4 : Aside0 (Lib.OthersKept 5 (some b) w w4) := ⟨((HK.out.alloc (.cells #[.int .u8 x] 5)).drew.alloc (.cells (([61, bt ⟨#[48, 49, 50, 51, 52, 53, 54, 55, 56, 57, 65, 66, 67, 68, 69, 70]⟩ (x / 16), bt ⟨#[48, 49, 50, 51, 52, 53, 54, 55, 56, 57, 65, 66, 67, 68, 69, 70]⟩ (x % 16)] : List Int).map (Value.int .u8)).toArray 5)).trans hk4⟩
                clear HB HK
                have HI4 := Aside0.mk h4
                clear h4 hb4 hk4
                go_wp2
                go_roundw
                case rel => exact ⟨k + 1, col + 3, _, by omega, by go_num, by go_num, HI4, HB4, HK4, HT, by omega, ⟨by have := HLN.out; simp; omega⟩⟩
                case measure => simp [intOf]; omega
          · have g3 : (x == 61) = false := beq_eq_false_iff_ne.2 h3
            by_cases h4 : x = 32
            · have g4 : (x == 32) = true := beq_iff_eq.2 h4
              cases la with
              | true =>
                have TOKEQ := Aside0.mk (impl_quotedText.tok_sp (x := x) (la := true) (Or.inr (Or.inr (Or.inr ⟨h4, rfl⟩))))
                clear h4
                have TKR : Aside0 (∀ y ∈ ([61, bt ⟨#[48, 49, 50, 51, 52, 53, 54, 55, 56, 57, 65, 66, 67, 68, 69, 70]⟩ (x / 16), bt ⟨#[48, 49, 50, 51, 52, 53, 54, 55, 56, 57, 65, 66, 67, 68, 69, 70]⟩ (x % 16)] : List Int), 0 ≤ y ∧ y < 256) := ⟨by have := impl_quotedText.tok_range HX.out true; rwa [TOKEQ.out] at this⟩
                by_cases hbr : 76 < col + 3
                · have hbz : 76 < (col : Int) + 3 := by omega
                  have HT : Aside0 (impl_quotedText.line (l.drop (k + 1)) 3 (bs ++ [61, 13, 10] ++ [61, bt ⟨#[48, 49, 50, 51, 52, 53, 54, 55, 56, 57, 65, 66, 67, 68, 69, 70]⟩ (x / 16), bt ⟨#[48, 49, 50, 51, 52, 53, 54, 55, 56, 57, 65, 66, 67, 68, 69, 70]⟩ (x % 16)]) = impl_quotedText.line l 0 acc) := ⟨by rw [← HS1.out, impl_quotedText.line_brk HLA.out (by rw [TOKEQ.out]; simp; omega), TOKEQ.out]; rfl⟩
                  clear TOKEQ HS1
                  go_wp2
                  go_region
                  go_wp2_with (go_at_call 58; refine (impl_quotedText.soft B b bs (wr.alloc (.cells #[.int .u8 x] 5)).drew (.cells (([61, bt ⟨#[48, 49, 50, 51, 52, 53, 54, 55, 56, 57, 65, 66, 67, 68, 69, 70]⟩ (x / 16), bt ⟨#[48, 49, 50, 51, 52, 53, 54, 55, 56, 57, 65, 66, 67, 68, 69, 70]⟩ (x % 16)] : List Int).map (Value.int .u8)).toArray 5) (HI.out.alloc (.cells #[.int .u8 x] 5)) (by have := HBL.out; omega) (by show B ≤ (wr.heap.push _).size; rw [Array.size_push]; have := HBb.out; omega)).mono ?_)
                  rintro e w3 ⟨rfl, h3, hb3, hk3, ht3⟩
                  have HT3 : Aside0 (w3.heap[(wr.heap.size + 1)]? = some (Obj.cells (([61, bt ⟨#[48, 49, 50, 51, 52, 53, 54, 55, 56, 57, 65, 66, 67, 68, 69, 70]⟩ (x / 16), bt ⟨#[48, 49, 50, 51, 52, 53, 54, 55, 56, 57, 65, 66, 67, 68, 69, 70]⟩ (x % 16)] : List Int).map (Value.int .u8)).toArray 5 (0, 0))) := ⟨by have e_ := ht3; rw [show (wr.alloc (.cells #[.int .u8 x] 5)).drew.heap.size = wr.heap.size + 1 by show (wr.heap.push _).size = _; rw [Array.size_push]] at e_; exact e_⟩
                  have HI3 := Aside0.mk h3
                  have HB3 : Aside0 (Below B w w3) := ⟨((HB.out.alloc HBb.out (.cells #[.int .u8 x] 5)).drew.alloc (by show B ≤ (wr.heap.push _).size; rw [Array.size_push]; have := HBb.out; omega) (.cells (([61, bt ⟨#[48, 49, 50, 51, 52, 53, 54, 55, 56, 57, 65, 66, 67, 68, 69, 70]⟩ (x / 16), bt ⟨#[48, 49, 50, 51, 52, 53, 54, 55, 56, 57, 65, 66, 67, 68, 69, 70]⟩ (x % 16)] : List Int).map (Value.int .u8)).toArray 5)).trans hb3⟩
                  have HK3 : Aside0 (Lib.OthersKept 5 (some b) w w3) := ⟨((HK.out.alloc (.cells #[.int .u8 x] 5)).drew.alloc (.cells (([61, bt ⟨#[48, 49, 50, 51, 52, 53, 54, 55, 56, 57, 65, 66, 67, 68, 69, 70]⟩ (x / 16), bt ⟨#[48, 49, 50, 51, 52, 53, 54, 55, 56, 57, 65, 66, 67, 68, 69, 70]⟩ (x % 16)] : List Int).map (Value.int .u8)).toArray 5)).trans hk3⟩
                  clear h3 hb3 hk3 ht3 HB HK
                  go_wp2_with (go_at_call 84; refine (impl_quotedText.emit B b _ ([61, bt ⟨#[48, 49, 50, 51, 52, 53, 54, 55, 56, 57, 65, 66, 67, 68, 69, 70]⟩ (x / 16), bt ⟨#[48, 49, 50, 51, 52, 53, 54, 55, 56, 57, 65, 66, 67, 68, 69, 70]⟩ (x % 16)] : List Int) (wr.heap.size + 1) _ w3 HI3.out HT3.out (by have := HBT.out; omega) (TKR.out) (by have := HBL.out; simp; omega) (impl_quotedText.size_b HB3.out hBw)).mono ?_)
                  rintro e w4 ⟨rfl, h4, hb4, hk4⟩
                  have HB4 : Aside0 (Below B w w4) := ⟨HB3.out.trans hb4⟩
                  have HK4 : Aside0 (Lib.OthersKept 5 (some b) w w4) := ⟨HK3.out.trans hk4⟩
                  have HI4 := Aside0.mk h4
                  clear h4 hb4 hk4
                  go_wp2
                  go_roundw
                  case rel => exact ⟨k + 1, 3, _, by omega, by go_num, by go_num, HI4, HB4, HK4, HT, by omega, ⟨by have := HLN.out; simp; omega⟩⟩
                  case measure => simp [intOf]; omega
                · have hbz : ¬ 76 < (col : Int) + 3 := by omega
                  have HT : Aside0 (impl_quotedText.line (l.drop (k + 1)) (col + 3) (bs ++ [61, bt ⟨#[48, 49, 50, 51, 52, 53, 54, 55, 56, 57, 65, 66, 67, 68, 69, 70]⟩ (x / 16), bt ⟨#[48, 49, 50, 51, 52, 53, 54, 55, 56, 57, 65, 66, 67, 68, 69, 70]⟩ (x % 16)]) = impl_quotedText.line l 0 acc) := ⟨by rw [← HS1.out, impl_quotedText.line_go HLA.out (by rw [TOKEQ.out]; simp; omega), TOKEQ.out]; rfl⟩
                  clear TOKEQ HS1
                  go_wp2
                  go_region
                  go_wp2_with (go_at_call 84; refine (impl_quotedText.emit B b bs ([61, bt ⟨#[48, 49, 50, 51, 52, 53, 54, 55, 56, 57, 65, 66, 67, 68, 69, 70]⟩ (x / 16), bt ⟨#[48, 49, 50, 51, 52, 53, 54, 55, 56, 57, 65, 66, 67, 68, 69, 70]⟩ (x % 16)] : List Int) (wr.heap.size + 1) _ (((wr.alloc (.cells #[.int .u8 x] 5)).drew).alloc (.cells (([61, bt ⟨#[48, 49, 50, 51, 52, 53, 54, 55, 56, 57, 65, 66, 67, 68, 69, 70]⟩ (x / 16), bt ⟨#[48, 49, 50, 51, 52, 53, 54, 55, 56, 57, 65, 66, 67, 68, 69, 70]⟩ (x % 16)] : List Int).map (Value.int .u8)).toArray 5)) (HI.out.alloc _ |>.alloc _) ?_ (by have := HBT.out; omega) (TKR.out) (by have := HBL.out; simp; omega) ?_).mono ?_)
                  · have e_ := heap_alloc_new (wr.alloc (.cells #[.int .u8 x] 5)).drew (.cells (([61, bt ⟨#[48, 49, 50, 51, 52, 53, 54, 55, 56, 57, 65, 66, 67, 68, 69, 70]⟩ (x / 16), bt ⟨#[48, 49, 50, 51, 52, 53, 54, 55, 56, 57, 65, 66, 67, 68, 69, 70]⟩ (x % 16)] : List Int).map (Value.int .u8)).toArray 5); rw [show (wr.alloc (.cells #[.int .u8 x] 5)).drew.heap.size = wr.heap.size + 1 by show (wr.heap.push _).size = _; rw [Array.size_push]] at e_; exact e_
                  · show B ≤ ((wr.heap.push _).push _).size; rw [Array.size_push, Array.size_push]; have := HBb.out; omega
                  rintro e w4 ⟨rfl, h4, hb4, hk4⟩
                  have HB4 : Aside0 (Below B w w4) := ⟨((HB.out.alloc HBb.out (.cells #[.int .u8 x] 5)).drew.alloc (by show B ≤ (wr.heap.push _).size; rw [Array.size_push]; have := HBb.out; omega) (.cells (([61, bt ⟨#[48, 49, 50, 51, 52, 53, 54, 55, 56, 57, 65, 66, 67, 68, 69, 70]⟩ (x / 16), bt ⟨#[48, 49, 50, 51, 52, 53, 54, 55, 56, 57, 65, 66, 67, 68, 69, 70]⟩ (x % 16)] : List Int).map (Value.int .u8)).toArray 5)).trans hb4⟩
                  have HK4 : Aside0 (Lib.OthersKept 5 (some b) w w4) := ⟨((HK.out.alloc (.cells #[.int .u8 x] 5)).drew.alloc (.cells (([61, bt ⟨#[48, 49, 50, 51, 52, 53, 54, 55, 56, 57, 65, 66, 67, 68, 69, 70]⟩ (x / 16), bt ⟨#[48, 49, 50, 51, 52, 53, 54, 55, 56, 57, 65, 66, 67, 68, 69, 70]⟩ (x % 16)] : List Int).map (Value.int .u8)).toArray 5)).trans hk4⟩
                  clear HB HK
                  have HI4 := Aside0.mk h4
                  clear h4 hb4 hk4
                  go_wp2
                  go_roundw
                  case rel => exact ⟨k + 1, col + 3, _, by omega, by go_num, by go_num, HI4, HB4, HK4, HT, by omega, ⟨by have := HLN.out; simp; omega⟩⟩
                  case measure => simp [intOf]; omega
              | false =>
                have TOKEQ := Aside0.mk (impl_quotedText.tok_pl (x := x) (la := false) (by rintro (e | e | e | ⟨_, e⟩) <;> first | exact h1 e | exact h2 e | exact h3 e | cases e))
                clear h4
                have TKR : Aside0 (∀ y ∈ ([x] : List Int), 0 ≤ y ∧ y < 256) := ⟨by have := impl_quotedText.tok_range HX.out false; rwa [TOKEQ.out] at this⟩
                by_cases hbr : 75 < col + 1
                · have hbz : 75 < (col : Int) + 1 := by omega
                  have HT : Aside0 (impl_quotedText.line (l.drop (k + 1)) 1 (bs ++ [61, 13, 10] ++ [x]) = impl_quotedText.line l 0 acc) := ⟨by rw [← HS1.out, impl_quotedText.line_brk HLA.out (by rw [TOKEQ.out]; simp; omega), TOKEQ.out]; rfl⟩
                  clear TOKEQ HS1
                  go_wp2_with (go_at_call 58; refine (impl_quotedText.soft B b bs wr (.cells (([x] : List Int).map (Value.int .u8)).toArray 5) HI.out (by have := HBL.out; omega) HBb.out).mono ?_; rintro e w3 ⟨rfl, h3, hb3, hk3, ht3⟩)
                  have HT3 : Aside0 (w3.heap[wr.heap.size]? = some (Obj.cells (([x] : List Int).map (Value.int .u8)).toArray 5 (0, 0))) := ⟨by have e_ := ht3; exact e_⟩
                  have HI3 := Aside0.mk h3
                  have HB3 : Aside0 (Below B w w3) := ⟨(HB.out.alloc HBb.out (.cells (([x] : List Int).map (Value.int .u8)).toArray 5)).trans hb3⟩
                  have HK3 : Aside0 (Lib.OthersKept 5 (some b) w w3) := ⟨(HK.out.alloc (.cells (([x] : List Int).map (Value.int .u8)).toArray 5)).trans hk3⟩
                  clear h3 hb3 hk3 ht3 HB HK
                  go_wp2_with (go_at_call 84; refine (impl_quotedText.emit B b _ ([x] : List Int) wr.heap.size _ w3 HI3.out HT3.out (by have := HBT.out; omega) (TKR.out) (by have := HBL.out; simp; omega) (impl_quotedText.size_b HB3.out hBw)).mono ?_)
                  rintro e w4 ⟨rfl, h4, hb4, hk4⟩
                  have HB4 : Aside0 (Below B w w4) := ⟨HB3.out.trans hb4⟩
                  have HK4 : Aside0 (Lib.OthersKept 5 (some b) w w4) := ⟨HK3.out.trans hk4⟩
                  have HI4 := Aside0.mk h4
                  clear h4 hb4 hk4
                  go_wp2
                  go_roundw
                  case rel => exact ⟨k + 1, 1, _, by omega, by go_num, by go_num, HI4, HB4, HK4, HT, by omega, ⟨by have := HLN.out; simp; omega⟩⟩
                  case measure => simp [intOf]; omega
                · have hbz : ¬ 75 < (col : Int) + 1 := by omega
                  have HT : Aside0 (impl_quotedText.line (l.drop (k + 1)) (col + 1) (bs ++ [x]) = impl_quotedText.line l 0 acc) := ⟨by rw [← HS1.out, impl_quotedText.line_go HLA.out (by rw [TOKEQ.out]; simp; omega), TOKEQ.out]; rfl⟩
                  clear TOKEQ HS1
                  go_wp2_with (go_at_call 84; refine (impl_quotedText.emit B b bs ([x] : List Int) wr.heap.size _ ((wr).alloc (.cells (([x] : List Int).map (Value.int .u8)).toArray 5)) (HI.out.alloc _) (heap_alloc_new wr (.cells (([x] : List Int).map (Value.int .u8)).toArray 5)) (by have := HBT.out; omega) (TKR.out) (by have := HBL.out; simp; omega) (by show B ≤ (wr.heap.push _).size; rw [Array.size_push]; have := HBb.out; omega)).mono ?_; rintro e w4 ⟨rfl, h4, hb4, hk4⟩)
                  have HB4 : Aside0 (Below B w w4) := ⟨(HB.out.alloc HBb.out (.cells (([x] : List Int).map (Value.int .u8)).toArray 5)).trans hb4⟩
                  have HK4 : Aside0 (Lib.OthersKept 5 (some b) w w4) := ⟨(HK.out.alloc (.cells (([x] : List Int).map (Value.int .u8)).toArray 5)).trans hk4⟩
                  clear HB HK
                  have HI4 := Aside0.mk h4
                  clear h4 hb4 hk4
                  go_wp2
                  go_roundw
                  case rel => exact ⟨k + 1, col + 1, _, by omega, by go_num, by go_num, HI4, HB4, HK4, HT, by omega, ⟨by have := HLN.out; simp; omega⟩⟩
                  case measure => simp [intOf]; omega
            · have g4 : (x == 32) = false := beq_eq_false_iff_ne.2 h4
              have TOKEQ := Aside0.mk (impl_quotedText.tok_pl (x := x) (la := la) (by rintro (e | e | e | ⟨e, _⟩) <;> first | exact h1 e | exact h2 e | exact h3 e | exact h4 e))
              have TKR : Aside0 (∀ y ∈ ([x] : List Int), 0 ≤ y ∧ y < 256) := ⟨by have := impl_quotedText.tok_range HX.out la; rwa [TOKEQ.out] at this⟩
              cases la with
              | true =>
                by_cases hbr : 76 < col + 1
                · have hbz : 76 < (col : Int) + 1 := by omega
                  have HT : Aside0 (impl_quotedText.line (l.drop (k + 1)) 1 (bs ++ [61, 13, 10] ++ [x]) = impl_quotedText.line l 0 acc) := ⟨by rw [← HS1.out, impl_quotedText.line_brk HLA.out (by rw [TOKEQ.out]; simp; omega), TOKEQ.out]; rfl⟩
                  clear TOKEQ HS1
                  go_wp2_with (go_at_call 58; refine (impl_quotedText.soft B b bs wr (.cells (([x] : List Int).map (Value.int .u8)).toArray 5) HI.out (by have := HBL.out; omega) HBb.out).mono ?_; rintro e w3 ⟨rfl, h3, hb3, hk3, ht3⟩)
                  have HT3 : Aside0 (w3.heap[wr.heap.size]? = some (Obj.cells (([x] : List Int).map (Value.int .u8)).toArray 5 (0, 0))) := ⟨by have e_ := ht3; exact e_⟩
                  have HI3 := Aside0.mk h3
                  have HB3 : Aside0 (Below B w w3) := ⟨(HB.out.alloc HBb.out (.cells (([x] : List Int).map (Value.int .u8)).toArray 5)).trans hb3⟩
                  have HK3 : Aside0 (Lib.OthersKept 5 (some b) w w3) := ⟨(HK.out.alloc (.cells (([x] : List Int).map (Value.int .u8)).toArray 5)).trans hk3⟩
                  clear h3 hb3 hk3 ht3 HB HK
                  go_wp2_with (go_at_call 84; refine (impl_quotedText.emit B b _ ([x] : List Int) wr.heap.size _ w3 HI3.out HT3.out (by have := HBT.out; omega) (TKR.out) (by have := HBL.out; simp; omega) (impl_quotedText.size_b HB3.out hBw)).mono ?_)
                  rintro e w4 ⟨rfl, h4, hb4, hk4⟩
                  have HB4 : Aside0 (Below B w w4) := ⟨HB3.out.trans hb4⟩
                  have HK4 : Aside0 (Lib.OthersKept 5 (some b) w w4) := ⟨HK3.out.trans hk4⟩
                  have HI4 := Aside0.mk h4
                  clear h4 hb4 hk4
                  go_wp2
                  go_roundw
                  case rel => exact ⟨k + 1, 1, _, by omega, by go_num, by go_num, HI4, HB4, HK4, HT, by omega, ⟨by have := HLN.out; simp; omega⟩⟩
                  case measure => simp [intOf]; omega
                · have hbz : ¬ 76 < (col : Int) + 1 := by omega
                  have HT : Aside0 (impl_quotedText.line (l.drop (k + 1)) (col + 1) (bs ++ [x]) = impl_quotedText.line l 0 acc) := ⟨by rw [← HS1.out, impl_quotedText.line_go HLA.out (by rw [TOKEQ.out]; simp; omega), TOKEQ.out]; rfl⟩
                  clear TOKEQ HS1
                  go_wp2_with (go_at_call 84; refine (impl_quotedText.emit B b bs ([x] : List Int) wr.heap.size _ ((wr).alloc (.cells (([x] : List Int).map (Value.int .u8)).toArray 5)) (HI.out.alloc _) (heap_alloc_new wr (.cells (([x] : List Int).map (Value.int .u8)).toArray 5)) (by have := HBT.out; omega) (TKR.out) (by have := HBL.out; simp; omega) (by show B ≤ (wr.heap.push _).size; rw [Array.size_push]; have := HBb.out; omega)).mono ?_; rintro e w4 ⟨rfl, h4, hb4, hk4⟩)
                  have HB4 : Aside0 (Below B w w4) := ⟨(HB.out.alloc HBb.out (.cells (([x] : List Int).map (Value.int .u8)).toArray 5)).trans hb4⟩
                  have HK4 : Aside0 (Lib.OthersKept 5 (some b) w w4) := ⟨(HK.out.alloc (.cells (([x] : List Int).map (Value.int .u8)).toArray 5)).trans hk4⟩
                  clear HB HK
                  have HI4 := Aside0.mk h4
                  clear h4 hb4 hk4
                  go_wp2
                  go_roundw
                  case rel => exact ⟨k + 1, col + 1, _, by omega, by go_num, by go_num, HI4, HB4, HK4, HT, by omega, ⟨by have := HLN.out; simp; omega⟩⟩
                  case measure => simp [intOf]; omega
              | false =>
                by_cases hbr : 75 < col + 1
                · have hbz : 75 < (col : Int) + 1 := by omega
                  have HT : Aside0 (impl_quotedText.line (l.drop (k + 1)) 1 (bs ++ [61, 13, 10] ++ [x]) = impl_quotedText.line l 0 acc) := ⟨by rw [← HS1.out, impl_quotedText.line_brk HLA.out (by rw [TOKEQ.out]; simp; omega), TOKEQ.out]; rfl⟩
                  clear TOKEQ HS1
                  go_wp2_with (go_at_call 58; refine (impl_quotedText.soft B b bs wr (.cells (([x] : List Int).map (Value.int .u8)).toArray 5) HI.out (by have := HBL.out; omega) HBb.out).mono ?_; rintro e w3 ⟨rfl, h3, hb3, hk3, ht3⟩)
                  have HT3 : Aside0 (w3.heap[wr.heap.size]? = some (Obj.cells (([x] : List Int).map (Value.int .u8)).toArray 5 (0, 0))) := ⟨by have e_ := ht3; exact e_⟩
                  have HI3 := Aside0.mk h3
                  have HB3 : Aside0 (Below B w w3) := ⟨(HB.out.alloc HBb.out (.cells (([x] : List Int).map (Value.int .u8)).toArray 5)).trans hb3⟩
                  have HK3 : Aside0 (Lib.OthersKept 5 (some b) w w3) := ⟨(HK.out.alloc (.cells (([x] : List Int).map (Value.int .u8)).toArray 5)).trans hk3⟩
                  clear h3 hb3 hk3 ht3 HB HK
                  go_wp2_with (go_at_call 84; refine (impl_quotedText.emit B b _ ([x] : List Int) wr.heap.size _ w3 HI3.out HT3.out (by have := HBT.out; omega) (TKR.out) (by have := HBL.out; simp; omega) (impl_quotedText.size_b HB3.out hBw)).mono ?_)
                  rintro e w4 ⟨rfl, h4, hb4, hk4⟩
                  have HB4 : Aside0 (Below B w w4) := ⟨HB3.out.trans hb4⟩
                  have HK4 : Aside0 (Lib.OthersKept 5 (some b) w w4) := ⟨HK3.out.trans hk4⟩
                  have HI4 := Aside0.mk h4
                  clear h4 hb4 hk4
                  go_wp2
                  go_roundw
                  case rel => exact ⟨k + 1, 1, _, by omega, by go_num, by go_num, HI4, HB4, HK4, HT, by omega, ⟨by have := HLN.out; simp; omega⟩⟩
                  case measure => simp [intOf]; omega
                · have hbz : ¬ 75 < (col : Int) + 1 := by omega
                  have HT : Aside0 (impl_quotedText.line (l.drop (k + 1)) (col + 1) (bs ++ [x]) = impl_quotedText.line l 0 acc) := ⟨by rw [← HS1.out, impl_quotedText.line_go HLA.out (by rw [TOKEQ.out]; simp; omega), TOKEQ.out]; rfl⟩
                  clear TOKEQ HS1
                  go_wp2_with (go_at_call 84; refine (impl_quotedText.emit B b bs ([x] : List Int) wr.heap.size _ ((wr).alloc (.cells (([x] : List Int).map (Value.int .u8)).toArray 5)) (HI.out.alloc _) (heap_alloc_new wr (.cells (([x] : List Int).map (Value.int .u8)).toArray 5)) (by have := HBT.out; omega) (TKR.out) (by have := HBL.out; simp; omega) (by show B ≤ (wr.heap.push _).size; rw [Array.size_push]; have := HBb.out; omega)).mono ?_; rintro e w4 ⟨rfl, h4, hb4, hk4⟩)
                  have HB4 : Aside0 (Below B w w4) := ⟨(HB.out.alloc HBb.out (.cells (([x] : List Int).map (Value.int .u8)).toArray 5)).trans hb4⟩
                  have HK4 : Aside0 (Lib.OthersKept 5 (some b) w w4) := ⟨(HK.out.alloc (.cells (([x] : List Int).map (Value.int .u8)).toArray 5)).trans hk4⟩
                  clear HB HK
                  have HI4 := Aside0.mk h4
                  clear h4 hb4 hk4
                  go_wp2
                  go_roundw
                  case rel => exact ⟨k + 1, col + 1, _, by omega, by go_num, by go_num, HI4, HB4, HK4, HT, by omega, ⟨by have := HLN.out; simp; omega⟩⟩
                  case measure => simp [intOf]; omega
    · have hkn : k = n := by omega
      subst hkn
      have HE : Aside0 (bs = impl_quotedText.line l 0 acc) := ⟨by rw [← HS.out, List.drop_eq_nil_of_le (by rw [HN.out]; exact Nat.le_refl _)]; rfl⟩
      clear HS
      go_wp2
      go_end0
      exact ⟨rfl, by rw [← HE.out]; exact HI.out, HB.out, HK.out⟩
/-- The pieces between ends of lines: slices of what is cut. -/
theorem impl_quotedText.split (B : Nat) (A0 : Option Addr) (c0 : Nat) (l0 : List Int) (a2 : Addr) (c2 : Nat) (m : Int) (W : World) (hl : l0.length ≤ 1000000) (hr : ∀ x ∈ l0, 0 ≤ x ∧ x < 256) (hc0 : l0.length ≤ c0) (hk0 : (A0 = none ∧ c0 = 0) ∨ ∃ ad, A0 = some ad ∧ c0 ≤ 9223372036854775807)
    (hc : ∀ i, i < l0.length → ∃ ad, A0 = some ad ∧ W.cell? (ad.add i) = some (.int .u8 (l0.getD i 0)) ∧ (ad.add i).block < B) (h2 : ∀ i, i < 2 → W.cell? (a2.add i) = some (.int .u8 (([13, 10] : List Int).getD i 0))) (hm : W.cell? ⟨2, 0, none⟩ = some (.int .i64 m)) :
    Calls Tryd.prog 57 #[.slice A0 l0.length c0, .slice (some a2) 2 c2] W fun e w' => ∃ (vs : List Value) (q : Nat), e = .returned (.slice (some ⟨W.heap.size, 0, none⟩) vs.length vs.length) ∧ w' = (W.alloc (.cells vs.toArray 22)).drewN q ∧ vs.length = (impl_quotedText.pcs l0).length ∧ vs.length ≤ 1000001 ∧
      ∀ (j : Nat) p, (impl_quotedText.pcs l0)[j]? = some p → (p.length ≤ 1000000 ∧ ∀ x ∈ p, 0 ≤ x ∧ x < 256) ∧ ∃ A c, vs[j]? = some (.slice A p.length c) ∧ ∀ i, i < p.length → ∃ ad, A = some ad ∧ W.cell? (ad.add i) = some (.int .u8 (p.getD i 0)) ∧ (ad.add i).block < B := by
  rcases hk0 with ⟨rfl, rfl⟩ | ⟨a1, rfl, hk63⟩
  · obtain rfl : l0 = [] := List.eq_nil_of_length_eq_zero (by omega)
    refine (Tryd.bytes_Split_nil (some a2) 2 c2 W (by decide) (by decide) (fun e => absurd e (by decide))).mono ?_
    rintro e w' ⟨rfl, rfl⟩
    refine ⟨[.slice none 0 0], 0, rfl, rfl, rfl, by decide, fun j p hj => ?_⟩
    cases j with
    | zero =>
      have e : p = [] := by
        have h' : some ([] : List Int) = some p := hj
        exact (Option.some.inj h').symm
      subst e
      exact ⟨⟨by simp, fun x hx => by cases hx⟩, none, 0, rfl, fun i hi => absurd hi (by simp)⟩
    | succ j =>
      have h' : (none : Option (List Int)) = some p := hj
      cases h'
  · have hcell : ∀ i, i < l0.length → W.cell? (a1.add i) = some (.int .u8 (l0.getD i 0)) ∧ (a1.add i).block < B := fun i hi => by
      obtain ⟨ad, e, h3, h4⟩ := hc i hi
      cases e
      exact ⟨h3, h4⟩
    refine (Tryd.bytes_Split a1 a2 l0.length c0 2 c2 l0 [13, 10] m W rfl rfl hr (by intro x hx; simp only [List.mem_cons, List.not_mem_nil, or_false] at hx; omega) (fun i hi => (hcell i hi).1) h2 hc0 (by omega) (by decide) hk63 (by decide) hm).mono ?_
    rintro e w' ⟨rfl, q, rfl⟩
    have e2 : Lib.bytesOf [13, 10] = [13, 10] := rfl
    have hlen : (Lib.splitV (Lib.bytesOf [13, 10]) 0 (Lib.count (Lib.bytesOf l0) (Lib.bytesOf [13, 10])) a1 c0 (Lib.bytesOf l0)).length = (impl_quotedText.pcs l0).length := by
      rw [Lib.splitV_length]
      unfold impl_quotedText.pcs Lib.split
      rw [List.length_map]
      rfl
    have hcn : Lib.count (Lib.bytesOf l0) (Lib.bytesOf [13, 10]) + 1 = (Lib.splitV (Lib.bytesOf [13, 10]) 0 (Lib.count (Lib.bytesOf l0) (Lib.bytesOf [13, 10])) a1 c0 (Lib.bytesOf l0)).length := by
      rw [Lib.splitV_length]
      have h := Lib.splitB_all (strOfNums [13, 10]) (by decide) 0 _ (strOfNums l0) rfl
      have d := congrArg List.length (Lib.splitB_data (strOfNums [13, 10]) 0 (Lib.countB (strOfNums l0) (strOfNums [13, 10])) (strOfNums l0))
      rw [List.length_map, h] at d
      exact d
    have hcl : Lib.count (Lib.bytesOf l0) (Lib.bytesOf [13, 10]) ≤ l0.length := by
      have := Lib.countB_le (strOfNums [13, 10]) (by decide) (strOfNums l0).size (strOfNums l0) (Nat.le_refl _)
      rw [strOfNums_size] at this
      exact this
    refine ⟨_, q, by rw [hcn], rfl, hlen, by rw [← hcn]; omega, fun j p hj => ?_⟩
    have hjl : j < (impl_quotedText.pcs l0).length := (List.getElem?_eq_some_iff.1 hj).1
    obtain ⟨v, hv⟩ : ∃ v, (Lib.splitV (Lib.bytesOf [13, 10]) 0 (Lib.count (Lib.bytesOf l0) (Lib.bytesOf [13, 10])) a1 c0 (Lib.bytesOf l0))[j]? = some v := ⟨_, List.getElem?_eq_getElem (by rw [hlen]; exact hjl)⟩
    obtain ⟨a', off, len, cp, rfl, g1, g2, g3, g4⟩ := Lib.splitV_spec (Lib.bytesOf [13, 10]) 0 (by simp [Lib.bytesOf]) (Nat.zero_le _) _ a1 c0 (Lib.bytesOf l0) (by rw [Lib.bytesOf_length]; exact hc0) j v hv
    rw [Lib.bytesOf_length] at g2
    have hp : p = (l0.drop off).take len := by
      unfold impl_quotedText.pcs Lib.split at hj
      rw [List.getElem?_map] at hj
      rw [e2] at g3
      rw [g3] at hj
      have hj' := (Option.some.inj hj).symm
      rw [hj', ← Lib.bytesOf_drop, ← Lib.bytesOf_take]
      unfold impl_quotedText.up Lib.bytesOf
      rw [List.map_map]
      conv => rhs; rw [← List.map_id ((l0.drop off).take len)]
      refine List.map_congr_left fun x hx => ?_
      have := hr x (List.mem_of_mem_drop (List.mem_of_mem_take hx))
      simp only [Function.comp, id, UInt8.toNat_ofNat']
      omega
    have hpl : p.length = len := by rw [hp, List.length_take, List.length_drop]; omega
    refine ⟨⟨by rw [hpl]; omega, fun x hx => ?_⟩, some a', cp, by rw [hv, hpl], fun i hi => ⟨a', rfl, ?_⟩⟩
    · rw [hp] at hx
      exact hr x (List.mem_of_mem_drop (List.mem_of_mem_take hx))
    · rw [hpl] at hi
      rw [g4 i hi]
      have h5 := hcell (off + i) (by omega)
      refine ⟨?_, h5.2⟩
      rw [h5.1, hp]
      simp [List.getD_eq_getElem?_getD, List.getElem?_take, List.getElem?_drop, hi]
theorem impl_quotedText.line_len : ∀ (l : List Int) (col : Nat) (acc : List Int), (impl_quotedText.line l col acc).length ≤ acc.length + 6 * l.length
  | [], _, _ => Nat.le_refl _
  | c :: l, col, acc => by
    have h := impl_quotedText.tok_len c l.isEmpty
    by_cases h2 : (if l.isEmpty = true then 76 else 75) < col + (impl_quotedText.tok c l.isEmpty).length
    · rw [impl_quotedText.line, if_pos h2]
      refine Nat.le_trans (line_len l _ _) ?_
      simp only [List.length_append, List.length_cons, List.length_nil]
      omega
    · rw [impl_quotedText.line, if_neg h2]
      refine Nat.le_trans (line_len l _ _) ?_
      simp only [List.length_append, List.length_cons]
      omega
theorem impl_quotedText.add_at (g i : Nat) : ((⟨g, 0, none⟩ : Addr).add i) = ⟨g, i, none⟩ := by
  unfold Addr.add
  by_cases h0 : i = 0
  · subst h0; rfl
  · simp [h0]
set_option maxHeartbeats 8000000 in
set_option maxRecDepth 100000 in
theorem impl_quotedText.calls (A0 : Option Addr) (c0 : Nat) (l0 : List Int) (r : ByteArray) (w : World) (hr0 : Kd.C (Kd.int .u8) w A0 l0.length l0) (hc0 : l0.length ≤ c0) (hk0 : (A0 = none ∧ c0 = 0) ∨ ∃ ad, A0 = some ad ∧ c0 ≤ 9223372036854775807) (h : impl_quotedText.f l0 = some r) (hG : Glob w) :
    Calls Tryd.prog 34 #[.slice A0 l0.length c0] w fun e w' => e = .returned (.string r) ∧ Below w.heap.size w w' := by
  have HG := Aside0.mk hG
  clear hG
  unfold impl_quotedText.f at h
  by_cases hs : l0.length ≤ 1000000 ∧ ∀ x ∈ l0, 0 ≤ x ∧ x < 256
  · rw [if_pos hs] at h
    obtain ⟨hs0, hs1⟩ := hs
    have HC : Aside0 (∀ i, i < l0.length → ∃ ad, A0 = some ad ∧ w.cell? (ad.add i) = some (.int .u8 (l0.getD i 0)) ∧ (ad.add i).block < w.heap.size) := ⟨fun i hi => by
      obtain ⟨ad, e, hcell⟩ := hr0.2.2 (by omega)
      obtain ⟨c, _, hk, hcl⟩ := hcell i l0[i] (List.getElem?_eq_getElem hi)
      have hk' : c = [Value.int .u8 l0[i]] := hk
      subst hk'
      have h3 : w.cell? (ad.add i) = some (.int .u8 l0[i]) := by simpa [Kd.int, Kd.scalar] using hcl 0 (.int .u8 l0[i]) rfl
      refine ⟨ad, e, ?_, World.block_lt_of_cell? w _ h3⟩
      rw [h3, List.getD_eq_getElem?_getD, List.getElem?_eq_getElem hi]
      rfl⟩
    have HR := Aside0.mk hs1
    have HL := Aside0.mk hs0
    have HH := Aside0.mk h
    have HK0 := Aside0.mk hk0
    have HC0 := Aside0.mk hc0
    clear hr0 hs0 hs1 h hk0 hc0
    obtain ⟨m, hm⟩ := HG.out.mlen
    have HM := Aside0.mk hm
    clear hm
    go_enter Tryd.func34, Tryd.ntmps34
    have hcv := Go.Joins.run_convert_bytes_const_at (P := Tryd.prog) (w.alloc (.cells #[.pointer none, .slice none 0 0] 57)) 22 5 #[.int .u8 13, .int .u8 10] 2 2 (w.heap.size + 1) (by show _ = (w.heap.push _).size; rw [Array.size_push]) Tryd.underlying22 Tryd.underlying5
    have CS := Aside0.mk (impl_quotedText.split w.heap.size A0 c0 l0 ⟨w.heap.size + 1, 0, none⟩ 2 m ((w.alloc (.cells #[.pointer none, .slice none 0 0] 57)).alloc (.cells #[.int .u8 13, .int .u8 10] 5 (2, 3))) HL.out HR.out HC0.out HK0.out
      (fun i hi => by
        obtain ⟨ad, e, h1, h2⟩ := HC.out i hi
        exact ⟨ad, e, Lib.cell?_alloc_marked _ (Lib.cell?_alloc_marked _ h1), h2⟩)
      (fun i hi => by
        rw [impl_quotedText.add_at, Go.Joins.cell_alloc_mark_at _ _ _ _ _ _ (by show _ = (w.heap.push _).size; rw [Array.size_push])]
        match i, hi with
        | 0, _ => rfl
        | 1, _ => rfl)
      (Lib.cell?_alloc_marked _ (Lib.cell?_alloc_marked _ HM.out)))
    have HB0 : Aside0 (Lib.IsBuilderF 57 5 w.heap.size w.heap.size (Lib.byteCells (Lib.bytesOf [])) ((w.alloc (.cells #[.pointer none, .slice none 0 0] 57)).alloc (.cells #[.int .u8 13, .int .u8 10] 5 (2, 3)))) := ⟨(Lib.IsBuilderF.of (Lib.fresh_isBuilder 57 5 w)).alloc _⟩
    have HZ : Aside0 (((w.alloc (.cells #[.pointer none, .slice none 0 0] 57)).alloc (.cells #[.int .u8 13, .int .u8 10] 5 (2, 3))).heap.size = w.heap.size + 2) := ⟨by show ((w.heap.push _).push _).size = _; rw [Array.size_push, Array.size_push]⟩
    have HW : Aside0 (Below w.heap.size w ((w.alloc (.cells #[.pointer none, .slice none 0 0] 57)).alloc (.cells #[.int .u8 13, .int .u8 10] 5 (2, 3)))) := ⟨((Below.refl _ w).alloc (Nat.le_refl _) _).alloc (by show _ ≤ (w.heap.push _).size; rw [Array.size_push]; omega) _⟩
    go_wp2_with (go_at_call 57; refine CS.out.mono ?_; rintro e w1 ⟨vs, q, rfl, hw1, hvl, hvb, hps⟩; have HI1 : Aside0 (Lib.IsBuilderF 57 5 w.heap.size w.heap.size (Lib.byteCells (Lib.bytesOf [])) w1) := ⟨by rw [hw1]; exact HB0.out.alloc _⟩; have HV1 : Aside0 (w1.heap[w.heap.size + 1 + 1]? = some (.cells vs.toArray 22 (0, 0))) := ⟨by rw [hw1]; have e_ := heap_alloc_new ((w.alloc (.cells #[.pointer none, .slice none 0 0] 57)).alloc (.cells #[.int .u8 13, .int .u8 10] 5 (2, 3))) (.cells vs.toArray 22); rw [HZ.out] at e_; exact e_⟩; have HB1 : Aside0 (Below w.heap.size w w1) := ⟨by rw [hw1]; exact pw_below_drewN (HW.out.alloc (by rw [HZ.out]; omega) _) q⟩; have HVL := Aside0.mk hvl; have HPS := Aside0.mk hps; obtain ⟨n, hn⟩ : ∃ n, vs.length = n := ⟨_, rfl⟩; rw [hn] at hvb ⊢; have HN := Aside0.mk hn; clear hn hvl hps hw1 HB0 HZ HW CS)
    go_loopw [12] (fun v12 wr => ∃ (k : Nat) (acc : List Int), k ≤ n ∧ v12 = .int .i64 k ∧ Aside0 (Lib.IsBuilderF 57 5 w.heap.size w.heap.size (Lib.byteCells (Lib.bytesOf acc)) wr) ∧ Aside0 (wr.heap[w.heap.size + 1 + 1]? = some (.cells vs.toArray 22 (0, 0))) ∧ Aside0 (Below w.heap.size w wr) ∧ Aside0 (impl_quotedText.lns ((impl_quotedText.pcs l0).drop k) (decide (k = 0)) acc = impl_quotedText.lns (impl_quotedText.pcs l0) true []) ∧ Aside0 (acc.length ≤ k * 6000002)) (fun v12 _ => n - (intOf v12).toNat)
    case atStart => exact ⟨0, [], Nat.zero_le _, rfl, HI1, HV1, HB1, ⟨by rw [List.drop_zero]; rfl⟩, ⟨by simp⟩⟩
    case round =>
      obtain ⟨k, acc, hk, rfl, HI, HV, HB, HS, HLN⟩ := hrel
      clear HI1 HV1 HB1
      by_cases hlt : k < n
      · have hkp : k < (impl_quotedText.pcs l0).length := by rw [← HVL.out, HN.out]; exact hlt
        obtain ⟨hpr, A, c, hvk, hcells⟩ := HPS.out k _ (List.getElem?_eq_getElem hkp)
        have HS1 : Aside0 (impl_quotedText.lns ((impl_quotedText.pcs l0)[k] :: (impl_quotedText.pcs l0).drop (k + 1)) (decide (k = 0)) acc = impl_quotedText.lns (impl_quotedText.pcs l0) true []) := ⟨by rw [← HS.out, impl_quotedText.drop_at hkp]⟩
        have hcell : wr.cell? ⟨w.heap.size + 1 + 1, k, none⟩ = some (.slice A (impl_quotedText.pcs l0)[k].length c) := by
          rw [Lib.cell_of_heap HV.out]
          simpa using hvk
        generalize (impl_quotedText.pcs l0)[k] = p at *
        clear HS hvk
        have HP := Aside0.mk hpr
        have HCL : Aside0 (∀ i, i < p.length → ∃ ad, A = some ad ∧ wr.cell? (ad.add i) = some (.int .u8 (p.getD i 0)) ∧ (ad.add i).block < w.heap.size) := ⟨fun i hi => by
          obtain ⟨ad, e, h1, h2⟩ := hcells i hi
          refine ⟨ad, e, ?_, h2⟩
          rw [HB.out.cell h2]
          have h3 := h1
          rw [← h3]
          exact ((((Below.refl _ w).alloc (Nat.le_refl _) _).alloc (by show _ ≤ (w.heap.push _).size; rw [Array.size_push]; omega) _).cell h2).symm⟩
        clear hpr hcells
        have HKB : Aside0 (k * 6000002 ≤ 1000001 * 6000002) := ⟨Nat.mul_le_mul_right _ (by omega)⟩
        by_cases hk0 : 0 < k
        · go_wp2_with (go_at_call 58; refine (Bld.writeString w.heap.size w.heap.size _ ⟨#[13, 10]⟩ _ HI.out (by rw [impl_quotedText.cells_len]; change acc.length + 2 ≤ 140737488355328; have := HLN.out; have := HKB.out; omega) (below_size HB.out)).mono ?_)
          rintro e w3 ⟨rfl, h3, hb3, hk3⟩
          have HI3 : Aside0 (Lib.IsBuilderF 57 5 w.heap.size w.heap.size (Lib.byteCells (Lib.bytesOf (acc ++ [13, 10]))) w3) := ⟨by rw [← impl_quotedText.cells_more (xs := [13, 10]) (by intro x hx; simp only [List.mem_cons, List.not_mem_nil, or_false] at hx; omega)]; exact h3⟩
          have HV3 := Aside0.mk (impl_quotedText.kept HV.out hk3 (by omega))
          have HB3 := Aside0.mk (HB.out.trans hb3)
          have HCL3 : Aside0 (∀ i, i < p.length → ∃ ad, A = some ad ∧ w3.cell? (ad.add i) = some (.int .u8 (p.getD i 0)) ∧ (ad.add i).block < w.heap.size) := ⟨fun i hi => by
            obtain ⟨ad, e, h1, h2⟩ := HCL.out i hi
            exact ⟨ad, e, (hb3.cell h2).trans h1, h2⟩⟩
          clear h3 hb3 hk3 HI HV HB HCL
          go_wp2_with (go_at_call 59; refine (impl_quotedText.quoted w.heap.size w.heap.size (acc ++ [13, 10]) A c p _ HI3.out HP.out.1 (by have := HLN.out; have := HKB.out; rw [List.length_append]; change acc.length + 2 ≤ 10000000000000; omega) HP.out.2 HCL3.out (below_size HB3.out)).mono ?_)
          rintro e w4 ⟨rfl, h4, hb4, hk4⟩
          have HI4 := Aside0.mk h4
          have HV4 := Aside0.mk (impl_quotedText.kept HV3.out hk4 (by omega))
          have HB4 := Aside0.mk (HB3.out.trans hb4)
          clear h4 hb4 hk4 HI3 HV3 HB3 HCL3
          go_wp2
          go_roundw
          case rel => exact ⟨k + 1, _, by omega, by go_num, HI4, HV4, HB4, ⟨by rw [← HS1.out, impl_quotedText.lns, show decide (k = 0) = false from decide_eq_false (by omega), show decide (k + 1 = 0) = false from decide_eq_false (by omega)]; rfl⟩, ⟨by have h1 := impl_quotedText.line_len p 0 (acc ++ [13, 10]); rw [List.length_append] at h1; have h2 : ([13, 10] : List Int).length = 2 := rfl; have := HLN.out; have := HP.out.1; omega⟩⟩
          case measure => simp [intOf]; omega
        · obtain rfl : k = 0 := by omega
          go_wp2_with (go_at_call 59; refine (impl_quotedText.quoted w.heap.size w.heap.size acc A c p _ HI.out HP.out.1 (by have := HLN.out; omega) HP.out.2 HCL.out (below_size HB.out)).mono ?_; rintro e w4 ⟨rfl, h4, hb4, hk4⟩)
          have HI4 := Aside0.mk h4
          have HV4 := Aside0.mk (impl_quotedText.kept HV.out hk4 (by omega))
          have HB4 := Aside0.mk (HB.out.trans hb4)
          clear h4 hb4 hk4 HI HV HB HCL
          go_wp2
          go_roundw
          case rel => exact ⟨1, _, by omega, by go_num, HI4, HV4, HB4, ⟨by rw [← HS1.out, impl_quotedText.lns]; rfl⟩, ⟨by have h1 := impl_quotedText.line_len p 0 acc; have := HLN.out; have := HP.out.1; omega⟩⟩
          case measure => simp [intOf]; omega
      · have hkn : k = n := by omega
        subst hkn
        have HE : Aside0 (acc = impl_quotedText.lns (impl_quotedText.pcs l0) true []) := ⟨by rw [← HS.out, List.drop_eq_nil_of_le (by rw [← HVL.out, HN.out]; exact Nat.le_refl _)]; rfl⟩
        clear HS
        go_wp2_with (go_at_call 60; refine (Tryd.Builder_String_any_k w.heap.size w.heap.size _ _ HI.out (below_size HB.out)).mono ?_)
        rintro e w4 ⟨rfl, _, hb4, _⟩
        have HB4 := Aside0.mk (HB.out.trans hb4)
        clear hb4
        go_wp2
        go_ret
        refine ⟨?_, HB4.out⟩
        have hr := Option.some.inj HH.out
        rw [← hr, ← HE.out]
        rfl
  · rw [if_neg hs] at h
    cases h

/-! ### impl_QuotedText: function 14 -/
def impl_QuotedText.f (l0 : List Int) : Option (ByteArray × Int) := if (l0.length : Int) > 65536 then (some ((⟨#[]⟩ : ByteArray), 2)) else ((impl_quotedText.f l0).bind fun t171 => (some (t171, 0)))
set_option maxHeartbeats 8000000 in
set_option maxRecDepth 100000 in
theorem impl_QuotedText.calls (A0 : Option Addr) (c0 : Nat) (l0 : List Int) (r1 : ByteArray) (r2 : Int) (w : World) (hr0 : Kd.C (Kd.int .u8) w A0 l0.length l0) (hc0 : l0.length ≤ c0) (hk0 : (A0 = none ∧ c0 = 0) ∨ ∃ ad, A0 = some ad ∧ c0 ≤ 9223372036854775807) (h : impl_QuotedText.f l0 = some (r1, r2)) (hG : Glob w) :
    Calls Tryd.prog 14 #[.slice A0 l0.length c0] w fun e w' => e = .returned (.tuple #[.string r1, .int .i64 r2]) ∧ Below w.heap.size w w' := by
  have HG := Aside0.mk hG
  clear hG
  have HK0_ := Aside0.mk hk0
  clear hk0
  have HR0 := Aside0.mk hr0
  have HC0 := Aside0.mk hc0
  clear hr0 hc0
  have HB := Aside0.mk (Below.refl w.heap.size w)
  have H : (if (l0.length : Int) > 65536 then (some ((⟨#[]⟩ : ByteArray), 2)) else ((impl_quotedText.f l0).bind fun t171 => (some (t171, 0)))) = some (r1, r2) := h
  clear h
  by_cases c2 : (l0.length : Int) > 65536
  · rw [if_pos c2] at H
    have c2b0 : decide (65536 < (l0.length : Int)) = true := decide_eq_true c2
    have c2b1 : decide (65536 < l0.length) = true := decide_eq_true (by omega)
    clear c2
    simp only [Option.some.injEq, Prod.mk.injEq] at H
    obtain ⟨rfl, rfl⟩ := H
    go_enter Tryd.func14, Tryd.ntmps14
    go_wp2
    go_ret2
    exact ⟨by first | rfl | (simp [errW_none, errW_some] <;> rfl) | (simp [*, errW_none, errW_some] <;> rfl), by repeat (first | (with_reducible first | exact HB.out | apply below_alloc | apply pw_below_drewN | apply below_drew1) | exact HB.out)⟩
  · rw [if_neg c2] at H
    have c2b0 : decide (65536 < (l0.length : Int)) = false := decide_eq_false c2
    have c2b1 : decide (65536 < l0.length) = false := decide_eq_false (by omega)
    clear c2
    replace H := Option.bind_eq_some_iff.mp H
    obtain ⟨t171, A30, H⟩ := H
    replace H : (some (t171, 0)) = some (r1, r2) := H
    have A3 := Aside0.mk A30
    clear A30
    simp only [Option.some.injEq, Prod.mk.injEq] at H
    obtain ⟨rfl, rfl⟩ := H
    go_enter Tryd.func14, Tryd.ntmps14
    go_wp2_with (first | ((with_reducible refine gate_callee (f := 34) rfl ?_); refine goesL_ (some 8) rfl rfl Tryd.func34 (by kernel_rfl) rfl #[.slice A0 l0.length c0] rfl (by (try simp only [List.map_toArray, List.map_cons, List.map_nil]); first | done | rfl | (simp only [List.length_drop, List.length_take]; rfl)) ?_; (with_reducible refine (impl_quotedText.calls _ _ l0 t171 _ ?side1 ?side2 ?sidek A3.out (Glob.of_below HG.out (by repeat (first | (with_reducible first | exact HB.out | apply below_alloc | apply pw_below_drewN | apply below_drew1) | exact HB.out)))).mono ?_); (case side1 => repeat (first | exact HR0.out | (with_reducible refine Kd.C_alloc ?_ _) | (with_reducible refine Kd.C_drewN ?_ _) | (with_reducible refine Kd.C_drew ?_))); (case side2 => exact HC0.out); (case sidek => exact HK0_.out); rintro e w4 ⟨rfl, hb⟩; refine ⟨_, rfl, ?_⟩; have n0_ := Aside0.mk (below_step (by repeat (first | (with_reducible first | exact HB.out | apply below_alloc | apply pw_below_drewN | apply below_drew1) | exact HB.out)) hb); clear HB; have HB := n0_; clear n0_; (try clear hb); (try clear hb2); (try clear hk); (try clear hi)))
    go_ret2
    exact ⟨by first | rfl | (simp [errW_none, errW_some] <;> rfl) | (simp [*, errW_none, errW_some] <;> rfl), by repeat (first | (with_reducible first | exact HB.out | apply below_alloc | apply pw_below_drewN | apply below_drew1) | exact HB.out)⟩

end Go.Proofs.YtebmhicdlamnbaaDoor.QFnQuoted
