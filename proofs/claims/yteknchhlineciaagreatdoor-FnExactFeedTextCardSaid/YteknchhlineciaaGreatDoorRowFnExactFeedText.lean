/- A row of structs that stands in a struct by value: what it is, cell by cell, and how large its texts are. Conditions: none. A struct of a bool, a text and a row of entries, that comes in by value: what it is. Conditions: none. The card of FnExactFeedText: for every input the law answers true and leaves its arguments alone. Conditions: none. -/
import Derived.Test.YteknchhlineciaaGreatDoorRows
import Derived.Test.YteknchhlineciaaGreatDoorWWords
import Derived.WalkKit
import Derived.ProofKit
import Derived.OpenShut
import Derived.SizedLaws
import Derived.Deep.Slices
import Derived.Deep.Fields
import Derived.ChangeSame
import Derived.Lib.SmallJoins
import Derived.Test.YteknchhlineciaaGreatDoorQFnExactFeedTextx0
import Derived.Test.YteknchhlineciaaGreatDoorCards
import Derived.Test.YteknchhlineciaaGreatDoorTie
import Derived.Test.YteknchhlineciaaGreatDoorGlob
import Derived.Lib.LaidIn
import Derived.Lib.LaidU8T
import Derived.Deep.DeepHandedRow
import Derived.Deep.DeepWitnessRowRef
import Derived.Test.YteknchhlineciaaGreatDoorQFnExactFeedTextx
import Derived.Test.YteknchhlineciaaGreatDoorPureFnExactFeedText
import Derived.ShutString
import Derived.ChangeOld
import Derived.Below
namespace Go.Proofs.YteknchhlineciaaGreatDoor.AggR
open Go.ChangeShapes Go.WideShapes Go.ChangeAt Go.RowKit Go.Deep Go.Joins Go.Proofs.YteknchhlineciaaGreatDoorW.PrintWords
theorem rows_of {α : Type} {size : Nat} (K : α → List Value → Prop) (Q : Nat → α → Prop) {w : World} {a : Addr} {n : Nat} (hn : n ≤ 9223372036854775807)
    (h : ∀ i, i < n → ∃ p c, c.length = size ∧ K p c ∧ (∀ j u, c[j]? = some u → w.cell? (a.add (i * size + j)) = some u) ∧ Q i p) :
    ∃ ps : List α, ps.length = n ∧ ReadsRow K size w (some a) n ps ∧ ∀ i p, ps[i]? = some p → Q i p := by
  have h' : ∀ i : Fin n, ∃ p, ∃ c : List Value, c.length = size ∧ K p c ∧ (∀ j u, c[j]? = some u → w.cell? (a.add (i.1 * size + j)) = some u) ∧ Q i.1 p := fun i => h i.1 i.2
  obtain ⟨f, hf⟩ := Classical.axiomOfChoice h'
  have at_ : ∀ j p, (List.ofFn f)[j]? = some p → ∃ hj : j < n, f ⟨j, hj⟩ = p := by
    intro j p hj
    obtain ⟨hl, e⟩ := List.getElem?_eq_some_iff.1 hj
    have hjn : j < n := by simpa using hl
    rw [List.getElem_ofFn] at e
    exact ⟨hjn, e⟩
  refine ⟨List.ofFn f, by simp, ⟨by simp, hn, fun _ => ⟨a, rfl, fun j p hj => ?_⟩⟩, fun i p hi => ?_⟩
  · obtain ⟨hjn, rfl⟩ := at_ j p hj
    obtain ⟨c, h1, h2, h3, _⟩ := hf ⟨j, hjn⟩
    exact ⟨c, h1, h2, h3⟩
  · obtain ⟨hjn, rfl⟩ := at_ i p hi
    obtain ⟨c, _, _, _, h4⟩ := hf ⟨i, hjn⟩
    exact h4
theorem all_mem {H : Type} {P : Program} {e : TypeId} {d : DataW H} {q : Nat} (hq : q ∈ d.weights P e) : ∀ {l : List (DataW H)}, d ∈ l → q ∈ DataW.weightsAll P e l
  | x :: r, h => by
    rw [DataW.weightsAll]
    rcases List.mem_cons.1 h with rfl | h
    · exact List.mem_append.2 (.inl hq)
    · exact List.mem_append.2 (.inr (all_mem hq h))
theorem open_structs {α H : Type} (d : Kd α) (Q : DataW H → α → Prop) {enc : TypeId × Value → H} {P : Program} {w : World} {base : Nat} {spare : Nat → Bool} {held : Bool} {t e : TypeId} {fuel : Nat} {v : Value} {y : DataW H × List MemPlace}
    (ht : P.underlying t = some (.slice e)) (hC : P.cellsOf e = d.sz)
    (one : ∀ (n : Nat) (cs : List Value) (z : DataW H × List MemPlace), cs.length = d.sz → DataW.trod enc P w base spare held n e cs = some z → ∃ x : α, d.K w x cs ∧ Q z.1 x)
    (h : DataW.trod enc P w base spare held fuel t [v] = some y) :
    ∃ (A : Option Addr) (l : List α) (c : Nat), v = .slice A l.length c ∧ l.length ≤ c ∧ Kd.C d w A l.length l ∧ ∀ x ∈ l, ∃ dx, (∀ q ∈ dx.weights P e, q ∈ y.1.weights P t) ∧ Q dx x := by
  rcases open_slice ht h with ⟨hcs, hx⟩ | ⟨a, len, cap, m, n, D, Pl, hcs, hb, hl, hm, hmm, hx, hi⟩
  · simp only [List.cons.injEq, and_true] at hcs
    exact ⟨none, [], 0, hcs, Nat.le_refl _, ⟨rfl, Nat.zero_le _, fun h => absurd h (by simp)⟩, fun x hx => by cases hx⟩
  · simp only [List.cons.injEq, and_true] at hcs
    have hml : len ≤ m := by rw [hmm]; split <;> omega
    have hmx : maxLen = 9223372036854775807 := rfl
    obtain ⟨ps, hpl, hps, hq⟩ := rows_of (d.K w) (fun i x => i < len ∧ Q (D i) x) (size := d.sz) (w := w) (a := a) (n := len) (by omega) (fun i him => by
      obtain ⟨cs', hc, ht'⟩ := hi i (by omega)
      rw [hC] at hc
      obtain ⟨_, hcl, hat⟩ := World.cells?_some hc
      obtain ⟨x, hk, hQ⟩ := one n cs' _ hcl ht'
      refine ⟨x, cs', hcl, hk, fun j u hj => ?_, him, hQ⟩
      have hj2 : j < d.sz := by rw [← hcl]; exact (List.getElem?_eq_some_iff.1 hj).1
      rw [← Go.Deep.add_add, hat j hj2]
      exact hj)
    subst hpl
    refine ⟨some a, ps, cap, hcs, hl, hps, fun x hx' => ?_⟩
    obtain ⟨i, hil, rfl⟩ := List.getElem_of_mem hx'
    obtain ⟨h1, h2⟩ := hq i _ (List.getElem?_eq_getElem hil)
    refine ⟨D i, fun q hqm => ?_, h2⟩
    rw [hx]
    unfold DataW.weights
    rw [ht]
    simp only
    refine List.mem_cons.2 (.inr (List.mem_append.2 (.inl (all_mem hqm ?_))))
    exact List.mem_map.2 ⟨i, List.mem_range.2 h1, rfl⟩
end Go.Proofs.YteknchhlineciaaGreatDoor.AggR
namespace Go.Proofs.YteknchhlineciaaGreatDoor.AggD
open Go.ChangeShapes Go.WideShapes Go.ChangeAt Go.RowKit Go.Deep Go.Joins Go.Proofs.YteknchhlineciaaGreatDoor.QFnExactFeedText Go.Proofs.YteknchhlineciaaGreatDoorW.PrintWords Go.Proofs.YteknchhlineciaaGreatDoor.AggR
/-- What an entry is as a datum. -/
def dat {H : Type} (x : S54) : DataW H := .agg [.lit (.string x.f0.data.toList), .lit (.string x.f1.data.toList), .lit (.string x.f2.data.toList), .lit (.string x.f3.data.toList), .lit (.int .i64 x.f4), .lit (.string x.f5.data.toList)]
theorem entry_of {H : Type} {enc : TypeId × Value → H} {P : Program} {w : World} {base : Nat} {spare : Nat → Bool} {held : Bool} {e s i : TypeId} {gs : Array Field}
    (he : P.underlying e = some (.struct gs)) (hs : P.underlying s = some .string) (hi : P.underlying i = some (.int .i64)) (hone : oneCellFields P gs = true) (hty : gs.toList.map (·.type) = [s, s, s, s, i, s])
    (n : Nat) (cs : List Value) (z : DataW H × List MemPlace) (hcl : cs.length = 6) (h : DataW.trod enc P w base spare held n e cs = some z) :
    ∃ x : S54, k54.K w x cs ∧ z.1 = dat x := by
  obtain ⟨ys, n', hn', hy, hlen, hyl, hf⟩ := DataW.trod_struct he h
  obtain ⟨q⟩ := gs
  have hq6 : q.length = 6 := by simpa using congrArg List.length hty
  have hy6 : ys.length = 6 := by rw [hyl]; exact hq6
  match q, hq6, hty, cs, hcl, ys, hy6 with
  | [f0, f1, f2, f3, f4, f5], _, hty, [c0, c1, c2, c3, c4, c5], _, [y0, y1, y2, y3, y4, y5], _ =>
    simp only [List.map_cons, List.map_nil, List.cons.injEq, and_true] at hty
    obtain ⟨t0, t1, t2, t3, t4, t5⟩ := hty
    obtain ⟨o0, k0⟩ := hone_of hone 0 f0 rfl
    obtain ⟨o1, k1⟩ := hone_of hone 1 f1 rfl
    obtain ⟨o2, k2⟩ := hone_of hone 2 f2 rfl
    obtain ⟨o3, k3⟩ := hone_of hone 3 f3 rfl
    obtain ⟨o4, k4⟩ := hone_of hone 4 f4 rfl
    obtain ⟨o5, k5⟩ := hone_of hone 5 f5 rfl
    have g0 := hf 0 f0 rfl
    have g1 := hf 1 f1 rfl
    have g2 := hf 2 f2 rfl
    have g3 := hf 3 f3 rfl
    have g4 := hf 4 f4 rfl
    have g5 := hf 5 f5 rfl
    rw [o0, k0, t0] at g0
    rw [o1, k1, t1] at g1
    rw [o2, k2, t2] at g2
    rw [o3, k3, t3] at g3
    rw [o4, k4, t4] at g4
    rw [o5, k5, t5] at g5
    obtain ⟨x0, e0, q0, _⟩ := DataW.trod_string hs g0
    obtain ⟨x1, e1, q1, _⟩ := DataW.trod_string hs g1
    obtain ⟨x2, e2, q2, _⟩ := DataW.trod_string hs g2
    obtain ⟨x3, e3, q3, _⟩ := DataW.trod_string hs g3
    obtain ⟨x4, e4, q4, _⟩ := DataW.trod_int hi g4
    obtain ⟨x5, e5, q5, _⟩ := DataW.trod_string hs g5
    simp only [List.drop_zero, List.drop_succ_cons, List.take_succ_cons, List.take_zero, List.cons.injEq, and_true] at e0 e1 e2 e3 e4 e5
    subst e0 e1 e2 e3 e4 e5 q0 q1 q2 q3 q4 q5
    rw [hy]
    exact ⟨⟨x0, x1, x2, x3, x4, x5⟩, k54_mk w _, rfl⟩
theorem open_feed {H : Type} {enc : TypeId × Value → H} {P : Program} {w : World} {base : Nat} {spare : Nat → Bool} {held : Bool} {r : Reach} {b0 : Nat} {t b s i t' e : TypeId} {fs gs : Array Field} {v : Value} {d : DataW H} {p : List MemPlace}
    (ht : P.underlying t = some (.struct fs)) (hb : P.underlying b = some .bool) (hs : P.underlying s = some .string) (hi : P.underlying i = some (.int .i64)) (hone : oneCellFields P fs = true) (hC : P.cellsOf t = 3) (hty : fs.toList.map (·.type) = [b, s, t'])
    (ht' : P.underlying t' = some (.slice e)) (he : P.underlying e = some (.struct gs)) (hone' : oneCellFields P gs = true) (hC' : P.cellsOf e = 6) (hty' : gs.toList.map (·.type) = [s, s, s, s, i, s])
    (hv : Value.okWide P w r b0 t v) (h : DataW.Trod enc P w base spare held t v d p) :
    ∃ (x0 : Bool) (x1 : ByteArray) (A : Option Addr) (l : List S54) (c : Nat) (d2 : DataW H), v = .agg #[.bool x0, .string x1, .slice A l.length c] ∧ l.length ≤ c ∧ Kd.C k54 w A l.length l ∧ d = .agg [.lit (.bool x0), .lit (.string x1.data.toList), d2] ∧
      ∀ x ∈ l, ∃ dx : DataW H, (∀ q ∈ dx.weights P e, q ∈ d2.weights P t') ∧ dx = dat x := by
  obtain ⟨cs, rfl, hsz⟩ := okWide_struct ht hv
  obtain ⟨fuel, hf⟩ := h
  obtain ⟨ys, n, _, hx, _, hlen, hg⟩ := DataW.trod_struct ht hf
  obtain ⟨l⟩ := fs
  obtain ⟨c⟩ := cs
  have hl3 : l.length = 3 := by simpa using congrArg List.length hty
  have hc3 : c.length = 3 := hsz.trans hC
  have hy3 : ys.length = 3 := by rw [hlen]; exact hl3
  match l, hl3, hty, c, hc3, ys, hy3 with
  | [f0, f1, f2], _, hty, [c0, c1, c2], _, [y0, y1, y2], _ =>
    simp only [List.map_cons, List.map_nil, List.cons.injEq, and_true] at hty
    obtain ⟨t0, t1, t2⟩ := hty
    obtain ⟨o0, k0⟩ := hone_of hone 0 f0 rfl
    obtain ⟨o1, k1⟩ := hone_of hone 1 f1 rfl
    obtain ⟨o2, k2⟩ := hone_of hone 2 f2 rfl
    have g0 : DataW.trod enc P w base spare held n f0.type [c0] = some y0 := by simpa [Value.cells, o0, k0] using hg 0 f0 rfl
    have g1 : DataW.trod enc P w base spare held n f1.type [c1] = some y1 := by simpa [Value.cells, o1, k1] using hg 1 f1 rfl
    have g2 : DataW.trod enc P w base spare held n f2.type [c2] = some y2 := by simpa [Value.cells, o2, k2] using hg 2 f2 rfl
    rw [t0] at g0; rw [t1] at g1; rw [t2] at g2
    obtain ⟨x0, e0, q0⟩ := DataW.trod_bool hb g0
    obtain ⟨x1, e1, q1, _⟩ := DataW.trod_string hs g1
    obtain ⟨A, xs, cap, e2, hcap, hK, hQ⟩ := open_structs k54 (fun dx x => dx = dat x) ht' hC' (fun n cs z h2 h => entry_of he hs hi hone' hty' n cs z h2 h) g2
    simp only [List.cons.injEq, and_true] at e0 e1
    subst e0 e1 e2 q0 q1
    simp only [Prod.mk.injEq] at hx
    exact ⟨x0, x1, A, xs, cap, y2.1, rfl, hcap, hK, by simpa using hx.1, hQ⟩
/-- The texts in the row, and the one ahead of it, are no longer than the reach. -/
theorem sized_feed {H : Type} {P : Program} {ts : List TypeId} {ds : List (DataW H)} {j : Nat} {t b s i t' e : TypeId} {fs gs : Array Field} {x0 : Bool} {b1 : List UInt8} {d2 : DataW H} (h : (DataW.weightsEach P ts ds).all (· ≤ reachBytes) = true) (ht : ts[j]? = some t)
    (hd : ds[j]? = some (.agg [.lit (.bool x0), .lit (.string b1), d2])) (hs : P.underlying t = some (.struct fs)) (hty : fs.toList.map (·.type) = [b, s, t']) (he : P.underlying e = some (.struct gs)) (hty' : gs.toList.map (·.type) = [s, s, s, s, i, s]) :
    b1.length ≤ reachBytes ∧ ∀ (x : S54) (dx : DataW H), (∀ q ∈ dx.weights P e, q ∈ d2.weights P t') → dx = dat x → x.f0.data.toList.length ≤ reachBytes ∧ x.f1.data.toList.length ≤ reachBytes ∧ x.f2.data.toList.length ≤ reachBytes ∧ x.f3.data.toList.length ≤ reachBytes ∧ x.f5.data.toList.length ≤ reachBytes := by
  have up : ∀ q, (q ∈ d2.weights P t' ∨ q = b1.length) → q ≤ reachBytes := by
    intro q hq
    have hm : q ∈ (DataW.agg [.lit (.bool x0), .lit (.string b1), d2] : DataW H).weights P t := by
      unfold DataW.weights
      rw [hs]
      simp only
      rw [hty]
      rcases hq with hq | rfl
      · simp [DataW.weightsEach, DataW.weights, hq]
      · simp [DataW.weightsEach, DataW.weights]
    have h2 := List.all_eq_true.1 h _ (DataW.weights_mem_each ht hd _ hm)
    simpa using h2
  refine ⟨up _ (.inr rfl), fun x dx hq hdx => ?_⟩
  subst hdx
  have inn : ∀ q, q ∈ [x.f0.data.toList.length, x.f1.data.toList.length, x.f2.data.toList.length, x.f3.data.toList.length, x.f5.data.toList.length] → q ≤ reachBytes := by
    intro q h3
    refine up q (.inl (hq q ?_))
    unfold dat DataW.weights
    rw [he]
    simp only
    rw [hty']
    simp only [List.mem_cons, List.mem_nil_iff, or_false] at h3
    rcases h3 with rfl | rfl | rfl | rfl | rfl <;> simp [DataW.weightsEach, DataW.weights]
  exact ⟨inn _ (by simp), inn _ (by simp), inn _ (by simp), inn _ (by simp), inn _ (by simp)⟩
end Go.Proofs.YteknchhlineciaaGreatDoor.AggD
namespace Go.Proofs.YteknchhlineciaaGreatDoor.fnExactFeedText
open Go.ChangeShapes Go.WideShapes Go.ChangeAt Go.RowKit Go.Lib Go.Shelf
open Go.ChangeMaps (open_string shut_string)
set_option linter.unusedVariables false
theorem own : ownKnob Tryz.prog.godebug = none := by kernel_rfl
theorem laidOut : laidOutB Tryz.prog = true := by kernel_rfl
/-- THE WITNESS: the settled world, Go's tables holding what their text lays. -/
noncomputable def laidWorld (os : Os) : World :=
  let w0 := World.holding Tryz.prog os ⟨#[], #[], []⟩
  let put (h : Array Obj) (g : Nat) (cs : Array Value) : Array Obj := h.modify g fun
    | .cells _ t frozen => .cells cs t frozen
    | o => o
  let h1 := put w0.heap 0 (Lib.firstTab.map fun z => Value.int .u8 z).toArray
  let h2 := put h1 1 ((List.range 16).flatMap fun i => [Value.int .u8 (Lib.accLo i), Value.int .u8 (Lib.accHi i)]).toArray
  let h3 := put h2 2 (([1, 10, 100, 1000, 10000, 100000, 1000000, 10000000, 100000000, 1000000000, 10000000000, 100000000000, 1000000000000, 10000000000000, 100000000000000, 1000000000000000, 10000000000000000, 100000000000000000, 1000000000000000000, 10000000000000000000] : List Int).map fun z => Value.int .u64 z).toArray
  let h4 := put h3 4 (([0, 1, 28, 2, 29, 14, 24, 3, 30, 22, 20, 15, 25, 17, 4, 8, 31, 27, 13, 23, 21, 19, 16, 7, 26, 12, 18, 6, 11, 5, 10, 9] : List Int).map fun z => Value.int .u8 z).toArray
  let h5 := put h4 5 (([0, 1, 56, 2, 57, 49, 28, 3, 61, 58, 42, 50, 38, 29, 17, 4, 62, 47, 59, 36, 45, 43, 51, 22, 53, 39, 33, 30, 24, 18, 12, 5, 63, 55, 48, 27, 60, 41, 37, 16, 46, 35, 44, 21, 52, 32, 23, 11, 54, 26, 40, 15, 34, 20, 31, 10, 25, 14, 19, 9, 13, 8, 7, 6] : List Int).map fun z => Value.int .u8 z).toArray
  { w0 with heap := h5 }
theorem laid_met (os : Os) (args : Array Value) : laidMet Tryz.prog Rows.fnExactFeedTextRow.laid ((laidWorld os).forCall (fun _ _ => 0) ⟨#[], args, []⟩).memory :=
  (LaidIn.of_run (l := Rows.fnExactFeedTextRow.laid) [4, 5, 2, 1, 0] 8 (by kernel_rfl) (by kernel_rfl) (by kernel_rfl) (by kernel_rfl)).met
theorem reads (os : Os) {H : Type} (enc : TypeId × Value → H) : ∃ places, DataW.whole enc Tryz.prog ((laidWorld os).forCall (fun _ _ => 0) ⟨#[], #[.agg #[.bool false, .string ⟨#[]⟩, .slice none 0 0]], []⟩).memory Tryz.f3.params.toList Rows.fnExactFeedTextSpec.vars false (#[.agg #[.bool false, .string ⟨#[]⟩, .slice none 0 0]] : Array Value).toList 8 = some (([.agg [.lit (.bool false), .lit (.string []), .nil]] : List (DataW H)), [], places) ∧ (DataW.weightsEach Tryz.prog (Tryz.f3.params.toList ++ Rows.fnExactFeedTextSpec.plain.varTypes Tryz.prog) (([.agg [.lit (.bool false), .lit (.string []), .nil]] : List (DataW H)) ++ [])).all (· ≤ reachBytes) = true :=
  ⟨[], by kernel_rfl, by kernel_rfl⟩
set_option maxRecDepth 100000 in
theorem lifted (os : Os) (started : os.Started) (H : Type) (enc : TypeId × Value → H) (F : Stop.Interp) :
    ReturnsInHanded {} Tryz.checked os 3 .any ((OpenSpec.ofChange Rows.fnExactFeedTextSpec).preRow enc Tryz.prog Tryz.f3 Rows.fnExactFeedTextRow.domain false Rows.fnExactFeedTextRow.laid) (((OpenSpec.ofChange Rows.fnExactFeedTextSpec).at F).post enc Tryz.prog Tryz.f3 false true false false) := by
  obtain ⟨places, hx, hsz⟩ := reads os enc
  refine returnsInHanded_of_row (C := Tryz.checked) (s := (OpenSpec.ofChange Rows.fnExactFeedTextSpec)) own started (by kernel_rfl) Tryz.func3
    (witness_row_atRef (enc := enc) (C := Tryz.checked) false (laidWorld os) #[.agg #[.bool false, .string ⟨#[]⟩, .slice none 0 0]] rfl (by kernel_rfl) (by kernel_rfl) (by kernel_rfl)
      (OpenSpec.preRow_of_cond 8 hx (by kernel_rfl) (fun k hk => by cases hk) hsz (laid_met os _))) ?_
  intro W base args ds gs before hval0 hW hcnd _ hsz0 hL hShape _
  have hsz : (DataW.weightsEach Tryz.prog (Tryz.f3.params.toList ++ Rows.fnExactFeedTextSpec.plain.varTypes Tryz.prog) (ds ++ gs)).all (· ≤ reachBytes) = true := hsz0
  have hval : ∀ (j : Nat) t v, Tryz.f3.params[j]? = some t → args[j]? = some v → Value.okWide Tryz.prog W .any base t v := hval0
  have hW' := hW
  obtain ⟨p, q, hA0, hV, rfl, hfz, hnd⟩ := hW
  have hA : DataW.TrodAll enc Tryz.prog W 0 (fun _ => true) true Tryz.f3.params.toList args.toList ds p := hA0
  rw [Tryz.params3] at hA hval hsz
  obtain ⟨v0, vs0, d0, ds0, p0, q0, hargs, rfl, rfl, h0, r0⟩ := trodAll_cons hA
  obtain ⟨rfl, rfl, rfl⟩ := trodAll_nil r0
  obtain rfl : args = #[v0] := by cases args; simp_all
  obtain ⟨rfl, rfl⟩ := trodVars_none hV
  have k0 := h0
  have lt0 : ∀ x ∈ p0, x.block < W.heap.size := by obtain ⟨m, hm⟩ := k0; exact DataW.trod_lt m _ _ _ hm
  obtain ⟨x0, x1, A, l, c, d2_, rfl, hcap, hK, rfl, hQ⟩ := AggD.open_feed Tryz.underlying24 Tryz.underlying4 Tryz.underlying9 Tryz.underlying3 (by kernel_rfl) (by kernel_rfl) (by rfl) Tryz.underlying22 Tryz.underlying54 (by kernel_rfl) (by kernel_rfl) (by rfl) (hval 0 24 _ rfl rfl) h0
  have e9 : reachBytes = 140737488351232 := by decide
  have z := AggD.sized_feed (b := 4) (s := 9) (i := 3) (t' := 22) (e := 54) hsz (j := 0) (t := 24) rfl rfl Tryz.underlying24 (by rfl) Tryz.underlying54 (by rfl)
  rw [e9] at z
  have w1 : x1.size ≤ 140737488351232 := by have z1 := z.1; rw [Array.length_toList] at z1; exact z1
  have ws : ∀ x ∈ l, NQFnExactFeedText.Upto 140737488351232 x := fun x hx => by
    obtain ⟨dx, hd1, hd2⟩ := hQ x hx
    have z2 := z.2 x dx hd1 hd2
    simp only [Array.length_toList] at z2
    exact z2
  obtain ⟨k, hk⟩ := Pure.FnExactFeedText x0 x1 l hK.2.1 w1 ws
  clear hA0 hval0 hsz0 hsz
  have eT : (Rows.laid_internal_strconv_uint64pow10 : DataW Unit) = Lib.tabData .u64 Lib.pow10Tab := by kernel_rfl
  have hG : Glob W := Glob.of_laid (Lib.laidMet.reads hL (.tail _ (.tail _ (.tail _ (.tail _ (.head _)))))) (Lib.laidMet.reads hL (.tail _ (.tail _ (.tail _ (.head _))))) (eT ▸ Lib.laidMet.reads hL (.tail _ (.tail _ (.head _))))
  refine (QFnExactFeedText.laws_FnExactFeedText.calls k x0 x1 A c l true W hK hcap hk hG).mono fun e W' ⟨he, bel⟩ => ?_
  subst he
  exact ⟨_, rfl, _, _, _, [], _, [], hW', trodAll_mk1 (shut_bool Tryz.underlying4 _), (trodAll_cons_mk (Below.trod laidOut (by kernel_rfl) (of_decide_eq_true (by kernel_rfl)) k0 bel lt0) trodAll_mk0), rfl, bel.frame _, fun h => by cases h⟩
theorem said : Rows.FnExactFeedTextSaid :=
  OpenClaim.holds_of_cond 3 Tryz.f3 rfl rfl rfl rfl rfl rfl rfl ⟨rfl, rfl, rfl, rfl, rfl⟩ rfl rfl rfl rfl rfl (by kernel_rfl) Tryz.func3 (by kernel_rfl)
    (of_decide_eq_true (by kernel_rfl)) (by unfold Func.isWrapper; first | (rw [if_pos (by decide +kernel)]; kernel_rfl) | (rw [if_neg (by decide +kernel)]; exact ⟨rfl, rfl⟩))
    (fun os started H enc _ F => by rw [OpenClaim.pre_eq_preRow]; exact lifted os started H enc F)
/-- No parameter wants a stand-in. -/
theorem plain (f : FuncId) (fn : Func) (hf : Tryz.pinned.checked.prog.funcNamed Rows.fnExactFeedTextRow.func = some f) (hfn : Tryz.pinned.checked.prog.funcs[f]? = some fn) :
    true = Tryz.pinned.checked.prog.looks [] ∧ ∀ (j : Nat) t, fn.params[j]? = some t → Tryz.pinned.checked.prog.wantsStandIn t = false := by
  obtain rfl : f = 3 := Option.some.inj ((show Tryz.prog.funcNamed Rows.fnExactFeedTextRow.func = some 3 by kernel_rfl).symm.trans hf) |>.symm
  obtain rfl : fn = Tryz.f3 := (Option.some.inj (Tryz.func3.symm.trans hfn)).symm
  refine ⟨by kernel_rfl, fun j t ht => ?_⟩
  have hall : ∀ t ∈ Tryz.f3.params, Tryz.prog.wantsStandIn t = false := by
    rw [Tryz.params3]
    intro t ht
    simp only [List.mem_toArray, List.mem_cons, List.mem_nil_iff, or_false] at ht
    obtain rfl := ht
    kernel_rfl
  exact hall t (Array.mem_of_getElem? ht)
/-- The card. -/
theorem proved : Rows.FnExactFeedTextCardSaid :=
  Claim7.holds_tied_plain_at .later [] _ _ _ _ said (fun _ h => by cases h) (by kernel_rfl) (fun _ h => by cases h) fnExactFeedText_row_tie rfl ⟨rfl, rfl⟩ (by kernel_rfl) rfl plain (by kernel_rfl)
#print axioms proved
end Go.Proofs.YteknchhlineciaaGreatDoor.fnExactFeedText
namespace Go.Proofs.YteknchhlineciaaGreatDoor
/-- The card, under a short name, for the claim. -/
theorem fnExactFeedText_holds : Rows.FnExactFeedTextCardSaid := fnExactFeedText.proved
end Go.Proofs.YteknchhlineciaaGreatDoor
