/- A row of structs of two texts each, that stands in a struct by value: what it is, cell by cell. Conditions: none. -/
import Derived.Test.YteknchhlineciaaRows
import Derived.Test.YteknchhlineciaaQFnExactAttrOfx0
import Derived.WalkKit
import Derived.ProofKit
import Derived.OpenShut
import Derived.SizedLaws
import Derived.Deep.Slices
import Derived.Deep.Fields
import Derived.ChangeSame
import Derived.Lib.SmallJoins
namespace Go.Proofs.Yteknchhlineciaa.AggP
open Go.ChangeShapes Go.WideShapes Go.ChangeAt Go.RowKit Go.Deep Go.Joins Go.Proofs.Yteknchhlineciaa.QFnExactAttrOf Go.Proofs.YteknchhlineciaaW.PrintWords
theorem rows_of {α : Type} {size : Nat} (K : α → List Value → Prop) {w : World} {a : Addr} {n : Nat} (hn : n ≤ 9223372036854775807)
    (h : ∀ i, i < n → ∃ p c, c.length = size ∧ K p c ∧ ∀ j u, c[j]? = some u → w.cell? (a.add (i * size + j)) = some u) :
    ∃ ps : List α, ps.length = n ∧ ReadsRow K size w (some a) n ps := by
  have h' : ∀ i : Fin n, ∃ p, ∃ c : List Value, c.length = size ∧ K p c ∧ ∀ j u, c[j]? = some u → w.cell? (a.add (i.1 * size + j)) = some u := fun i => h i.1 i.2
  obtain ⟨f, hf⟩ := Classical.axiomOfChoice h'
  refine ⟨List.ofFn f, by simp, by simp, hn, fun _ => ⟨a, rfl, fun j p hj => ?_⟩⟩
  obtain ⟨hl, e⟩ := List.getElem?_eq_some_iff.1 hj
  have hjn : j < n := by simpa using hl
  obtain ⟨c, hc⟩ := hf ⟨j, hjn⟩
  rw [List.getElem_ofFn] at e
  subst e
  exact ⟨c, hc⟩
theorem open_pairs {H : Type} {enc : TypeId × Value → H} {P : Program} {w : World} {base : Nat} {spare : Nat → Bool} {held : Bool} {t e s : TypeId} {fs : Array Field} {fuel : Nat} {v : Value} {y : DataW H × List MemPlace}
    (ht : P.underlying t = some (.slice e)) (he : P.underlying e = some (.struct fs)) (hs : P.underlying s = some .string) (hone : oneCellFields P fs = true) (hC : P.cellsOf e = 2) (hty : fs.toList.map (·.type) = [s, s])
    (h : DataW.trod enc P w base spare held fuel t [v] = some y) :
    ∃ (A : Option Addr) (l : List S63) (c : Nat), v = .slice A l.length c ∧ l.length ≤ c ∧ Kd.C k63 w A l.length l := by
  rcases open_slice ht h with ⟨hcs, hx⟩ | ⟨a, len, cap, m, n, D, Pl, hcs, hb, hl, hm, hmm, hx, hi⟩
  · simp only [List.cons.injEq, and_true] at hcs
    exact ⟨none, [], 0, hcs, Nat.le_refl _, rfl, Nat.zero_le _, fun h => absurd h (by simp)⟩
  · simp only [List.cons.injEq, and_true] at hcs
    have hml : len ≤ m := by rw [hmm]; split <;> omega
    have hmx : maxLen = 9223372036854775807 := rfl
    obtain ⟨ps, hpl, hps⟩ := rows_of (k63.K w) (size := 2) (w := w) (a := a) (n := len) (by omega) (fun i him => by
      obtain ⟨cs', hc, ht'⟩ := hi i (by omega)
      rw [hC] at hc
      obtain ⟨ys, n', hn', hy, hlen, hyl, hf⟩ := DataW.trod_struct he ht'
      obtain ⟨_, hcl, hat⟩ := World.cells?_some hc
      obtain ⟨q⟩ := fs
      have hq2 : q.length = 2 := by simpa using congrArg List.length hty
      match q, hq2, hty, cs', hcl with
      | [f0, f1], _, hty, [c0, c1], _ =>
        simp only [List.map_cons, List.map_nil, List.cons.injEq, and_true] at hty
        obtain ⟨t0, t1⟩ := hty
        obtain ⟨o0, k0⟩ := hone_of hone 0 f0 rfl
        obtain ⟨o1, k1⟩ := hone_of hone 1 f1 rfl
        have g0 := hf 0 f0 rfl
        have g1 := hf 1 f1 rfl
        rw [o0, k0, t0] at g0
        rw [o1, k1, t1] at g1
        have hy0 : ys[0]? = some (ys[0]'(by rw [hyl]; simp)) := List.getElem?_eq_getElem _
        have hy1 : ys[1]? = some (ys[1]'(by rw [hyl]; simp)) := List.getElem?_eq_getElem _
        obtain ⟨x0, e0, _, _⟩ := DataW.trod_string hs (g0.trans hy0)
        obtain ⟨x1, e1, _, _⟩ := DataW.trod_string hs (g1.trans hy1)
        simp only [List.drop_zero, List.drop_succ_cons, List.take_succ_cons, List.take_zero, List.cons.injEq, and_true] at e0 e1
        subst e0 e1
        refine ⟨⟨x0, x1⟩, [.string x0, .string x1], rfl, k63_mk w _, fun j u hj => ?_⟩
        have hj2 : j < 2 := (List.getElem?_eq_some_iff.1 hj).1
        rw [← Go.Deep.add_add, hat j hj2]
        exact hj)
    subst hpl
    exact ⟨some a, ps, cap, hcs, hl, hps⟩
end Go.Proofs.Yteknchhlineciaa.AggP
