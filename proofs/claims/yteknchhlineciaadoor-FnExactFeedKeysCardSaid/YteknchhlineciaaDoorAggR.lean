/- A row of structs that stands in a struct by value: what it is, cell by cell, and how large its texts are. Conditions: none. -/
import Derived.Test.YteknchhlineciaaDoorRows
import Derived.Test.YteknchhlineciaaDoorWWords
import Derived.WalkKit
import Derived.ProofKit
import Derived.OpenShut
import Derived.SizedLaws
import Derived.Deep.Slices
import Derived.Deep.Fields
import Derived.ChangeSame
import Derived.Lib.SmallJoins
namespace Go.Proofs.YteknchhlineciaaDoor.AggR
open Go.ChangeShapes Go.WideShapes Go.ChangeAt Go.RowKit Go.Deep Go.Joins Go.Proofs.YteknchhlineciaaDoorW.PrintWords
theorem rows_of {α : Type} {size : Nat} (K : α → List Value → Prop) (Q : Nat → α → Prop) {w : World} {a : Addr} {n : Nat} (hn : n ≤ 9223372036854775807)
    (h : ∀ i, i < n → ∃ p c, c.length = size ∧ K p c ∧ (∀ j u, c[j]? = some u → w.cell? (a.add (i * size + j)) = some u) ∧ Q i p) :
    ∃ ps : List α, ps.length = n ∧ ReadsRow K size w (some a) n ps ∧ ∀ i p, ps[i]? = some p → Q i p := by
  have h' : ∀ i : Fin n, ∃ p, ∃ c : List Value, c.length = size ∧ K p c ∧ (∀ j u, c[j]? = some u → w.cell? (a.add (i.1 * size + j)) = some u) ∧ Q i.1 p := fun i => h i.1 i.2
  obtain ⟨f, hf⟩ := Classical.axiomOfChoice h'
  have at_ : ∀ j p, (List.ofFn f)[j]? = some p → ∃ hj : j < n, f ⟨j, hj⟩ = p := by
    intro j p hj
    obtain ⟨hl, e⟩ := List.getElem?_eq_some_iff.1 hj
    have hjn : j < n := by simpa using hl
    rw [List.getElem_ofFn] at e
    exact ⟨hjn, e⟩
  refine ⟨List.ofFn f, by simp, ⟨by simp, hn, fun _ => ⟨a, rfl, fun j p hj => ?_⟩⟩, fun i p hi => ?_⟩
  · obtain ⟨hjn, rfl⟩ := at_ j p hj
    obtain ⟨c, h1, h2, h3, _⟩ := hf ⟨j, hjn⟩
    exact ⟨c, h1, h2, h3⟩
  · obtain ⟨hjn, rfl⟩ := at_ i p hi
    obtain ⟨c, _, _, _, h4⟩ := hf ⟨i, hjn⟩
    exact h4
theorem all_mem {H : Type} {P : Program} {e : TypeId} {d : DataW H} {q : Nat} (hq : q ∈ d.weights P e) : ∀ {l : List (DataW H)}, d ∈ l → q ∈ DataW.weightsAll P e l
  | x :: r, h => by
    rw [DataW.weightsAll]
    rcases List.mem_cons.1 h with rfl | h
    · exact List.mem_append.2 (.inl hq)
    · exact List.mem_append.2 (.inr (all_mem hq h))
theorem open_structs {α H : Type} (d : Kd α) (Q : DataW H → α → Prop) {enc : TypeId × Value → H} {P : Program} {w : World} {base : Nat} {spare : Nat → Bool} {held : Bool} {t e : TypeId} {fuel : Nat} {v : Value} {y : DataW H × List MemPlace}
    (ht : P.underlying t = some (.slice e)) (hC : P.cellsOf e = d.sz)
    (one : ∀ (n : Nat) (cs : List Value) (z : DataW H × List MemPlace), cs.length = d.sz → DataW.trod enc P w base spare held n e cs = some z → ∃ x : α, d.K w x cs ∧ Q z.1 x)
    (h : DataW.trod enc P w base spare held fuel t [v] = some y) :
    ∃ (A : Option Addr) (l : List α) (c : Nat), v = .slice A l.length c ∧ l.length ≤ c ∧ Kd.C d w A l.length l ∧ ∀ x ∈ l, ∃ dx, (∀ q ∈ dx.weights P e, q ∈ y.1.weights P t) ∧ Q dx x := by
  rcases open_slice ht h with ⟨hcs, hx⟩ | ⟨a, len, cap, m, n, D, Pl, hcs, hb, hl, hm, hmm, hx, hi⟩
  · simp only [List.cons.injEq, and_true] at hcs
    exact ⟨none, [], 0, hcs, Nat.le_refl _, ⟨rfl, Nat.zero_le _, fun h => absurd h (by simp)⟩, fun x hx => by cases hx⟩
  · simp only [List.cons.injEq, and_true] at hcs
    have hml : len ≤ m := by rw [hmm]; split <;> omega
    have hmx : maxLen = 9223372036854775807 := rfl
    obtain ⟨ps, hpl, hps, hq⟩ := rows_of (d.K w) (fun i x => i < len ∧ Q (D i) x) (size := d.sz) (w := w) (a := a) (n := len) (by omega) (fun i him => by
      obtain ⟨cs', hc, ht'⟩ := hi i (by omega)
      rw [hC] at hc
      obtain ⟨_, hcl, hat⟩ := World.cells?_some hc
      obtain ⟨x, hk, hQ⟩ := one n cs' _ hcl ht'
      refine ⟨x, cs', hcl, hk, fun j u hj => ?_, him, hQ⟩
      have hj2 : j < d.sz := by rw [← hcl]; exact (List.getElem?_eq_some_iff.1 hj).1
      rw [← Go.Deep.add_add, hat j hj2]
      exact hj)
    subst hpl
    refine ⟨some a, ps, cap, hcs, hl, hps, fun x hx' => ?_⟩
    obtain ⟨i, hil, rfl⟩ := List.getElem_of_mem hx'
    obtain ⟨h1, h2⟩ := hq i _ (List.getElem?_eq_getElem hil)
    refine ⟨D i, fun q hqm => ?_, h2⟩
    rw [hx]
    unfold DataW.weights
    rw [ht]
    simp only
    refine List.mem_cons.2 (.inr (List.mem_append.2 (.inl (all_mem hqm ?_))))
    exact List.mem_map.2 ⟨i, List.mem_range.2 h1, rfl⟩
end Go.Proofs.YteknchhlineciaaDoor.AggR
