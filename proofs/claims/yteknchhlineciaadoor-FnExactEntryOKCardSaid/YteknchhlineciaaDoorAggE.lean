/- A struct of four texts, a whole number and a text that comes in by value: what it is as a value and as a datum. Conditions: none. -/
import Derived.Test.YteknchhlineciaaDoorRows
import Derived.WalkKit
import Derived.ProofKit
import Derived.OpenShut
import Derived.SizedLaws
import Derived.Deep.Fields
import Derived.Lib.SmallJoins
namespace Go.Proofs.YteknchhlineciaaDoor.AggE
open Go.ChangeShapes Go.WideShapes Go.ChangeAt Go.RowKit Go.Deep Go.Joins
theorem open_entry {H : Type} {enc : TypeId × Value → H} {P : Program} {w : World} {base : Nat} {spare : Nat → Bool} {held : Bool} {r : Reach} {b0 : Nat} {t e i : TypeId} {fs : Array Field} {v : Value} {d : DataW H} {p : List MemPlace}
    (hs : P.underlying t = some (.struct fs)) (he : P.underlying e = some .string) (hn : P.underlying i = some (.int .i64)) (hone : oneCellFields P fs = true) (hC : P.cellsOf t = 6) (hty : fs.toList.map (·.type) = [e, e, e, e, i, e])
    (hv : Value.okWide P w r b0 t v) (h : DataW.Trod enc P w base spare held t v d p) :
    ∃ (x0 x1 x2 x3 : ByteArray) (x4 : Int) (x5 : ByteArray), v = .agg #[.string x0, .string x1, .string x2, .string x3, .int .i64 x4, .string x5] ∧ (Lit.int .i64 x4).wf = true ∧
      d = .agg [.lit (.string x0.data.toList), .lit (.string x1.data.toList), .lit (.string x2.data.toList), .lit (.string x3.data.toList), .lit (.int .i64 x4), .lit (.string x5.data.toList)] := by
  obtain ⟨cs, rfl, hsz⟩ := okWide_struct hs hv
  obtain ⟨fuel, hf⟩ := h
  obtain ⟨ys, n, _, hx, _, hlen, hg⟩ := DataW.trod_struct hs hf
  obtain ⟨l⟩ := fs
  obtain ⟨c⟩ := cs
  have hl6 : l.length = 6 := by simpa using congrArg List.length hty
  have hc6 : c.length = 6 := hsz.trans hC
  have hy6 : ys.length = 6 := by rw [hlen]; exact hl6
  match l, hl6, hty, c, hc6, ys, hy6 with
  | [f0, f1, f2, f3, f4, f5], _, hty, [c0, c1, c2, c3, c4, c5], _, [y0, y1, y2, y3, y4, y5], _ =>
    simp only [List.map_cons, List.map_nil, List.cons.injEq, and_true] at hty
    obtain ⟨t0, t1, t2, t3, t4, t5⟩ := hty
    obtain ⟨o0, k0⟩ := hone_of hone 0 f0 rfl
    obtain ⟨o1, k1⟩ := hone_of hone 1 f1 rfl
    obtain ⟨o2, k2⟩ := hone_of hone 2 f2 rfl
    obtain ⟨o3, k3⟩ := hone_of hone 3 f3 rfl
    obtain ⟨o4, k4⟩ := hone_of hone 4 f4 rfl
    obtain ⟨o5, k5⟩ := hone_of hone 5 f5 rfl
    have g0 : DataW.trod enc P w base spare held n f0.type [c0] = some y0 := by simpa [Value.cells, o0, k0] using hg 0 f0 rfl
    have g1 : DataW.trod enc P w base spare held n f1.type [c1] = some y1 := by simpa [Value.cells, o1, k1] using hg 1 f1 rfl
    have g2 : DataW.trod enc P w base spare held n f2.type [c2] = some y2 := by simpa [Value.cells, o2, k2] using hg 2 f2 rfl
    have g3 : DataW.trod enc P w base spare held n f3.type [c3] = some y3 := by simpa [Value.cells, o3, k3] using hg 3 f3 rfl
    have g4 : DataW.trod enc P w base spare held n f4.type [c4] = some y4 := by simpa [Value.cells, o4, k4] using hg 4 f4 rfl
    have g5 : DataW.trod enc P w base spare held n f5.type [c5] = some y5 := by simpa [Value.cells, o5, k5] using hg 5 f5 rfl
    rw [t0] at g0; rw [t1] at g1; rw [t2] at g2; rw [t3] at g3; rw [t4] at g4; rw [t5] at g5
    obtain ⟨x0, e0, q0, _⟩ := DataW.trod_string he g0
    obtain ⟨x1, e1, q1, _⟩ := DataW.trod_string he g1
    obtain ⟨x2, e2, q2, _⟩ := DataW.trod_string he g2
    obtain ⟨x3, e3, q3, _⟩ := DataW.trod_string he g3
    obtain ⟨x4, e4, q4, wf⟩ := DataW.trod_int hn g4
    obtain ⟨x5, e5, q5, _⟩ := DataW.trod_string he g5
    simp only [List.cons.injEq, and_true] at e0 e1 e2 e3 e4 e5
    subst e0 e1 e2 e3 e4 e5 q0 q1 q2 q3 q4 q5
    simp only [Prod.mk.injEq] at hx
    exact ⟨x0, x1, x2, x3, x4, x5, rfl, wf, by simpa using hx.1⟩
/-- The texts within are no longer than the reach. -/
theorem sized_entry {H : Type} {P : Program} {ts : List TypeId} {ds : List (DataW H)} {j : Nat} {t e i : TypeId} {fs : Array Field} {b0 b1 b2 b3 b5 : List UInt8} {n : Int} (h : (DataW.weightsEach P ts ds).all (· ≤ reachBytes) = true) (ht : ts[j]? = some t)
    (hd : ds[j]? = some (.agg [.lit (.string b0), .lit (.string b1), .lit (.string b2), .lit (.string b3), .lit (.int .i64 n), .lit (.string b5)])) (hs : P.underlying t = some (.struct fs)) (hty : fs.toList.map (·.type) = [e, e, e, e, i, e]) :
    b0.length ≤ reachBytes ∧ b1.length ≤ reachBytes ∧ b2.length ≤ reachBytes ∧ b3.length ≤ reachBytes ∧ b5.length ≤ reachBytes := by
  have key : ∀ n ∈ [b0.length, b1.length, b2.length, b3.length, b5.length], n ≤ reachBytes := by
    intro m hm
    have hm2 : m ∈ (DataW.agg [.lit (.string b0), .lit (.string b1), .lit (.string b2), .lit (.string b3), .lit (.int .i64 n), .lit (.string b5)] : DataW H).weights P t := by
      unfold DataW.weights
      rw [hs]
      simp only
      rw [hty]
      simpa [DataW.weightsEach, DataW.weights] using hm
    have := DataW.weights_mem_each ht hd m hm2
    have h2 := List.all_eq_true.1 h m this
    simpa using h2
  simpa using key
end Go.Proofs.YteknchhlineciaaDoor.AggE
