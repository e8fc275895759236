/- A struct of a whole number, a text, a row of structs of two texts and a text, that comes in by value: what it is. Conditions: none. -/
import Derived.Test.YteknchhlineciaaAggPFnExactAttrOf
namespace Go.Proofs.Yteknchhlineciaa.AggT
open Go.ChangeShapes Go.WideShapes Go.ChangeAt Go.RowKit Go.Deep Go.Joins Go.Proofs.Yteknchhlineciaa.QFnExactAttrOf Go.Proofs.YteknchhlineciaaW.PrintWords Go.Proofs.Yteknchhlineciaa.AggP
theorem open_token {H : Type} {enc : TypeId × Value → H} {P : Program} {w : World} {base : Nat} {spare : Nat → Bool} {held : Bool} {r : Reach} {b0 : Nat} {t i s t' e : TypeId} {fs gs : Array Field} {v : Value} {d : DataW H} {p : List MemPlace}
    (ht : P.underlying t = some (.struct fs)) (hi : P.underlying i = some (.int .i64)) (hs : P.underlying s = some .string) (hone : oneCellFields P fs = true) (hC : P.cellsOf t = 4) (hty : fs.toList.map (·.type) = [i, s, t', s])
    (ht' : P.underlying t' = some (.slice e)) (he : P.underlying e = some (.struct gs)) (hone' : oneCellFields P gs = true) (hC' : P.cellsOf e = 2) (hty' : gs.toList.map (·.type) = [s, s])
    (hv : Value.okWide P w r b0 t v) (h : DataW.Trod enc P w base spare held t v d p) :
    ∃ (x0 : Int) (x1 : ByteArray) (A : Option Addr) (l : List S63) (c : Nat) (x3 : ByteArray) (d0 d2 d3 : DataW H), v = .agg #[.int .i64 x0, .string x1, .slice A l.length c, .string x3] ∧ l.length ≤ c ∧ Kd.C k63 w A l.length l ∧ d = .agg [d0, .lit (.string x1.data.toList), d2, d3] := by
  obtain ⟨cs, rfl, hsz⟩ := okWide_struct ht hv
  obtain ⟨fuel, hf⟩ := h
  obtain ⟨ys, n, _, hx, _, hlen, hg⟩ := DataW.trod_struct ht hf
  obtain ⟨l⟩ := fs
  obtain ⟨c⟩ := cs
  have hl4 : l.length = 4 := by simpa using congrArg List.length hty
  have hc4 : c.length = 4 := hsz.trans hC
  have hy4 : ys.length = 4 := by rw [hlen]; exact hl4
  match l, hl4, hty, c, hc4, ys, hy4 with
  | [f0, f1, f2, f3], _, hty, [c0, c1, c2, c3], _, [y0, y1, y2, y3], _ =>
    simp only [List.map_cons, List.map_nil, List.cons.injEq, and_true] at hty
    obtain ⟨t0, t1, t2, t3⟩ := hty
    obtain ⟨o0, k0⟩ := hone_of hone 0 f0 rfl
    obtain ⟨o1, k1⟩ := hone_of hone 1 f1 rfl
    obtain ⟨o2, k2⟩ := hone_of hone 2 f2 rfl
    obtain ⟨o3, k3⟩ := hone_of hone 3 f3 rfl
    have g0 : DataW.trod enc P w base spare held n f0.type [c0] = some y0 := by simpa [Value.cells, o0, k0] using hg 0 f0 rfl
    have g1 : DataW.trod enc P w base spare held n f1.type [c1] = some y1 := by simpa [Value.cells, o1, k1] using hg 1 f1 rfl
    have g2 : DataW.trod enc P w base spare held n f2.type [c2] = some y2 := by simpa [Value.cells, o2, k2] using hg 2 f2 rfl
    have g3 : DataW.trod enc P w base spare held n f3.type [c3] = some y3 := by simpa [Value.cells, o3, k3] using hg 3 f3 rfl
    rw [t0] at g0; rw [t1] at g1; rw [t2] at g2; rw [t3] at g3
    obtain ⟨x0, e0, q0, _⟩ := DataW.trod_int hi g0
    obtain ⟨x1, e1, q1, _⟩ := DataW.trod_string hs g1
    obtain ⟨A, xs, cap, e2, hcap, hK⟩ := open_pairs ht' he hs hone' hC' hty' g2
    obtain ⟨x3, e3, q3, _⟩ := DataW.trod_string hs g3
    simp only [List.cons.injEq, and_true] at e0 e1 e3
    subst e0 e1 e2 e3 q1
    simp only [Prod.mk.injEq] at hx
    exact ⟨x0, x1, A, xs, cap, x3, y0.1, y2.1, y3.1, rfl, hcap, hK, by simpa using hx.1⟩
/-- The text ahead of the row is no longer than the reach. -/
theorem sized_token {H : Type} {P : Program} {ts : List TypeId} {ds : List (DataW H)} {j : Nat} {t i s t' : TypeId} {fs : Array Field} {b1 : List UInt8} {d0 d2 d3 : DataW H} (h : (DataW.weightsEach P ts ds).all (· ≤ reachBytes) = true) (ht : ts[j]? = some t)
    (hd : ds[j]? = some (.agg [d0, .lit (.string b1), d2, d3])) (hs : P.underlying t = some (.struct fs)) (hty : fs.toList.map (·.type) = [i, s, t', s]) : b1.length ≤ reachBytes := by
  have hm2 : b1.length ∈ (DataW.agg [d0, .lit (.string b1), d2, d3] : DataW H).weights P t := by
    unfold DataW.weights
    rw [hs]
    simp only
    rw [hty]
    simp [DataW.weightsEach, DataW.weights]
  have h2 := List.all_eq_true.1 h _ (DataW.weights_mem_each ht hd _ hm2)
  simpa using h2
end Go.Proofs.Yteknchhlineciaa.AggT
