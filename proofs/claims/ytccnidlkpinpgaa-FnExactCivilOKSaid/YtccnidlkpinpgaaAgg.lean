/- A struct of whole numbers that comes in by value: what it is as a value. Conditions: every field an int. -/
import Derived.Test.YtccnidlkpinpgaaRows
import Derived.WalkKit
import Derived.ProofKit
import Derived.OpenShut
import Derived.Deep.Fields
import Derived.Lib.SmallJoins
namespace Go.Proofs.Ytccnidlkpinpgaa.Agg
open Go.ChangeShapes Go.WideShapes Go.ChangeAt Go.RowKit Go.Deep Go.Joins
theorem open_int_fields {H : Type} {enc : TypeId × Value → H} {P : Program} {w : World} {base : Nat} {spare : Nat → Bool} {held : Bool} {r : Reach} {b0 : Nat} {t : TypeId} {fs : Array Field} {v : Value} {d : DataW H} {p : List MemPlace}
    (hs : P.underlying t = some (.struct fs)) (hone : oneCellFields P fs = true) (hC : P.cellsOf t = fs.size) (hi : ∀ (j : Nat) f, fs[j]? = some f → P.underlying f.type = some (.int .i64))
    (hv : Value.okWide P w r b0 t v) (h : DataW.Trod enc P w base spare held t v d p) :
    ∃ xs : List Int, v = .agg (xs.map (Value.int .i64)).toArray ∧ xs.length = fs.size ∧ ∀ x ∈ xs, (Lit.int .i64 x).wf = true := by
  obtain ⟨cs, rfl, hsz⟩ := okWide_struct hs hv
  obtain ⟨fuel, hf⟩ := h
  obtain ⟨ys, n, _, hx, _, hlen, hg⟩ := DataW.trod_struct hs hf
  have each : ∀ (j : Nat) (hj : j < cs.size), ∃ a : Int, cs[j] = .int .i64 a ∧ (Lit.int .i64 a).wf = true := by
    intro j hj
    have hjf : j < fs.size := by rw [← hC, ← hsz]; exact hj
    obtain ⟨o, k⟩ := hone_of hone j fs[j] (Array.getElem?_eq_getElem hjf)
    have h1 := hg j fs[j] (Array.getElem?_eq_getElem hjf)
    rw [o, k, List.getElem?_eq_getElem (by omega)] at h1
    have hc : ((Value.agg cs).cells.toList.drop j).take 1 = [cs[j]] := by
      have hl : j < cs.toList.length := by simpa using hj
      have : (Value.agg cs).cells.toList = cs.toList := rfl
      rw [this, List.drop_eq_getElem_cons hl]
      rfl
    rw [hc] at h1
    obtain ⟨a, e, _, wa⟩ := DataW.trod_int (hi j _ (Array.getElem?_eq_getElem hjf)) h1
    simp only [List.cons.injEq, and_true] at e
    exact ⟨a, e, wa⟩
  refine ⟨cs.toList.map fun v => match v with | .int _ a => a | _ => 0, ?_, ?_, ?_⟩
  · congr 1
    apply Array.ext'
    rw [List.map_map]
    conv => lhs; rw [← List.map_id cs.toList]
    refine List.map_congr_left fun v hv => ?_
    obtain ⟨j, hj, rfl⟩ := List.getElem_of_mem hv
    obtain ⟨a, e, _⟩ := each j (by simpa using hj)
    have e' : cs.toList[j] = .int .i64 a := by rw [Array.getElem_toList]; exact e
    simp only [Function.comp, id, e']
  · rw [List.length_map, Array.length_toList, hsz, hC]
  · intro x hx
    obtain ⟨v, hv, rfl⟩ := List.mem_map.1 hx
    obtain ⟨j, hj, rfl⟩ := List.getElem_of_mem hv
    obtain ⟨a, e, wa⟩ := each j (by simpa using hj)
    have e' : cs.toList[j] = .int .i64 a := by rw [Array.getElem_toList]; exact e
    rw [e']; exact wa
theorem open_six {H : Type} {enc : TypeId × Value → H} {P : Program} {w : World} {base : Nat} {spare : Nat → Bool} {held : Bool} {r : Reach} {b0 : Nat} {t e : TypeId} {fs : Array Field} {v : Value} {d : DataW H} {p : List MemPlace}
    (hs : P.underlying t = some (.struct fs)) (he : P.underlying e = some (.int .i64)) (hone : oneCellFields P fs = true) (hC : P.cellsOf t = 6) (hi : fs.toList.map (·.type) = [e, e, e, e, e, e])
    (hv : Value.okWide P w r b0 t v) (h : DataW.Trod enc P w base spare held t v d p) :
    ∃ x0 x1 x2 x3 x4 x5 : Int, v = .agg #[.int .i64 x0, .int .i64 x1, .int .i64 x2, .int .i64 x3, .int .i64 x4, .int .i64 x5] ∧ (Lit.int .i64 x0).wf = true ∧ (Lit.int .i64 x1).wf = true ∧ (Lit.int .i64 x2).wf = true ∧ (Lit.int .i64 x3).wf = true ∧ (Lit.int .i64 x4).wf = true ∧ (Lit.int .i64 x5).wf = true := by
  have h6 : fs.size = 6 := by
    have := congrArg List.length hi
    simpa using this
  obtain ⟨xs, hvx, hlen, hwf⟩ := open_int_fields hs hone (hC.trans h6.symm) (fun j f hj => by
    have hf : f ∈ fs.toList := by
      obtain ⟨hl, e1⟩ := Array.getElem?_eq_some_iff.1 hj
      rw [← e1]; simp
    have ht : f.type ∈ fs.toList.map (·.type) := List.mem_map_of_mem hf
    rw [hi] at ht
    have : f.type = e := by simpa using ht
    rw [this]; exact he) hv h
  rw [h6] at hlen
  match xs, hlen, hwf, hvx with
  | [x0, x1, x2, x3, x4, x5], _, hwf, hvx =>
    exact ⟨x0, x1, x2, x3, x4, x5, hvx, hwf x0 (by simp), hwf x1 (by simp), hwf x2 (by simp), hwf x3 (by simp), hwf x4 (by simp), hwf x5 (by simp)⟩
end Go.Proofs.Ytccnidlkpinpgaa.Agg
