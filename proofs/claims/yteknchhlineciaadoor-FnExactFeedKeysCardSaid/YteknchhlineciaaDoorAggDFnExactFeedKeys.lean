/- A struct of a bool, a text and a row of entries, that comes in by value: what it is. Conditions: none. -/
import Derived.Test.YteknchhlineciaaDoorAggR
import Derived.Test.YteknchhlineciaaDoorQFnExactFeedKeysx0
namespace Go.Proofs.YteknchhlineciaaDoor.AggD
open Go.ChangeShapes Go.WideShapes Go.ChangeAt Go.RowKit Go.Deep Go.Joins Go.Proofs.YteknchhlineciaaDoor.QFnExactFeedKeys Go.Proofs.YteknchhlineciaaDoorW.PrintWords Go.Proofs.YteknchhlineciaaDoor.AggR
/-- What an entry is as a datum. -/
def dat {H : Type} (x : S23) : DataW H := .agg [.lit (.string x.f0.data.toList), .lit (.string x.f1.data.toList), .lit (.string x.f2.data.toList), .lit (.string x.f3.data.toList), .lit (.int .i64 x.f4), .lit (.string x.f5.data.toList)]
theorem entry_of {H : Type} {enc : TypeId × Value → H} {P : Program} {w : World} {base : Nat} {spare : Nat → Bool} {held : Bool} {e s i : TypeId} {gs : Array Field}
    (he : P.underlying e = some (.struct gs)) (hs : P.underlying s = some .string) (hi : P.underlying i = some (.int .i64)) (hone : oneCellFields P gs = true) (hty : gs.toList.map (·.type) = [s, s, s, s, i, s])
    (n : Nat) (cs : List Value) (z : DataW H × List MemPlace) (hcl : cs.length = 6) (h : DataW.trod enc P w base spare held n e cs = some z) :
    ∃ x : S23, k23.K w x cs ∧ z.1 = dat x := by
  obtain ⟨ys, n', hn', hy, hlen, hyl, hf⟩ := DataW.trod_struct he h
  obtain ⟨q⟩ := gs
  have hq6 : q.length = 6 := by simpa using congrArg List.length hty
  have hy6 : ys.length = 6 := by rw [hyl]; exact hq6
  match q, hq6, hty, cs, hcl, ys, hy6 with
  | [f0, f1, f2, f3, f4, f5], _, hty, [c0, c1, c2, c3, c4, c5], _, [y0, y1, y2, y3, y4, y5], _ =>
    simp only [List.map_cons, List.map_nil, List.cons.injEq, and_true] at hty
    obtain ⟨t0, t1, t2, t3, t4, t5⟩ := hty
    obtain ⟨o0, k0⟩ := hone_of hone 0 f0 rfl
    obtain ⟨o1, k1⟩ := hone_of hone 1 f1 rfl
    obtain ⟨o2, k2⟩ := hone_of hone 2 f2 rfl
    obtain ⟨o3, k3⟩ := hone_of hone 3 f3 rfl
    obtain ⟨o4, k4⟩ := hone_of hone 4 f4 rfl
    obtain ⟨o5, k5⟩ := hone_of hone 5 f5 rfl
    have g0 := hf 0 f0 rfl
    have g1 := hf 1 f1 rfl
    have g2 := hf 2 f2 rfl
    have g3 := hf 3 f3 rfl
    have g4 := hf 4 f4 rfl
    have g5 := hf 5 f5 rfl
    rw [o0, k0, t0] at g0
    rw [o1, k1, t1] at g1
    rw [o2, k2, t2] at g2
    rw [o3, k3, t3] at g3
    rw [o4, k4, t4] at g4
    rw [o5, k5, t5] at g5
    obtain ⟨x0, e0, q0, _⟩ := DataW.trod_string hs g0
    obtain ⟨x1, e1, q1, _⟩ := DataW.trod_string hs g1
    obtain ⟨x2, e2, q2, _⟩ := DataW.trod_string hs g2
    obtain ⟨x3, e3, q3, _⟩ := DataW.trod_string hs g3
    obtain ⟨x4, e4, q4, _⟩ := DataW.trod_int hi g4
    obtain ⟨x5, e5, q5, _⟩ := DataW.trod_string hs g5
    simp only [List.drop_zero, List.drop_succ_cons, List.take_succ_cons, List.take_zero, List.cons.injEq, and_true] at e0 e1 e2 e3 e4 e5
    subst e0 e1 e2 e3 e4 e5 q0 q1 q2 q3 q4 q5
    rw [hy]
    exact ⟨⟨x0, x1, x2, x3, x4, x5⟩, k23_mk w _, rfl⟩
theorem open_feed {H : Type} {enc : TypeId × Value → H} {P : Program} {w : World} {base : Nat} {spare : Nat → Bool} {held : Bool} {r : Reach} {b0 : Nat} {t b s i t' e : TypeId} {fs gs : Array Field} {v : Value} {d : DataW H} {p : List MemPlace}
    (ht : P.underlying t = some (.struct fs)) (hb : P.underlying b = some .bool) (hs : P.underlying s = some .string) (hi : P.underlying i = some (.int .i64)) (hone : oneCellFields P fs = true) (hC : P.cellsOf t = 3) (hty : fs.toList.map (·.type) = [b, s, t'])
    (ht' : P.underlying t' = some (.slice e)) (he : P.underlying e = some (.struct gs)) (hone' : oneCellFields P gs = true) (hC' : P.cellsOf e = 6) (hty' : gs.toList.map (·.type) = [s, s, s, s, i, s])
    (hv : Value.okWide P w r b0 t v) (h : DataW.Trod enc P w base spare held t v d p) :
    ∃ (x0 : Bool) (x1 : ByteArray) (A : Option Addr) (l : List S23) (c : Nat) (d2 : DataW H), v = .agg #[.bool x0, .string x1, .slice A l.length c] ∧ l.length ≤ c ∧ Kd.C k23 w A l.length l ∧ d = .agg [.lit (.bool x0), .lit (.string x1.data.toList), d2] ∧
      ∀ x ∈ l, ∃ dx : DataW H, (∀ q ∈ dx.weights P e, q ∈ d2.weights P t') ∧ dx = dat x := by
  obtain ⟨cs, rfl, hsz⟩ := okWide_struct ht hv
  obtain ⟨fuel, hf⟩ := h
  obtain ⟨ys, n, _, hx, _, hlen, hg⟩ := DataW.trod_struct ht hf
  obtain ⟨l⟩ := fs
  obtain ⟨c⟩ := cs
  have hl3 : l.length = 3 := by simpa using congrArg List.length hty
  have hc3 : c.length = 3 := hsz.trans hC
  have hy3 : ys.length = 3 := by rw [hlen]; exact hl3
  match l, hl3, hty, c, hc3, ys, hy3 with
  | [f0, f1, f2], _, hty, [c0, c1, c2], _, [y0, y1, y2], _ =>
    simp only [List.map_cons, List.map_nil, List.cons.injEq, and_true] at hty
    obtain ⟨t0, t1, t2⟩ := hty
    obtain ⟨o0, k0⟩ := hone_of hone 0 f0 rfl
    obtain ⟨o1, k1⟩ := hone_of hone 1 f1 rfl
    obtain ⟨o2, k2⟩ := hone_of hone 2 f2 rfl
    have g0 : DataW.trod enc P w base spare held n f0.type [c0] = some y0 := by simpa [Value.cells, o0, k0] using hg 0 f0 rfl
    have g1 : DataW.trod enc P w base spare held n f1.type [c1] = some y1 := by simpa [Value.cells, o1, k1] using hg 1 f1 rfl
    have g2 : DataW.trod enc P w base spare held n f2.type [c2] = some y2 := by simpa [Value.cells, o2, k2] using hg 2 f2 rfl
    rw [t0] at g0; rw [t1] at g1; rw [t2] at g2
    obtain ⟨x0, e0, q0⟩ := DataW.trod_bool hb g0
    obtain ⟨x1, e1, q1, _⟩ := DataW.trod_string hs g1
    obtain ⟨A, xs, cap, e2, hcap, hK, hQ⟩ := open_structs k23 (fun dx x => dx = dat x) ht' hC' (fun n cs z h2 h => entry_of he hs hi hone' hty' n cs z h2 h) g2
    simp only [List.cons.injEq, and_true] at e0 e1
    subst e0 e1 e2 q0 q1
    simp only [Prod.mk.injEq] at hx
    exact ⟨x0, x1, A, xs, cap, y2.1, rfl, hcap, hK, by simpa using hx.1, hQ⟩
/-- The texts in the row, and the one ahead of it, are no longer than the reach. -/
theorem sized_feed {H : Type} {P : Program} {ts : List TypeId} {ds : List (DataW H)} {j : Nat} {t b s i t' e : TypeId} {fs gs : Array Field} {x0 : Bool} {b1 : List UInt8} {d2 : DataW H} (h : (DataW.weightsEach P ts ds).all (· ≤ reachBytes) = true) (ht : ts[j]? = some t)
    (hd : ds[j]? = some (.agg [.lit (.bool x0), .lit (.string b1), d2])) (hs : P.underlying t = some (.struct fs)) (hty : fs.toList.map (·.type) = [b, s, t']) (he : P.underlying e = some (.struct gs)) (hty' : gs.toList.map (·.type) = [s, s, s, s, i, s]) :
    b1.length ≤ reachBytes ∧ ∀ (x : S23) (dx : DataW H), (∀ q ∈ dx.weights P e, q ∈ d2.weights P t') → dx = dat x → x.f0.data.toList.length ≤ reachBytes ∧ x.f1.data.toList.length ≤ reachBytes ∧ x.f2.data.toList.length ≤ reachBytes ∧ x.f3.data.toList.length ≤ reachBytes ∧ x.f5.data.toList.length ≤ reachBytes := by
  have up : ∀ q, (q ∈ d2.weights P t' ∨ q = b1.length) → q ≤ reachBytes := by
    intro q hq
    have hm : q ∈ (DataW.agg [.lit (.bool x0), .lit (.string b1), d2] : DataW H).weights P t := by
      unfold DataW.weights
      rw [hs]
      simp only
      rw [hty]
      rcases hq with hq | rfl
      · simp [DataW.weightsEach, DataW.weights, hq]
      · simp [DataW.weightsEach, DataW.weights]
    have h2 := List.all_eq_true.1 h _ (DataW.weights_mem_each ht hd _ hm)
    simpa using h2
  refine ⟨up _ (.inr rfl), fun x dx hq hdx => ?_⟩
  subst hdx
  have inn : ∀ q, q ∈ [x.f0.data.toList.length, x.f1.data.toList.length, x.f2.data.toList.length, x.f3.data.toList.length, x.f5.data.toList.length] → q ≤ reachBytes := by
    intro q h3
    refine up q (.inl (hq q ?_))
    unfold dat DataW.weights
    rw [he]
    simp only
    rw [hty']
    simp only [List.mem_cons, List.mem_nil_iff, or_false] at h3
    rcases h3 with rfl | rfl | rfl | rfl | rfl <;> simp [DataW.weightsEach, DataW.weights]
  exact ⟨inn _ (by simp), inn _ (by simp), inn _ (by simp), inn _ (by simp), inn _ (by simp)⟩
end Go.Proofs.YteknchhlineciaaDoor.AggD
