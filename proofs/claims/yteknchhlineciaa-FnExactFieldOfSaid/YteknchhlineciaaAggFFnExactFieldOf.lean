/- A struct of a row of structs of two texts and a text, that comes in by value: what it is. Conditions: none. -/
import Derived.Test.YteknchhlineciaaAggR
import Derived.Test.YteknchhlineciaaQFnExactFieldOfx0
namespace Go.Proofs.Yteknchhlineciaa.AggF
open Go.ChangeShapes Go.WideShapes Go.ChangeAt Go.RowKit Go.Deep Go.Joins Go.Proofs.Yteknchhlineciaa.QFnExactFieldOf Go.Proofs.YteknchhlineciaaW.PrintWords Go.Proofs.Yteknchhlineciaa.AggR
theorem pair_of {H : Type} {enc : TypeId × Value → H} {P : Program} {w : World} {base : Nat} {spare : Nat → Bool} {held : Bool} {e s : TypeId} {gs : Array Field}
    (he : P.underlying e = some (.struct gs)) (hs : P.underlying s = some .string) (hone : oneCellFields P gs = true) (hty : gs.toList.map (·.type) = [s, s])
    (n : Nat) (cs : List Value) (z : DataW H × List MemPlace) (hcl : cs.length = 2) (h : DataW.trod enc P w base spare held n e cs = some z) :
    ∃ x : S74, k74.K w x cs ∧ z.1 = .agg [.lit (.string x.f0.data.toList), .lit (.string x.f1.data.toList)] := by
  obtain ⟨ys, n', hn', hy, hlen, hyl, hf⟩ := DataW.trod_struct he h
  obtain ⟨q⟩ := gs
  have hq2 : q.length = 2 := by simpa using congrArg List.length hty
  have hy2 : ys.length = 2 := by rw [hyl]; exact hq2
  match q, hq2, hty, cs, hcl, ys, hy2 with
  | [f0, f1], _, hty, [c0, c1], _, [y0, y1], _ =>
    simp only [List.map_cons, List.map_nil, List.cons.injEq, and_true] at hty
    obtain ⟨t0, t1⟩ := hty
    obtain ⟨o0, k0⟩ := hone_of hone 0 f0 rfl
    obtain ⟨o1, k1⟩ := hone_of hone 1 f1 rfl
    have g0 := hf 0 f0 rfl
    have g1 := hf 1 f1 rfl
    rw [o0, k0, t0] at g0
    rw [o1, k1, t1] at g1
    obtain ⟨x0, e0, q0, _⟩ := DataW.trod_string hs g0
    obtain ⟨x1, e1, q1, _⟩ := DataW.trod_string hs g1
    simp only [List.drop_zero, List.drop_succ_cons, List.take_succ_cons, List.take_zero, List.cons.injEq, and_true] at e0 e1
    subst e0 e1 q0 q1
    rw [hy]
    exact ⟨⟨x0, x1⟩, k74_mk w _, rfl⟩
theorem open_mail {H : Type} {enc : TypeId × Value → H} {P : Program} {w : World} {base : Nat} {spare : Nat → Bool} {held : Bool} {r : Reach} {b0 : Nat} {t s t' e : TypeId} {fs gs : Array Field} {v : Value} {d : DataW H} {p : List MemPlace}
    (ht : P.underlying t = some (.struct fs)) (hs : P.underlying s = some .string) (hone : oneCellFields P fs = true) (hC : P.cellsOf t = 2) (hty : fs.toList.map (·.type) = [t', s])
    (ht' : P.underlying t' = some (.slice e)) (he : P.underlying e = some (.struct gs)) (hone' : oneCellFields P gs = true) (hC' : P.cellsOf e = 2) (hty' : gs.toList.map (·.type) = [s, s])
    (hv : Value.okWide P w r b0 t v) (h : DataW.Trod enc P w base spare held t v d p) :
    ∃ (A : Option Addr) (l : List S74) (c : Nat) (x1 : ByteArray) (d0 : DataW H), v = .agg #[.slice A l.length c, .string x1] ∧ l.length ≤ c ∧ Kd.C k74 w A l.length l ∧ d = .agg [d0, .lit (.string x1.data.toList)] ∧
      ∀ x ∈ l, ∃ dx : DataW H, (∀ q ∈ dx.weights P e, q ∈ d0.weights P t') ∧ dx = .agg [.lit (.string x.f0.data.toList), .lit (.string x.f1.data.toList)] := by
  obtain ⟨cs, rfl, hsz⟩ := okWide_struct ht hv
  obtain ⟨fuel, hf⟩ := h
  obtain ⟨ys, n, _, hx, _, hlen, hg⟩ := DataW.trod_struct ht hf
  obtain ⟨l⟩ := fs
  obtain ⟨c⟩ := cs
  have hl2 : l.length = 2 := by simpa using congrArg List.length hty
  have hc2 : c.length = 2 := hsz.trans hC
  have hy2 : ys.length = 2 := by rw [hlen]; exact hl2
  match l, hl2, hty, c, hc2, ys, hy2 with
  | [f0, f1], _, hty, [c0, c1], _, [y0, y1], _ =>
    simp only [List.map_cons, List.map_nil, List.cons.injEq, and_true] at hty
    obtain ⟨t0, t1⟩ := hty
    obtain ⟨o0, k0⟩ := hone_of hone 0 f0 rfl
    obtain ⟨o1, k1⟩ := hone_of hone 1 f1 rfl
    have g0 : DataW.trod enc P w base spare held n f0.type [c0] = some y0 := by simpa [Value.cells, o0, k0] using hg 0 f0 rfl
    have g1 : DataW.trod enc P w base spare held n f1.type [c1] = some y1 := by simpa [Value.cells, o1, k1] using hg 1 f1 rfl
    rw [t0] at g0; rw [t1] at g1
    obtain ⟨A, xs, cap, e0, hcap, hK, hQ⟩ := open_structs k74 (fun dx x => dx = .agg [.lit (.string x.f0.data.toList), .lit (.string x.f1.data.toList)]) ht' hC' (fun n cs z h2 h => pair_of he hs hone' hty' n cs z h2 h) g0
    obtain ⟨x1, e1, q1, _⟩ := DataW.trod_string hs g1
    simp only [List.cons.injEq, and_true] at e1
    subst e0 e1 q1
    simp only [Prod.mk.injEq] at hx
    exact ⟨A, xs, cap, x1, y0.1, rfl, hcap, hK, by simpa using hx.1, hQ⟩
/-- The texts in the row, and the one behind it, are no longer than the reach. -/
theorem sized_mail {H : Type} {P : Program} {ts : List TypeId} {ds : List (DataW H)} {j : Nat} {t s t' e : TypeId} {fs gs : Array Field} {b1 : List UInt8} {d0 : DataW H} (h : (DataW.weightsEach P ts ds).all (· ≤ reachBytes) = true) (ht : ts[j]? = some t)
    (hd : ds[j]? = some (.agg [d0, .lit (.string b1)])) (hs : P.underlying t = some (.struct fs)) (hty : fs.toList.map (·.type) = [t', s]) (he : P.underlying e = some (.struct gs)) (hty' : gs.toList.map (·.type) = [s, s]) :
    b1.length ≤ reachBytes ∧ ∀ (x : S74) (dx : DataW H), (∀ q ∈ dx.weights P e, q ∈ d0.weights P t') → dx = .agg [.lit (.string x.f0.data.toList), .lit (.string x.f1.data.toList)] → x.f0.data.toList.length ≤ reachBytes ∧ x.f1.data.toList.length ≤ reachBytes := by
  have up : ∀ q, (q ∈ d0.weights P t' ∨ q = b1.length) → q ≤ reachBytes := by
    intro q hq
    have hm : q ∈ (DataW.agg [d0, .lit (.string b1)] : DataW H).weights P t := by
      unfold DataW.weights
      rw [hs]
      simp only
      rw [hty]
      rcases hq with hq | rfl
      · simp [DataW.weightsEach, hq]
      · simp [DataW.weightsEach, DataW.weights]
    have h2 := List.all_eq_true.1 h _ (DataW.weights_mem_each ht hd _ hm)
    simpa using h2
  refine ⟨up _ (.inr rfl), fun x dx hq hdx => ?_⟩
  subst hdx
  have inn : ∀ q, (q = x.f0.data.toList.length ∨ q = x.f1.data.toList.length) → q ≤ reachBytes := by
    intro q h3
    refine up q (.inl (hq q ?_))
    unfold DataW.weights
    rw [he]
    simp only
    rw [hty']
    rcases h3 with rfl | rfl
    · simp [DataW.weightsEach, DataW.weights]
    · simp [DataW.weightsEach, DataW.weights]
  exact ⟨inn _ (.inl rfl), inn _ (.inr rfl)⟩
end Go.Proofs.Yteknchhlineciaa.AggF
