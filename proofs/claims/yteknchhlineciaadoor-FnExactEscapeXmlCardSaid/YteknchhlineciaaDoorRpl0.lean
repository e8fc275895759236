/- What a byteStringReplacer holds behind k rounds of its build, in worlds alone. -/
import Derived.Test.YteknchhlineciaaDoorConv
import Derived.Test.YteknchhlineciaaDoorEsc
import Derived.Test.YteknchhlineciaaDoorWMore
import Derived.Test.YteknchhlineciaaDoorProg
import Derived.Laws.MakeOwn
import Derived.Deep.WholeRow
import Derived.Lib.Builder
import Derived.Lib.ConvBytes
namespace Go.Proofs.YteknchhlineciaaDoor.Rpl
open Go.RowKit Go.Proofs.YteknchhlineciaaDoorW.PrintWords Go.Proofs.YteknchhlineciaaDoorW.PrintLast Go.Proofs.YteknchhlineciaaDoorW.PrintMore
set_option linter.unusedVariables false
/-- The slice that stands for a byte. -/
def RV (W : World) (base rb : Nat) (v u : Value) : Option ByteArray → Prop
  | none => u = .slice none 0 0
  | some s => ∃ g c, u = .slice (some ⟨g, 0, none⟩) s.size c ∧ base ≤ g ∧ g < W.heap.size ∧ v.ownBlock ≠ some g ∧ g ≠ rb ∧ ∀ j, j < s.size → W.cell? ⟨g, j, none⟩ = some (.int .u8 ((s.data.toList.getD j 0).toNat : Int))
structure St (W : World) (base rb k l : Nat) (v : Value) : Prop where
  low : base ≤ rb
  row : ∃ cs, W.heap[rb]? = some (.cells cs 138 (0, 0)) ∧ cs.size = 257 ∧ cs[256]? = some v ∧ ∀ x, x < 256 → ∃ u, cs[x]? = some u ∧ RV W base rb v u (rep k x)
  own : W.ownsRow base 9 1 v l (encs Value.string (olds.take l))
  ne : v.ownBlock ≠ some rb
theorem RV.kept {W W' : World} {base rb : Nat} {v u : Value} {o : Option ByteArray} (h : RV W base rb v u o) (hs : W.heap.size ≤ W'.heap.size) (hk : ∀ g, g < W.heap.size → v.ownBlock ≠ some g → g ≠ rb → W'.heap[g]? = W.heap[g]?) : RV W' base rb v u o := by
  cases o with
  | none => exact h
  | some s =>
    obtain ⟨g, c, h1, h2, h3, h4, h5, h6⟩ := h
    refine ⟨g, c, h1, h2, by omega, h4, h5, fun j hj => ?_⟩
    rw [← h6 j hj]
    unfold World.cell?
    simp only [hk g h3 h4 h5]
theorem St.below {W W' : World} {base rb k l : Nat} {v : Value} (h : St W base rb k l v) (hb : Below W.heap.size W W') : St W' base rb k l v := by
  obtain ⟨h1, ⟨cs, a1, a2, a3, a4⟩, h3, h4⟩ := h
  have hrb : rb < W.heap.size := (Array.getElem?_eq_some_iff.1 a1).1
  refine ⟨h1, ⟨cs, (hb.block _ hrb).trans a1, a2, a3, fun x hx => ?_⟩, ?_, h4⟩
  · obtain ⟨u, b1, b2⟩ := a4 x hx
    exact ⟨u, b1, b2.kept hb.size (fun g hg _ _ => hb.block g hg)⟩
  · refine ⟨h3.1, ?_⟩
    rcases h3.2 with e | ⟨g, cap, cur, e1, e2, e3, e4⟩
    · exact .inl e
    · exact .inr ⟨g, cap, cur, e1, e2, (hb.block _ (Array.getElem?_eq_some_iff.1 e3).1).trans e3, e4⟩
theorem set_at {W : World} {rb j : Nat} {cs : Array Value} {t : TypeId} {fr : Nat × Nat} (h : W.heap[rb]? = some (.cells cs t fr)) (u : Value) : (W.setCell ⟨rb, j, none⟩ u).heap[rb]? = some (.cells (cs.setIfInBounds j u) t fr) := by
  unfold World.setCell
  simp [Array.getElem?_modify, h]
theorem set_ne {W : World} {rb j k : Nat} (u : Value) (h : k ≠ rb) : (W.setCell ⟨rb, j, none⟩ u).heap[k]? = W.heap[k]? := by
  unfold World.setCell
  simp [Array.getElem?_modify, Ne.symm h]
theorem set_size {W : World} {a : Addr} (u : Value) : (W.setCell a u).heap.size = W.heap.size := by
  unfold World.setCell
  simp
theorem own_kept {W W' : World} {base n : Nat} {v : Value} {xs : List Value} (h : W.ownsRow base 9 1 v n xs) (hk : ∀ g, v.ownBlock = some g → g < W.heap.size → W'.heap[g]? = W.heap[g]?) : W'.ownsRow base 9 1 v n xs := by
  refine ⟨h.1, ?_⟩
  rcases h.2 with e | ⟨g, cap, cur, e1, e2, e3, e4⟩
  · exact .inl e
  · exact .inr ⟨g, cap, cur, e1, e2, (hk g (by rw [e1]; rfl) (Array.getElem?_eq_some_iff.1 e3).1).trans e3, e4⟩
/-- The list grown and stored. -/
theorem St.push {W w1 : World} {base rb k l : Nat} {v v1 : Value} (h : St W base rb k l v) (hg : W.grownBy w1 v.ownBlock) (own1 : w1.ownsRow base 9 1 v1 (l + 1) (encs Value.string (olds.take (l + 1)))) (hat : v1.ownBlock = v.ownBlock ∨ ∃ b, v1.ownBlock = some b ∧ W.heap.size ≤ b) :
    St (w1.setCell ⟨rb, 256, none⟩ v1) base rb k (l + 1) v1 := by
  obtain ⟨h1, ⟨cs, a1, a2, a3, a4⟩, h3, h4⟩ := h
  have hrb : rb < W.heap.size := (Array.getElem?_eq_some_iff.1 a1).1
  have b1 : w1.heap[rb]? = some (.cells cs 138 (0, 0)) := (hg.block rb hrb (fun e => h4 e.symm)).trans a1
  have hne : v1.ownBlock ≠ some rb := by
    rcases hat with e | ⟨b, e, hb⟩
    · rw [e]; exact h4
    · rw [e]; intro q; injection q with q; omega
  refine ⟨h1, ⟨cs.setIfInBounds 256 v1, set_at b1 v1, by simpa using a2, by simp [a2], fun x hx => ?_⟩, own_kept own1 (fun g e _ => set_ne v1 (fun q => hne (by rw [e, q]))), hne⟩
  obtain ⟨u, c1, c2⟩ := a4 x hx
  refine ⟨u, by rw [Array.getElem?_setIfInBounds_ne (by omega)]; exact c1, ?_⟩
  cases hr : rep k x with
  | none => rw [hr] at c2; exact c2
  | some s =>
    rw [hr] at c2
    obtain ⟨g, c, d1, d2, d3, d4, d5, d6⟩ := c2
    have hgk : (w1.setCell ⟨rb, 256, none⟩ v1).heap[g]? = W.heap[g]? := (set_ne v1 d5).trans (hg.block g d3 (fun e => d4 e.symm))
    refine ⟨g, c, d1, d2, by rw [set_size]; exact Nat.lt_of_lt_of_le d3 hg.size, ?_, d5, fun j hj => (World.cell?_of_block hgk).trans (d6 j hj)⟩
    rcases hat with e | ⟨b, e, hb⟩
    · rw [e]; exact d4
    · rw [e]; intro q; injection q with q; omega
/-- A byte's slice stored. -/
theorem St.put {W : World} {base rb k l : Nat} {v : Value} (h : St W base rb k l v) (x : Nat) (hx : x < 256) (s : ByteArray) (g c : Nat) (hs : rep (k + 1) x = some s) (ho : ∀ y, y ≠ x → rep (k + 1) y = rep k y)
    (g1 : base ≤ g) (g2 : g < W.heap.size) (g3 : v.ownBlock ≠ some g) (g4 : g ≠ rb) (g5 : ∀ j, j < s.size → W.cell? ⟨g, j, none⟩ = some (.int .u8 ((s.data.toList.getD j 0).toNat : Int))) :
    St (W.setCell ⟨rb, x, none⟩ (.slice (some ⟨g, 0, none⟩) s.size c)) base rb (k + 1) l v := by
  obtain ⟨h1, ⟨cs, a1, a2, a3, a4⟩, h3, h4⟩ := h
  refine ⟨h1, ⟨_, set_at a1 _, by simpa using a2, by rw [Array.getElem?_setIfInBounds_ne (by omega)]; exact a3, fun y hy => ?_⟩, own_kept h3 (fun g e _ => set_ne _ (fun q => h4 (by rw [e, q]))), h4⟩
  by_cases hyx : y = x
  · subst hyx
    refine ⟨_, by rw [Array.getElem?_setIfInBounds_self_of_lt (by omega)], ?_⟩
    rw [hs]
    exact ⟨g, c, rfl, g1, by rw [set_size]; exact g2, g3, g4, fun j hj => (World.cell?_of_block (set_ne _ g4)).trans (g5 j hj)⟩
  · obtain ⟨u, c1, c2⟩ := a4 y hy
    refine ⟨u, by rw [Array.getElem?_setIfInBounds_ne (fun e => hyx e.symm)]; exact c1, ?_⟩
    rw [ho y hyx]
    exact c2.kept (by rw [set_size]; exact Nat.le_refl _) (fun g _ _ hne => set_ne _ hne)
theorem mk5 (W : World) : (Instr.makeSlice 43 (.int .i64 0) (.int .i64 5)).run Tryd.prog W = .ok (.slice (some ⟨W.heap.size, 0, none⟩) 0 5) (W.alloc (.cells (madeCells #[.string ⟨#[]⟩] 5) 9)) := by
  have hinfo : (Tryd.prog.info? 9).map (fun i => (i.zero, i.size, i.bytes)) = some (some (.string ⟨#[]⟩), 1, 16) := by kernel_rfl
  obtain ⟨i, hi, he⟩ := Option.map_eq_some_iff.1 hinfo
  simp only [Prod.mk.injEq] at he
  have h := run_makeSlice (P := Tryd.prog) (w := W) 43 9 i _ Tryd.underlying43 hi he.1 .i64 .i64 0 5 (by omega) (by omega) (by rw [he.2.1]; decide) (by rw [he.2.2]; decide) (by omega)
  rw [he.2.1] at h
  exact h
/-- The cells of a byteStringReplacer as it is laid, its list on the block t. -/
noncomputable def R0 (t : Nat) : Array Value := ⟨Tryd.zeroCells138.toList.set 256 (.slice (some ⟨t, 0, none⟩) 0 5)⟩
theorem zero138 : Tryd.zeroCells138.toList = List.replicate 257 (.slice none 0 0) := by kernel_rfl
theorem R0_at (t x : Nat) (hx : x < 256) : (R0 t)[x]? = some (.slice none 0 0) := by
  unfold R0
  rw [zero138, ← Array.getElem?_toList]
  show (List.set _ _ _)[x]? = _
  rw [List.getElem?_set_ne (by omega), List.getElem?_replicate, if_pos (by omega)]
theorem R0_last (t : Nat) : (R0 t)[256]? = some (.slice (some ⟨t, 0, none⟩) 0 5) := by
  unfold R0
  rw [zero138, ← Array.getElem?_toList]
  show (List.set _ _ _)[256]? = _
  rw [List.getElem?_set_self (by rw [List.length_replicate]; omega)]
theorem R0_size (t : Nat) : (R0 t).size = 257 := by
  unfold R0
  show (List.set _ _ _).length = 257
  rw [List.length_set, zero138, List.length_replicate]
theorem st138 (W : World) (c : Array Value) : (storeCells ⟨W.heap.size + 1, 0, none⟩ (Tryd.zeroCells138.toList.set 256 (.slice (some ⟨W.heap.size, 0, none⟩) 0 5))).run Tryd.prog ((W.alloc (.cells c 9)).alloc (.cells Tryd.zeroCells138 138)) = .ok () ((W.alloc (.cells c 9)).alloc (.cells (R0 W.heap.size) 138)) := by
  have hs : (W.alloc (.cells c 9)).heap.size = W.heap.size + 1 := by simp
  have hz : Tryd.zeroCells138.size = 257 := by
    have := congrArg List.length zero138
    rw [List.length_replicate, Array.length_toList] at this
    exact this
  have h := Go.run_storeCells_new (P := Tryd.prog) (W.alloc (.cells c 9)) 138 Tryd.zeroCells138 (R0 W.heap.size) (by rw [R0_size]; kernel_rfl) (by rw [R0_size, hz]) (by
    unfold R0
    rw [zero138]
    kernel_rfl)
  rw [hs] at h
  exact h
theorem St.start (W : World) (base : Nat) (hb : base ≤ W.heap.size) : St ((W.alloc (.cells (madeCells #[.string ⟨#[]⟩] 5) 9)).alloc (.cells (R0 W.heap.size) 138)) base (W.heap.size + 1) 0 0 (.slice (some ⟨W.heap.size, 0, none⟩) 0 5) := by
  have hs : (W.alloc (.cells (madeCells #[.string ⟨#[]⟩] 5) 9)).heap.size = W.heap.size + 1 := by simp
  have h1 := heap_alloc_new (W.alloc (.cells (madeCells #[.string ⟨#[]⟩] 5) 9)) (.cells (R0 W.heap.size) 138)
  rw [hs] at h1
  have h2 : ((W.alloc (.cells (madeCells #[.string ⟨#[]⟩] 5) 9)).alloc (.cells (R0 W.heap.size) 138)).heap[W.heap.size]? = some (.cells (madeCells #[.string ⟨#[]⟩] 5) 9 (0, 0)) := by
    rw [heap_alloc_old _ _ (by rw [hs]; omega)]
    exact heap_alloc_new W _
  refine ⟨by omega, ⟨_, h1, R0_size _, R0_last _, fun x hx => ⟨_, R0_at _ x hx, ?_⟩⟩, ⟨rfl, .inr ⟨W.heap.size, 5, _, rfl, hb, h2, by omega, by simp [maxLen], by simp [size_madeCells], rfl⟩⟩, ?_⟩
  · have : rep 0 x = none := by simp [rep]
    rw [this]
    rfl
  · intro e
    injection e with e
    simp at e
theorem own_form {W : World} {base n : Nat} {v : Value} {xs : List Value} (h : W.ownsRow base 9 1 v (n + 1) xs) : ∃ g cap, v = .slice (some ⟨g, 0, none⟩) (n + 1) cap := by
  rcases h.2 with ⟨_, e⟩ | ⟨g, cap, cur, e, _⟩
  · omega
  · exact ⟨g, cap, e⟩
/-- The cell of the list, where it is stored. -/
theorem St.last {W w1 : World} {base rb k l : Nat} {v : Value} (h : St W base rb k l v) (hg : W.grownBy w1 v.ownBlock) : w1.cell? ⟨rb, 256, none⟩ = some v ∧ w1.frozen? ⟨rb, 256, none⟩ = false := by
  obtain ⟨h1, ⟨cs, a1, a2, a3, a4⟩, h3, h4⟩ := h
  have b1 := (hg.block rb (Array.getElem?_eq_some_iff.1 a1).1 (fun e => h4 e.symm)).trans a1
  refine ⟨by rw [Lib.cell_of_heap b1]; exact a3, ?_⟩
  unfold World.frozen?
  simp [b1]
theorem St.byte {W : World} {base rb k l : Nat} {v : Value} (h : St W base rb k l v) (x : Nat) (hx : x < 256) (hr : rep k x = none) : W.cell? ⟨rb, x, none⟩ = some (.slice none 0 0) ∧ W.frozen? ⟨rb, x, none⟩ = false := by
  obtain ⟨h1, ⟨cs, a1, a2, a3, a4⟩, h3, h4⟩ := h
  obtain ⟨u, b1, b2⟩ := a4 x hx
  rw [hr] at b2
  refine ⟨by rw [Lib.cell_of_heap a1, b1]; exact congrArg some b2, ?_⟩
  unfold World.frozen?
  simp [a1]
theorem St.kept {W W' : World} {base rb k l : Nat} {v : Value} (h : St W base rb k l v) (hs : W.heap.size ≤ W'.heap.size) (hk : ∀ g, base ≤ g → g < W.heap.size → W'.heap[g]? = W.heap[g]?) : St W' base rb k l v := by
  obtain ⟨h1, ⟨cs, a1, a2, a3, a4⟩, h3, h4⟩ := h
  have hrb : rb < W.heap.size := (Array.getElem?_eq_some_iff.1 a1).1
  refine ⟨h1, ⟨cs, (hk _ h1 hrb).trans a1, a2, a3, fun x hx => ?_⟩, ?_, h4⟩
  · obtain ⟨u, b1, b2⟩ := a4 x hx
    refine ⟨u, b1, ?_⟩
    cases hr : rep k x with
    | none => rw [hr] at b2; exact b2
    | some s =>
      rw [hr] at b2
      obtain ⟨g, c, d1, d2, d3, d4, d5, d6⟩ := b2
      exact ⟨g, c, d1, d2, by omega, d4, d5, fun j hj => (World.cell?_of_block (hk g d2 d3)).trans (d6 j hj)⟩
  · refine ⟨h3.1, ?_⟩
    rcases h3.2 with e | ⟨g, cap, cur, e1, e2, e3, e4⟩
    · exact .inl e
    · exact .inr ⟨g, cap, cur, e1, e2, (hk _ e2 (Array.getElem?_eq_some_iff.1 e3).1).trans e3, e4⟩
/-- A text turned into bytes and then stored for a byte. -/
theorem put_event {ops : Array Oper} {rest : List Oper} {o : Oper} {a : Act} {Q : Exit → Act → World → Prop} {W w0 : World} {base rb k : Nat} {v : Value} (hgd : o.guard = none) {N : Tmp} (_hd : o.dst = some N) (s : ByteArray) (ho : ∃ x, o.op = .convert 9 67 x ∧ a.eval x = .string s)
    (h : St W base rb k (k + 1) v) (hb : Below base w0 W) (hbs : base ≤ W.heap.size) (x : Nat) (hx : x < 256) (hn : rep k x = none) (hs : rep (k + 1) x = some s) (hoth : ∀ y, y ≠ x → rep (k + 1) y = rep k y)
    (H : ∀ g cap w1, w1.cell? ⟨rb, x, none⟩ = some (.slice none 0 0) → w1.frozen? ⟨rb, x, none⟩ = false → Aside0 (St (w1.setCell ⟨rb, x, none⟩ (.slice (some ⟨g, 0, none⟩) s.size cap)) base rb (k + 1) (k + 1) v) → Aside0 (Below base w0 (w1.setCell ⟨rb, x, none⟩ (.slice (some ⟨g, 0, none⟩) s.size cap))) → wpList Tryd.prog ops Q rest (a.put o.dst (.slice (some ⟨g, 0, none⟩) s.size cap)) w1) : wpList Tryd.prog ops Q (o :: rest) a W := by
  obtain ⟨y, ho, hy⟩ := ho
  have hr := Lib.run_convert_string_bytes (P := Tryd.prog) W 9 67 5 s Tryd.underlying9 Tryd.underlying67 Tryd.underlying5
  have hbw := bytes_below (Below.refl W.heap.size W) (Nat.le_refl _) 5 s
  have h1 := h.below hbw
  obtain ⟨c1, c2⟩ := h1.byte x hx hn
  have hrb : rb < W.heap.size := by
    obtain ⟨cs, a1, _⟩ := h.row
    exact (Array.getElem?_eq_some_iff.1 a1).1
  have hv : v.ownBlock ≠ some W.heap.size := by
    rcases h.own.2 with ⟨e, _⟩ | ⟨g, cap, cur, e1, e2, e3, e4⟩
    · subst e; simp [Value.ownBlock]
    · subst e1
      have := (Array.getElem?_eq_some_iff.1 e3).1
      intro q
      have q2 : g = W.heap.size := Option.some.inj q
      omega
  refine Kd.event_run hgd (v := .slice (some ⟨W.heap.size, 0, none⟩) s.size (grownCap W s.size 0 5)) (w1 := Lib.bytesWorld W 5 s) (by simp [execOp, ho, hy, hr]) (H _ _ _ c1 c2 ⟨?_⟩ ⟨?_⟩)
  · exact h1.put x hx s W.heap.size _ hs hoth hbs (by rw [Lib.bytesWorld_size]; omega) hv (by omega) (fun j hj => Lib.bytesWorld_cell W 5 s j hj)
  · exact (hb.trans (hbw.mono hbs)).setCell h.low _
end Go.Proofs.YteknchhlineciaaDoor.Rpl
