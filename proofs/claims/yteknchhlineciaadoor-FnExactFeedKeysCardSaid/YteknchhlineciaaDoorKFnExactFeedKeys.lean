/- The keys of a feed: both sides make the same list; marks are told and held. Conditions: as each lemma states. -/
import Derived.Test.YteknchhlineciaaDoorNFnExactFeedKeys
namespace Go.Proofs.YteknchhlineciaaDoor.KQFnExactFeedKeys
open Go.RowKit Go.Proofs.YteknchhlineciaaDoor.QFnExactFeedKeys Go.Proofs.YteknchhlineciaaDoorW.PrintWords Go.Proofs.YteknchhlineciaaDoorW.PrintLast Go.Proofs.YteknchhlineciaaDoorW.PrintMore Go.Proofs.YteknchhlineciaaDoor.Evx
open Go.Proofs.YteknchhlineciaaDoor.NQFnExactFeedKeys
set_option linter.unusedSimpArgs false
set_option linter.unusedVariables false
theorem has_loop (acc : List ByteArray) (t : ByteArray) (ha : acc.length ≤ 1048576) (d : Nat) : ∀ i : Nat, i + d = acc.length →
    ∃ (b : Bool) (j : Int), Ev (fun k => spec_l06Has.l0 k acc t (i : Int)) b ∧ Ev (fun k => slices_Index_string_string.l0 k acc t (acc.length : Int) (i : Int)) j ∧ decide (j ≥ 0) = b := by
  induction d with
  | zero =>
    intro i hi
    refine ⟨false, -1, ?_, ?_, by decide⟩
    · refine Ev.step (fun k => by rw [spec_l06Has.l0]) ?_
      exact Evx.neg (by omega) (Ev.now _)
    · refine Ev.step (fun k => by rw [slices_Index_string_string.l0]) ?_
      exact Evx.neg (by omega) (Ev.now _)
  | succ d ih =>
    intro i hi
    by_cases h : (rdOf ByteArray.empty acc (i : Int)).toList = t.toList
    · refine ⟨true, i, ?_, ?_, decide_eq_true (by omega)⟩
      · refine Ev.step (fun k => by rw [spec_l06Has.l0]) ?_
        exact Evx.pos (by omega) (Evx.pos (by omega) (Evx.pos h (Ev.now _)))
      · refine Ev.step (fun k => by rw [slices_Index_string_string.l0]) ?_
        exact Evx.pos (by omega) (Evx.pos (by omega) (Evx.pos (by omega) (Evx.pos h.symm (Ev.now _))))
    · obtain ⟨b, j, h1, h2, h3⟩ := ih (i + 1) (by omega)
      refine ⟨b, j, ?_, ?_, h3⟩
      · refine Ev.step (fun k => by rw [spec_l06Has.l0]) ?_
        refine Evx.pos (by omega) (Evx.pos (by omega) (Evx.neg h ?_))
        rw [Evx.w64 (by omega) (by omega)]
        exact h1
      · refine Ev.step (fun k => by rw [slices_Index_string_string.l0]) ?_
        refine Evx.pos (by omega) (Evx.pos (by omega) (Evx.pos (by omega) (Evx.neg (fun e => h e.symm) ?_)))
        rw [Evx.w64 (by omega) (by omega)]
        exact h2
theorem has (acc : List ByteArray) (t : ByteArray) (ha : acc.length ≤ 1048576) : ∃ b : Bool, Ev (fun k => spec_l06Has.f k acc t) b ∧ Ev (fun k => slices_Contains_string_string.f k acc t) b := by
  obtain ⟨b, j, h1, h2, h3⟩ := has_loop acc t ha acc.length 0 (by omega)
  refine ⟨b, ?_, ?_⟩
  · unfold spec_l06Has.f
    exact h1
  · unfold slices_Contains_string_string.f
    refine Ev.bind (a := j) ?_ (Evx.eq (Ev.now _) h3)
    unfold slices_Index_string_string.f
    exact h2
theorem keys_loop (a0 : Bool) (a1 : ByteArray) (m : List S26) (hm : m.length ≤ 1048576) (d : Nat) : ∀ (i : Nat) (acc : List ByteArray), i + d = m.length → acc.length ≤ i →
    ∃ g : List ByteArray, Ev (fun k => spec_FeedKeys.l0 k acc (i : Int) a0 a1 m) (g, 0) ∧ Ev (fun k => impl_FeedKeys.l0 k acc m (m.length : Int) (i : Int)) (g, 0) ∧ g.length ≤ m.length := by
  induction d with
  | zero =>
    intro i acc hi ha
    refine ⟨acc, ?_, ?_, by omega⟩
    · refine Ev.step (fun k => by rw [spec_FeedKeys.l0]) ?_
      exact Evx.neg (by omega) (Ev.now _)
    · refine Ev.step (fun k => by rw [impl_FeedKeys.l0]) ?_
      exact Evx.neg (by omega) (Ev.now _)
  | succ d ih =>
    intro i acc hi ha
    obtain ⟨b, h1, h2⟩ := has acc (rd_T26 m (i : Int)).f0 (by omega)
    cases b with
    | true =>
      obtain ⟨g, g1, g2, g3⟩ := ih (i + 1) acc (by omega) (by omega)
      refine ⟨g, ?_, ?_, g3⟩
      · refine Ev.step (fun k => by rw [spec_FeedKeys.l0]) ?_
        refine Evx.pos (by omega) (Evx.pos (by omega) (Ev.bind h1 (Evx.pos rfl ?_)))
        rw [Evx.w64 (by omega) (by omega)]
        exact g1
      · refine Ev.step (fun k => by rw [impl_FeedKeys.l0]) ?_
        refine Evx.pos (by omega) (Evx.pos (by omega) (Evx.pos (by omega) (Ev.bind h2 (Evx.pos rfl ?_))))
        rw [Evx.w64 (by omega) (by omega)]
        exact g2
    | false =>
      obtain ⟨g, g1, g2, g3⟩ := ih (i + 1) (acc ++ [(rd_T26 m (i : Int)).f0]) (by omega) (by rw [List.length_append]; simp; omega)
      refine ⟨g, ?_, ?_, g3⟩
      · refine Ev.step (fun k => by rw [spec_FeedKeys.l0]) ?_
        refine Evx.pos (by omega) (Evx.pos (by omega) (Ev.bind h1 (Evx.neg (by simp) (Evx.pos (by omega) ?_))))
        rw [Evx.w64 (by omega) (by omega)]
        exact g1
      · refine Ev.step (fun k => by rw [impl_FeedKeys.l0]) ?_
        refine Evx.pos (by omega) (Evx.pos (by omega) (Evx.pos (by omega) (Ev.bind h2 (Evx.neg (by simp) (Evx.pos (by omega) ?_)))))
        rw [Evx.w64 (by omega) (by omega)]
        exact g2
/-- Both sides' keys. -/
theorem keys (a0 : Bool) (a1 : ByteArray) (m : List S26) (h1 : a1.size ≤ 1048576) (hm : m.length ≤ 1048576) (hok : ∀ x ∈ m, UptoC 1048576 x) :
    ∃ (g : List ByteArray) (c : Int), Ev (fun k => spec_FeedKeys.f k a0 a1 m) (g, c) ∧ Ev (fun k => impl_FeedKeys.f k a0 a1 m) (g, c) ∧ g.length ≤ 1048576 := by
  obtain ⟨b, hb1, hb2⟩ := feed a0 a1 m h1 hm hok
  unfold spec_FeedKeys.f impl_FeedKeys.f
  cases b with
  | false => exact ⟨[], 1, Ev.bind hb1 (Evx.neg (by simp) (Ev.now _)), Ev.bind hb2 (Evx.neg (by simp) (Ev.now _)), by simp⟩
  | true =>
    obtain ⟨g, g1, g2, g3⟩ := keys_loop a0 a1 m hm m.length 0 [] (by omega) (by simp)
    exact ⟨g, 0, Ev.bind hb1 (Evx.pos rfl g1), Ev.bind hb2 (Evx.pos rfl g2), by omega⟩
theorem eq_loop (l : List ByteArray) (hl : l.length ≤ 1048576) (d : Nat) : ∀ i : Nat, i + d = l.length → Ev (fun k => laws_eqStringS.l0 k l l (i : Int)) true := by
  induction d with
  | zero =>
    intro i hi
    refine Ev.step (fun k => by rw [laws_eqStringS.l0]) ?_
    exact Evx.neg (by omega) (Ev.now _)
  | succ d ih =>
    intro i hi
    refine Ev.step (fun k => by rw [laws_eqStringS.l0]) ?_
    refine Evx.pos (by omega) (Evx.pos (by omega) (Evx.pos (by omega) (Evx.pos rfl ?_)))
    rw [Evx.w64 (by omega) (by omega)]
    exact ih (i + 1) (by omega)
theorem same_texts (l : List ByteArray) (hl : l.length ≤ 1048576) : Ev (fun k => laws_eqStringS.f k l l) true := by
  unfold laws_eqStringS.f
  exact Evx.pos rfl (eq_loop l hl l.length 0 (by omega))
theorem text_loop (n : Nat) : ∀ (t : ByteArray), t.size + n ≤ 4611686018427387904 → ∃ r, Ev (fun k => laws_markText.l0 k (n : Int) t) r := by
  induction n using Nat.strongRecOn with
  | ind n ih =>
    intro t ht
    by_cases h : n = 0
    · subst h
      refine ⟨(⟨#[109]⟩ : ByteArray) ++ t, Ev.step (fun k => by rw [laws_markText.l0]) ?_⟩
      exact Evx.neg (by omega) (Evx.pos (by omega) (Ev.now _))
    · have hs : ∀ x : Int, (strOfNums [x] ++ t).size = 1 + t.size := by
        intro x
        rw [ByteArray.size_append, Evx.size_strOfNums]
        rfl
      obtain ⟨r, hr⟩ := ih (n / 10) (by omega) (strOfNums [(wrap64 (48 + (Int.tmod (n : Int) 10))) % 256] ++ t) (by rw [hs]; omega)
      refine ⟨r, Ev.step (fun k => by rw [laws_markText.l0]) ?_⟩
      refine Evx.pos (by omega) (Evx.bindc rfl (Evx.pos (by rw [Evx.size_strOfNums]; show 1 + t.size ≤ _; omega) ?_))
      rw [Int.tdiv_eq_ediv_of_nonneg (by omega), Evx.w64 (by omega) (by omega)]
      exact hr
theorem text_of (n : Nat) (hn : n ≤ 4611686018427387904) : ∃ r, Ev (fun k => laws_markText.f k (n : Int)) r := by
  unfold laws_markText.f
  by_cases h : (n : Int) ≤ 0
  · exact ⟨_, Evx.pos h (Ev.now _)⟩
  · obtain ⟨r, hr⟩ := text_loop n (⟨#[]⟩ : ByteArray) (by show 0 + n ≤ _; omega)
    exact ⟨r, Evx.neg h hr⟩
/-- What a mark is. -/
noncomputable def mt (n : Nat) : ByteArray := if h : n ≤ 4611686018427387904 then (text_of n h).choose else ByteArray.empty
theorem mt_of (n : Nat) (h : n ≤ 4611686018427387904) : Ev (fun k => laws_markText.f k (n : Int)) (mt n) := by
  unfold mt
  rw [dif_pos h]
  exact (text_of n h).choose_spec
theorem mt_int (z : Int) (n : Nat) (e : z = n) (h : n ≤ 4611686018427387904) : Ev (fun k => laws_markText.f k z) (mt n) := e ▸ mt_of n h
section
variable {α β γ : Type} {N : α} {f g : Nat → Option (α × β)}
theorem ex_bind {h : Nat → Option γ} {a : γ} {q : Nat → γ → Option (α × β)} (e : Ev h a) (k : ∃ l, Ev (fun n => q n a) (N, l)) : ∃ l, Ev (fun n => (h n).bind (q n)) (N, l) := k.imp fun _ h' => Ev.bind e h'
theorem ex_bindc {x : Option γ} {a : γ} {q : Nat → γ → Option (α × β)} (e : x = some a) (k : ∃ l, Ev (fun n => q n a) (N, l)) : ∃ l, Ev (fun n => x.bind (q n)) (N, l) := k.imp fun _ h' => Evx.bindc e h'
theorem ex_set {δ : Type} (y : List δ) (n : Nat) (hy : y.length = n) (j : Nat) (x : δ) {q : Nat → List δ → Option (α × β)} (k : ∀ z : List δ, z.length = n → ∃ l, Ev (fun m => q m z) (N, l)) : ∃ l, Ev (fun m => (some (y.set j x)).bind (q m)) (N, l) :=
  ex_bindc rfl (k _ (List.length_set.trans hy))
theorem ex_pos {c : Prop} [Decidable c] (h : c) (k : ∃ l, Ev f (N, l)) : ∃ l, Ev (fun n => if c then f n else g n) (N, l) := k.imp fun _ h' => Evx.pos h h'
theorem ex_step (e : ∀ k, f (k + 1) = g k) (k : ∃ l, Ev g (N, l)) : ∃ l, Ev f (N, l) := k.imp fun _ h' => Ev.step e h'
end
theorem up1 (n : Nat) (h : n ≤ 4611686018427387904) : wrap64 ((n : Int) + 1) = ((n + 1 : Nat) : Int) := by
  rw [Evx.w64 (by omega) (by omega)]
  omega
theorem mark_entries (d : Nat) : ∀ (l : List S26) (i n : Nat), i + d = l.length → l.length ≤ 1048576 → n ≤ 1000000000 + 6 * i → ∃ l', Ev (fun k => laws_markEntryS.l0 k l (n : Int) (i : Int)) (((n + 6 * d : Nat) : Int), l') := by
  induction d with
  | zero =>
    intro l i n hi hl hn
    exact ⟨l, Ev.step (fun k => by rw [laws_markEntryS.l0]) (Evx.neg (by omega) (Evx.eq (Ev.now _) (by simp)))⟩
  | succ d ih =>
    intro l i n hi hl hn
    have step : ∀ y : List S26, y.length = l.length → ∃ l', Ev (fun k => laws_markEntryS.l0 k y ((n + 6 : Nat) : Int) ((i + 1 : Nat) : Int)) (((n + 6 * (d + 1) : Nat) : Int), l') := by
      intro y hy
      obtain ⟨l', h⟩ := ih y (i + 1) (n + 6) (by omega) (by omega) (by omega)
      exact ⟨l', Evx.eq h (by rw [show n + 6 + 6 * d = n + 6 * (d + 1) by omega])⟩
    have m0 := mt_of n (by omega)
    have m1 := mt_of (n + 1) (by omega)
    have m2 := mt_of (n + 2) (by omega)
    have m3 := mt_of (n + 3) (by omega)
    have m5 := mt_of (n + 5) (by omega)
    have len_set : ∀ (y : List S26) (j : Nat) (x : S26), (y.set j x).length = y.length := fun y j x => List.length_set
    refine ex_step (fun k => by rw [laws_markEntryS.l0]) ?_
    refine ex_pos (by omega) (ex_bind m0 (ex_pos (by omega) ?_))
    rw [up1 n (by omega), up1 (n + 1) (by omega), up1 (n + 1 + 1) (by omega), up1 (n + 1 + 1 + 1) (by omega), up1 (n + 1 + 1 + 1 + 1) (by omega), up1 (n + 1 + 1 + 1 + 1 + 1) (by omega), up1 i (by omega)]
    refine ex_set l l.length rfl _ _ (fun y1 h1 => ex_bind m1 ?_)
    refine ex_set y1 l.length h1 _ _ (fun y2 h2 => ex_bind m2 ?_)
    refine ex_set y2 l.length h2 _ _ (fun y3 h3 => ex_bind m3 ?_)
    refine ex_set y3 l.length h3 _ _ (fun y4 h4 => ?_)
    refine ex_set y4 l.length h4 _ _ (fun y5 h5 => ex_bind m5 ?_)
    exact step _ ((len_set _ _ _).trans h5)
theorem mark_feed (a0 : Bool) (a1 : ByteArray) (m : List S26) (hm : m.length ≤ 1048576) : ∃ (n : Int) (l' : List S26), Ev (fun k => laws_markFeed.f k a0 a1 m 1) (n, l') ∧ 0 ≤ n := by
  obtain ⟨l', h⟩ := mark_entries m.length m 0 1 (by omega) hm (by omega)
  refine ⟨((1 + 6 * m.length : Nat) : Int), l', ?_, by omega⟩
  unfold laws_markFeed.f
  refine Ev.bind (a := (((1 + 6 * m.length : Nat) : Int), l')) ?_ (Ev.now _)
  unfold laws_markEntryS.f
  exact h
/-- A row of marks. -/
noncomputable def marked (n : Nat) : List ByteArray := (List.range n).map fun i => mt (1 + i)
theorem marked_length (n : Nat) : (marked n).length = n := by simp [marked]
theorem marked_at (n i : Nat) (h : i < n) : rdOf ByteArray.empty (marked n) (i : Int) = mt (1 + i) := by
  unfold rdOf marked
  simp [List.getD_eq_getElem?_getD, h]
theorem mark_loop (n : Nat) (hn : n ≤ 1048576) (d : Nat) : ∀ (l : List ByteArray) (i : Nat), i + d = n → l.length = n → l.take i = (marked n).take i → Ev (fun k => laws_markStringS.l0 k l ((1 + i : Nat) : Int) (i : Int)) (((1 + n : Nat) : Int), marked n) := by
  induction d with
  | zero =>
    intro l i hi hl ht
    refine Ev.step (fun k => by rw [laws_markStringS.l0]) ?_
    refine Evx.neg (by omega) (Evx.eq (Ev.now _) ?_)
    rw [List.take_of_length_le (by omega), List.take_of_length_le (by rw [marked_length]; omega)] at ht
    rw [ht, show i = n by omega]
  | succ d ih =>
    intro l i hi hl ht
    refine Ev.step (fun k => by rw [laws_markStringS.l0]) ?_
    refine Evx.pos (by omega) (Ev.bind (mt_of (1 + i) (by omega)) (Evx.pos (by omega) ?_))
    rw [Evx.w64 (by omega) (by omega), Evx.w64 (by omega) (by omega), Int.toNat_natCast]
    refine Evx.fn (ih (l.set i (mt (1 + i))) (i + 1) (by omega) (by rw [List.length_set]; exact hl) ?_) (by funext k; congr 1)
    rw [List.take_add_one, List.take_add_one, List.take_set_of_le (Nat.le_refl _), ht, List.getElem?_set_self (by omega)]
    congr 1
    unfold marked
    rw [List.getElem?_map, List.getElem?_range (by omega)]
    rfl
theorem mark_row (l : List ByteArray) (hl : l.length ≤ 1048576) : Ev (fun k => laws_markStringS.f k l 1) (((1 + l.length : Nat) : Int), marked l.length) := by
  unfold laws_markStringS.f
  exact mark_loop l.length hl l.length l 0 (by omega) rfl (by simp)
theorem held_loop (n : Nat) (hn : n ≤ 1048576) (d : Nat) : ∀ i : Nat, i + d = n → Ev (fun k => laws_heldStringS.l0 k (marked n) ((1 + i : Nat) : Int) (i : Int)) ((1 + n : Nat) : Int) := by
  have hml := marked_length n
  induction d with
  | zero =>
    intro i hi
    refine Ev.step (fun k => by rw [laws_heldStringS.l0]) ?_
    exact Evx.neg (by omega) (Evx.eq (Ev.now _) (by rw [show i = n by omega]))
  | succ d ih =>
    intro i hi
    refine Ev.step (fun k => by rw [laws_heldStringS.l0]) ?_
    refine Evx.pos (by omega) (Evx.pos (by omega) (Ev.bind (mt_of (1 + i) (by omega)) (Evx.pos (by rw [marked_at n i (by omega)]) ?_)))
    rw [Evx.w64 (by omega) (by omega), Evx.w64 (by omega) (by omega)]
    exact Evx.fn (ih (i + 1) (by omega)) (by funext k; congr 1)
theorem held_row (n : Nat) (hn : n ≤ 1048576) : Ev (fun k => laws_heldStringS.f k (marked n) 1) ((1 + n : Nat) : Int) := by
  unfold laws_heldStringS.f
  exact held_loop n hn n 0 (by omega)
end Go.Proofs.YteknchhlineciaaDoor.KQFnExactFeedKeys
