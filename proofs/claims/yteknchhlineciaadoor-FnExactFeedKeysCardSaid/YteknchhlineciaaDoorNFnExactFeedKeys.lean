/- Rows of entries: their texts' sizes are told, they are copied as they are, a row is like itself, and a feed's test says the same on both sides. Conditions: as each lemma states. -/
import Derived.Test.YteknchhlineciaaDoorEFnExactFeedKeys
namespace Go.Proofs.YteknchhlineciaaDoor.NQFnExactFeedKeys
open Go.RowKit Go.Proofs.YteknchhlineciaaDoor.QFnExactFeedKeys Go.Proofs.YteknchhlineciaaDoorW.PrintWords Go.Proofs.YteknchhlineciaaDoorW.PrintLast Go.Proofs.YteknchhlineciaaDoorW.PrintMore Go.Proofs.YteknchhlineciaaDoor.Evx
open Go.Proofs.YteknchhlineciaaDoor.RQFnExactFeedKeys Go.Proofs.YteknchhlineciaaDoor.OQFnExactFeedKeys Go.Proofs.YteknchhlineciaaDoor.EQFnExactFeedKeys
set_option linter.unusedSimpArgs false
set_option linter.unusedVariables false
/-- An entry as the other package's. -/
def conv (x : S23) : S26 := ⟨x.f0, x.f1, x.f2, x.f3, x.f4, x.f5⟩
/-- An entry's texts have at most so many bytes. -/
def Upto (n : Nat) (x : S23) : Prop := x.f0.size ≤ n ∧ x.f1.size ≤ n ∧ x.f2.size ≤ n ∧ x.f3.size ≤ n ∧ x.f5.size ≤ n
def UptoC (n : Nat) (x : S26) : Prop := x.f0.size ≤ n ∧ x.f1.size ≤ n ∧ x.f2.size ≤ n ∧ x.f3.size ≤ n ∧ x.f5.size ≤ n
theorem rd23 (l : List S23) (i : Nat) (h : i < l.length) : rd_T23 l (i : Int) = l[i] := by simp [rd_T23, List.getD_eq_getElem?_getD, List.getElem?_eq_getElem h]
theorem rd26 (l : List S26) (i : Nat) (h : i < l.length) : rd_T26 l (i : Int) = l[i] := by simp [rd_T26, List.getD_eq_getElem?_getD, List.getElem?_eq_getElem h]
theorem sz_loop (l : List S23) (hl : l.length ≤ 9223372036854775807) (hw : ∀ x ∈ l, Upto 140737488351232 x) (d : Nat) : ∀ (i : Nat) (n : Int), i + d = l.length → 0 ≤ n → n ≤ 1048576 →
    ∃ z, Ev (fun k => laws_szEntryS.l0 k l n (i : Int)) z ∧ (0 ≤ z → ∀ x ∈ l.drop i, Upto 1048576 x) := by
  induction d with
  | zero =>
    intro i n hi h0 h1
    refine ⟨n, ?_, fun _ x hx => ?_⟩
    · refine Ev.step (fun k => by rw [laws_szEntryS.l0]) ?_
      exact Evx.neg (by omega) (Ev.now _)
    · rw [List.drop_eq_nil_of_le (by omega)] at hx
      cases hx
  | succ d ih =>
    intro i n hi h0 h1
    have hil : i < l.length := by omega
    have hx := hw l[i] (List.getElem_mem hil)
    have er := rd23 l i hil
    obtain ⟨t, ht, ht1, ht2⟩ := sz l[i].f0 l[i].f1 l[i].f2 l[i].f3 l[i].f4 l[i].f5 n ⟨h0, h1⟩ hx.1 hx.2.1 hx.2.2.1 hx.2.2.2.1 hx.2.2.2.2
    rw [← er] at ht
    by_cases hn : t < 0
    · refine ⟨-1, ?_, fun h => absurd h (by omega)⟩
      refine Ev.step (fun k => by rw [laws_szEntryS.l0]) ?_
      exact Evx.pos (by omega) (Evx.pos (by omega) (Evx.bindc ht (Evx.pos hn (Ev.now _))))
    · have h3 := ht2 (by omega)
      obtain ⟨z, hz, hz2⟩ := ih (i + 1) t (by omega) (by omega) (by omega)
      refine ⟨z, ?_, fun h => ?_⟩
      · refine Ev.step (fun k => by rw [laws_szEntryS.l0]) ?_
        refine Evx.pos (by omega) (Evx.pos (by omega) (Evx.bindc ht (Evx.neg hn ?_)))
        rw [Evx.w64 (by omega) (by omega)]
        exact hz
      · intro x hxm
        rw [List.drop_eq_getElem_cons hil] at hxm
        rcases List.mem_cons.1 hxm with rfl | hxm
        · exact ⟨by omega, by omega, by omega, by omega, by omega⟩
        · exact hz2 h x hxm
theorem sz_row (l : List S23) (hl : l.length ≤ 9223372036854775807) (hw : ∀ x ∈ l, Upto 140737488351232 x) (n : Int) (h0 : 0 ≤ n) (h1 : n ≤ 1048576) :
    ∃ z, Ev (fun k => laws_szEntryS.f k l n) z ∧ (0 ≤ z → l.length ≤ 1048576 ∧ ∀ x ∈ l, Upto 1048576 x) := by
  unfold laws_szEntryS.f
  by_cases h : (wrap64 (n - (l.length : Int))) < 0
  · exact ⟨-1, Evx.pos h (Ev.now _), fun h => absurd h (by omega)⟩
  · rw [Evx.w64 (by omega) (by omega)] at h ⊢
    obtain ⟨z, hz, hz2⟩ := sz_loop l hl hw l.length 0 (n - (l.length : Int)) (by omega) (by omega) (by omega)
    exact ⟨z, Evx.neg h hz, fun h => ⟨by omega, hz2 h⟩⟩
theorem sz_feed (a0 : Bool) (a1 : ByteArray) (l : List S23) (hl : l.length ≤ 9223372036854775807) (hw : ∀ x ∈ l, Upto 140737488351232 x) (h1 : a1.size ≤ 140737488351232) :
    ∃ z, Ev (fun k => laws_szFeed.f k a0 a1 l 1048576) z ∧ (0 ≤ z → a1.size ≤ 1048576 ∧ l.length ≤ 1048576 ∧ ∀ x ∈ l, Upto 1048576 x) := by
  unfold laws_szFeed.f
  rw [Evx.w64 (by omega) (by omega)]
  by_cases hn : (1048576 - (a1.size : Int)) < 0
  · exact ⟨-1, Evx.pos hn (Ev.now _), fun h => absurd h (by omega)⟩
  · obtain ⟨z, hz, hz2⟩ := sz_row l hl hw (1048576 - (a1.size : Int)) (by omega) (by omega)
    by_cases h : z < 0
    · exact ⟨-1, Evx.neg hn (Ev.bind hz (Evx.pos h (Ev.now _))), fun h => absurd h (by omega)⟩
    · exact ⟨z, Evx.neg hn (Ev.bind hz (Evx.neg h (Ev.now _))), fun h => ⟨by omega, hz2 h⟩⟩
theorem copy_loop (l : List S23) (hl : l.length ≤ 1048576) (d : Nat) : ∀ (i : Nat) (x : List S26), i + d = l.length → x.length = l.length → x.take i = (l.map conv).take i → Ev (fun k => laws_toEntryS.l0 k l x (i : Int)) (l.map conv) := by
  induction d with
  | zero =>
    intro i x hi hx ht
    refine Ev.step (fun k => by rw [laws_toEntryS.l0]) ?_
    refine Evx.neg (by omega) (Evx.eq (Ev.now _) ?_)
    rw [List.take_of_length_le (by omega), List.take_of_length_le (by rw [List.length_map]; omega)] at ht
    exact ht
  | succ d ih =>
    intro i x hi hx ht
    refine Ev.step (fun k => by rw [laws_toEntryS.l0]) ?_
    refine Evx.pos (by omega) (Evx.pos (by omega) (Evx.bindc (b := ((rd_T23 l (i : Int)).f0, (rd_T23 l (i : Int)).f1, (rd_T23 l (i : Int)).f2, (rd_T23 l (i : Int)).f3, (rd_T23 l (i : Int)).f4, (rd_T23 l (i : Int)).f5)) rfl (Evx.pos (by omega) ?_)))
    rw [Evx.w64 (by omega) (by omega)]
    refine Evx.fn (ih (i + 1) (x.set i (conv (rd_T23 l (i : Int)))) (by omega) (by rw [List.length_set]; exact hx) ?_) (by rw [Int.toNat_natCast]; rfl)
    rw [List.take_add_one, List.take_add_one, List.take_set_of_le (Nat.le_refl _), ht, List.getElem?_set_self (by omega), List.getElem?_map, List.getElem?_eq_getElem (by omega), rd23 l i (by omega)]
    rfl
theorem copied (a0 : Bool) (a1 : ByteArray) (l : List S23) (hl : l.length ≤ 1048576) : Ev (fun k => laws_toFeed.f k a0 a1 l) (a0, a1, l.map conv) := by
  unfold laws_toFeed.f
  refine Ev.bind (a := l.map conv) ?_ (Ev.now _)
  unfold laws_toEntryS.f
  refine Evx.pos (by omega) (Evx.pos (by rw [Int.toNat_natCast]; omega) ?_)
  refine copy_loop l hl l.length 0 _ (by omega) (by simp) (by simp)
theorem eq_loop (l : List S26) (hl : l.length ≤ 1048576) (d : Nat) : ∀ i : Nat, i + d = l.length → Ev (fun k => laws_eqEntryS.l0 k l l (i : Int)) true := by
  induction d with
  | zero =>
    intro i hi
    refine Ev.step (fun k => by rw [laws_eqEntryS.l0]) ?_
    exact Evx.neg (by omega) (Ev.now _)
  | succ d ih =>
    intro i hi
    refine Ev.step (fun k => by rw [laws_eqEntryS.l0]) ?_
    refine Evx.pos (by omega) (Evx.pos (by omega) (Evx.pos (by omega) (Evx.bindc (b := true) (by unfold laws_eqEntry.f; rw [if_pos rfl, if_pos rfl, if_pos rfl, if_pos rfl, if_pos rfl, if_pos rfl]) (Evx.pos rfl ?_))))
    rw [Evx.w64 (by omega) (by omega)]
    exact ih (i + 1) (by omega)
theorem same (a0 : Bool) (a1 : ByteArray) (l : List S26) (hl : l.length ≤ 1048576) : Ev (fun k => laws_eqFeed.f k a0 a1 l a0 a1 l) true := by
  unfold laws_eqFeed.f
  refine Evx.neg (by simp) (Evx.pos rfl (Ev.bind (a := true) ?_ (Evx.pos rfl (Ev.now _))))
  unfold laws_eqEntryS.f
  exact Evx.pos rfl (eq_loop l hl l.length 0 (by omega))
theorem conv_ok {n : Nat} {l : List S23} (h : ∀ x ∈ l, Upto n x) : ∀ x ∈ l.map conv, UptoC n x := by
  intro x hx
  obtain ⟨y, hy, rfl⟩ := List.mem_map.1 hx
  exact h y hy
theorem feed_loop (a0 : Bool) (a1 : ByteArray) (m : List S26) (hm : m.length ≤ 1048576) (hok : ∀ x ∈ m, UptoC 1048576 x) (d : Nat) : ∀ i : Nat, i + d = m.length →
    ∃ j : Int, Ev (fun k => impl_FeedOK.ix k (m.drop i) i) j ∧ Ev (fun k => spec_FeedOK.l0 k (i : Int) a0 a1 m) (decide (j < 0)) := by
  induction d with
  | zero =>
    intro i hi
    refine ⟨-1, ?_, ?_⟩
    · rw [List.drop_eq_nil_of_le (by omega)]
      exact Evx.fn (f := fun _ => some (-1)) (Ev.now _) (by funext k; rw [impl_FeedOK.ix])
    · refine Ev.step (fun k => by rw [spec_FeedOK.l0]) ?_
      exact Evx.neg (by omega) (Evx.eq (Ev.now _) (by decide))
  | succ d ih =>
    intro i hi
    have hil : i < m.length := by omega
    have hx := hok m[i] (List.getElem_mem hil)
    have er := rd26 m i hil
    obtain ⟨b, e1, e2⟩ := entry m[i].f0 m[i].f1 m[i].f2 m[i].f3 m[i].f4 m[i].f5 hx.1 hx.2.1 hx.2.2.1 hx.2.2.2.1 hx.2.2.2.2
    rw [List.drop_eq_getElem_cons hil]
    have go : ∀ j, Ev (fun k => (impl_EntryOK.f k m[i].f0 m[i].f1 m[i].f2 m[i].f3 m[i].f4 m[i].f5).bind fun b => if b = true then impl_FeedOK.ix k (m.drop (i + 1)) (i + 1) else some (i : Int)) j → Ev (fun k => impl_FeedOK.ix k (m[i] :: m.drop (i + 1)) i) j :=
      fun j h => Evx.fn h (by funext k; rw [impl_FeedOK.ix])
    cases b with
    | false =>
      refine ⟨i, go _ (Ev.bind e2 (Evx.neg (by simp) (Ev.now _))), ?_⟩
      refine Ev.step (fun k => by rw [spec_FeedOK.l0]) ?_
      refine Evx.pos (by omega) (Evx.pos (by omega) ?_)
      rw [er]
      refine Ev.bind e1 (Evx.neg (by simp) (Evx.eq (Ev.now _) ?_))
      exact (decide_eq_false (by omega)).symm
    | true =>
      obtain ⟨j, hj1, hj2⟩ := ih (i + 1) (by omega)
      refine ⟨j, go _ (Ev.bind e2 (Evx.pos rfl hj1)), ?_⟩
      refine Ev.step (fun k => by rw [spec_FeedOK.l0]) ?_
      refine Evx.pos (by omega) (Evx.pos (by omega) ?_)
      rw [er]
      refine Ev.bind e1 (Evx.pos rfl ?_)
      rw [Evx.w64 (by omega) (by omega)]
      exact hj2
/-- A feed's test says the same on both sides. -/
theorem feed (a0 : Bool) (a1 : ByteArray) (m : List S26) (h1 : a1.size ≤ 1048576) (hm : m.length ≤ 1048576) (hok : ∀ x ∈ m, UptoC 1048576 x) :
    ∃ b, Ev (fun k => spec_FeedOK.f k a0 a1 m) b ∧ Ev (fun k => impl_FeedOK.f k a0 a1 m) b := by
  obtain ⟨b1, i1, s1⟩ := field a1 h1
  have bad : Ev (fun k => spec_FeedOK.j0 k true a0 a1 m) false := by
    refine Ev.step (fun k => by rw [spec_FeedOK.j0]) ?_
    exact Evx.pos rfl (Ev.now _)
  unfold spec_FeedOK.f impl_FeedOK.f
  cases b1 with
  | false => exact ⟨false, Ev.bind s1 (Evx.neg (by simp) bad), Evx.bindc i1 (Evx.neg (by simp) (Ev.now _))⟩
  | true =>
    by_cases h : m.length ≤ 20
    · obtain ⟨j, hj1, hj2⟩ := feed_loop a0 a1 m hm hok m.length 0 (by omega)
      refine ⟨decide (j < 0), Ev.bind s1 (Evx.pos rfl ?_), Evx.bindc i1 (Evx.pos rfl (Evx.pos h (Ev.bind hj1 (Ev.now _))))⟩
      refine Ev.step (fun k => by rw [spec_FeedOK.j0]) ?_
      exact Evx.neg (by simp; omega) hj2
    · refine ⟨false, Ev.bind s1 (Evx.pos rfl ?_), Evx.bindc i1 (Evx.pos rfl (Evx.neg h (Ev.now _)))⟩
      refine Ev.step (fun k => by rw [spec_FeedOK.j0]) ?_
      exact Evx.pos (by simp; omega) (Ev.now _)
end Go.Proofs.YteknchhlineciaaDoor.NQFnExactFeedKeys
