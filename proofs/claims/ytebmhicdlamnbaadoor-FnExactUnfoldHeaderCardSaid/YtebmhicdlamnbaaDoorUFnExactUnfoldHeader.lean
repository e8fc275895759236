/- A field taken apart: the reference and the program answer the same. Conditions: texts of at most 65536 bytes. -/
import Derived.Test.YtebmhicdlamnbaaDoorHFnExactUnfoldHeader
import Derived.Test.YtebmhicdlamnbaaDoorXFnExactUnfoldHeader
import Derived.Test.YtebmhicdlamnbaaDoorRpl
namespace Go.Proofs.YtebmhicdlamnbaaDoor.UQFnExactUnfoldHeader
open Go.RowKit Go.Proofs.YtebmhicdlamnbaaDoor.QFnExactUnfoldHeader Go.Proofs.YtebmhicdlamnbaaDoorW.PrintWords Go.Proofs.YtebmhicdlamnbaaDoorW.PrintLast Go.Proofs.YtebmhicdlamnbaaDoorW.PrintMore
open Go.Proofs.YtebmhicdlamnbaaDoor.Evx Go.Proofs.YtebmhicdlamnbaaDoor.Bsx Go.Proofs.YtebmhicdlamnbaaDoor.Spl Go.Proofs.YtebmhicdlamnbaaDoor.VQFnExactUnfoldHeader Go.Proofs.YtebmhicdlamnbaaDoor.HQFnExactUnfoldHeader Go.Proofs.YtebmhicdlamnbaaDoor.XQFnExactUnfoldHeader Go.Proofs.YtebmhicdlamnbaaDoor.Rpl
set_option linter.unusedSimpArgs false
set_option linter.unusedVariables false
/-- What stands ahead of the first colon. -/
def nm (l : List Int) : List Int := l.takeWhile (· ≠ 58)
theorem nm_len (l : List Int) : (nm l).length ≤ l.length := (List.takeWhile_sublist _).length_le
theorem nm_cons_ne {c : Int} {r : List Int} (h : c ≠ 58) : nm (c :: r) = c :: nm r := by unfold nm; rw [List.takeWhile_cons_of_pos (by simpa using h)]
theorem nm_cons_eq {r : List Int} : nm (58 :: r) = [] := by unfold nm; rw [List.takeWhile_cons_of_neg (by simp)]
theorem nm_all {l : List Int} (h : ¬ (58 : Int) ∈ l) : nm l = l := by
  induction l with
  | nil => rfl
  | cons c r ih => rw [nm_cons_ne (fun e => h (by rw [e]; simp)), ih (fun e => h (List.mem_cons_of_mem _ e))]
/-- Behind it stands the colon. -/
theorem nm_drop {l : List Int} (h : (58 : Int) ∈ l) : ∃ B, l = nm l ++ 58 :: B := by
  induction l with
  | nil => cases h
  | cons c r ih =>
    by_cases hc : c = 58
    · subst hc; exact ⟨r, by rw [nm_cons_eq]; rfl⟩
    · have hr : (58 : Int) ∈ r := by
        rcases List.mem_cons.1 h with e | e
        · exact absurd e.symm hc
        · exact e
      obtain ⟨B, e⟩ := ih hr
      exact ⟨B, by rw [nm_cons_ne hc, List.cons_append, ← e]⟩
theorem idx (l : List UInt8) : Lib.indexByte l 58 = if (58 : Int) ∈ up l then ((nm (up l)).length : Int) else -1 := by
  induction l with
  | nil => rfl
  | cons b l ih =>
    rw [Lib.indexByte]
    by_cases h : b = 58
    · subst h
      rw [if_pos (by rfl), show up (58 :: l) = 58 :: up l from rfl, if_pos (by simp), nm_cons_eq]
      rfl
    · have hb : ¬ (b.toNat : Int) = 58 := fun e => h (UInt8.toNat_inj.1 (by show b.toNat = 58; omega))
      rw [if_neg (by simp [h]), ih, show up (b :: l) = (b.toNat : Int) :: up l from rfl, nm_cons_ne hb]
      by_cases hm : (58 : Int) ∈ up l
      · have : ((nm (up l)).length : Int) ≠ -1 := by omega
        rw [if_pos hm, if_neg (by simp), if_pos (List.mem_cons_of_mem _ hm)]
        simp
      · rw [if_neg hm, if_pos (by rfl), if_neg (fun e => by rcases List.mem_cons.1 e with e | e; exact hb e.symm; exact hm e)]
theorem cut_no (s : ByteArray) (hs : s.size ≤ 1048576) (h : ¬ (58 : Int) ∈ bs s) : strings_Cut.f s (⟨#[58]⟩ : ByteArray) = some (s, ⟨#[]⟩, false) := by
  unfold strings_Cut.f stringslite_Cut.f stringslite_Index.f
  rw [if_pos (by omega)]
  simp only [Option.bind_some]
  have e : Lib.index s.data.toList [58] = -1 := by rw [index_one, idx]; exact if_neg h
  have e2 : Lib.index s.data.toList (⟨#[58]⟩ : ByteArray).data.toList = -1 := e
  rw [e2, if_neg (by omega)]
  rfl
theorem cut_yes (s : ByteArray) (hs : s.size ≤ 1048576) (h : (58 : Int) ∈ bs s) : strings_Cut.f s (⟨#[58]⟩ : ByteArray) = some (s.extract 0 (nm (bs s)).length, s.extract ((nm (bs s)).length + 1) s.size, true) := by
  obtain ⟨B, hB⟩ := nm_drop h
  have hl := congrArg List.length hB
  rw [bs_length, List.length_append, List.length_cons] at hl
  unfold strings_Cut.f stringslite_Cut.f stringslite_Index.f
  rw [if_pos (by omega)]
  simp only [Option.bind_some]
  have e : Lib.index s.data.toList [58] = ((nm (bs s)).length : Int) := by rw [index_one, idx]; exact if_pos h
  have e2 : Lib.index s.data.toList (⟨#[58]⟩ : ByteArray).data.toList = ((nm (bs s)).length : Int) := e
  have e3 : wrap64 (((nm (bs s)).length : Int) + (((⟨#[58]⟩ : ByteArray).size : Nat) : Int)) = (((nm (bs s)).length + 1 : Nat) : Int) := by
    show wrap64 (((nm (bs s)).length : Int) + ((1 : Nat) : Int)) = _
    rw [Evx.w64 (by omega) (by omega)]; omega
  rw [e2, e3, if_pos (by omega), if_pos (by omega), if_pos (by omega), if_pos (by omega), if_pos (by omega)]
  simp only [Option.bind_some, Int.toNat_natCast]
/-- What both say of a text. -/
def ok (l : List Int) : Prop := (58 : Int) ∈ l ∧ hname (nm l) ∧ ∃ V, l = nm l ++ 58 :: 32 :: (V ++ [13, 10]) ∧ safe (rep V)
theorem tail2 {B V : List Int} : B.drop (B.length - 2) = [13, 10] ∧ 2 ≤ B.length ↔ ∃ V, B = V ++ [13, 10] := by
  constructor
  · rintro ⟨h, hl⟩
    exact ⟨B.take (B.length - 2), by rw [← h, List.take_append_drop]⟩
  · rintro ⟨V, rfl⟩
    have e : (V ++ [13, 10]).length = V.length + 2 := by simp
    rw [e, Nat.add_sub_cancel, List.drop_left]
    exact ⟨rfl, by omega⟩
theorem noempty {V : List Int} : rep (32 :: V) = 32 :: rep V := by rw [rep, if_neg (by omega)]
/-- The value of a text that is right. -/
def val (l : List Int) : List Int := rep ((l.drop ((nm l).length + 2)).take (l.length - (nm l).length - 4))
theorem val_eq {l A V : List Int} (hA : nm l = A) (h : l = A ++ 58 :: 32 :: (V ++ [13, 10])) : val l = rep V := by
  unfold val
  rw [hA]
  conv => lhs; rw [h]
  congr 1
  rw [show A ++ 58 :: 32 :: (V ++ [13, 10]) = (A ++ [58, 32]) ++ (V ++ [13, 10]) by simp, show A.length + 2 = (A ++ [58, 32]).length by simp, List.drop_left]
  have e : ((A ++ [58, 32]) ++ (V ++ [13, 10])).length = A.length + V.length + 4 := by simp only [List.length_append, List.length_cons, List.length_nil]; omega
  rw [e, show A.length + V.length + 4 - A.length - 4 = V.length by omega, List.take_left]
theorem rep_within {l : List Int} (h : ∀ x ∈ l, 0 ≤ x ∧ x < 256) : ∀ x ∈ rep l, 0 ≤ x ∧ x < 256 := by
  have key : ∀ (n : Nat) (l : List Int), l.length ≤ n → (∀ x ∈ l, 0 ≤ x ∧ x < 256) → ∀ x ∈ rep l, 0 ≤ x ∧ x < 256 := by
    intro n
    induction n with
    | zero =>
      intro l hn h x hx
      obtain rfl : l = [] := List.eq_nil_of_length_eq_zero (by omega)
      rw [rep] at hx; cases hx
    | succ n ih =>
      intro l hn h x hx
      cases l with
      | nil => rw [rep] at hx; cases hx
      | cons c r =>
        have hr : r.length ≤ n := by simpa using hn
        rw [rep] at hx
        split at hx
        · rcases List.mem_cons.1 hx with rfl | hx
          · omega
          · exact ih (r.drop 2) (by rw [List.length_drop]; omega) (fun y hy => h y (List.mem_cons_of_mem _ (List.mem_of_mem_drop hy))) x hx
        · rcases List.mem_cons.1 hx with rfl | hx
          · exact h _ (by simp)
          · exact ih r hr (fun y hy => h y (by simp [hy])) x hx
  exact key l.length l (Nat.le_refl _) h
theorem cut1 {l A B : List Int} (h : l = A ++ 58 :: B) : l.drop (A.length + 1) = B := by
  rw [h, show A ++ 58 :: B = (A ++ [58]) ++ B by simp, show A.length + 1 = (A ++ [58]).length by simp, List.drop_left]
theorem cut0 {l A B : List Int} (h : l = A ++ 58 :: B) : l.take A.length = A := by rw [h, List.take_left]
theorem impl_unfold_eq (s : ByteArray) (hs : s.size ≤ 65536) : ∃ b : Bool, (b = true ↔ ok (bs s)) ∧ Ev (fun k => impl_unfold.f k s) (if b = true then (s.extract 0 (nm (bs s)).length, strOfNums (val (bs s)), true) else (⟨#[]⟩, ⟨#[]⟩, false)) := by
  have rp : ∀ u : ByteArray, u.size ≤ 65536 → strings_ReplaceAll.f u (⟨#[13, 10, 32]⟩ : ByteArray) (⟨#[32]⟩ : ByteArray) = some (strOfNums (rep (bs u))) := by
    intro u hu
    have hc := Lib.countB_le ⟨#[13, 10, 32]⟩ (by decide) u.size u (Nat.le_refl _)
    unfold strings_ReplaceAll.f
    rw [if_pos ⟨by omega, by decide, by show u.size + Lib.countB u ⟨#[13, 10, 32]⟩ * 1 ≤ _; omega⟩]
    refine congrArg some ?_
    apply bs_inj
    rw [bs_strOfNums (rep_within (bs_range u))]
    exact rep_bs u
  by_cases h58 : (58 : Int) ∈ bs s
  · obtain ⟨B, hB⟩ := nm_drop h58
    have hlB := congrArg List.length hB
    rw [bs_length, List.length_append, List.length_cons] at hlB
    obtain ⟨u, hu⟩ : ∃ u, s.extract ((nm (bs s)).length + 1) s.size = u := ⟨_, rfl⟩
    have hub : bs u = B := by
      rw [← hu, bs_drop s _ _ (Nat.le_refl _)]
      exact cut1 hB
    have hus : u.size = B.length := by rw [← bs_length, hub]
    have hnm : bs (s.extract 0 (nm (bs s)).length) = nm (bs s) := by
      rw [bs_take]
      exact cut0 hB
    have c0 : strings_Cut.f s (⟨#[58]⟩ : ByteArray) = some (s.extract 0 (nm (bs s)).length, u, true) := by rw [cut_yes s (by omega) h58, hu]
    unfold impl_unfold.f
    by_cases hC : ∃ C, B = 32 :: C
    · obtain ⟨C, rfl⟩ := hC
      have e2 : strings_CutPrefix.f u (⟨#[32]⟩ : ByteArray) = some (u.extract 1 u.size, true) := by
        rw [cut_prefix, if_pos (by rw [hub]; rfl)]; rfl
      obtain ⟨v, hv⟩ : ∃ v, u.extract 1 u.size = v := ⟨_, rfl⟩
      have hvb : bs v = C := by rw [← hv, bs_drop u _ _ (Nat.le_refl _), hub]; rfl
      have hvs : v.size = C.length := by rw [← bs_length, hvb]
      rw [hv] at e2
      simp only [List.length_cons] at hus hlB
      by_cases hV : ∃ V, C = V ++ [13, 10]
      · obtain ⟨V, rfl⟩ := hV
        have e3 : strings_CutSuffix.f v (⟨#[13, 10]⟩ : ByteArray) = some (v.extract 0 V.length, true) := by
          have hl2 : v.size = V.length + 2 := by rw [hvs]; simp
          rw [cut_suffix v _ (by omega), if_pos ⟨by rw [hl2]; show 2 ≤ _; omega, by rw [hvb, hl2]; show (V ++ [13, 10]).drop (V.length + 2 - 2) = [13, 10]; rw [Nat.add_sub_cancel, List.drop_left]⟩]
          rw [hl2]; rfl
        have hw : bs (v.extract 0 V.length) = V := by rw [bs_take, hvb, List.take_left]
        have hwz : (v.extract 0 V.length).size = V.length := by rw [← bs_length, hw]
        have e4 := rp (v.extract 0 V.length) (by rw [hwz]; simp only [List.length_append] at hvs hus hlB; omega)
        rw [hw] at e4
        have hsz : (strOfNums (rep V)).size ≤ 1048576 := by
          rw [size_strOfNums]
          have := rep_len V.length V (Nat.le_refl _)
          simp only [List.length_append] at hvs hus hlB; omega
        have hVr : ∀ x ∈ V, 0 ≤ x ∧ x < 256 := by rw [← hw]; exact bs_range _
        have hbv : bs (strOfNums (rep V)) = rep V := bs_strOfNums (rep_within hVr)
        have hval : val (bs s) = rep V := val_eq rfl hB
        refine ⟨decide (hname (nm (bs s)) ∧ safe (rep V)), ?_, ?_⟩
        · rw [decide_eq_true_eq]
          constructor
          · rintro ⟨a, b⟩; exact ⟨h58, a, V, hB, b⟩
          · rintro ⟨_, a, V', e, b⟩
            refine ⟨a, ?_⟩
            have := hval.symm.trans (val_eq rfl e)
            rw [this]; exact b
        · refine Evx.bindc c0 (Evx.bindc e2 (Evx.bindc e3 (Evx.bindc e4 ?_)))
          refine Evx.pos rfl (Evx.pos rfl (Evx.pos rfl ?_))
          have k1 := impl_hname (s.extract 0 (nm (bs s)).length) (by rw [ByteArray.size_extract]; omega)
          have k2 := impl_safe (strOfNums (rep V)) hsz
          rw [hnm] at k1
          rw [hbv] at k2
          refine Ev.bind k1 (Evx.ite (fun a => ?_) (fun a => Evx.eq (Ev.now _) (if_neg (fun e => a (decide_eq_true (of_decide_eq_true e).1))).symm))
          refine Ev.bind k2 (Evx.ite (fun b => ?_) (fun b => Evx.eq (Ev.now _) (if_neg (fun e => b (decide_eq_true (of_decide_eq_true e).2))).symm))
          refine Evx.eq (Ev.now _) ?_
          rw [if_pos (decide_eq_true ⟨of_decide_eq_true a, of_decide_eq_true b⟩), hval]
      · refine ⟨false, ⟨(fun e => by cases e), ?_⟩, ?_⟩
        · rintro ⟨_, _, V, e, _⟩
          exfalso; apply hV
          have e' := List.append_cancel_left (hB.symm.trans e)
          exact ⟨V, by simpa using e'⟩
        · have e3 : strings_CutSuffix.f v (⟨#[13, 10]⟩ : ByteArray) = some (v, false) := by
            rw [cut_suffix v _ (by omega), if_neg]
            rintro ⟨a, b⟩
            apply hV
            exact (tail2 (V := [])).1 ⟨by rw [← hvs, ← hvb]; exact b, by rw [← hvs]; exact a⟩
          refine Evx.bindc c0 (Evx.bindc e2 (Evx.bindc e3 (Evx.bindc (rp v (by omega)) ?_)))
          exact Evx.pos rfl (Evx.pos rfl (Evx.neg (by simp) (Ev.now _)))
    · refine ⟨false, ⟨(fun e => by cases e), ?_⟩, ?_⟩
      · rintro ⟨_, _, V, e, _⟩
        exfalso; apply hC
        have e' := List.append_cancel_left (hB.symm.trans e)
        exact ⟨V ++ [13, 10], by simpa using e'⟩
      · have e2 : strings_CutPrefix.f u (⟨#[32]⟩ : ByteArray) = some (u, false) := by
          rw [cut_prefix, if_neg]
          intro e
          rw [hub] at e
          apply hC
          cases B with
          | nil => cases e
          | cons x C => exact ⟨C, by rw [show x = 32 by have : [x] = [32] := e; simpa using this]⟩
        obtain ⟨w, e3, hw⟩ : ∃ w : ByteArray × Bool, strings_CutSuffix.f u (⟨#[13, 10]⟩ : ByteArray) = some w ∧ w.1.size ≤ u.size := by
          rw [cut_suffix u _ (by omega)]
          split
          · exact ⟨_, rfl, by simp only [ByteArray.size_extract]; omega⟩
          · exact ⟨_, rfl, Nat.le_refl _⟩
        refine Evx.bindc c0 (Evx.bindc e2 (Evx.bindc e3 (Evx.bindc (rp w.1 (by omega)) ?_)))
        exact Evx.pos rfl (Evx.neg (by simp) (Ev.now _))
  · refine ⟨false, ⟨(fun e => by cases e), fun e => absurd e.1 h58⟩, ?_⟩
    unfold impl_unfold.f
    have e2 : strings_CutPrefix.f (⟨#[]⟩ : ByteArray) (⟨#[32]⟩ : ByteArray) = some (⟨#[]⟩, false) := by
      rw [cut_prefix, if_neg (fun e => by cases e)]
    have e3 : strings_CutSuffix.f (⟨#[]⟩ : ByteArray) (⟨#[13, 10]⟩ : ByteArray) = some (⟨#[]⟩, false) := by
      rw [cut_suffix _ _ (by decide), if_neg (fun e => absurd e.1 (by decide))]
    refine Evx.bindc (cut_no s (by omega) h58) (Evx.bindc e2 (Evx.bindc e3 (Evx.bindc (rp _ (by decide)) ?_)))
    exact Evx.neg (by simp) (Ev.now _)
theorem wn1 (p : Nat) (h : p ≤ 4000000) : wrap64 ((p : Int) + 1) = ((p + 1 : Nat) : Int) := by unfold wrap64; omega
theorem wn2 (p : Nat) (h : p ≤ 4000000) : wrap64 ((p : Int) + 2) = ((p + 2 : Nat) : Int) := by unfold wrap64; omega
theorem wn3 (p : Nat) (h : p ≤ 4000000) : wrap64 ((p : Int) + 3) = ((p + 3 : Nat) : Int) := by unfold wrap64; omega
theorem wm2 (p : Nat) (h : 2 ≤ p) (h2 : p ≤ 4000000) : wrap64 ((p : Int) - 2) = ((p - 2 : Nat) : Int) := by unfold wrap64; omega
/-- The reference's way to the first colon. -/
theorem spec_find (s : ByteArray) (hs : s.size ≤ 65536) : ∀ (n : Nat) (l : List Int) (i : Nat) (R : ByteArray × ByteArray × Bool), l.length ≤ n → (bs s).drop i = l → Ev (fun k => spec_l03Unfold.j1 k s ((i + (nm l).length : Nat) : Int)) R → Ev (fun k => spec_l03Unfold.l0 k s (i : Int)) R := by
  intro n
  induction n with
  | zero =>
    intro l i R hn h hj
    obtain rfl : l = [] := List.eq_nil_of_length_eq_zero (by omega)
    have := drop_nil h
    refine Ev.step (fun k => by rw [spec_l03Unfold.l0]) ?_
    exact Evx.neg (by omega) hj
  | succ n ih =>
    intro l i R hn h hj
    cases l with
    | nil =>
      have := drop_nil h
      refine Ev.step (fun k => by rw [spec_l03Unfold.l0]) ?_
      exact Evx.neg (by omega) hj
    | cons c r =>
      obtain ⟨g1, g2, g3, g4, g5⟩ := drop_cons h
      refine Ev.step (fun k => by rw [spec_l03Unfold.l0]) ?_
      rw [g1]
      refine Evx.pos (by omega) (Evx.pos (by omega) ?_)
      by_cases hc : c = 58
      · subst hc
        rw [nm_cons_eq] at hj
        exact Evx.pos rfl hj
      · refine Evx.neg hc ?_
        rw [Evx.w64 (by omega) (by omega)]
        rw [nm_cons_ne hc] at hj
        refine ih r (i + 1) R (by simpa using hn) g2 (Evx.fn hj ?_)
        funext k
        congr 1
        simp only [List.length_cons]
        omega
/-- What the reference's pass comes to. -/
def fin (A : ByteArray) (out : List Int) : Option (List Int) → ByteArray × ByteArray × Bool
  | none => (⟨#[]⟩, ⟨#[]⟩, false)
  | some v => (A, strOfNums ((out ++ v).drop 1), decide (safe (bs (strOfNums ((out ++ v).drop 1)))))
set_option maxHeartbeats 1000000 in
theorem spec_pass (s u : ByteArray) (K : Nat) (hs : s.size ≤ 65536) (hu : u.size ≤ 65536) (hK : K ≤ s.size) : ∀ (n : Nat) (l : List Int) (i : Nat) (out : List Int), l.length ≤ n → (bs u).drop i = l → out.length ≤ i → i ≤ u.size → 1 ≤ out.length + l.length →
    Ev (fun k => spec_l03Unfold.l1 k s (K : Int) u out (i : Int)) (fin (s.extract 0 K) out (unf l)) := by
  have fin0 : ∀ (i : Nat) (out : List Int), (bs u).drop i = [] → out.length ≤ i → i ≤ u.size → 1 ≤ out.length + ([] : List Int).length → Ev (fun k => spec_l03Unfold.l1 k s (K : Int) u out (i : Int)) (fin (s.extract 0 K) out (unf [])) := by
    intro i out h ho hi h1
    have := drop_nil h
    simp only [List.length_nil, Nat.add_zero] at h1
    refine Ev.step (fun k => by rw [spec_l03Unfold.l1]) ?_
    refine Evx.neg (by omega) (Evx.pos (by omega) (Evx.bindc rfl (Evx.pos (by omega) (Evx.pos (by omega) ?_))))
    have k2 := spec_safe (strOfNums (out.drop 1)) (by rw [size_strOfNums, List.length_drop]; omega)
    refine Ev.bind k2 (Evx.eq (Ev.now _) ?_)
    rw [unf, fin, List.append_nil, Int.toNat_natCast]
  intro n
  induction n with
  | zero =>
    intro l i out hn h ho hi h1
    obtain rfl : l = [] := List.eq_nil_of_length_eq_zero (by omega)
    exact fin0 i out h ho hi h1
  | succ n ih =>
    intro l i out hn h ho hi h1
    cases l with
    | nil => exact fin0 i out h ho hi h1
    | cons c r =>
      obtain ⟨g1, g2, g3, g4, g5⟩ := drop_cons h
      have hrl : r.length + i + 1 = u.size := by
        have := congrArg List.length h
        rw [drop_len, List.length_cons] at this
        omega
      have hb1 : bt u ((i + 1 : Nat) : Int) = r.getD 0 0 := by
        rw [bt_getD u _ (i + 1) 0 (by omega), g2]
      have hb2 : bt u ((i + 2 : Nat) : Int) = r.getD 1 0 := by
        rw [bt_getD u _ (i + 1) 1 (by omega), g2]
      refine Ev.step (fun k => by rw [spec_l03Unfold.l1]) ?_
      rw [g1, wn1 i (by omega), wn2 i (by omega), wn1 (i + 1) (by omega), hb1, hb2]
      refine Evx.pos (by omega) (Evx.pos (by omega) ?_)
      by_cases hc : c = 13
      · have no : ¬ r.take 2 = [10, 32] → fin (s.extract 0 K) out (unf (c :: r)) = (⟨#[]⟩, ⟨#[]⟩, false) := by
          intro e
          rw [unf, if_pos hc, if_neg e]
          rfl
        refine Evx.pos hc ?_
        refine Evx.ite (fun a => Evx.eq (Ev.now _) (no (fun e => ?_)).symm) (fun a => ?_)
        · have := congrArg List.length e
          rw [List.length_take] at this
          simp at this
          omega
        obtain ⟨x, y, r', rfl⟩ : ∃ x y r', r = x :: y :: r' := by
          rcases r with _ | ⟨x, _ | ⟨y, r'⟩⟩
          · simp at hrl; omega
          · simp at hrl; omega
          · exact ⟨x, y, r', rfl⟩
        simp only [List.getD_cons_zero, List.getD_cons_succ] at hb1 hb2 ⊢
        refine Evx.pos (by omega) (Evx.pos (by simp only [List.length_cons] at hrl; omega) ?_)
        refine Evx.ite (fun b => ?_) (fun b => Evx.eq (Ev.now _) (no (fun e => b (by simpa using congrArg (fun q => q.getD 0 0) e))).symm)
        refine Evx.pos (by omega) (Evx.pos (by simp only [List.length_cons] at hrl; omega) ?_)
        refine Evx.ite (fun d => ?_) (fun d => Evx.eq (Ev.now _) (no (fun e => d (by simpa using congrArg (fun q => q.getD 1 0) e))).symm)
        subst b d
        have h3 : (bs u).drop (i + 2) = 32 :: r' := by rw [← List.drop_drop (l := bs u) (i := 1) (j := i + 1), g2]; rfl
        have e : unf (c :: 10 :: 32 :: r') = unf (32 :: r') := by
          have ht : (10 :: 32 :: r' : List Int).take 2 = [10, 32] := rfl
          have hq : (10 :: 32 :: r' : List Int).drop 2 = r' := rfl
          have e3 : unf (32 :: r') = (unf r').map (32 :: ·) := by rw [unf, if_neg (by omega)]
          rw [unf, if_pos hc, if_pos ht, hq, e3]
        rw [e]
        exact ih (32 :: r') (i + 2) out (by simp only [List.length_cons] at hn ⊢; omega) h3 (by omega) (by simp only [List.length_cons] at hrl; omega) (by simp only [List.length_cons]; omega)
      · refine Evx.neg hc (Evx.pos (by omega) ?_)
        have e : fin (s.extract 0 K) out (unf (c :: r)) = fin (s.extract 0 K) (out ++ [c]) (unf r) := by
          rw [unf, if_neg hc]
          cases unf r with
          | none => rfl
          | some v => simp only [Option.map_some, fin, List.append_assoc, List.singleton_append]
        rw [e]
        exact ih r (i + 1) (out ++ [c]) (by simpa using hn) g2 (by simp; omega) (by omega) (by simp; omega)
theorem spec_unfold_eq (s : ByteArray) (hs : s.size ≤ 65536) : ∃ r : ByteArray × ByteArray × Bool, (r.2.2 = true ↔ ok (bs s)) ∧ (r.2.2 = true → r = (s.extract 0 (nm (bs s)).length, strOfNums (val (bs s)), true)) ∧ Ev (fun k => spec_l03Unfold.f k s) r := by
  have hkl := nm_len (bs s)
  rw [bs_length] at hkl
  have goal : (∃ r : ByteArray × ByteArray × Bool, (r.2.2 = true ↔ ok (bs s)) ∧ (r.2.2 = true → r = (s.extract 0 (nm (bs s)).length, strOfNums (val (bs s)), true)) ∧ Ev (fun k => spec_l03Unfold.j1 k s ((0 + (nm (bs s)).length : Nat) : Int)) r) := by
    rw [Nat.zero_add]
    obtain ⟨K, hK⟩ : ∃ K, (nm (bs s)).length = K := ⟨_, rfl⟩
    rw [hK] at hkl ⊢
    have bad : Ev (fun k => spec_l03Unfold.j2 k s (K : Int) true) (⟨#[]⟩, ⟨#[]⟩, false) := by
      refine Ev.step (fun k => by rw [spec_l03Unfold.j2]) ?_
      exact Evx.pos rfl (Ev.now _)
    by_cases h3 : K + 3 > s.size
    · refine ⟨(⟨#[]⟩, ⟨#[]⟩, false), ⟨(fun e => by cases e), ?_⟩, (fun e => by cases e), Ev.step (fun k => by rw [spec_l03Unfold.j1]) (by rw [wn3 K (by omega)]; exact Evx.pos (by omega) bad)⟩
      rintro ⟨_, _, V, e, _⟩
      have := congrArg List.length e
      rw [bs_length, List.length_append] at this
      simp only [List.length_cons, List.length_append] at this
      omega
    have hte : (s.extract (s.size - 2) s.size).toList = ([13, 10] : List UInt8) ↔ (bs s).drop (s.size - 2) = [13, 10] := by
      rw [← bs_drop s _ _ (Nat.le_refl _)]
      have h_ := toList_iff (s.extract (s.size - 2) s.size) ⟨#[13, 10]⟩
      rw [show (⟨#[13, 10]⟩ : ByteArray).toList = [13, 10] from toList_data _] at h_
      exact h_
    have h58 : (58 : Int) ∈ bs s := by
      apply Classical.byContradiction
      intro h
      have := nm_all h
      rw [this, bs_length] at hK
      omega
    obtain ⟨B, hB⟩ := nm_drop h58
    have hlB := congrArg List.length hB
    rw [bs_length, List.length_append, List.length_cons, hK] at hlB
    have hdB : (bs s).drop (K + 1) = B := by
      rw [← hK]
      exact cut1 hB
    have hnm : bs (s.extract 0 K) = nm (bs s) := by
      rw [bs_take, ← hK]
      exact cut0 hB
    have hbt : bt s ((K + 1 : Nat) : Int) = B.getD 0 0 := by rw [bt_getD s _ (K + 1) 0 (by omega), hdB]
    by_cases htl : (bs s).drop (s.size - 2) = [13, 10]
    · by_cases hh : hname (nm (bs s))
      · have k1 := spec_hname (s.extract 0 K) (by rw [ByteArray.size_extract]; omega)
        rw [hnm, decide_eq_true hh] at k1
        have pre : ∀ r, Ev (fun k => spec_l03Unfold.j2 k s (K : Int) (B.getD 0 0 != 32)) r → Ev (fun k => spec_l03Unfold.j1 k s (K : Int)) r := by
          intro r hr
          refine Ev.step (fun k => by rw [spec_l03Unfold.j1]) ?_
          rw [wn3 K (by omega), wm2 s.size (by omega) (by omega), wn1 K (by omega), hbt]
          refine Evx.neg (by omega) (Evx.pos (by omega) (Evx.pos (by omega) (Evx.pos (by rw [Int.toNat_natCast]; exact hte.2 htl) (Evx.pos (by omega) (Evx.pos (by omega) ?_)))))
          rw [Int.toNat_natCast]
          exact Ev.bind k1 (Evx.pos rfl (Evx.pos (by omega) (Evx.pos (by omega) hr)))
        by_cases hsp : B.getD 0 0 = 32
        · obtain ⟨C, rfl⟩ : ∃ C, B = 32 :: C := by
            cases B with
            | nil => simp at hsp
            | cons x C => exact ⟨C, by rw [show x = 32 by simpa using hsp]⟩
          have hCl : 2 ≤ (32 :: C).length := by omega
          have hd2 : (32 :: C).drop ((32 :: C).length - 2) = [13, 10] := by
            rw [← hdB, List.drop_drop, ← htl]
            congr 1
            rw [List.length_drop, bs_length]
            omega
          obtain ⟨V', hV'⟩ := (tail2 (V := [])).1 ⟨hd2, hCl⟩
          obtain ⟨V, rfl⟩ : ∃ V, C = V ++ [13, 10] := by
            cases V' with
            | nil => cases hV'
            | cons x V => exact ⟨V, by have := (List.cons.inj hV').2; exact this⟩
          simp only [List.length_cons, List.length_append, List.length_nil] at hlB
          obtain ⟨u, hu⟩ : ∃ u, s.extract (K + 1) (s.size - 2) = u := ⟨_, rfl⟩
          have hub : bs u = 32 :: V := by
            rw [← hu, bs_extract, List.drop_take, hdB, show s.size - 2 - (K + 1) = (32 :: V).length by simp only [List.length_cons]; omega, show (32 :: (V ++ [13, 10]) : List Int) = (32 :: V) ++ [13, 10] by simp, List.take_left]
          have hus : u.size ≤ 65536 := by rw [← hu, ByteArray.size_extract]; omega
          have pass := spec_pass s u K hs hus hkl u.size (bs u) 0 [] (by rw [bs_length]; omega) (by rw [List.drop_zero]) (by simp) (by omega) (by rw [hub]; simp)
          have hur : ∀ x ∈ V, 0 ≤ x ∧ x < 256 := fun x hx => bs_range u x (by rw [hub]; simp [hx])
          have eu : unf (32 :: V) = (unf V).map (32 :: ·) := by rw [unf, if_neg (by omega)]
          rw [hub, eu] at pass
          have hval : val (bs s) = rep V := val_eq rfl hB
          refine ⟨fin (s.extract 0 K) [] ((unf V).map (32 :: ·)), ?_, ?_, pre _ ?_⟩
          rotate_left 2
          · refine Ev.step (fun k => by rw [spec_l03Unfold.j2]) ?_
            rw [wn1 K (by omega), wm2 s.size (by omega) (by omega)]
            refine Evx.neg (by rw [hsp]; simp) (Evx.pos (by omega) (Evx.pos (by omega) (Evx.pos (by omega) ?_)))
            simp only [Int.toNat_natCast]
            rw [hu]
            exact pass
          · cases hq : unf V with
            | none =>
              refine ⟨(fun e => by cases e), ?_⟩
              rintro ⟨_, _, V2, e2, sf⟩
              have : rep V2 = rep V := (val_eq rfl e2).symm.trans hval
              rw [this] at sf
              have := sf.2.1 13 (unf_none V.length V (Nat.le_refl _) hq)
              omega
            | some v =>
              have hv := unf_some V.length V v (Nat.le_refl _) hq
              have e1 : ([] ++ (32 :: v) : List Int).drop 1 = v := rfl
              simp only [Option.map_some, fin, e1, decide_eq_true_eq]
              rw [← hv, bs_strOfNums (rep_within hur)]
              constructor
              · intro sf; exact ⟨h58, hh, V, hB, sf⟩
              · rintro ⟨_, _, V2, e2, sf⟩
                have : rep V2 = rep V := (val_eq rfl e2).symm.trans hval
                rw [← this]; exact sf
          · cases hq : unf V with
            | none => intro e; cases e
            | some v =>
              have hv := unf_some V.length V v (Nat.le_refl _) hq
              have e1 : ([] ++ (32 :: v) : List Int).drop 1 = v := rfl
              simp only [Option.map_some, fin, e1]
              intro e
              rw [hval, hv, e]
        · refine ⟨(⟨#[]⟩, ⟨#[]⟩, false), ⟨(fun e => by cases e), ?_⟩, (fun e => by cases e), pre _ (by rw [show (B.getD 0 0 != 32) = true by simpa using hsp]; exact bad)⟩
          rintro ⟨_, _, V, e, _⟩
          have e' := List.append_cancel_left (hB.symm.trans e)
          exfalso; apply hsp
          rw [show B = 32 :: (V ++ [13, 10]) by simpa using e']
          rfl
      · have k1 := spec_hname (s.extract 0 K) (by rw [ByteArray.size_extract]; omega)
        rw [hnm, decide_eq_false hh] at k1
        refine ⟨(⟨#[]⟩, ⟨#[]⟩, false), ⟨(fun e => by cases e), fun e => absurd e.2.1 hh⟩, (fun e => by cases e), ?_⟩
        refine Ev.step (fun k => by rw [spec_l03Unfold.j1]) ?_
        rw [wn3 K (by omega), wm2 s.size (by omega) (by omega), wn1 K (by omega)]
        refine Evx.neg (by omega) (Evx.pos (by omega) (Evx.pos (by omega) (Evx.pos (by rw [Int.toNat_natCast]; exact hte.2 htl) (Evx.pos (by omega) (Evx.pos (by omega) ?_)))))
        rw [Int.toNat_natCast]
        exact Ev.bind k1 (Evx.neg (by simp) bad)
    · refine ⟨(⟨#[]⟩, ⟨#[]⟩, false), ⟨(fun e => by cases e), ?_⟩, (fun e => by cases e), ?_⟩
      · rintro ⟨_, _, V, e, _⟩
        exfalso; apply htl
        rw [← bs_length]
        have e5 : bs s = (nm (bs s) ++ 58 :: 32 :: V) ++ [13, 10] := e.trans (by simp)
        exact ((tail2 (B := bs s) (V := [])).2 ⟨_, e5⟩).1
      · refine Ev.step (fun k => by rw [spec_l03Unfold.j1]) ?_
        rw [wn3 K (by omega), wm2 s.size (by omega) (by omega)]
        refine Evx.neg (by omega) (Evx.pos (by omega) (Evx.pos (by omega) (Evx.neg (by rw [Int.toNat_natCast]; exact fun e => htl (hte.1 e)) bad)))
  obtain ⟨r, h1, h2, h3⟩ := goal
  refine ⟨r, h1, h2, ?_⟩
  unfold spec_l03Unfold.f
  exact spec_find s hs s.size (bs s) 0 r (by rw [bs_length]; omega) (by rw [List.drop_zero]) h3
end Go.Proofs.YtebmhicdlamnbaaDoor.UQFnExactUnfoldHeader
