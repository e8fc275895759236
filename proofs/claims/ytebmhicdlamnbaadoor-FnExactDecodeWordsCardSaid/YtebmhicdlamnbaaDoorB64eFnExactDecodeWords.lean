/- Base 64 read: the reference's reader gives 'specR', the program's 'laxR'. Conditions: texts of at most 1048576 bytes. -/
import Derived.Test.YtebmhicdlamnbaaDoorB64dFnExactDecodeWords
namespace Go.Proofs.YtebmhicdlamnbaaDoor.DQFnExactDecodeWords
open Go.RowKit Go.Proofs.YtebmhicdlamnbaaDoor.QFnExactDecodeWords Go.Proofs.YtebmhicdlamnbaaDoorW.PrintWords Go.Proofs.YtebmhicdlamnbaaDoorW.PrintLast Go.Proofs.YtebmhicdlamnbaaDoorW.PrintMore
open Go.Proofs.YtebmhicdlamnbaaDoor.Evx Go.Proofs.YtebmhicdlamnbaaDoor.Bsx Go.Proofs.YtebmhicdlamnbaaDoor.BQFnExactDecodeWords
set_option linter.unusedSimpArgs false
set_option linter.unusedVariables false
section
variable {s : ByteArray} {out : List Int} {p n c : Int} {R : List Int × Bool}
theorem wp {x : Int} (h0 : 0 ≤ x) (h1 : x ≤ 100000000) : wrap64 x = x := Evx.w64 (by omega) (by omega)
/-- A sign that fills. -/
theorem s_fill {k f : Int} (hs : s.size ≤ 1048576) (hp : 0 ≤ p) (hk : 2 ≤ k) (hk4 : k < 4) (hf : 0 ≤ f ∧ f ≤ 4) (hn : 0 ≤ n ∧ n < 262144) (hb : bt s (p + k) = 61) (hl : p + 4 = s.size)
    (h : Ev (fun m => spec_l02Read.l1 m s out p (n * 64) (f + 1) (k + 1)) R) : Ev (fun m => spec_l02Read.l1 m s out p n f k) R := by
  refine Ev.step (fun m => by rw [spec_l02Read.l1]) ?_
  rw [wp (x := p + k) (by omega) (by omega), wp (x := p + 4) (by omega) (by omega), hb]
  refine Evx.pos hk4 (Evx.pos (by omega) (Evx.pos (by omega) (Evx.pos rfl (Evx.pos hl ?_))))
  rw [decide_eq_true (show k ≥ 2 from hk)]
  refine Ev.step (fun m => by rw [spec_l02Read.j2]) ?_
  rw [wp (x := n * 64) (by omega) (by omega), wp (x := f + 1) (by omega) (by omega), wp (x := k + 1) (by omega) (by omega)]
  exact Evx.pos rfl h
theorem s_go {k f : Int} (hs : s.size ≤ 1048576) (hp : 0 ≤ p) (hk : 0 ≤ k) (hk4 : k < 4) (hpk : p + k < s.size) (hb : bt s (p + k) = c) (hnf : ¬ (c = 61 ∧ p + 4 = s.size ∧ 2 ≤ k))
    (h : Ev (fun m => spec_l02Read.j2 m s out p n f k c false) R) : Ev (fun m => spec_l02Read.l1 m s out p n f k) R := by
  refine Ev.step (fun m => by rw [spec_l02Read.l1]) ?_
  rw [wp (x := p + k) (by omega) (by omega), wp (x := p + 4) (by omega) (by omega), hb]
  refine Evx.pos hk4 (Evx.pos (by omega) (Evx.pos hpk (Evx.ite (fun a => Evx.ite (fun b => ?_) (fun b => h)) (fun a => h))))
  rw [decide_eq_false (show ¬ k ≥ 2 from fun x => hnf ⟨a, b, x⟩)]
  exact h
theorem s_sign {k : Int} (hs : s.size ≤ 1048576) (hp : 0 ≤ p) (hk : 0 ≤ k) (hk4 : k < 4) (hpk : p + k < s.size) (hn : 0 ≤ n ∧ n < 262144) (hb : bt s (p + k) = c) (hc : 0 ≤ c ∧ c < 256) (hnf : ¬ (c = 61 ∧ p + 4 = s.size ∧ 2 ≤ k)) (hv : 0 ≤ dv c)
    (h : Ev (fun m => spec_l02Read.l1 m s out p (n * 64 + dv c) 0 (k + 1)) R) : Ev (fun m => spec_l02Read.l1 m s out p n 0 k) R := by
  refine s_go hs hp hk hk4 hpk hb hnf ?_
  have hr := dv_range c hc
  refine Ev.step (fun m => by rw [spec_l02Read.j2]) ?_
  rw [wp (x := n * 64) (by omega) (by omega), wp (x := k + 1) (by omega) (by omega)]
  refine Evx.neg (by simp) (Ev.bind (letter_dv c hc) (Evx.neg (by omega) (Evx.neg (by omega) ?_)))
  rw [wp (x := n * 64 + dv c) (by omega) (by omega)]
  exact h
theorem s_bad {k f : Int} (hs : s.size ≤ 1048576) (hp : 0 ≤ p) (hk : 0 ≤ k) (hk4 : k < 4) (hpk : p + k < s.size) (hb : bt s (p + k) = c) (hc : 0 ≤ c ∧ c < 256) (hnf : ¬ (c = 61 ∧ p + 4 = s.size ∧ 2 ≤ k)) (hv : dv c < 0 ∨ f > 0) :
    Ev (fun m => spec_l02Read.l1 m s out p n f k) (([] : List Int), false) := by
  refine s_go hs hp hk hk4 hpk hb hnf ?_
  refine Ev.step (fun m => by rw [spec_l02Read.j2]) ?_
  refine Evx.neg (by simp) (Ev.bind (letter_dv c hc) (Evx.ite (fun a => Ev.now _) (fun a => Evx.pos (by omega) (Ev.now _))))
theorem s_three {f : Int} (hn : 0 ≤ n ∧ n < 16777216) (hf : 0 ≤ f ∧ f ≤ 3) (h : Ev (fun m => spec_l02Read.l2 m s out p f (three n) (3 - f)) R) : Ev (fun m => spec_l02Read.l1 m s out p n f 4) R := by
  refine Ev.step (fun m => by rw [spec_l02Read.l1]) ?_
  have t1 : Int.tdiv n 65536 = n / 65536 := Int.tdiv_eq_ediv_of_nonneg hn.1
  have t2 : Int.tdiv n 256 = n / 256 := Int.tdiv_eq_ediv_of_nonneg hn.1
  rw [t1, t2, wp (x := n / 65536) (by omega) (by omega), wp (x := n / 256) (by omega) (by omega), wp (x := 3 - f) (by omega) (by omega)]
  exact Evx.neg (by omega) h
theorem l2_zero {f i : Int} {T : List Int} (hT : T.length = 3) (hi : 0 ≤ i ∧ i < 3) (hz : rd T i = 0) (h : Ev (fun m => spec_l02Read.l2 m s out p f T (i + 1)) R) : Ev (fun m => spec_l02Read.l2 m s out p f T i) R := by
  refine Ev.step (fun m => by rw [spec_l02Read.l2]) ?_
  rw [wp (x := i + 1) (by omega) (by omega)]
  exact Evx.pos hi.2 (Evx.pos hi.1 (Evx.pos (by omega) (Evx.pos hz h)))
theorem l2_bad {f i : Int} {T : List Int} (hT : T.length = 3) (hi : 0 ≤ i ∧ i < 3) (hz : rd T i ≠ 0) : Ev (fun m => spec_l02Read.l2 m s out p f T i) (([] : List Int), false) := by
  refine Ev.step (fun m => by rw [spec_l02Read.l2]) ?_
  exact Evx.pos hi.2 (Evx.pos hi.1 (Evx.pos (by omega) (Evx.neg hz (Ev.now _))))
theorem l2_end {f : Int} {T : List Int} (hT : T.length = 3) (hp : 0 ≤ p ∧ p ≤ 1048576) (hf : 0 ≤ f ∧ f ≤ 3) (ho : out.length ≤ 4000000) (h : Ev (fun m => spec_l02Read.l0 m s (out ++ T.take (3 - f).toNat) (p + 4)) R) : Ev (fun m => spec_l02Read.l2 m s out p f T 3) R := by
  refine Ev.step (fun m => by rw [spec_l02Read.l2]) ?_
  rw [wp (x := 3 - f) (by omega) (by omega), wp (x := p + 4) (by omega) (by omega)]
  exact Evx.neg (by omega) (Evx.pos (by omega) (Evx.pos (by omega) (Evx.bindc rfl (Evx.pos (by rw [List.length_take]; omega) h))))
/-- One sign of the program's reader. -/
theorem i_step {k m0 : Int} (hs : s.size ≤ 1048576) (hp : 0 ≤ p) (hk : 0 ≤ k) (hk4 : k < 4) (hpk : p + k < s.size) (hn : 0 ≤ n ∧ n < 262144) (hm : -4 ≤ m0 ∧ m0 ≤ 4) (hb : bt s (p + k) = c) (hc : 0 ≤ c ∧ c < 256) (hv : ¬ lv c < 0)
    (h : Ev (fun m => impl_readBase64.l1 m s out p (n * 64 + lv c) (m0 - (fl c : Int)) (k + 1)) R) : Ev (fun m => impl_readBase64.l1 m s out p n m0 k) R := by
  refine Ev.step (fun m => by rw [impl_readBase64.l1]) ?_
  rw [wp (x := p + k) (by omega) (by omega), hb]
  refine Evx.pos hk4 (Evx.pos (by omega) (Evx.pos hpk (Evx.bindc (index_dv c) ?_)))
  have hr := dv_range c hc
  unfold lv at h hv
  unfold fl at h
  rw [wp (x := n * 64) (by omega) (by omega), wp (x := k + 1) (by omega) (by omega)]
  by_cases e : c = 61
  · refine Evx.pos e ?_
    rw [if_pos e, if_pos e] at h
    rw [wp (x := n * 64 + 0) (by omega) (by omega), show wrap64 (m0 - 1) = m0 - 1 from Evx.w64 (by omega) (by omega)]
    exact h
  · rw [if_neg e, if_neg e] at h
    rw [if_neg e] at hv
    rw [wp (x := n * 64 + dv c) (by omega) (by omega)]
    refine Evx.neg e (Evx.neg hv (Evx.fn h ?_))
    funext m
    rw [show m0 - ((0 : Nat) : Int) = m0 by omega]
theorem i_bad {k m0 : Int} (hs : s.size ≤ 1048576) (hp : 0 ≤ p) (hk : 0 ≤ k) (hk4 : k < 4) (hpk : p + k < s.size) (hb : bt s (p + k) = c) (hv : lv c < 0) : Ev (fun m => impl_readBase64.l1 m s out p n m0 k) (([] : List Int), false) := by
  refine Ev.step (fun m => by rw [impl_readBase64.l1]) ?_
  rw [wp (x := p + k) (by omega) (by omega), hb]
  unfold lv at hv
  have e : ¬ c = 61 := fun e => by rw [if_pos e] at hv; omega
  rw [if_neg e] at hv
  exact Evx.pos hk4 (Evx.pos (by omega) (Evx.pos hpk (Evx.bindc (index_dv c) (Evx.neg e (Evx.pos hv (Ev.now _))))))
theorem i_few {m0 : Int} (hm : m0 < 1) : Ev (fun m => impl_readBase64.l1 m s out p n m0 4) (([] : List Int), false) := by
  refine Ev.step (fun m => by rw [impl_readBase64.l1]) ?_
  exact Evx.neg (by omega) (Evx.pos hm (Ev.now _))
theorem i_end {m0 : Int} (hp : 0 ≤ p ∧ p ≤ 1048576) (hm : 1 ≤ m0 ∧ m0 ≤ 3) (ho : out.length ≤ 4000000) (h : Ev (fun m => impl_readBase64.l0 m s (out ++ (three n).take m0.toNat) (p + 4)) R) : Ev (fun m => impl_readBase64.l1 m s out p n m0 4) R := by
  refine Ev.step (fun m => by rw [impl_readBase64.l1]) ?_
  rw [wp (x := p + 4) (by omega) (by omega)]
  refine Evx.neg (by omega) (Evx.neg (by omega) (Evx.bindc (b := three n) rfl ?_))
  have h3 : (three n).length = 3 := rfl
  exact Evx.pos (by omega) (Evx.pos (by omega) (Evx.bindc rfl (Evx.pos (by rw [List.length_take]; omega) h)))
end
/-- The four signs of a group, as the text holds them. -/
theorem four_at {s : ByteArray} {p : Nat} {a b c d : Int} {r : List Int} (h : (bs s).drop p = a :: b :: c :: d :: r) :
    (bt s ((p : Int) + 0) = a ∧ bt s ((p : Int) + 1) = b ∧ bt s ((p : Int) + 2) = c ∧ bt s ((p : Int) + 3) = d) ∧ (bs s).drop (p + 4) = r ∧ s.size = p + 4 + r.length ∧ ((0 ≤ a ∧ a < 256) ∧ (0 ≤ b ∧ b < 256) ∧ (0 ≤ c ∧ c < 256) ∧ (0 ≤ d ∧ d < 256)) := by
  have e0 : bt s ((p : Int) + 0) = a := by rw [bt_getD s _ p 0 (by omega), h]; rfl
  have e1 : bt s ((p : Int) + 1) = b := by rw [bt_getD s _ p 1 (by omega), h]; rfl
  have e2 : bt s ((p : Int) + 2) = c := by rw [bt_getD s _ p 2 (by omega), h]; rfl
  have e3 : bt s ((p : Int) + 3) = d := by rw [bt_getD s _ p 3 (by omega), h]; rfl
  have hl := congrArg List.length h
  rw [drop_len] at hl
  simp only [List.length_cons] at hl
  refine ⟨⟨e0, e1, e2, e3⟩, ?_, by omega, ?_⟩
  · rw [show p + 4 = p + 4 from rfl, ← List.drop_drop, h]; rfl
  · rw [← e0, ← e1, ← e2, ← e3]; exact ⟨bt_lt _ _, bt_lt _ _, bt_lt _ _, bt_lt _ _⟩
theorem three_len (n : Int) : (three n).length = 3 := rfl
theorem spec_group {s : ByteArray} {p : Nat} {a b c d : Int} {r out : List Int} {R : List Int × Bool} (hs : s.size ≤ 1048576) (h : (bs s).drop p = a :: b :: c :: d :: r) (ho : out.length ≤ 4000000)
    (hbad : group r.isEmpty a b c d = none → R = ([], false)) (hgo : ∀ x, group r.isEmpty a b c d = some x → Ev (fun m => spec_l02Read.l0 m s (out ++ x) ((p : Int) + 4)) R) :
    Ev (fun m => spec_l02Read.l0 m s out (p : Int)) R := by
  obtain ⟨⟨ea, eb, ec, ed⟩, hd, hsz, ha, hb, hc, hdd⟩ := four_at h
  have ra := dv_range a ha
  have rb := dv_range b hb
  have rc := dv_range c hc
  have rd' := dv_range d hdd
  have hlast : r.isEmpty = true ↔ (p : Int) + 4 = s.size := by
    cases r with
    | nil => simp at hsz; simp; omega
    | cons x y => simp at hsz; simp; omega
  refine Ev.step (fun m => by rw [spec_l02Read.l0]) ?_
  refine Evx.pos (by omega) ?_
  unfold group at hbad hgo
  by_cases h1 : dv a < 0
  · rw [if_pos (Or.inl h1)] at hbad
    rw [hbad rfl]
    exact s_bad hs (by omega) (by omega) (by omega) (by omega) ea ha (by omega) (Or.inl h1)
  refine s_sign hs (by omega) (by omega) (by omega) (by omega) (by omega) ea ha (by omega) (by omega) ?_
  by_cases h2 : dv b < 0
  · rw [if_pos (Or.inr h2)] at hbad
    rw [hbad rfl]
    exact s_bad hs (by omega) (by omega) (by omega) (by omega) eb hb (by omega) (Or.inl h2)
  refine s_sign hs (by omega) (by omega) (by omega) (by omega) (by omega) eb hb (by omega) (by omega) ?_
  rw [if_neg (by omega)] at hbad hgo
  by_cases h3 : r.isEmpty = true ∧ c = 61
  · rw [if_pos h3] at hbad hgo
    have hl := hlast.1 h3.1
    refine s_fill hs (by omega) (by omega) (by omega) (by omega) (by omega) (by rw [← h3.2]; exact ec) hl ?_
    by_cases h4 : d = 61
    · refine s_fill hs (by omega) (by omega) (by omega) (by omega) (by omega) (by rw [← h4]; exact ed) hl ?_
      refine s_three (by omega) (by omega) ?_
      have e1 : rd (three (((0 * 64 + dv a) * 64 + dv b) * 64 * 64)) 1 = (dv b * 4096) / 256 % 256 := by
        unfold three rd
        simp only [Int.reduceToNat, List.getD_cons_succ, List.getD_cons_zero]; omega
      have e2 : rd (three (((0 * 64 + dv a) * 64 + dv b) * 64 * 64)) 2 = 0 := by
        unfold three rd
        simp only [Int.reduceToNat, List.getD_cons_succ, List.getD_cons_zero]; omega
      by_cases h5 : (dv b * 4096) / 256 % 256 = 0
      · rw [if_pos ⟨h4, h5⟩] at hgo
        refine l2_zero (three_len _) (by omega) (by rw [show (3 : Int) - (0 + 1 + 1) = 1 from rfl, e1]; exact h5) ?_
        refine l2_zero (three_len _) (by omega) (by rw [show (3 : Int) - (0 + 1 + 1) + 1 = 2 from rfl]; exact e2) ?_
        refine l2_end (three_len _) (by omega) (by omega) ho ?_
        refine Evx.fn (hgo _ rfl) ?_
        funext m
        have e3 : num (dv a) (dv b) 0 0 = ((0 * 64 + dv a) * 64 + dv b) * 64 * 64 := by unfold num; omega
        rw [e3]; rfl
      · rw [if_neg (fun x => h5 x.2)] at hbad
        rw [hbad rfl]
        exact l2_bad (three_len _) (by omega) (by rw [show (3 : Int) - (0 + 1 + 1) = 1 from rfl, e1]; exact h5)
    · rw [if_neg (fun x => h4 x.1)] at hbad
      rw [hbad rfl]
      exact s_bad hs (by omega) (by omega) (by omega) (by omega) ed hdd (by omega) (Or.inr (by omega))
  rw [if_neg h3] at hbad hgo
  have h3' : ¬ (c = 61 ∧ (p : Int) + 4 = s.size ∧ (2 : Int) ≤ 2) := fun x => h3 ⟨hlast.2 x.2.1, x.1⟩
  by_cases h4 : dv c < 0
  · rw [if_pos h4] at hbad
    rw [hbad rfl]
    exact s_bad hs (by omega) (by omega) (by omega) (by omega) ec hc h3' (Or.inl h4)
  refine s_sign hs (by omega) (by omega) (by omega) (by omega) (by omega) ec hc h3' (by omega) ?_
  rw [if_neg h4] at hbad hgo
  by_cases h5 : r.isEmpty = true ∧ d = 61
  · rw [if_pos h5] at hbad hgo
    refine s_fill hs (by omega) (by omega) (by omega) (by omega) (by omega) (by rw [← h5.2]; exact ed) (hlast.1 h5.1) ?_
    refine s_three (by omega) (by omega) ?_
    have e2 : rd (three ((((0 * 64 + dv a) * 64 + dv b) * 64 + dv c) * 64)) 2 = (dv c * 64) % 256 := by
      unfold three rd
      simp only [Int.reduceToNat, List.getD_cons_succ, List.getD_cons_zero]; omega
    by_cases h6 : (dv c * 64) % 256 = 0
    · rw [if_pos h6] at hgo
      refine l2_zero (three_len _) (by omega) (by rw [show (3 : Int) - (0 + 1) = 2 from rfl, e2]; exact h6) ?_
      refine l2_end (three_len _) (by omega) (by omega) ho ?_
      refine Evx.fn (hgo _ rfl) ?_
      funext m
      have e3 : num (dv a) (dv b) (dv c) 0 = (((0 * 64 + dv a) * 64 + dv b) * 64 + dv c) * 64 := by unfold num; omega
      rw [e3]; rfl
    · rw [if_neg h6] at hbad
      rw [hbad rfl]
      exact l2_bad (three_len _) (by omega) (by rw [show (3 : Int) - (0 + 1) = 2 from rfl, e2]; exact h6)
  rw [if_neg h5] at hbad hgo
  have h5' : ¬ (d = 61 ∧ (p : Int) + 4 = s.size ∧ (2 : Int) ≤ 3) := fun x => h5 ⟨hlast.2 x.2.1, x.1⟩
  by_cases h6 : dv d < 0
  · rw [if_pos h6] at hbad
    rw [hbad rfl]
    exact s_bad hs (by omega) (by omega) (by omega) (by omega) ed hdd h5' (Or.inl h6)
  refine s_sign hs (by omega) (by omega) (by omega) (by omega) (by omega) ed hdd h5' (by omega) ?_
  rw [if_neg h6] at hgo
  refine s_three (by omega) (by omega) ?_
  refine l2_end (three_len _) (by omega) (by omega) ho ?_
  refine Evx.fn (hgo _ rfl) ?_
  funext m
  have e3 : num (dv a) (dv b) (dv c) (dv d) = ((((0 * 64 + dv a) * 64 + dv b) * 64 + dv c) * 64 + dv d) := by unfold num; omega
  rw [e3]; rfl
theorem spec_from64 (s : ByteArray) (hs : s.size ≤ 1048576) (l : List Int) (out : List Int) : ∀ p : Nat, (bs s).drop p = l → l.length % 4 = 0 → out.length ≤ 2 * p → Ev (fun m => spec_l02Read.l0 m s out (p : Int)) (specR out l) := by
  fun_induction specR out l with
  | case1 out a b c d r hg =>
    intro p h h4 ho
    have hz := (four_at h).2.2.1
    exact spec_group hs h (by omega) (fun _ => rfl) (fun x hx => by rw [hg] at hx; cases hx)
  | case2 out a b c d r x hg ih =>
    intro p h h4 ho
    obtain ⟨_, hd, hz, ha, hb, hc, hdd⟩ := four_at h
    have hx3 := (group_ok ha hb hc hdd hg).2.2.2.2.2
    refine spec_group hs h (by omega) (fun hn => by rw [hg] at hn; cases hn) (fun y hy => ?_)
    rw [hg] at hy
    obtain rfl := Option.some.inj hy
    exact ih (p + 4) hd (by simp at h4; omega) (by rw [List.length_append]; omega)
  | case3 l out hl =>
    intro p h h4 ho
    have hnil : l = [] := by
      match l, hl with
      | [], _ => rfl
      | [_], _ => simp at h4
      | [_, _], _ => simp at h4
      | [_, _, _], _ => simp at h4
      | a :: b :: c :: d :: r, hl => exact (hl a b c d r rfl).elim
    subst hnil
    have := drop_nil h
    refine Ev.step (fun m => by rw [spec_l02Read.l0]) ?_
    exact Evx.neg (by omega) (Ev.now _)
theorem fl_le (c : Int) : fl c ≤ 1 := by unfold fl; split <;> omega
theorem lv_le (c : Int) (h : 0 ≤ c ∧ c < 256) : lv c < 64 := by
  have := dv_range c h
  unfold lv; split <;> omega
theorem impl_from64 (s : ByteArray) (hs : s.size ≤ 1048576) (l : List Int) (out : List Int) : ∀ p : Nat, (bs s).drop p = l → p ≤ s.size → p % 4 = 0 → out.length ≤ 2 * p → Ev (fun m => impl_readBase64.l0 m s out (p : Int)) (laxR out l) := by
  fun_induction laxR out l with
  | case1 out =>
    intro p h hle h4 ho
    have := drop_nil h
    refine Ev.step (fun m => by rw [impl_readBase64.l0]) ?_
    rw [wp (x := (p : Int) + 4) (by omega) (by omega)]
    refine Evx.neg (by omega) (Evx.eq (Ev.now _) ?_)
    rw [show (((s.size : Int) % 4) == 0) = true by rw [beq_iff_eq]; omega]
  | case2 out a b c d r hbad =>
    intro p h hle h4 ho
    obtain ⟨⟨ea, eb, ec, ed⟩, hd, hz, ha, hb, hc, hdd⟩ := four_at h
    have la := lv_le a ha
    have lb := lv_le b hb
    have lc := lv_le c hc
    have fa := fl_le a
    have fb := fl_le b
    have fc := fl_le c
    have fd := fl_le d
    refine Ev.step (fun m => by rw [impl_readBase64.l0]) ?_
    rw [wp (x := (p : Int) + 4) (by omega) (by omega)]
    refine Evx.pos (by omega) ?_
    by_cases h1 : lv a < 0
    · exact i_bad hs (by omega) (by omega) (by omega) (by omega) ea h1
    refine i_step hs (by omega) (by omega) (by omega) (by omega) (by omega) (by omega) ea ha h1 ?_
    by_cases h2 : lv b < 0
    · exact i_bad hs (by omega) (by omega) (by omega) (by omega) eb h2
    refine i_step hs (by omega) (by omega) (by omega) (by omega) (by omega) (by omega) eb hb h2 ?_
    by_cases h3 : lv c < 0
    · exact i_bad hs (by omega) (by omega) (by omega) (by omega) ec h3
    refine i_step hs (by omega) (by omega) (by omega) (by omega) (by omega) (by omega) ec hc h3 ?_
    by_cases h5 : lv d < 0
    · exact i_bad hs (by omega) (by omega) (by omega) (by omega) ed h5
    refine i_step hs (by omega) (by omega) (by omega) (by omega) (by omega) (by omega) ed hdd h5 ?_
    exact i_few (by omega)
  | case3 out a b c d r hok ih =>
    intro p h hle h4 ho
    obtain ⟨⟨ea, eb, ec, ed⟩, hd, hz, ha, hb, hc, hdd⟩ := four_at h
    have la := lv_le a ha
    have lb := lv_le b hb
    have lc := lv_le c hc
    have fa := fl_le a
    have fb := fl_le b
    have fc := fl_le c
    have fd := fl_le d
    refine Ev.step (fun m => by rw [impl_readBase64.l0]) ?_
    rw [wp (x := (p : Int) + 4) (by omega) (by omega)]
    refine Evx.pos (by omega) ?_
    refine i_step hs (by omega) (by omega) (by omega) (by omega) (by omega) (by omega) ea ha (by omega) ?_
    refine i_step hs (by omega) (by omega) (by omega) (by omega) (by omega) (by omega) eb hb (by omega) ?_
    refine i_step hs (by omega) (by omega) (by omega) (by omega) (by omega) (by omega) ec hc (by omega) ?_
    refine i_step hs (by omega) (by omega) (by omega) (by omega) (by omega) (by omega) ed hdd (by omega) ?_
    refine i_end (by omega) (by omega) (by omega) ?_
    refine Evx.fn (ih (p + 4) hd (by omega) (by omega) (by rw [List.length_append, List.length_take, three_len]; omega)) ?_
    funext m
    have e1 : (3 - (fl a : Int) - (fl b : Int) - (fl c : Int) - (fl d : Int)).toNat = 3 - (fl a + fl b + fl c + fl d) := by omega
    have e2 : num (lv a) (lv b) (lv c) (lv d) = ((((0 * 64 + lv a) * 64 + lv b) * 64 + lv c) * 64 + lv d) := by unfold num; omega
    rw [e1, e2]; rfl
  | case4 l out h1 h2 =>
    intro p h hle h4 ho
    have hl := congrArg List.length h
    rw [drop_len] at hl
    have hlen : 1 ≤ l.length ∧ l.length ≤ 3 := by
      match l, h1, h2 with
      | [], h1, _ => exact (h1 rfl).elim
      | [_], _, _ => simp
      | [_, _], _, _ => simp
      | [_, _, _], _, _ => simp
      | a :: b :: c :: d :: r, _, h2 => exact (h2 a b c d r rfl).elim
    refine Ev.step (fun m => by rw [impl_readBase64.l0]) ?_
    rw [wp (x := (p : Int) + 4) (by omega) (by omega)]
    refine Evx.neg (by omega) (Evx.eq (Ev.now _) ?_)
    rw [show (((s.size : Int) % 4) == 0) = false by rw [beq_eq_false_iff_ne]; omega]
/-- What both readers come to. -/
def rd64 (s : ByteArray) : List Int × Bool := if s.size % 4 = 0 then specR [] (bs s) else ([], false)
theorem spec_rd (s : ByteArray) (hs : s.size ≤ 1048576) : Ev (fun k => spec_l02Read.f k s) (rd64 s) := by
  unfold spec_l02Read.f rd64
  refine Evx.ite (fun a => ?_) (fun a => ?_)
  · rw [if_pos (by omega)]
    exact spec_from64 s hs (bs s) [] 0 (by rw [List.drop_zero]) (by rw [bs_length]; omega) (by simp)
  · rw [if_neg (by omega)]; exact Ev.now _
theorem specR_or (l out : List Int) : (specR out l).2 = true ∨ specR out l = ([], false) := by
  fun_induction specR out l with
  | case1 => exact .inr rfl
  | case2 out a b c d r x hg ih => exact ih
  | case3 => exact .inl rfl
theorem impl_rd (s : ByteArray) (hs : s.size ≤ 1048576) : Ev (fun k => impl_fromBase64.f k s) (rd64 s) := by
  unfold impl_fromBase64.f impl_readBase64.f
  have h1 := impl_from64 s hs (bs s) [] 0 (by rw [List.drop_zero]) (by omega) (by omega) (by simp)
  have hlb : ∀ c ∈ bs s, 0 ≤ c ∧ c < 256 := bs_range s
  have hby := lax_bytes (bs s) [] (by simp)
  have hle := lax_len (bs s) []
  rw [bs_length] at hle
  refine Ev.bind h1 ?_
  refine Evx.ite (fun a => ?_) (fun a => ?_)
  · refine Ev.bind (impl_b64 _ (by simp at hle; omega) hby) ?_
    have heq : (strOfNums (enc (laxR [] (bs s)).1)).toList = s.toList ↔ enc (laxR [] (bs s)).1 = bs s := by
      rw [toList_iff, bs_strOfNums]
      intro x hx
      exact enc_range _ hby x hx
    refine Evx.ite (fun b => ?_) (fun b => ?_)
    · have hb := heq.1 b
      have hsp := spec_enc (laxR [] (bs s)).1 [] hby
      rw [hb] at hsp
      have hm : s.size % 4 = 0 := by
        have := enc_length (laxR [] (bs s)).1
        rw [hb, bs_length] at this
        omega
      refine Evx.eq (Ev.now _) ?_
      unfold rd64
      rw [if_pos hm, hsp]; simp
    · refine Evx.eq (Ev.now _) ?_
      unfold rd64
      by_cases hm : s.size % 4 = 0
      · rw [if_pos hm]
        rcases specR_or (bs s) [] with h2 | h2
        · obtain ⟨e1, b', e2, e3, _⟩ := spec_ok (bs s) [] hlb (by rw [bs_length]; exact hm) h2
          refine absurd (heq.2 ?_) b
          rw [e1, e2, List.nil_append]; exact e3
        · exact h2.symm
      · rw [if_neg hm]
  · refine Evx.eq (Ev.now _) ?_
    unfold rd64
    by_cases hm : s.size % 4 = 0
    · rw [if_pos hm]
      rcases specR_or (bs s) [] with h2 | h2
      · obtain ⟨e1, _⟩ := spec_ok (bs s) [] hlb (by rw [bs_length]; exact hm) h2
        rw [e1] at a
        exact absurd h2 a
      · exact h2.symm
    · rw [if_neg hm]
theorem rd64_len (s : ByteArray) : (rd64 s).1.length ≤ s.size := by
  unfold rd64
  split
  · rcases specR_or (bs s) [] with h2 | h2
    · rename_i hm
      obtain ⟨_, b', e2, _, _, e5⟩ := spec_ok (bs s) [] (bs_range s) (by rw [bs_length]; exact hm) h2
      rw [e2, List.nil_append]
      rw [bs_length] at e5; exact e5
    · rw [h2]; simp
  · simp
end Go.Proofs.YtebmhicdlamnbaaDoor.DQFnExactDecodeWords
