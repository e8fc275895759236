/- The plain law of CutRunes: the last beginning of a rune that is not behind the given place. Conditions: none. -/
import Derived.Test.YtoihdifnmcnegaaDoorU8vFnExactCutRunes
namespace Go.Proofs.YtoihdifnmcnegaaDoor.Pure
open Go.RowKit Go.Proofs.YtoihdifnmcnegaaDoor.QFnExactCutRunes Go.Proofs.YtoihdifnmcnegaaDoor.U8QFnExactCutRunes Go.Proofs.YtoihdifnmcnegaaDoorW.PrintWords Go.Proofs.YtoihdifnmcnegaaDoorW.PrintLast
/-- A byte that goes on within a rune. -/
def cont (x : Nat) : Prop := 128 ≤ x ∧ x ≤ 191
theorem start_eq (x : Nat) (h : x < 256) : utf8_RuneStart.f (x : Int) = some (!decide (128 ≤ x ∧ x ≤ 191)) := by
  have key : ∀ y : Fin 256, (Go.bits .and .u8 (y.val : Int) 192 != 128) = !decide (128 ≤ y.val ∧ y.val ≤ 191) := by decide +kernel
  unfold utf8_RuneStart.f
  rw [key ⟨x, h⟩]
theorem dec_start {s : ByteArray} {p : Nat} (h : ¬ ((dec s p).1 = 65533 ∧ (dec s p).2 = 1)) :
    ¬ cont (b s p) ∧ ∀ j, 1 ≤ j → j < (dec s p).2 → cont (b s (p + j)) := by
  have l0 := b_lt s p
  have l1 := b_lt s (p + 1)
  have l2 := b_lt s (p + 2)
  have l3 := b_lt s (p + 3)
  have key : ¬ cont (b s p) ∧ (dec s p).2 ≤ 4 ∧ (2 ≤ (dec s p).2 → cont (b s (p + 1))) ∧ (3 ≤ (dec s p).2 → cont (b s (p + 2))) ∧ (4 ≤ (dec s p).2 → cont (b s (p + 3))) := by
    revert h
    unfold cont dec Go.Lib.decodeN
    repeat' split
    all_goals (intro h; first | (exfalso; exact h ⟨rfl, rfl⟩) | (simp only; omega))
  refine ⟨key.1, fun j h1 h2 => ?_⟩
  have : j = 1 ∨ j = 2 ∨ j = 3 := by omega
  rcases this with rfl | rfl | rfl
  · exact key.2.2.1 (by omega)
  · exact key.2.2.2.1 (by omega)
  · exact key.2.2.2.2 (by omega)
theorem take_out (s : ByteArray) {K : Nat} {c : Option (ByteArray × Int)} (h : K ≤ s.size) :
    (if 0 ≤ (K : Int) then (if (K : Int) ≤ (s.size : Int) then (some (s.extract 0 (K : Int).toNat, (0 : Int))) else c) else c) = some (s.extract 0 K, 0) := by
  rw [if_pos (by omega), if_pos (by omega), Int.toNat_natCast]
theorem cut_loop (s : ByteArray) (hs : s.size ≤ 65536) (n : Int) : ∀ (d k : Nat), s.size - k ≤ d → k ≤ s.size → (k : Int) ≤ n → Go.Lib.validD (s.data.toList.drop k) = true →
    ∃ K : Nat, Ev (fun f => spec_CutRunes.l0 f s n (k : Int)) (s.extract 0 K, 0) ∧ (K : Int) ≤ n ∧ K ≤ s.size ∧
      (K < s.size → ¬ cont (b s K) ∧ ∀ j : Nat, K < j → (j : Int) ≤ n → j < s.size ∧ cont (b s j)) := by
  intro d
  induction d with
  | zero =>
    intro k hd hk hn _
    refine ⟨k, ?_, hn, hk, fun h => by omega⟩
    refine Ev.step (fun f => by rw [spec_CutRunes.l0]) ?_
    exact Evx.neg (by omega) (Evx.const (take_out s hk))
  | succ d ih =>
    intro k hd hk hn hv
    by_cases h : k < s.size
    · have hw := dec_width h
      have hne : s.data.toList.drop k ≠ [] := by
        intro e
        have := congrArg List.length e
        rw [List.length_drop, ← Evx.size_eq, List.length_nil] at this
        omega
      rw [Go.Lib.validD_step _ hne, decL h, List.drop_drop] at hv
      by_cases q : (dec s k).1 = 65533 ∧ (dec s k).2 = 1
      · rw [if_pos q] at hv
        cases hv
      rw [if_neg q] at hv
      have ht := dec_start q
      by_cases g : n < ((k + (dec s k).2 : Nat) : Int)
      · refine ⟨k, ?_, hn, hk, fun _ => ⟨ht.1, fun j h1 h2 => ?_⟩⟩
        · refine Ev.step (fun f => by rw [spec_CutRunes.l0]) ?_
          refine Evx.pos (by omega) (Ev.bind (rune (by omega) h) ?_)
          unfold out
          rw [if_neg q]
          have e : wrap64 ((k : Int) + ((dec s k).2 : Int)) = ((k + (dec s k).2 : Nat) : Int) := by
            rw [Evx.w64 (by omega) (by omega)]; omega
          show Ev (fun f => if (wrap64 ((k : Int) + ((dec s k).2 : Int))) > n then _ else _) _
          rw [e]
          clear e
          exact Evx.pos (by omega) (Evx.const (take_out s hk))
        · have := ht.2 (j - k) (by omega) (by omega)
          rw [show k + (j - k) = j by omega] at this
          exact ⟨by omega, this⟩
      · obtain ⟨K, h1, h2⟩ := ih (k + (dec s k).2) (by omega) (by omega) (by omega) hv
        refine ⟨K, ?_, h2⟩
        refine Ev.step (fun f => by rw [spec_CutRunes.l0]) ?_
        refine Evx.pos (by omega) (Ev.bind (rune (by omega) h) ?_)
        unfold out
        rw [if_neg q]
        have e : wrap64 ((k : Int) + ((dec s k).2 : Int)) = ((k + (dec s k).2 : Nat) : Int) := by
          rw [Evx.w64 (by omega) (by omega)]; omega
        show Ev (fun f => if (wrap64 ((k : Int) + ((dec s k).2 : Int))) > n then _ else spec_CutRunes.l0 f s n (wrap64 ((k : Int) + ((dec s k).2 : Int)))) _
        rw [e]
        clear e
        exact Evx.neg (by omega) h1
    · refine ⟨k, ?_, hn, hk, fun h => by omega⟩
      refine Ev.step (fun f => by rw [spec_CutRunes.l0]) ?_
      exact Evx.neg (by omega) (Evx.const (take_out s hk))
theorem back_loop (s : ByteArray) (hs : s.size ≤ 65536) (K : Nat) (hc : ¬ cont (b s K)) : ∀ (d j : Nat), j - K ≤ d → K ≤ j → j < s.size → (∀ i : Nat, K < i → i ≤ j → cont (b s i)) →
    Ev (fun f => impl_firstRunes.l0 f s (j : Int)) (s.extract 0 K) := by
  intro d
  induction d with
  | zero =>
    intro j hd hk hj _
    obtain rfl : j = K := by omega
    refine Ev.step (fun f => by rw [impl_firstRunes.l0]) ?_
    rw [bt_b, start_eq _ (b_lt _ _), Int.toNat_natCast]
    refine Evx.pos (by omega) (Evx.pos (by omega) (Evx.bindc rfl (Evx.pos ?_ (Evx.pos (by omega) (Ev.now _)))))
    rw [decide_eq_false (show ¬ (128 ≤ b s _ ∧ b s _ ≤ 191) from hc)]; rfl
  | succ d ih =>
    intro j hd hk hj hm
    by_cases e : j = K
    · subst e
      refine Ev.step (fun f => by rw [impl_firstRunes.l0]) ?_
      rw [bt_b, start_eq _ (b_lt _ _), Int.toNat_natCast]
      refine Evx.pos (by omega) (Evx.pos (by omega) (Evx.bindc rfl (Evx.pos ?_ (Evx.pos (by omega) (Ev.now _)))))
      rw [decide_eq_false (show ¬ (128 ≤ b s _ ∧ b s _ ≤ 191) from hc)]; rfl
    · have := ih (j - 1) (by omega) (by omega) (by omega) (fun i h1 h2 => hm i h1 (by omega))
      refine Ev.step (fun f => by rw [impl_firstRunes.l0]) ?_
      have e1 : wrap64 ((j : Int) - 1) = ((j - 1 : Nat) : Int) := by
        rw [Evx.w64 (by omega) (by omega)]; omega
      rw [bt_b, start_eq _ (b_lt _ _), e1]
      clear e1
      refine Evx.pos (by omega) (Evx.pos (by omega) (Evx.bindc rfl (Evx.neg ?_ this)))
      rw [decide_eq_true (show 128 ≤ b s j ∧ b s j ≤ 191 from hm j (by omega) (by omega))]; simp
theorem FnExactCutRunes : laws_FnExactCutRunes.Pure := by
  intro a0 a1 _ hwf
  have hb := Evx.wf64 hwf
  refine Ev.rounds ?_
  have last : ∀ (t : ByteArray) (e : Int), Ev (fun _ : Nat => (if (t, e).1.toList = (t, e).1.toList then (if (t, e).2 = (t, e).2 then (some true) else (some false)) else (some false))) true := fun t e =>
    Evx.pos rfl (Evx.pos rfl (Ev.now _))
  unfold laws_FnExactCutRunes.f spec_CutRunes.f impl_CutRunes.f utf8_ValidString.f
  by_cases h1 : (a0.size : Int) > 1048576
  · exact Evx.pos h1 (Ev.now _)
  refine Evx.neg h1 ?_
  by_cases h2 : (a0.size : Int) > 65536
  · exact Ev.bind (Evx.pos h2 (Ev.now _)) (Ev.bind (Evx.pos h2 (Ev.now _)) (last _ _))
  have hv := valid_eq a0 (by omega)
  have hu : (if a0.size ≤ 9223372036854775807 then some (Go.Lib.validD a0.data.toList) else none) = some (Go.Lib.validD a0.data.toList) := if_pos (by omega)
  cases hc : Go.Lib.validD a0.data.toList with
  | false =>
    rw [hc] at hv hu
    exact Ev.bind (Evx.neg h2 (Ev.bind hv (Evx.neg (by simp) (Ev.now _)))) (Ev.bind (Evx.neg h2 (Evx.bindc hu (Evx.neg (by simp) (Ev.now _)))) (last _ _))
  | true =>
    rw [hc] at hv hu
    by_cases h3 : a1 < 0
    · exact Ev.bind (Evx.neg h2 (Ev.bind hv (Evx.pos rfl (Evx.pos h3 (Ev.now _))))) (Ev.bind (Evx.neg h2 (Evx.bindc hu (Evx.pos rfl (Evx.pos h3 (Ev.now _))))) (last _ _))
    obtain ⟨K, k1, k2, k3, k4⟩ := cut_loop a0 (by omega) a1 a0.size 0 (by omega) (by omega) (by omega) hc
    refine Ev.bind (Evx.neg h2 (Ev.bind hv (Evx.pos rfl (Evx.neg h3 k1)))) (Ev.bind (Evx.neg h2 (Evx.bindc hu (Evx.pos rfl (Evx.neg h3 (Ev.bind (a := a0.extract 0 K) ?_ (Ev.now _)))))) (last _ _))
    unfold impl_firstRunes.f
    by_cases h4 : a1 ≥ (a0.size : Int)
    · refine Evx.pos h4 (Evx.eq (Ev.now _) ?_)
      have hK : K = a0.size := by
        by_cases hlt : K < a0.size
        · have := ((k4 hlt).2 a0.size hlt h4).1
          omega
        · omega
      rw [hK, ByteArray.extract_zero_size]
    · have hlt : K < a0.size := by omega
      obtain ⟨c1, c2⟩ := k4 hlt
      have e : a1 = ((a1.toNat : Nat) : Int) := by omega
      refine Evx.neg h4 ?_
      rw [e]
      exact back_loop a0 (by omega) K c1 a1.toNat a1.toNat (by omega) (by omega) (by omega) (fun i q1 q2 => (c2 i q1 (by omega)).2)
end Go.Proofs.YtoihdifnmcnegaaDoor.Pure
