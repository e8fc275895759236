/- The plain law of FieldOf: both sides answer the same. Conditions: none. -/
import Derived.Test.YteknchhlineciaaPairsFnExactFieldOf
namespace Go.Proofs.Yteknchhlineciaa.Pure
open Go.RowKit Go.Proofs.Yteknchhlineciaa.QFnExactFieldOf Go.Proofs.YteknchhlineciaaW.PrintWords Go.Proofs.YteknchhlineciaaW.PrintLast Go.Proofs.YteknchhlineciaaW.PrintMore Go.Proofs.Yteknchhlineciaa.Evx Go.Proofs.Yteknchhlineciaa.PairsFnExactFieldOf
set_option linter.unusedSimpArgs false
set_option linter.unusedVariables false
theorem low_eq (a : ByteArray) : spec_l07Lower.f a = impl_lower.f a := rfl
theorem low_some (a : ByteArray) (h : a.size ≤ 140737488351232) : ∃ b, impl_lower.f a = some b := ⟨_, if_pos (by omega)⟩
theorem ix_some (t : ByteArray) : ∀ (m : List S75) (k : Nat), (∀ x ∈ m, x.f0.size ≤ 140737488351232) → ∃ j, impl_FieldOf.ix m t k = some j
  | [], k, _ => ⟨_, rfl⟩
  | x :: xs, k, h => by
    obtain ⟨b, hb⟩ := low_some x.f0 (h x (List.mem_cons_self ..))
    rw [impl_FieldOf.ix, hb, Option.bind_some]
    by_cases e : b.toList = t.toList
    · rw [if_pos e]
      exact ⟨_, rfl⟩
    · rw [if_neg e]
      exact ix_some t xs (k + 1) (fun y hy => h y (List.mem_cons_of_mem _ hy))
theorem spec_loop (a1 t lt : ByteArray) (m : List S75) (hm : m.length ≤ 1048576) (hlt : impl_lower.f t = some lt) (d : Nat) : ∀ (i : Nat) (j : Int), i + d = m.length → impl_FieldOf.ix (m.drop i) lt i = some j →
    Ev (fun k => spec_l07Field.l0 k t (i : Int) m a1) (if j < 0 then ((⟨#[]⟩ : ByteArray), false) else ((rd_T75 m j).f1, true)) := by
  induction d with
  | zero =>
    intro i j hi hj
    refine Ev.step (fun k => by rw [spec_l07Field.l0]) ?_
    rw [List.drop_eq_nil_of_le (by omega)] at hj
    obtain rfl := Option.some.inj hj
    exact Evx.neg (by omega) (Ev.now _)
  | succ d ih =>
    intro i j hi hj
    have hil : i < m.length := by omega
    refine Ev.step (fun k => by rw [spec_l07Field.l0]) ?_
    have er : rd_T75 m (i : Int) = m[i] := by simp [rd_T75, List.getD_eq_getElem?_getD, List.getElem?_eq_getElem hil]
    rw [List.drop_eq_getElem_cons hil, impl_FieldOf.ix, ← er] at hj
    obtain ⟨b, hb, hj⟩ := Option.bind_eq_some_iff.mp hj
    refine Evx.pos (by omega) (Evx.pos (by omega) (Evx.bindc hb (Evx.bindc hlt ?_)))
    by_cases h : b.toList = lt.toList
    · rw [if_pos h] at hj
      obtain rfl := Option.some.inj hj
      refine Evx.pos h (Evx.eq (Ev.now _) ?_)
      rw [if_neg (by omega)]
    · rw [if_neg h] at hj
      refine Evx.neg h ?_
      rw [Evx.w64 (by omega) (by omega)]
      exact ih (i + 1) j (by omega) hj
theorem both (a1 t : ByteArray) (m : List S75) (hm : m.length ≤ 1048576) (hs : ∀ x ∈ m, x.f0.size ≤ 140737488351232) (ht : t.size ≤ 1048576) :
    ∃ r, Ev (fun k => spec_FieldOf.f k m a1 t) r ∧ impl_FieldOf.f m a1 t = some r := by
  unfold spec_FieldOf.f impl_FieldOf.f
  by_cases h : (t.size : Int) > 65536
  · exact ⟨_, Evx.pos h (Ev.now _), if_pos h⟩
  rw [if_neg h]
  by_cases h2 : (m.length : Int) > 40
  · exact ⟨_, Evx.neg h (Evx.pos h2 (Ev.now _)), if_pos h2⟩
  rw [if_neg h2]
  obtain ⟨lt, hlt⟩ := low_some t (by omega)
  obtain ⟨j, hj⟩ := ix_some lt m 0 hs
  have hsp := spec_loop a1 t lt m hm hlt m.length 0 j (by omega) hj
  rw [hlt, Option.bind_some, hj, Option.bind_some]
  by_cases hn : j < 0
  · rw [if_pos hn] at hsp ⊢
    refine ⟨_, Evx.neg h (Evx.neg h2 (Ev.bind (a := ((⟨#[]⟩ : ByteArray), false)) ?_ (Evx.neg (by simp) (Ev.now _)))), rfl⟩
    unfold spec_l07Field.f
    exact hsp
  · rw [if_neg hn] at hsp ⊢
    refine ⟨_, Evx.neg h (Evx.neg h2 (Ev.bind (a := ((rd_T75 m j).f1, true)) ?_ (Evx.pos rfl (Ev.now _)))), rfl⟩
    unfold spec_l07Field.f
    exact hsp
theorem FnExactFieldOf (l : List S74) (a1 t : ByteArray) (hl : l.length ≤ 9223372036854775807) (h1 : a1.size ≤ 140737488351232) (hs : ∀ x ∈ l, x.f0.size ≤ 140737488351232) :
    ∃ k, laws_FnExactFieldOf.f k l a1 t = some true := by
  refine Ev.rounds (g := fun k => laws_FnExactFieldOf.f k l a1 t) ?_
  unfold laws_FnExactFieldOf.f
  refine Evx.ite (fun _ => Ev.now _) (fun ht => ?_)
  obtain ⟨z, hz, hz2⟩ : ∃ z, Ev (fun k => laws_szMail.f k l a1 1048576) z ∧ (0 ≤ z → l.length ≤ 1048576) := by
    unfold laws_szMail.f
    obtain ⟨y, hy, hy2⟩ := sz_row l hl 1048576 (by omega) (by omega)
    by_cases hyn : y < 0
    · exact ⟨-1, Ev.bind hy (Evx.pos hyn (Ev.now _)), fun h => by omega⟩
    · by_cases h3 : (wrap64 (y - (a1.size : Int))) < 0
      · exact ⟨-1, Ev.bind hy (Evx.neg hyn (Evx.pos h3 (Ev.now _))), fun h => by omega⟩
      · exact ⟨_, Ev.bind hy (Evx.neg hyn (Evx.neg h3 (Ev.now _))), fun _ => hy2 (by omega)⟩
  refine Ev.bind hz (Evx.ite (fun _ => Ev.now _) (fun hzn => ?_))
  have hlen := hz2 (by omega)
  have hc : Ev (fun k => laws_toMail.f k l a1) (l.map conv, a1) := by
    unfold laws_toMail.f
    exact Ev.bind (copied l hlen) (Ev.now _)
  have hml : (l.map conv).length ≤ 1048576 := by rw [List.length_map]; exact hlen
  have hms : ∀ x ∈ l.map conv, x.f0.size ≤ 140737488351232 := by
    intro x hx
    obtain ⟨y, hy, rfl⟩ := List.mem_map.1 hx
    exact hs y hy
  generalize l.map conv = m at hc hml hms
  obtain ⟨w, hw1, hw2⟩ := both a1 t m hml hms (by omega)
  refine Ev.bind hc (Ev.bind hw1 (Ev.bind hc (Evx.bindc hw2 (Evx.pos rfl ?_))))
  have he : Ev (fun k => laws_eqMail.f k m a1 m a1) true := by
    unfold laws_eqMail.f
    exact Ev.bind (same m hml) (Evx.pos rfl (Evx.pos rfl (Ev.now _)))
  refine Ev.step (fun k => by rw [laws_FnExactFieldOf.j0]) ?_
  exact Evx.neg (by simp) (Ev.bind hc (Ev.bind he (Evx.pos rfl (Ev.now _))))
end Go.Proofs.Yteknchhlineciaa.Pure
