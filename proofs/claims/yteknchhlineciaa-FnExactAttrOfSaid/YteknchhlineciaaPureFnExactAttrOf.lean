/- The plain law of AttrOf: both sides answer the same. Conditions: none. -/
import Derived.Test.YteknchhlineciaaPairsFnExactAttrOf
namespace Go.Proofs.Yteknchhlineciaa.Pure
open Go.RowKit Go.Proofs.Yteknchhlineciaa.QFnExactAttrOf Go.Proofs.YteknchhlineciaaW.PrintWords Go.Proofs.YteknchhlineciaaW.PrintLast Go.Proofs.YteknchhlineciaaW.PrintMore Go.Proofs.Yteknchhlineciaa.Evx Go.Proofs.Yteknchhlineciaa.PairsFnExactAttrOf
set_option linter.unusedSimpArgs false
set_option linter.unusedVariables false
theorem spec_loop (a0 : Int) (a1 a3 t : ByteArray) (l : List S52) (hl : l.length ≤ 1048576) (d : Nat) : ∀ (i : Nat), i + d = l.length →
    Ev (fun k => spec_AttrOf.l0 k t (i : Int) a0 a1 l a3) (if impl_AttrOf.ix (l.drop i) t i < 0 then ((⟨#[]⟩ : ByteArray), (5 : Int)) else ((rd_T52 l (impl_AttrOf.ix (l.drop i) t i)).f1, 0)) := by
  induction d with
  | zero =>
    intro i hi
    refine Ev.step (fun k => by rw [spec_AttrOf.l0]) ?_
    rw [List.drop_eq_nil_of_le (by omega)]
    exact Evx.neg (by omega) (Ev.now _)
  | succ d ih =>
    intro i hi
    have hil : i < l.length := by omega
    refine Ev.step (fun k => by rw [spec_AttrOf.l0]) ?_
    refine Evx.pos (by omega) (Evx.pos (by omega) ?_)
    have er : rd_T52 l (i : Int) = l[i] := by simp [rd_T52, List.getD_eq_getElem?_getD, List.getElem?_eq_getElem hil]
    rw [List.drop_eq_getElem_cons hil, impl_AttrOf.ix, ← er]
    by_cases h : (rd_T52 l (i : Int)).f0.toList = t.toList
    · rw [if_pos h]
      refine Evx.pos h (Evx.eq (Ev.now _) ?_)
      rw [if_neg (by omega)]
    · rw [if_neg h]
      refine Evx.neg h ?_
      rw [Evx.w64 (by omega) (by omega)]
      exact ih (i + 1) (by omega)
theorem FnExactAttrOf (a0 : Int) (a1 : ByteArray) (l : List S63) (a3 t : ByteArray) (h1 : a1.size ≤ 140737488351232) (hl : l.length ≤ 9223372036854775807) :
    ∃ k, laws_FnExactAttrOf.f k a0 a1 l a3 t = some true := by
  refine Ev.rounds (g := fun k => laws_FnExactAttrOf.f k a0 a1 l a3 t) ?_
  unfold laws_FnExactAttrOf.f
  refine Evx.ite (fun _ => Ev.now _) (fun ht => ?_)
  obtain ⟨z, hz, hz2⟩ : ∃ z, Ev (fun k => laws_szToken.f k a0 a1 l a3 1048576) z ∧ (0 ≤ z → l.length ≤ 1048576) := by
    unfold laws_szToken.f
    rw [Evx.w64 (by omega) (by omega)]
    by_cases hn : (1048576 - (a1.size : Int)) < 0
    · exact ⟨-1, Evx.pos hn (Ev.now _), fun h => by omega⟩
    · obtain ⟨y, hy, hy2⟩ := sz_row l hl (1048576 - (a1.size : Int)) (by omega) (by omega)
      by_cases hyn : y < 0
      · exact ⟨-1, Evx.neg hn (Ev.bind hy (Evx.pos hyn (Ev.now _))), fun h => by omega⟩
      · by_cases h3 : (wrap64 (y - (a3.size : Int))) < 0
        · exact ⟨-1, Evx.neg hn (Ev.bind hy (Evx.neg hyn (Evx.pos h3 (Ev.now _)))), fun h => by omega⟩
        · exact ⟨_, Evx.neg hn (Ev.bind hy (Evx.neg hyn (Evx.neg h3 (Ev.now _)))), fun _ => hy2 (by omega)⟩
  refine Ev.bind hz (Evx.ite (fun _ => Ev.now _) (fun hzn => ?_))
  have hlen := hz2 (by omega)
  have hc : Ev (fun k => laws_toToken.f k a0 a1 l a3) (a0, a1, l.map conv, a3) := by
    unfold laws_toToken.f
    exact Ev.bind (copied l hlen) (Ev.now _)
  have hs : Ev (fun k => spec_AttrOf.f k a0 a1 (l.map conv) a3 t) (if (t.size : Int) > 65536 then ((⟨#[]⟩ : ByteArray), 2) else (if impl_AttrOf.ix (l.map conv) t 0 < 0 then ((⟨#[]⟩ : ByteArray), (5 : Int)) else ((rd_T52 (l.map conv) (impl_AttrOf.ix (l.map conv) t 0)).f1, 0))) := by
    unfold spec_AttrOf.f
    by_cases h : (t.size : Int) > 65536
    · rw [if_pos h]
      exact Evx.pos h (Ev.now _)
    · rw [if_neg h]
      exact Evx.neg h (spec_loop a0 a1 a3 t (l.map conv) (by rw [List.length_map]; exact hlen) (l.map conv).length 0 (by omega))
  have hi : impl_AttrOf.f a0 a1 (l.map conv) a3 t = some (if (t.size : Int) > 65536 then ((⟨#[]⟩ : ByteArray), 2) else (if impl_AttrOf.ix (l.map conv) t 0 < 0 then ((⟨#[]⟩ : ByteArray), (5 : Int)) else ((rd_T52 (l.map conv) (impl_AttrOf.ix (l.map conv) t 0)).f1, 0))) := by
    unfold impl_AttrOf.f
    split
    · rfl
    · split
      · rfl
      · rfl
  generalize (if (t.size : Int) > 65536 then ((⟨#[]⟩ : ByteArray), (2 : Int)) else (if impl_AttrOf.ix (l.map conv) t 0 < 0 then ((⟨#[]⟩ : ByteArray), (5 : Int)) else ((rd_T52 (l.map conv) (impl_AttrOf.ix (l.map conv) t 0)).f1, 0))) = w at hs hi
  refine Ev.bind hc (Ev.bind hs (Ev.bind hc (Evx.bindc hi (Evx.pos rfl ?_))))
  have he : Ev (fun k => laws_eqToken.f k a0 a1 (l.map conv) a3 a0 a1 (l.map conv) a3) true := by
    unfold laws_eqToken.f
    exact Evx.pos rfl (Evx.pos rfl (Ev.bind (same (l.map conv) (by rw [List.length_map]; exact hlen)) (Evx.pos rfl (Evx.pos rfl (Ev.now _)))))
  refine Ev.step (fun k => by rw [laws_FnExactAttrOf.j0]) ?_
  exact Evx.neg (by simp) (Ev.bind hc (Ev.bind he (Evx.pos rfl (Ev.now _))))
end Go.Proofs.Yteknchhlineciaa.Pure
