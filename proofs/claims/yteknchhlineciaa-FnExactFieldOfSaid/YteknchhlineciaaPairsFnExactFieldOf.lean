/- Rows of structs of two texts: their size is told, they are copied as they are, and a row is like itself. Conditions: as each lemma states. -/
import Derived.Test.YteknchhlineciaaQFnExactFieldOfx
import Derived.Test.YteknchhlineciaaEvx
namespace Go.Proofs.Yteknchhlineciaa.PairsFnExactFieldOf
open Go.RowKit Go.Proofs.Yteknchhlineciaa.QFnExactFieldOf Go.Proofs.YteknchhlineciaaW.PrintWords Go.Proofs.YteknchhlineciaaW.PrintLast Go.Proofs.YteknchhlineciaaW.PrintMore Go.Proofs.Yteknchhlineciaa.Evx
set_option linter.unusedSimpArgs false
set_option linter.unusedVariables false
/-- A struct as the other package's. -/
def conv (x : S74) : S75 := ⟨x.f0, x.f1⟩
theorem sz_one (a b : ByteArray) (n : Int) : ∃ t, laws_szField.f a b n = some t := by
  unfold laws_szField.f
  split
  · exact ⟨_, rfl⟩
  · split
    · exact ⟨_, rfl⟩
    · exact ⟨_, rfl⟩
theorem sz_loop (l : List S74) (hl : l.length ≤ 9223372036854775807) (d : Nat) : ∀ (i : Nat) (n : Int), i + d = l.length → ∃ z, Ev (fun k => laws_szFieldS.l0 k l n (i : Int)) z := by
  induction d with
  | zero =>
    intro i n hi
    refine ⟨n, ?_⟩
    refine Ev.step (fun k => by rw [laws_szFieldS.l0]) ?_
    exact Evx.neg (by omega) (Ev.now _)
  | succ d ih =>
    intro i n hi
    obtain ⟨t, ht⟩ := sz_one (rd_T74 l (i : Int)).f0 (rd_T74 l (i : Int)).f1 n
    by_cases hn : t < 0
    · refine ⟨-1, ?_⟩
      refine Ev.step (fun k => by rw [laws_szFieldS.l0]) ?_
      exact Evx.pos (by omega) (Evx.pos (by omega) (Evx.bindc ht (Evx.pos hn (Ev.now _))))
    · obtain ⟨z, hz⟩ := ih (i + 1) t (by omega)
      refine ⟨z, ?_⟩
      refine Ev.step (fun k => by rw [laws_szFieldS.l0]) ?_
      refine Evx.pos (by omega) (Evx.pos (by omega) (Evx.bindc ht (Evx.neg hn ?_)))
      rw [Evx.w64 (by omega) (by omega)]
      exact hz
theorem sz_row (l : List S74) (hl : l.length ≤ 9223372036854775807) (n : Int) (h0 : 0 ≤ n) (h1 : n ≤ 1048576) : ∃ z, Ev (fun k => laws_szFieldS.f k l n) z ∧ (0 ≤ z → l.length ≤ 1048576) := by
  unfold laws_szFieldS.f
  by_cases h : (wrap64 (n - (l.length : Int))) < 0
  · exact ⟨-1, Evx.pos h (Ev.now _), fun h => by omega⟩
  · obtain ⟨z, hz⟩ := sz_loop l hl l.length 0 (wrap64 (n - (l.length : Int))) (by omega)
    refine ⟨z, Evx.neg h hz, fun _ => ?_⟩
    rw [Evx.w64 (by omega) (by omega)] at h
    omega
theorem copy_loop (l : List S74) (hl : l.length ≤ 1048576) (d : Nat) : ∀ (i : Nat) (x : List S75), i + d = l.length → x.length = l.length → x.take i = (l.map conv).take i → Ev (fun k => laws_toFieldS.l0 k l x (i : Int)) (l.map conv) := by
  induction d with
  | zero =>
    intro i x hi hx ht
    refine Ev.step (fun k => by rw [laws_toFieldS.l0]) ?_
    refine Evx.neg (by omega) (Evx.eq (Ev.now _) ?_)
    rw [List.take_of_length_le (by omega), List.take_of_length_le (by rw [List.length_map]; omega)] at ht
    exact ht
  | succ d ih =>
    intro i x hi hx ht
    refine Ev.step (fun k => by rw [laws_toFieldS.l0]) ?_
    refine Evx.pos (by omega) (Evx.pos (by omega) (Evx.bindc (b := ((rd_T74 l (i : Int)).f0, (rd_T74 l (i : Int)).f1)) rfl (Evx.pos (by omega) ?_)))
    rw [Evx.w64 (by omega) (by omega)]
    refine Evx.fn (ih (i + 1) (x.set i (conv (rd_T74 l (i : Int)))) (by omega) (by rw [List.length_set]; exact hx) ?_) (by rw [Int.toNat_natCast]; rfl)
    rw [List.take_add_one, List.take_add_one, List.take_set_of_le (Nat.le_refl _), ht, List.getElem?_set_self (by omega), List.getElem?_map, List.getElem?_eq_getElem (by omega)]
    unfold rd_T74
    rw [Int.toNat_natCast, List.getD_eq_getElem?_getD, List.getElem?_eq_getElem (by omega)]
    rfl
theorem copied (l : List S74) (hl : l.length ≤ 1048576) : Ev (fun k => laws_toFieldS.f k l) (l.map conv) := by
  unfold laws_toFieldS.f
  refine Evx.pos (by omega) (Evx.pos (by rw [Int.toNat_natCast]; omega) ?_)
  refine copy_loop l hl l.length 0 _ (by omega) (by simp) (by simp)
theorem eq_loop (l : List S75) (hl : l.length ≤ 1048576) (d : Nat) : ∀ i : Nat, i + d = l.length → Ev (fun k => laws_eqFieldS.l0 k l l (i : Int)) true := by
  induction d with
  | zero =>
    intro i hi
    refine Ev.step (fun k => by rw [laws_eqFieldS.l0]) ?_
    exact Evx.neg (by omega) (Ev.now _)
  | succ d ih =>
    intro i hi
    refine Ev.step (fun k => by rw [laws_eqFieldS.l0]) ?_
    refine Evx.pos (by omega) (Evx.pos (by omega) (Evx.pos (by omega) (Evx.bindc (b := true) (by unfold laws_eqField.f; rw [if_pos rfl, if_pos rfl]) (Evx.pos rfl ?_))))
    rw [Evx.w64 (by omega) (by omega)]
    exact ih (i + 1) (by omega)
theorem same (l : List S75) (hl : l.length ≤ 1048576) : Ev (fun k => laws_eqFieldS.f k l l) true := by
  unfold laws_eqFieldS.f
  exact Evx.pos rfl (eq_loop l hl l.length 0 (by omega))
end Go.Proofs.Yteknchhlineciaa.PairsFnExactFieldOf
