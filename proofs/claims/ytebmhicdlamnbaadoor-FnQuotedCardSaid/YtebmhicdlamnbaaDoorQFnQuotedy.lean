/- The quoted text: the reference's and the program's are the same. Conditions: lists of at most 1000000 bytes. -/
import Derived.Test.YtebmhicdlamnbaaDoorQFnQuotedx
import Derived.Test.YtebmhicdlamnbaaDoorBsx
import Derived.Test.YtebmhicdlamnbaaDoorSpl
namespace Go.Proofs.YtebmhicdlamnbaaDoor.QQFnQuoted
open Go.RowKit Go.Proofs.YtebmhicdlamnbaaDoor.QFnQuoted Go.Proofs.YtebmhicdlamnbaaDoorW.PrintWords Go.Proofs.YtebmhicdlamnbaaDoorW.PrintLast Go.Proofs.YtebmhicdlamnbaaDoorW.PrintMore
open Go.Proofs.YtebmhicdlamnbaaDoor.Evx Go.Proofs.YtebmhicdlamnbaaDoor.Bsx Go.Proofs.YtebmhicdlamnbaaDoor.Spl
set_option linter.unusedSimpArgs false
set_option linter.unusedVariables false
open impl_quotedText (line lns pcs hx)
theorem in_eq (a b c : Int) : spec_l01In.f a b c = some (decide (b ≤ a ∧ a ≤ c)) := by
  unfold spec_l01In.f
  split <;> simp <;> omega
theorem tmod_nn {a b : Int} (h : 0 ≤ a) : Int.tmod a b = a % b := Int.tmod_eq_emod_of_nonneg h
theorem tdiv_nn {a b : Int} (h : 0 ≤ a) : Int.tdiv a b = a / b := Int.tdiv_eq_ediv_of_nonneg h
theorem up_bytes {l : List Int} (h : ∀ x ∈ l, 0 ≤ x ∧ x < 256) : Spl.up (Go.Lib.bytesOf l) = l := by
  unfold Spl.up Go.Lib.bytesOf
  rw [List.map_map]
  conv => rhs; rw [← List.map_id l]
  refine List.map_congr_left fun x hx => ?_
  have := h x hx
  simp only [Function.comp, id, UInt8.toNat_ofNat']
  omega
theorem pcs_sp2 {l : List Int} (h : ∀ x ∈ l, 0 ≤ x ∧ x < 256) : pcs l = sp2 l := by
  have e := split_sp2 _ (Go.Lib.bytesOf l) (Nat.le_refl _)
  rw [up_bytes h] at e
  exact e
/-- What is written from a place on. -/
def fin (w : Nat) (out : List Int) : List (List Int) → List Int
  | [] => out
  | p :: ps => lns ps false (line p w out)
theorem fin_end (w : Nat) (out : List Int) (r : List Int) : fin w out ([] :: sp2 r) = fin 0 (out ++ [13, 10]) (sp2 r) := by
  obtain ⟨p, ps, e⟩ : ∃ p ps, sp2 r = p :: ps := by
    cases h : sp2 r with
    | nil => exact absurd h (sp2_ne r)
    | cons p ps => exact ⟨p, ps, rfl⟩
  rw [e]
  simp [fin, lns, line]
/-- The text of a list of bytes. -/
def qt (l : List Int) : List Int := fin 0 [] (sp2 l)
theorem lns_qt {l : List Int} (h : ∀ x ∈ l, 0 ≤ x ∧ x < 256) : lns (pcs l) true [] = qt l := by
  rw [pcs_sp2 h]
  unfold qt
  obtain ⟨p, ps, e⟩ : ∃ p ps, sp2 l = p :: ps := by
    cases h : sp2 l with
    | nil => exact absurd h (sp2_ne l)
    | cons p ps => exact ⟨p, ps, rfl⟩
  rw [e]
  simp [fin, lns]
/-- Whether a byte ahead of a rest is the last of its line. -/
def lastB (r : List Int) : Bool := decide (r = [] ∨ (r.getD 0 0 = 13 ∧ 2 ≤ r.length ∧ r.getD 1 0 = 10))
theorem last_sp2 {r p : List Int} {ps : List (List Int)} (h : sp2 r = p :: ps) : p.isEmpty = lastB r := by
  unfold lastB
  match r, h with
  | [], h => simp [sp2] at h; simp [← h.1]
  | [d], h => simp [sp2] at h; simp [← h.1]
  | d :: e :: r', h =>
    rw [sp2] at h
    by_cases hc : d = 13 ∧ e = 10
    · rw [if_pos hc] at h
      obtain ⟨h1, _⟩ := List.cons.inj h
      simp [← h1, hc.1, hc.2]
    · rw [if_neg hc] at h
      unfold putOn at h
      obtain ⟨h1, _⟩ := List.cons.inj h
      rw [← h1]
      simp
      exact fun h3 => fun h4 => hc ⟨h3, h4⟩
/-- Where a line's end is due ahead of a byte. -/
def brk (w n : Nat) (la : Bool) : Prop := (if la = true then 76 else 75) < w + n
instance (w n : Nat) (la : Bool) : Decidable (brk w n la) := by unfold brk; infer_instance
theorem fin_one {w : Nat} {out : List Int} {c : Int} {r : List Int} (h : ¬ (c = 13 ∧ 1 ≤ r.length ∧ r.getD 0 0 = 10)) :
    fin w out (sp2 (c :: r)) = if brk w (impl_quotedText.tok c (lastB r)).length (lastB r) then fin (impl_quotedText.tok c (lastB r)).length (out ++ [61, 13, 10] ++ impl_quotedText.tok c (lastB r)) (sp2 r) else fin (w + (impl_quotedText.tok c (lastB r)).length) (out ++ impl_quotedText.tok c (lastB r)) (sp2 r) := by
  obtain ⟨p, ps, e⟩ : ∃ p ps, sp2 r = p :: ps := by
    cases h : sp2 r with
    | nil => exact absurd h (sp2_ne r)
    | cons p ps => exact ⟨p, ps, rfl⟩
  rw [sp2_one h, putOn_eq e, e]
  have el := last_sp2 e
  by_cases hb : brk w (impl_quotedText.tok c (lastB r)).length (lastB r)
  · rw [if_pos hb]
    unfold brk at hb
    simp only [fin, line, el]
    rw [if_pos hb]
  · rw [if_neg hb]
    unfold brk at hb
    simp only [fin, line, el]
    rw [if_neg hb]
theorem rd_drop (x : List Int) (i j : Nat) : rd x ((i : Int) + (j : Int)) = (x.drop i).getD j 0 := by
  unfold rd
  rw [show ((i : Int) + (j : Int)).toNat = i + j by omega, List.getD_eq_getElem?_getD, List.getD_eq_getElem?_getD, List.getElem?_drop]
theorem tok_len (c : Int) (la : Bool) : 1 ≤ (impl_quotedText.tok c la).length ∧ (impl_quotedText.tok c la).length ≤ 3 := by
  unfold impl_quotedText.tok
  split <;> simp
/-- Whether a byte is written as three signs. -/
def spB (c : Int) (la : Bool) : Bool := decide (c < 32 ∨ 126 < c ∨ c = 61 ∨ (c = 32 ∧ la = true))
theorem j3_ok {x0 out : List Int} {c : Int} {la : Bool} {w i : Nat} {R : ByteArray} (hc : 0 ≤ c ∧ c < 256) (hw : w ≤ 76) (hi : i ≤ 1048576) (ho : out.length ≤ 6 * i)
    (next : Ev (fun k => spec_l02Quoted.l0 k x0 (if brk w (impl_quotedText.tok c la).length la then out ++ [61, 13, 10] ++ impl_quotedText.tok c la else out ++ impl_quotedText.tok c la) (((if brk w (impl_quotedText.tok c la).length la then (impl_quotedText.tok c la).length else w + (impl_quotedText.tok c la).length : Nat)) : Int) (((i + 1 : Nat)) : Int)) R) :
    Ev (fun k => spec_l02Quoted.j3 k x0 out (w : Int) (i : Int) c la [c] (spB c la)) R := by
  refine Ev.step (fun k => by rw [spec_l02Quoted.j3]) ?_
  have hln := tok_len c la
  have hle : ∀ a b : List Int, a.length ≤ 6 * 1048576 + 3 → b.length ≤ 3 → a.length + b.length < 140737488355328 := fun a b h1 h2 => by omega
  have main : ∀ tk : List Int, tk = impl_quotedText.tok c la → Ev (fun k => if (wrap64 ((w : Int) + (tk.length : Int))) > 75 then (if la = true then (if ((wrap64 ((w : Int) + (tk.length : Int))) ≤ 76) then (if out.length + tk.length < 140737488355328 then (spec_l02Quoted.l0 k x0 (out ++ tk) (wrap64 ((w : Int) + (tk.length : Int))) (wrap64 ((i : Int) + 1))) else (none)) else ((some (([61, 13, 10] : List Int) : List Int)).bind fun y125 => (if out.length + y125.length < 140737488355328 then ((some (out ++ y125 : List Int)).bind fun y128 => (if y128.length + tk.length < 140737488355328 then (spec_l02Quoted.l0 k x0 (y128 ++ tk) (wrap64 (0 + (tk.length : Int))) (wrap64 ((i : Int) + 1))) else (none))) else (none)))) else ((some (([61, 13, 10] : List Int) : List Int)).bind fun y134 => (if out.length + y134.length < 140737488355328 then ((some (out ++ y134 : List Int)).bind fun y137 => (if y137.length + tk.length < 140737488355328 then (spec_l02Quoted.l0 k x0 (y137 ++ tk) (wrap64 (0 + (tk.length : Int))) (wrap64 ((i : Int) + 1))) else (none))) else (none)))) else (if out.length + tk.length < 140737488355328 then (spec_l02Quoted.l0 k x0 (out ++ tk) (wrap64 ((w : Int) + (tk.length : Int))) (wrap64 ((i : Int) + 1))) else (none))) R := by
    intro tk htk
    rw [← htk] at next hln
    rw [Evx.w64 (i := (w : Int) + (tk.length : Int)) (by omega) (by omega), Evx.w64 (i := (i : Int) + 1) (by omega) (by omega), Evx.w64 (i := 0 + (tk.length : Int)) (by omega) (by omega)]
    have nb : brk w tk.length la → Ev (fun k => ((some (([61, 13, 10] : List Int) : List Int)).bind fun y134 => (if out.length + y134.length < 140737488355328 then ((some (out ++ y134 : List Int)).bind fun y137 => (if y137.length + tk.length < 140737488355328 then (spec_l02Quoted.l0 k x0 (y137 ++ tk) (0 + (tk.length : Int)) ((i : Int) + 1)) else (none))) else (none)))) R := by
      intro hb
      rw [if_pos hb, if_pos hb] at next
      refine Evx.bindc rfl (Evx.pos (by simp only [List.length_cons, List.length_nil]; omega) (Evx.bindc rfl (Evx.pos (by simp only [List.length_append, List.length_cons, List.length_nil]; omega) (Evx.fn next ?_))))
      rw [Int.zero_add, Int.natCast_add]
      rfl
    have ng : ¬ brk w tk.length la → Ev (fun k => (if out.length + tk.length < 140737488355328 then (spec_l02Quoted.l0 k x0 (out ++ tk) ((w : Int) + (tk.length : Int)) ((i : Int) + 1)) else (none))) R := by
      intro hb
      rw [if_neg hb, if_neg hb] at next
      refine Evx.pos (by omega) (Evx.fn next ?_)
      rw [Int.natCast_add, Int.natCast_add]
      rfl
    unfold brk at nb ng
    refine Evx.ite (fun h1 => ?_) (fun h1 => ng (by cases la <;> simp <;> omega))
    cases la with
    | true => exact Evx.pos rfl (Evx.ite (fun h2 => ng (by simp; omega)) (fun h2 => nb (by simp; omega)))
    | false => exact Evx.neg (by simp) (nb (by simp; omega))
  by_cases hs : spB c la = true
  · have ht : impl_quotedText.tok c la = [61, bt hx (c / 16), bt hx (c % 16)] := by
      unfold impl_quotedText.tok
      rw [if_pos (of_decide_eq_true hs)]
    refine Evx.pos hs ?_
    rw [tdiv_nn hc.1, tmod_nn hc.1, show c / 16 % 256 = c / 16 by omega]
    refine Evx.pos (by omega) (Evx.pos (by omega) (Evx.pos (by omega) (Evx.pos (by omega) (Evx.bindc rfl ?_))))
    exact main _ ht.symm
  · have ht : impl_quotedText.tok c la = [c] := by
      unfold impl_quotedText.tok
      rw [if_neg (fun e => hs (decide_eq_true e))]
    refine Evx.neg hs ?_
    exact main _ ht.symm
theorem j2_ok {x0 out : List Int} {c : Int} {la : Bool} {w i : Nat} {R : ByteArray} (hc : 0 ≤ c ∧ c < 256) (h3 : Ev (fun k => spec_l02Quoted.j3 k x0 out (w : Int) (i : Int) c la [c] (spB c la)) R) :
    Ev (fun k => spec_l02Quoted.j2 k x0 out (w : Int) (i : Int) c la) R := by
  refine Ev.step (fun k => by rw [spec_l02Quoted.j2]) ?_
  rw [Evx.w64 (i := c) (by omega) (by omega)]
  refine Evx.bindc rfl (Evx.bindc (in_eq _ _ _) ?_)
  have jt : ∀ b : Bool, b = spB c la → Ev (fun k => spec_l02Quoted.j3 k x0 out (w : Int) (i : Int) c la [c] b) R := fun b hb => hb ▸ h3
  unfold spB at jt
  refine Evx.ite (fun h1 => ?_) (fun h1 => ?_)
  · have h1 := of_decide_eq_true h1
    refine Evx.ite (fun h2 => Evx.neg (by omega) (jt _ ?_)) (fun h2 => jt _ ?_)
    · symm; simp; omega
    · symm; simp; omega
  · have h1 : ¬ (33 ≤ c ∧ c ≤ 126) := fun e => h1 (decide_eq_true e)
    refine Evx.ite (fun h2 => jt _ ?_) (fun h2 => jt _ ?_)
    · subst h2
      cases la <;> rfl
    · symm; simp; omega
theorem spec_q (x0 : List Int) (hx : ∀ x ∈ x0, 0 ≤ x ∧ x < 256) (hl : x0.length ≤ 1048576) (n : Nat) : ∀ (r : List Int) (i w : Nat) (out : List Int), r.length ≤ n → x0.drop i = r → i ≤ x0.length → w ≤ 76 → out.length ≤ 6 * i →
    Ev (fun k => spec_l02Quoted.l0 k x0 out (w : Int) (i : Int)) (strOfNums (fin w out (sp2 r))) := by
  induction n with
  | zero =>
    intro r i w out hn h hi hw ho
    obtain rfl : r = [] := List.eq_nil_of_length_eq_zero (by omega)
    have hil : x0.length ≤ i := by
      have := congrArg List.length h
      rw [List.length_drop, List.length_nil] at this
      omega
    refine Ev.step (fun k => by rw [spec_l02Quoted.l0]) ?_
    exact Evx.neg (by omega) (Ev.now _)
  | succ n ih =>
    intro r i w out hn h hi hw ho
    cases r with
    | nil =>
      have hil : x0.length ≤ i := by
        have := congrArg List.length h
        rw [List.length_drop, List.length_nil] at this
        omega
      refine Ev.step (fun k => by rw [spec_l02Quoted.l0]) ?_
      exact Evx.neg (by omega) (Ev.now _)
    | cons c r =>
      have hlen : x0.length = i + 1 + r.length := by
        have := congrArg List.length h
        rw [List.length_drop, List.length_cons] at this
        omega
      have r0 : rd x0 (i : Int) = c := by
        have := rd_drop x0 i 0
        rw [h] at this
        simpa using this
      have hc : 0 ≤ c ∧ c < 256 := hx c (List.mem_of_mem_drop (by rw [h]; exact List.mem_cons_self))
      have h1 : x0.drop (i + 1) = r := by rw [← List.tail_drop, h]; rfl
      have r1 : rd x0 ((i : Int) + 1) = r.getD 0 0 := by
        have := rd_drop x0 (i + 1) 0
        rw [h1] at this
        rw [← this]
        congr 1
      have r2 : rd x0 ((i : Int) + 2) = r.getD 1 0 := by
        have := rd_drop x0 (i + 1) 1
        rw [h1] at this
        rw [← this]
        congr 1
      refine Ev.step (fun k => by rw [spec_l02Quoted.l0]) ?_
      rw [Evx.w64 (i := (i : Int) + 1) (by omega) (by omega), r0, r1]
      refine Evx.pos (by omega) (Evx.pos (by omega) ?_)
      by_cases hend : c = 13 ∧ 1 ≤ r.length ∧ r.getD 0 0 = 10
      · obtain ⟨r', rfl⟩ : ∃ r', r = 10 :: r' := by
          cases r with
          | nil => simp at hend
          | cons d r' => exact ⟨r', by rw [show d = 10 by simpa using hend.2.2]⟩
        have h2 : x0.drop (i + 2) = r' := by rw [show i + 2 = (i + 1) + 1 by omega, ← List.tail_drop, h1]; rfl
        rw [hend.1, sp2_end, fin_end]
        refine Evx.pos rfl (Evx.pos (by simp only [List.length_cons] at hlen; omega) (Evx.pos (by omega) ?_))
        refine Ev.step (fun k => by rw [spec_l02Quoted.j1]) ?_
        rw [Evx.w64 (i := (i : Int) + 2) (by omega) (by omega)]
        refine Evx.pos (by simp) (Evx.bindc rfl (Evx.pos (by simp only [List.length_cons, List.length_nil]; omega) ?_))
        simp only [List.length_cons] at hn hlen
        exact ih r' (i + 2) 0 (out ++ [13, 10]) (by omega) h2 (by omega) (by omega) (by simp only [List.length_append, List.length_cons, List.length_nil]; omega)
      · rw [fin_one hend]
        have hln := tok_len c (lastB r)
        have next : Ev (fun k => spec_l02Quoted.l0 k x0 (if brk w (impl_quotedText.tok c (lastB r)).length (lastB r) then out ++ [61, 13, 10] ++ impl_quotedText.tok c (lastB r) else out ++ impl_quotedText.tok c (lastB r)) (((if brk w (impl_quotedText.tok c (lastB r)).length (lastB r) then (impl_quotedText.tok c (lastB r)).length else w + (impl_quotedText.tok c (lastB r)).length : Nat)) : Int) (((i + 1 : Nat)) : Int)) (strOfNums (if brk w (impl_quotedText.tok c (lastB r)).length (lastB r) then fin (impl_quotedText.tok c (lastB r)).length (out ++ [61, 13, 10] ++ impl_quotedText.tok c (lastB r)) (sp2 r) else fin (w + (impl_quotedText.tok c (lastB r)).length) (out ++ impl_quotedText.tok c (lastB r)) (sp2 r))) := by
          simp only [List.length_cons] at hn
          by_cases hb : brk w (impl_quotedText.tok c (lastB r)).length (lastB r)
          · rw [if_pos hb, if_pos hb, if_pos hb]
            exact ih r (i + 1) _ _ (by omega) h1 (by omega) (by omega) (by simp only [List.length_append, List.length_cons, List.length_nil]; omega)
          · rw [if_neg hb, if_neg hb, if_neg hb]
            refine ih r (i + 1) _ _ (by omega) h1 (by omega) ?_ (by simp only [List.length_append]; omega)
            unfold brk at hb
            cases hla : lastB r <;> rw [hla] at hb <;> simp at hb <;> omega
        have h3 := j2_ok hc (j3_ok (x0 := x0) (out := out) hc hw (by omega) ho next)
        have goj : ∀ b : Bool, b = false → Ev (fun k => spec_l02Quoted.j1 k x0 out (w : Int) (i : Int) b) (strOfNums (if brk w (impl_quotedText.tok c (lastB r)).length (lastB r) then fin (impl_quotedText.tok c (lastB r)).length (out ++ [61, 13, 10] ++ impl_quotedText.tok c (lastB r)) (sp2 r) else fin (w + (impl_quotedText.tok c (lastB r)).length) (out ++ impl_quotedText.tok c (lastB r)) (sp2 r))) := by
          rintro _ rfl
          refine Ev.step (fun k => by rw [spec_l02Quoted.j1]) ?_
          rw [Evx.w64 (i := (i : Int) + 1) (by omega) (by omega), Evx.w64 (i := (i : Int) + 2) (by omega) (by omega), r0, r1, r2]
          have jt : ∀ b : Bool, b = lastB r → Ev (fun k => spec_l02Quoted.j2 k x0 out (w : Int) (i : Int) c b) (strOfNums (if brk w (impl_quotedText.tok c (lastB r)).length (lastB r) then fin (impl_quotedText.tok c (lastB r)).length (out ++ [61, 13, 10] ++ impl_quotedText.tok c (lastB r)) (sp2 r) else fin (w + (impl_quotedText.tok c (lastB r)).length) (out ++ impl_quotedText.tok c (lastB r)) (sp2 r))) := fun b hb => hb ▸ h3
          refine Evx.neg (by simp) (Evx.pos (by omega) (Evx.pos (by omega) ?_))
          refine Evx.ite (fun e1 => jt _ ?_) (fun e1 => ?_)
          · have : r = [] := List.eq_nil_of_length_eq_zero (by omega)
            subst this
            rfl
          · have hne : r ≠ [] := fun e => by subst e; simp at hlen; omega
            refine Evx.pos (by omega) (Evx.pos (by omega) (Evx.ite (fun e2 => ?_) (fun e2 => jt _ ?_)))
            · refine Evx.ite (fun e3 => Evx.pos (by omega) (jt _ ?_)) (fun e3 => jt _ ?_)
              · unfold lastB
                rw [Bool.eq_iff_iff, decide_eq_true_eq, beq_iff_eq]
                exact ⟨fun e => Or.inr ⟨e2, by omega, e⟩, fun e => (e.resolve_left hne).2.2⟩
              · unfold lastB
                symm
                rw [decide_eq_false_iff_not]
                exact fun e => by have := (e.resolve_left hne).2.1; omega
            · unfold lastB
              symm
              rw [decide_eq_false_iff_not]
              exact fun e => e2 (e.resolve_left hne).1
        refine Evx.ite (fun e1 => ?_) (fun e1 => goj _ rfl)
        refine Evx.ite (fun e2 => Evx.pos (by omega) (goj _ ?_)) (fun e2 => goj _ rfl)
        rw [beq_eq_false_iff_ne]
        exact fun e => hend ⟨e1, by omega, e⟩
theorem spec_quoted {l : List Int} (hx : ∀ x ∈ l, 0 ≤ x ∧ x < 256) (hl : l.length ≤ 1048576) : Ev (fun k => spec_l02Quoted.f k l) (strOfNums (qt l)) := by
  unfold spec_l02Quoted.f
  exact spec_q l hx hl l.length l 0 0 [] (Nat.le_refl _) (List.drop_zero) (Nat.zero_le _) (by omega) (by simp)
theorem impl_quoted {l : List Int} (hx : ∀ x ∈ l, 0 ≤ x ∧ x < 256) (hl : l.length ≤ 1000000) : impl_quotedText.f l = some (strOfNums (qt l)) := by
  unfold impl_quotedText.f
  rw [if_pos ⟨hl, hx⟩, lns_qt hx]
theorem spec_text {l : List Int} (hx : ∀ x ∈ l, 0 ≤ x ∧ x < 256) (hl : l.length ≤ 1048576) : Ev (fun k => spec_QuotedText.f k l) (if (l.length : Int) > 65536 then (⟨#[]⟩, 2) else (strOfNums (qt l), 0)) := by
  unfold spec_QuotedText.f
  refine Evx.ite (fun h => by rw [if_pos h]; exact Ev.now _) (fun h => ?_)
  rw [if_neg h]
  exact Ev.bind (spec_quoted hx hl) (Ev.now _)
theorem impl_text {l : List Int} (hx : ∀ x ∈ l, 0 ≤ x ∧ x < 256) : impl_QuotedText.f l = some (if (l.length : Int) > 65536 then (⟨#[]⟩, 2) else (strOfNums (qt l), 0)) := by
  unfold impl_QuotedText.f
  by_cases h : (l.length : Int) > 65536
  · rw [if_pos h, if_pos h]
  · rw [if_neg h, if_neg h, impl_quoted hx (by omega)]
    rfl
end Go.Proofs.YtebmhicdlamnbaaDoor.QQFnQuoted
