/- The bytes of a quoted text: the reference's reader and the program's both give 'unq'. Conditions: texts of at most 1048576 bytes. -/
import Derived.Test.YtebmhicdlamnbaaDoorQFnQuotedx
import Derived.Test.YtebmhicdlamnbaaDoorBsx
namespace Go.Proofs.YtebmhicdlamnbaaDoor.UQFnQuoted
open Go.RowKit Go.Proofs.YtebmhicdlamnbaaDoor.QFnQuoted Go.Proofs.YtebmhicdlamnbaaDoorW.PrintWords Go.Proofs.YtebmhicdlamnbaaDoorW.PrintLast Go.Proofs.YtebmhicdlamnbaaDoorW.PrintMore
open Go.Proofs.YtebmhicdlamnbaaDoor.Evx Go.Proofs.YtebmhicdlamnbaaDoor.Bsx
set_option linter.unusedSimpArgs false
set_option linter.unusedVariables false
/-- The value of a sign of sixteen; -1 of others. -/
def hx (c : Int) : Int := if 48 ≤ c ∧ c ≤ 57 then c - 48 else if 65 ≤ c ∧ c ≤ 70 then c - 55 else -1
theorem hx_le (c : Int) : -1 ≤ hx c ∧ hx c ≤ 15 := by unfold hx; split <;> (try split) <;> omega
/-- The bytes of a quoted text behind those of out; false where the text is no right one. At most n signs are read. -/
def unq : Nat → List Int → List Int → List Int × Bool
  | 0, out, _ => (out, true)
  | n + 1, out, [] => (out, true)
  | n + 1, out, c :: r =>
    if c = 61 then
      (if r.length < 2 then ([], false)
      else if r.getD 0 0 = 13 ∧ r.getD 1 0 = 10 then unq n out (r.drop 2)
      else if hx (r.getD 0 0) < 0 ∨ hx (r.getD 1 0) < 0 then ([], false) else unq n (out ++ [hx (r.getD 0 0) * 16 + hx (r.getD 1 0)]) (r.drop 2))
    else if c = 13 ∧ 1 ≤ r.length ∧ r.getD 0 0 = 10 then unq n (out ++ [13, 10]) (r.drop 1)
    else if 32 ≤ c ∧ c ≤ 126 then unq n (out ++ [c]) r else ([], false)
theorem unq_len (n : Nat) : ∀ out l, (unq n out l).1.length ≤ out.length + l.length := by
  induction n with
  | zero => intro out l; simp [unq]
  | succ n ih =>
    intro out l
    cases l with
    | nil => simp [unq]
    | cons c r =>
      simp only [unq]
      repeat' split
      all_goals first | (simp only [List.length_nil, List.length_cons]; omega) | skip
      · have := ih out (r.drop 2); simp only [List.length_drop, List.length_cons] at *; omega
      · have := ih (out ++ [hx (r.getD 0 0) * 16 + hx (r.getD 1 0)]) (r.drop 2); simp only [List.length_drop, List.length_cons, List.length_append, List.length_nil] at *; omega
      · have := ih (out ++ [13, 10]) (r.drop 1); simp only [List.length_drop, List.length_cons, List.length_append, List.length_nil] at *; omega
      · have := ih (out ++ [c]) r; simp only [List.length_cons, List.length_append, List.length_nil] at *; omega
theorem hx_a {c : Int} (h : 48 ≤ c) (h2 : c ≤ 57) : hx c = c - 48 := by unfold hx; rw [if_pos ⟨h, h2⟩]
theorem hx_b {c : Int} (h : 65 ≤ c) (h2 : c ≤ 70) : hx c = c - 55 := by unfold hx; rw [if_neg (by omega), if_pos ⟨h, h2⟩]
theorem hx_c {c : Int} (h : ¬ (48 ≤ c ∧ c ≤ 57)) (h2 : ¬ (65 ≤ c ∧ c ≤ 70)) : hx c = -1 := by unfold hx; rw [if_neg h, if_neg h2]
theorem wn1 (p : Nat) (h : p ≤ 4000000) : wrap64 ((p : Int) + 1) = ((p + 1 : Nat) : Int) := by unfold wrap64; omega
theorem wn2 (p : Nat) (h : p ≤ 4000000) : wrap64 ((p : Int) + 2) = ((p + 2 : Nat) : Int) := by unfold wrap64; omega
theorem wn3 (p : Nat) (h : p ≤ 4000000) : wrap64 ((p : Int) + 3) = ((p + 3 : Nat) : Int) := by unfold wrap64; omega
theorem getD_drop (s : ByteArray) (p j : Nat) (c : Int) (r : List Int) (h : (bs s).drop p = c :: r) : bt s ((p + (j + 1) : Nat) : Int) = r.getD j 0 := by
  rw [bt_getD s _ p (j + 1) (by omega), h, List.getD_cons_succ]
theorem r_bound (s : ByteArray) (p j : Nat) (c : Int) (r : List Int) (h : (bs s).drop p = c :: r) : 0 ≤ r.getD j 0 ∧ r.getD j 0 < 256 := by
  rw [← getD_drop s p j c r h]; exact bt_lt _ _
theorem r_len (s : ByteArray) (p : Nat) (c : Int) (r : List Int) (h : (bs s).drop p = c :: r) : s.size = p + 1 + r.length := by
  have := congrArg List.length h
  rw [drop_len, List.length_cons] at this
  omega
set_option maxHeartbeats 800000 in
theorem prefix_eq (s t : ByteArray) : strings_HasPrefix.f s t = some (decide ((bs s).take t.size = bs t)) := by
  unfold strings_HasPrefix.f stringslite_HasPrefix.f
  have l1 := bs_length s
  have l2 := bs_length t
  by_cases h : (s.size : Int) ≥ (t.size : Int)
  · rw [if_pos h, if_pos (by omega), if_pos (by omega)]
    simp only [Option.bind_some]
    rw [toList_beq, bs_take, Int.toNat_natCast]
  · rw [if_neg h]
    simp only [Option.bind_some]
    refine congrArg some (decide_eq_false (fun e => ?_)).symm
    have := congrArg List.length e
    rw [List.length_take] at this
    omega
theorem index_hex (c : Int) (h : 0 ≤ c ∧ c < 256) : strings_IndexByte.f (⟨#[48, 49, 50, 51, 52, 53, 54, 55, 56, 57, 65, 66, 67, 68, 69, 70]⟩ : ByteArray) c = some (hx c) := by
  unfold strings_IndexByte.f
  have key : ∀ n : Fin 256, Lib.indexByte [48, 49, 50, 51, 52, 53, 54, 55, 56, 57, 65, 66, 67, 68, 69, 70] n.val.toUInt8 = hx (n.val : Int) := by decide +kernel
  have := key ⟨c.toNat, by omega⟩
  simp only at this
  rw [show ((c.toNat : Nat) : Int) = c by omega] at this
  exact congrArg some this
set_option maxHeartbeats 800000 in
theorem impl_unq (n : Nat) : ∀ (l : List Int) (s : ByteArray) (out : List Int), l.length ≤ n → bs s = l → s.size ≤ 1048576 → out.length ≤ 4 * 1048576 - 2 * l.length → Ev (fun k => impl_readQuoted.l0 k s out) (unq n out l) := by
  have nilc : ∀ (n : Nat) (s : ByteArray) (out : List Int), bs s = [] → Ev (fun k => impl_readQuoted.l0 k s out) (unq n out []) := by
    intro n s out h
    refine Ev.step (fun k => by rw [impl_readQuoted.l0]) ?_
    refine Evx.pos ((toList_nil s).2 h) (Evx.eq (Ev.now _) ?_)
    cases n <;> rfl
  induction n with
  | zero =>
    intro l s out hn h hs ho
    obtain rfl : l = [] := List.eq_nil_of_length_eq_zero (by omega)
    exact nilc 0 s out h
  | succ n ih =>
    intro l s out hn h hs ho
    cases l with
    | nil => exact nilc _ s out h
    | cons c r =>
      have h' : (bs s).drop 0 = c :: r := by rw [List.drop_zero]; exact h
      obtain ⟨h1, h2, h3, h4, h5⟩ := drop_cons h'
      have hsz := r_len s 0 c r h'
      have g0 := getD_drop s 0 0 c r h'
      have g1 := getD_drop s 0 1 c r h'
      have b0 := r_bound s 0 0 c r h'
      have b1 := r_bound s 0 1 c r h'
      have h1' : bt s 0 = c := h1
      have g0' : bt s 1 = r.getD 0 0 := by simpa using g0
      have g1' : bt s 2 = r.getD 1 0 := by simpa using g1
      have hlen : (c :: r).length = r.length + 1 := List.length_cons
      have hd (k : Nat) : bs (s.extract (k + 1) s.size) = r.drop k := by rw [bs_drop s _ _ (Nat.le_refl _), h]; rfl
      have hz (k : Nat) (hk : k ≤ r.length) : (s.extract (k + 1) s.size).size = r.length - k := by rw [← bs_length, hd, List.length_drop]
      refine Ev.step (fun k => by rw [impl_readQuoted.l0]) ?_
      refine Evx.neg (fun e => by rw [toList_nil, h] at e; cases e) ?_
      have p1 : decide ((bs s).take 3 = [61, 13, 10]) = decide (c = 61 ∧ 2 ≤ r.length ∧ r.getD 0 0 = 13 ∧ r.getD 1 0 = 10) := by
        rw [h]
        rcases r with _ | ⟨x, _ | ⟨y, r⟩⟩ <;> simp [List.take]
      have p2 : decide ((bs s).take 2 = [13, 10]) = decide (c = 13 ∧ 1 ≤ r.length ∧ r.getD 0 0 = 10) := by
        rw [h]
        rcases r with _ | ⟨x, r⟩ <;> simp [List.take]
      have e1 : strings_HasPrefix.f s (⟨#[61, 13, 10]⟩ : ByteArray) = some (decide (c = 61 ∧ 2 ≤ r.length ∧ r.getD 0 0 = 13 ∧ r.getD 1 0 = 10)) := by
        rw [← p1]; exact prefix_eq s _
      have e2 : strings_HasPrefix.f s (⟨#[13, 10]⟩ : ByteArray) = some (decide (c = 13 ∧ 1 ≤ r.length ∧ r.getD 0 0 = 10)) := by
        rw [← p2]; exact prefix_eq s _
      refine Evx.bindc e1 (Evx.ite (fun a => ?_) (fun a => Evx.bindc e2 (Evx.ite (fun b => ?_) (fun b => ?_))))
      · rw [decide_eq_true_eq] at a
        refine Evx.pos (by omega) ?_
        simp only [unq, if_pos a.1]
        rw [if_neg (by omega), if_pos a.2.2]
        exact ih (r.drop 2) _ out (by rw [List.length_drop]; omega) (hd 2) (by rw [hz 2 (by omega)]; omega) (by rw [List.length_drop]; omega)
      · rw [decide_eq_true_eq] at b
        refine Evx.pos (by omega) (Evx.pos (by omega) ?_)
        simp only [unq]
        rw [if_neg (by omega), if_pos b]
        exact ih (r.drop 1) _ (out ++ [13, 10]) (by rw [List.length_drop]; omega) (hd 1) (by rw [hz 1 (by omega)]; omega) (by simp; omega)
      · rw [decide_eq_true_eq] at a b
        rw [h1', g0', g1']
        refine Evx.pos (by omega) (Evx.ite (fun d => ?_) (fun d => ?_))
        · simp only [unq, if_pos d]
          refine Evx.ite (fun e => ?_) (fun e => ?_)
          · rw [if_pos (by omega)]; exact Ev.now _
          · rw [if_neg (by omega), if_neg (fun x => a ⟨d, by omega, x⟩)]
            refine Evx.pos (by omega) (Evx.bindc (index_hex _ b0) (Evx.pos (by omega) (Evx.bindc (index_hex _ b1) ?_)))
            refine Evx.ite (fun f => ?_) (fun f => Evx.ite (fun g => ?_) (fun g => ?_))
            · rw [if_pos (Or.inl f)]; exact Ev.now _
            · rw [if_pos (Or.inr g)]; exact Ev.now _
            · rw [if_neg (by omega)]
              have x0 := hx_le (r.getD 0 0)
              have x1 := hx_le (r.getD 1 0)
              have e3 : (wrap64 ((wrap64 (16 * hx (r.getD 0 0))) + hx (r.getD 1 0))) % 256 = hx (r.getD 0 0) * 16 + hx (r.getD 1 0) := by unfold wrap64; omega
              rw [e3]
              refine Evx.pos (by omega) (Evx.pos (by omega) ?_)
              exact ih (r.drop 2) _ _ (by rw [List.length_drop]; omega) (hd 2) (by rw [hz 2 (by omega)]; omega) (by simp; omega)
        · simp only [unq]
          rw [if_neg d, if_neg b]
          refine Evx.ite (fun e => ?_) (fun e => Evx.ite (fun f => ?_) (fun f => ?_))
          · rw [if_neg (by omega)]; exact Ev.now _
          · rw [if_neg (by omega)]; exact Ev.now _
          · rw [if_pos (by omega)]
            refine Evx.pos (by omega) (Evx.pos (by omega) ?_)
            exact ih r _ (out ++ [c]) (by omega) (hd 0) (by rw [hz 0 (by omega)]; omega) (by simp; omega)
theorem impl_read (s : ByteArray) (hs : s.size ≤ 1048576) : Ev (fun k => impl_readQuoted.f k s) (unq s.size [] (bs s)) := by
  unfold impl_readQuoted.f
  exact impl_unq s.size (bs s) s [] (by rw [bs_length]; omega) rfl hs (by rw [bs_length]; simp <;> omega)
end Go.Proofs.YtebmhicdlamnbaaDoor.UQFnQuoted
