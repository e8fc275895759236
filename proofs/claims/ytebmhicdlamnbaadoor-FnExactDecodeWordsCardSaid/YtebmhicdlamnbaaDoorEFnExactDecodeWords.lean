/- Coded words read: the reference and the program answer the same. Conditions: texts of at most 65536 bytes. -/
import Derived.Test.YtebmhicdlamnbaaDoorU8vFnExactDecodeWords
import Derived.Test.YtebmhicdlamnbaaDoorB64eFnExactDecodeWords
import Derived.Test.YtebmhicdlamnbaaDoorVFnExactDecodeWords
import Derived.Test.YtebmhicdlamnbaaDoorXFnExactDecodeWords
import Derived.Test.YtebmhicdlamnbaaDoorCFnExactDecodeWords
namespace Go.Proofs.YtebmhicdlamnbaaDoor.EQFnExactDecodeWords
open Go.RowKit Go.Proofs.YtebmhicdlamnbaaDoor.QFnExactDecodeWords Go.Proofs.YtebmhicdlamnbaaDoorW.PrintWords Go.Proofs.YtebmhicdlamnbaaDoorW.PrintLast Go.Proofs.YtebmhicdlamnbaaDoorW.PrintMore
open Go.Proofs.YtebmhicdlamnbaaDoor.Evx Go.Proofs.YtebmhicdlamnbaaDoor.Bsx Go.Proofs.YtebmhicdlamnbaaDoor.Spl Go.Proofs.YtebmhicdlamnbaaDoor.XQFnExactDecodeWords
open Go.Proofs.YtebmhicdlamnbaaDoor.CQFnExactDecodeWords (cut_eq)
open Go.Proofs.YtebmhicdlamnbaaDoor.U8QFnExactDecodeWords (valid_eq)
open Go.Proofs.YtebmhicdlamnbaaDoor.DQFnExactDecodeWords (rd64 rd64_len spec_rd impl_rd specR specR_or spec_ok)
set_option linter.unusedSimpArgs false
set_option linter.unusedVariables false
theorem rd64_bytes (s : ByteArray) : ∀ y ∈ (rd64 s).1, 0 ≤ y ∧ y < 256 := by
  unfold rd64
  split
  · rename_i h
    rcases specR_or (bs s) [] with e | e
    · obtain ⟨_, b, e1, _, hb, _⟩ := spec_ok (bs s) [] (bs_range s) (by rw [bs_length]; exact h) e
      rw [e1]
      exact hb
    · rw [e]; intro y hy; cases hy
  · intro y hy; cases hy
theorem head_list : (⟨#[61, 63, 117, 116, 102, 45, 56, 63, 66, 63]⟩ : ByteArray).toList = [61, 63, 117, 116, 102, 45, 56, 63, 66, 63] := by rw [toList_data]
theorem tail_list : (⟨#[63, 61]⟩ : ByteArray).toList = [63, 61] := by rw [toList_data]
theorem head_iff (x : ByteArray) : (x.extract 0 10).toList = ([61, 63, 117, 116, 102, 45, 56, 63, 66, 63] : List UInt8) ↔ (bs x).take 10 = bs ⟨#[61, 63, 117, 116, 102, 45, 56, 63, 66, 63]⟩ := by
  have e := toList_iff (x.extract 0 10) ⟨#[61, 63, 117, 116, 102, 45, 56, 63, 66, 63]⟩
  rw [head_list, bs_take] at e
  exact e
theorem tail_iff (x : ByteArray) : (x.extract (x.size - 2) x.size).toList = ([63, 61] : List UInt8) ↔ (bs x).drop (x.size - 2) = bs ⟨#[63, 61]⟩ := by
  have e := toList_iff (x.extract (x.size - 2) x.size) ⟨#[63, 61]⟩
  rw [tail_list, bs_drop _ _ _ (Nat.le_refl _)] at e
  exact e
/-- The form of a coded word. -/
def coded (x : ByteArray) : Prop := 12 ≤ x.size ∧ (bs x).take 10 = bs ⟨#[61, 63, 117, 116, 102, 45, 56, 63, 66, 63]⟩ ∧ (bs x).drop (x.size - 2) = bs ⟨#[63, 61]⟩
/-- What stands in it. -/
def code (x : ByteArray) : ByteArray := x.extract 10 (x.size - 2)
theorem code_size (x : ByteArray) : (code x).size ≤ x.size := by
  unfold code
  rw [ByteArray.size_extract]
  omega
theorem spec_in (x : ByteArray) (hs : x.size ≤ 65536) (hc : coded x) {R : ByteArray × Bool} (h : Ev (fun k => (spec_l02Read.f k (code x)).bind fun bt149 => (if bt149.2 = true then ((spec_ValidText.f k (strOfNums bt149.1)).bind fun t153 => (if t153 = true then (some (strOfNums bt149.1, decide ((bt149.1.length : Int) > 0))) else (some (strOfNums bt149.1, false)))) else (some (strOfNums bt149.1, false)))) R) :
    Ev (fun k => spec_l03Word.f k x) R := by
  obtain ⟨h12, hp, hq⟩ := hc
  unfold spec_l03Word.f
  rw [Evx.w64 (i := (x.size : Int) - 2) (by omega) (by omega), show ((x.size : Int) - 2).toNat = x.size - 2 by omega]
  refine Evx.neg (by omega) (Evx.pos (by omega) (Evx.pos ((head_iff x).2 hp) (Evx.pos (by omega) (Evx.pos (by omega) ?_))))
  refine Ev.step (fun k => by rw [spec_l03Word.j0]) ?_
  rw [Evx.w64 (i := (x.size : Int) - 2) (by omega) (by omega), show ((x.size : Int) - 2).toNat = x.size - 2 by omega, show ((⟨#[61, 63, 117, 116, 102, 45, 56, 63, 66, 63]⟩ : ByteArray).size : Int) = 10 from rfl, show (10 : Int).toNat = 10 from rfl, (tail_iff x).2 hq]
  exact Evx.neg Bool.false_ne_true (Evx.pos (by omega) (Evx.pos (by omega) (Evx.pos (by omega) h)))
theorem spec_out (x : ByteArray) (hs : x.size ≤ 65536) (hc : ¬ coded x) : Ev (fun k => spec_l03Word.f k x) ((⟨#[]⟩ : ByteArray), false) := by
  unfold spec_l03Word.f
  rw [Evx.w64 (i := (x.size : Int) - 2) (by omega) (by omega)]
  refine Evx.ite (fun a => ?_) (fun a => ?_)
  · refine Ev.step (fun k => by rw [spec_l03Word.j0]) ?_
    exact Evx.pos rfl (Ev.now _)
  rw [show ((x.size : Int) - 2).toNat = x.size - 2 by omega]
  refine Evx.pos (by omega) (Evx.ite (fun b => ?_) (fun b => ?_))
  · refine Evx.pos (by omega) (Evx.pos (by omega) ?_)
    refine Ev.step (fun k => by rw [spec_l03Word.j0]) ?_
    refine Evx.pos ?_ (Ev.now _)
    exact bne_iff_ne.2 (fun e => hc ⟨by omega, (head_iff x).1 b, (tail_iff x).1 e⟩)
  · refine Ev.step (fun k => by rw [spec_l03Word.j0]) ?_
    exact Evx.pos rfl (Ev.now _)
theorem rest_size (x : ByteArray) : (x.extract 10 x.size).size = x.size - 10 := by rw [ByteArray.size_extract]; omega
theorem rest_drop (x : ByteArray) (h : 12 ≤ x.size) : (bs (x.extract 10 x.size)).drop (x.size - 10 - 2) = (bs x).drop (x.size - 2) := by
  rw [bs_drop _ _ _ (Nat.le_refl _), List.drop_drop]
  congr 1
  omega
theorem impl_in (x : ByteArray) (hs : x.size ≤ 65536) (hc : coded x) {R : ByteArray × Bool} (h : Ev (fun k => (impl_fromBase64.f k (code x)).bind fun bt208 => (if bt208.2 = true then (if (bt208.1.length : Int) = 0 then (some ((⟨#[]⟩ : ByteArray), false)) else ((utf8_Valid.f bt208.1).bind fun t212 => (if t212 = true then (some (strOfNums bt208.1, true)) else (some ((⟨#[]⟩ : ByteArray), false))))) else (some ((⟨#[]⟩ : ByteArray), false)))) R) :
    Ev (fun k => impl_codedWord.f k x) R := by
  obtain ⟨h12, hp, hq⟩ := hc
  unfold impl_codedWord.f
  refine Evx.bindc (b := (x.extract 10 x.size, true)) ((cut_prefix x ⟨#[61, 63, 117, 116, 102, 45, 56, 63, 66, 63]⟩).trans (congrArg some (if_pos hp))) ?_
  have hz := rest_size x
  refine Evx.bindc (b := ((x.extract 10 x.size).extract 0 ((x.extract 10 x.size).size - 2), true)) ((cut_suffix (x.extract 10 x.size) ⟨#[63, 61]⟩ (by rw [hz]; omega)).trans (congrArg some (if_pos ⟨by rw [hz]; show 2 ≤ _; omega, by rw [hz]; exact (rest_drop x h12).trans hq⟩))) ?_
  refine Evx.pos rfl ?_
  refine Ev.step (fun k => by rw [impl_codedWord.j0]) ?_
  have e : (x.extract 10 x.size).extract 0 ((x.extract 10 x.size).size - 2) = code x := by
    apply bs_inj
    rw [hz, bs_take, bs_drop _ _ _ (Nat.le_refl _), code, bs_extract, List.take_drop]
    congr 2
    omega
  simp only [e]
  exact Evx.neg Bool.false_ne_true h
theorem impl_out (x : ByteArray) (hs : x.size ≤ 65536) (hc : ¬ coded x) : Ev (fun k => impl_codedWord.f k x) ((⟨#[]⟩ : ByteArray), false) := by
  unfold impl_codedWord.f
  by_cases hp : (bs x).take 10 = bs ⟨#[61, 63, 117, 116, 102, 45, 56, 63, 66, 63]⟩
  · have hl : 10 ≤ x.size := by
      have := congrArg List.length hp
      rw [List.length_take, bs_length, bs_length] at this
      have h10 : (⟨#[61, 63, 117, 116, 102, 45, 56, 63, 66, 63]⟩ : ByteArray).size = 10 := rfl
      omega
    have hz := rest_size x
    refine Evx.bindc (b := (x.extract 10 x.size, true)) ((cut_prefix x ⟨#[61, 63, 117, 116, 102, 45, 56, 63, 66, 63]⟩).trans (congrArg some (if_pos hp))) ?_
    refine Evx.bindc (b := (x.extract 10 x.size, false)) (by
      refine (cut_suffix (x.extract 10 x.size) ⟨#[63, 61]⟩ (by rw [hz]; omega)).trans (congrArg some (if_neg ?_))
      intro a
      have a1 : 2 ≤ (x.extract 10 x.size).size := a.1
      have a2 := a.2
      rw [hz] at a1
      rw [hz] at a2
      exact hc ⟨by omega, hp, (rest_drop x (by omega)).symm.trans a2⟩) ?_
    refine Evx.pos rfl ?_
    refine Ev.step (fun k => by rw [impl_codedWord.j0]) ?_
    exact Evx.pos rfl (Ev.now _)
  · refine Evx.bindc (b := (x, false)) ((cut_prefix x ⟨#[61, 63, 117, 116, 102, 45, 56, 63, 66, 63]⟩).trans (congrArg some (if_neg hp))) ?_
    refine Evx.bindc (cut_suffix _ _ (by show x.size ≤ _; omega)) ?_
    refine Evx.neg Bool.false_ne_true ?_
    refine Ev.step (fun k => by rw [impl_codedWord.j0]) ?_
    exact Evx.pos rfl (Ev.now _)
/-- A word, read by both. -/
theorem word_both (x : ByteArray) (hs : x.size ≤ 65536) : ∃ (u t : ByteArray) (c : Bool), Ev (fun k => spec_l03Word.f k x) (u, c) ∧ Ev (fun k => impl_codedWord.f k x) (t, c) ∧ (c = true → u = t) ∧ t.size ≤ 65536 := by
  by_cases hc : coded x
  case neg => exact ⟨_, _, _, spec_out x hs hc, impl_out x hs hc, (fun e => Bool.noConfusion e), by show 0 ≤ _; omega⟩
  have hz := code_size x
  have hr1 := spec_rd (code x) (by omega)
  have hr2 := impl_rd (code x) (by omega)
  have hb := rd64_bytes (code x)
  have hl := rd64_len (code x)
  generalize rd64 (code x) = r at hr1 hr2 hb hl
  obtain ⟨l, ok⟩ := r
  simp only at hb hl
  have hzl := size_strOfNums l
  cases ok with
  | false =>
    refine ⟨strOfNums l, ⟨#[]⟩, false, spec_in x hs hc (Ev.bind hr1 (Evx.neg Bool.false_ne_true (Ev.now _))), impl_in x hs hc (Ev.bind hr2 (Evx.neg Bool.false_ne_true (Ev.now _))), (fun e => Bool.noConfusion e), by show 0 ≤ _; omega⟩
  | true =>
    have hv := valid_eq (strOfNums l) (by omega)
    generalize hV : Go.Lib.validD (strOfNums l).data.toList = V at hv
    by_cases h0 : l.length = 0
    · refine ⟨strOfNums l, ⟨#[]⟩, false, spec_in x hs hc (Ev.bind hr1 (Evx.pos rfl (Ev.bind hv ?_))), impl_in x hs hc (Ev.bind hr2 (Evx.pos rfl (Evx.pos (show (l.length : Int) = 0 by omega) (Ev.now _)))), (fun e => Bool.noConfusion e), by show 0 ≤ _; omega⟩
      cases V with
      | true => exact Evx.pos rfl (Evx.eq (Ev.now _) (by rw [decide_eq_false (show ¬ (l.length : Int) > 0 by omega)]))
      | false => exact Evx.neg Bool.false_ne_true (Ev.now _)
    have hu : utf8_Valid.f l = some V := by
      unfold utf8_Valid.f
      rw [if_pos ⟨⟨by omega, by omega⟩, hb⟩, hV]
    cases V with
    | true =>
      exact ⟨strOfNums l, strOfNums l, true, spec_in x hs hc (Ev.bind hr1 (Evx.pos rfl (Ev.bind hv (Evx.pos rfl (Evx.eq (Ev.now _) (by rw [decide_eq_true (show (l.length : Int) > 0 by omega)])))))), impl_in x hs hc (Ev.bind hr2 (Evx.pos rfl (Evx.neg (show ¬ (l.length : Int) = 0 by omega) (Evx.bindc hu (Evx.pos rfl (Ev.now _)))))), fun _ => rfl, by omega⟩
    | false =>
      exact ⟨strOfNums l, ⟨#[]⟩, false, spec_in x hs hc (Ev.bind hr1 (Evx.pos rfl (Ev.bind hv (Evx.neg Bool.false_ne_true (Ev.now _))))), impl_in x hs hc (Ev.bind hr2 (Evx.pos rfl (Evx.neg (show ¬ (l.length : Int) = 0 by omega) (Evx.bindc hu (Evx.neg Bool.false_ne_true (Ev.now _)))))), (fun e => Bool.noConfusion e), by show 0 ≤ _; omega⟩
/-- The text of bytes. -/
def tx (l : List UInt8) : ByteArray := ⟨l.toArray⟩
theorem tx_size (l : List UInt8) : (tx l).size = l.length := by rw [size_eq]; rfl
theorem tx_append (l m : List UInt8) : tx l ++ tx m = tx (l ++ m) := by
  apply ByteArray.ext
  rw [ByteArray.data_append]
  simp [tx]
theorem tx_data (s : ByteArray) : s = tx s.data.toList := rfl
theorem tx_word (l : List UInt8) (x : ByteArray) : tx l ++ x = tx (l ++ x.data.toList) := tx_append l x.data.toList
theorem tx_blank (l : List UInt8) : tx l ++ (⟨#[32]⟩ : ByteArray) = tx (l ++ [32]) := tx_append l [32]
/-- One word written by the reference, behind its reading. -/
theorem one_word (xs : List ByteArray) (i : Nat) (hi : i < xs.length) (acc : List UInt8) (u : ByteArray) (c sp : Bool) (hx : xs[i].size ≤ 65536) (hu : c = true → u.size ≤ 65536) (ha : acc.length ≤ 1000000000000) (hi2 : i ≤ 100000) {R : ByteArray}
    (h : Ev (fun k => spec_l03Decode.l0 k xs (tx ((if sp = true then acc ++ [32] else acc) ++ (if c = true then u else xs[i]).data.toList)) c ((i : Int) + 1)) R) :
    Ev (fun k => spec_l03Decode.j1 k xs (tx acc) (i : Int) u c sp) R := by
  have e : rdOf ByteArray.empty xs (i : Int) = xs[i] := by
    unfold rdOf
    rw [Int.toNat_natCast, List.getD_eq_getElem?_getD, List.getElem?_eq_getElem hi]
    rfl
  have hz := tx_size acc
  have hz2 := tx_size (acc ++ [32])
  rw [List.length_append, List.length_singleton] at hz2
  refine Ev.step (fun k => by rw [spec_l03Decode.j1]) ?_
  rw [e, tx_blank, Evx.w64 (i := (i : Int) + 1) (by omega) (by omega)]
  cases sp with
  | true =>
    refine Evx.pos rfl (Evx.pos (by omega) ?_)
    cases c with
    | true =>
      have := hu rfl
      refine Evx.pos rfl (Evx.pos (by omega) ?_)
      rw [tx_word]
      exact h
    | false =>
      refine Evx.neg Bool.false_ne_true (Evx.pos (by omega) (Evx.pos (by omega) (Evx.pos (by omega) ?_)))
      rw [tx_word]
      exact h
  | false =>
    refine Evx.neg Bool.false_ne_true ?_
    cases c with
    | true =>
      have := hu rfl
      refine Evx.pos rfl (Evx.pos (by omega) ?_)
      rw [tx_word]
      exact h
    | false =>
      refine Evx.neg Bool.false_ne_true (Evx.pos (by omega) (Evx.pos (by omega) (Evx.pos (by omega) ?_)))
      rw [tx_word]
      exact h
set_option maxHeartbeats 1000000 in
theorem words (xs : List ByteArray) (hl : xs.length ≤ 65537) (hx : ∀ x ∈ xs, x.size ≤ 65536) : ∀ (d i : Nat) (bef : Bool) (acc : List UInt8), i + d = xs.length → acc.length ≤ i * 65537 →
    ∃ R, Ev (fun k => impl_decodeWords.go k (xs.drop i) (decide (i = 0)) bef acc) R ∧ Ev (fun k => spec_l03Decode.l0 k xs (tx acc) bef (i : Int)) (tx R)
  | 0, i, bef, acc, h, ha => by
    refine ⟨acc, ?_, ?_⟩
    · rw [List.drop_eq_nil_of_le (by omega)]
      exact Evx.fn (Ev.now _) (by funext k; rw [impl_decodeWords.go])
    · refine Ev.step (fun k => by rw [spec_l03Decode.l0]) ?_
      exact Evx.neg (by omega) (Ev.now _)
  | d + 1, i, bef, acc, h, ha => by
    have hi : i < xs.length := by omega
    have b1 : i * 65537 ≤ 65537 * 65537 := Nat.mul_le_mul_right _ (by omega)
    have hxi := hx xs[i] (List.getElem_mem hi)
    obtain ⟨u, t, c, h1, h2, h3, h4⟩ := word_both xs[i] hxi
    have e : rdOf ByteArray.empty xs (i : Int) = xs[i] := by
      unfold rdOf
      rw [Int.toNat_natCast, List.getD_eq_getElem?_getD, List.getElem?_eq_getElem hi]
      rfl
    have ew : (if c = true then u else xs[i]) = (if c = true then t else xs[i]) := by
      split
      · rename_i hc; exact h3 hc
      · rfl
    have hw : (if c = true then t else xs[i]).data.toList.length ≤ 65536 := by
      rw [← size_eq]
      split
      · exact h4
      · exact hxi
    obtain ⟨R, r1, r2⟩ := words xs hl hx d (i + 1) c ((if decide (i = 0) = false ∧ ¬ (c = true ∧ bef = true) then acc ++ [32] else acc) ++ (if c = true then t else xs[i]).data.toList) (by omega) (by
      rw [List.length_append]
      split
      · rw [List.length_append, List.length_singleton]; omega
      · omega)
    refine ⟨R, ?_, ?_⟩
    · rw [List.drop_eq_getElem_cons hi]
      refine Evx.fn (f := fun k => (impl_codedWord.f k xs[i]).bind fun t => if t.1.size ≤ 1000000 then impl_decodeWords.go k (xs.drop (i + 1)) false t.2 ((if decide (i = 0) = false ∧ ¬ (t.2 = true ∧ bef = true) then acc ++ [32] else acc) ++ (if t.2 = true then t.1 else xs[i]).data.toList) else none) ?_ (by funext k; rw [impl_decodeWords.go])
      refine Ev.bind h2 (Evx.pos (by show t.size ≤ _; omega) ?_)
      rw [show decide (i + 1 = 0) = false from decide_eq_false (by omega)] at r1
      exact r1
    · refine Ev.step (fun k => by rw [spec_l03Decode.l0]) ?_
      rw [e]
      refine Evx.pos (by omega) (Evx.pos (by omega) (Ev.bind h1 ?_))
      rw [← ew] at r2
      have hu : c = true → u.size ≤ 65536 := fun hc => by rw [h3 hc]; exact h4
      rw [show ((i + 1 : Nat) : Int) = (i : Int) + 1 from rfl] at r2
      by_cases hi0 : i = 0
      · refine Evx.neg (by omega) ?_
        refine one_word xs i hi acc u c false hxi hu (by omega) (by omega) ?_
        rw [if_neg (fun q => by have := of_decide_eq_false q.1; omega)] at r2
        exact r2
      · refine Evx.pos (by omega) ?_
        have hd : decide (i = 0) = false := decide_eq_false hi0
        refine Evx.ite (fun hc => ?_) (fun hc => ?_)
        · refine one_word xs i hi acc u c (!bef) hxi hu (by omega) (by omega) ?_
          have hc' : c = true := hc
          cases bef with
          | true => rw [if_neg (fun q => q.2 ⟨hc', rfl⟩)] at r2; exact r2
          | false => rw [if_pos ⟨hd, fun q => by cases q.2⟩] at r2; exact r2
        · refine one_word xs i hi acc u c (!false) hxi hu (by omega) (by omega) ?_
          rw [if_pos ⟨hd, fun q => hc q.1⟩] at r2
          exact r2
theorem decode_both (s : ByteArray) (hs : s.size ≤ 65536) : ∃ r, Ev (fun k => impl_decodeWords.f k s) r ∧ Ev (fun k => spec_l03Decode.f k s) r := by
  have hle := Go.Lib.countB_le ⟨#[32]⟩ (by decide) s.size s (Nat.le_refl _)
  have hl := Go.Lib.splitB_all ⟨#[32]⟩ (by decide) 0 _ s rfl
  obtain ⟨R, r1, r2⟩ := words (Go.Lib.splitB ⟨#[32]⟩ 0 (Go.Lib.countB s ⟨#[32]⟩) s) (by omega) (fun x hx => Nat.le_trans (impl_decodeWords.split_le _ _ _ x hx) hs) _ 0 false [] (Nat.zero_add _) (by simp)
  refine ⟨tx R, ?_, ?_⟩
  · unfold impl_decodeWords.f
    exact Evx.pos (by omega) (Ev.bind r1 (Ev.now _))
  · unfold spec_l03Decode.f
    exact Ev.bind (cut_eq s (by omega) 32) r2
end Go.Proofs.YtebmhicdlamnbaaDoor.EQFnExactDecodeWords
