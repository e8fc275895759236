/- Encoded words: the reference and the program part a text alike, and put the same words together. Conditions: texts of at most 1000 bytes. -/
import Derived.Test.YtebmhicdlamnbaaDoorU8vFnExactEncodeWords
import Derived.Test.YtebmhicdlamnbaaDoorB64tFnExactEncodeWords
import Derived.Test.YtebmhicdlamnbaaDoorVFnExactEncodeWords
import Derived.Lib.Join
namespace Go.Proofs.YtebmhicdlamnbaaDoor.EQFnExactEncodeWords
open Go.RowKit Go.Proofs.YtebmhicdlamnbaaDoor.QFnExactEncodeWords Go.Proofs.YtebmhicdlamnbaaDoorW.PrintWords Go.Proofs.YtebmhicdlamnbaaDoorW.PrintLast Go.Proofs.YtebmhicdlamnbaaDoorW.PrintMore
open Go.Proofs.YtebmhicdlamnbaaDoor.U8QFnExactEncodeWords (b b_lt bt_b dec dec_width decL out rune valid_eq)
open Go.Proofs.YtebmhicdlamnbaaDoor.BQFnExactEncodeWords (enc enc_length spec_b64 impl_b64)
set_option linter.unusedSimpArgs false
set_option linter.unusedVariables false
theorem ev_same {α : Type} {f : Nat → Option α} {x y : α} (h1 : Ev f x) (h2 : Ev f y) : x = y := by
  obtain ⟨k1, e1⟩ := h1
  obtain ⟨k2, e2⟩ := h2
  exact Option.some.inj ((e1 (max k1 k2) (Nat.le_max_left _ _)).symm.trans (e2 (max k1 k2) (Nat.le_max_right _ _)))
/-- A byte that goes on within a rune. -/
def cont (x : Nat) : Prop := 128 ≤ x ∧ x ≤ 191
theorem start_eq (x : Nat) (h : x < 256) : utf8_RuneStart.f (x : Int) = some (!decide (128 ≤ x ∧ x ≤ 191)) := by
  have key : ∀ y : Fin 256, (Go.bits .and .u8 (y.val : Int) 192 != 128) = !decide (128 ≤ y.val ∧ y.val ≤ 191) := by decide +kernel
  unfold utf8_RuneStart.f
  rw [key ⟨x, h⟩]
theorem dec_start {s : ByteArray} {p : Nat} (h : ¬ ((dec s p).1 = 65533 ∧ (dec s p).2 = 1)) :
    ¬ cont (b s p) ∧ ∀ j, 1 ≤ j → j < (dec s p).2 → cont (b s (p + j)) := by
  have l0 := b_lt s p
  have l1 := b_lt s (p + 1)
  have l2 := b_lt s (p + 2)
  have l3 := b_lt s (p + 3)
  have key : ¬ cont (b s p) ∧ (dec s p).2 ≤ 4 ∧ (2 ≤ (dec s p).2 → cont (b s (p + 1))) ∧ (3 ≤ (dec s p).2 → cont (b s (p + 2))) ∧ (4 ≤ (dec s p).2 → cont (b s (p + 3))) := by
    revert h
    unfold cont dec Go.Lib.decodeN
    repeat' split
    all_goals (intro h; first | (exfalso; exact h ⟨rfl, rfl⟩) | (simp only; omega))
  refine ⟨key.1, fun j h1 h2 => ?_⟩
  have : j = 1 ∨ j = 2 ∨ j = 3 := by omega
  rcases this with rfl | rfl | rfl
  · exact key.2.2.1 (by omega)
  · exact key.2.2.2.1 (by omega)
  · exact key.2.2.2.2 (by omega)
theorem dec_four {s : ByteArray} {p : Nat} : (dec s p).2 ≤ 4 := by
  unfold dec Go.Lib.decodeN
  repeat' split
  all_goals (simp only; omega)
/-- What the reference does with the part of a text up to a place. -/
def tl (k : Nat) (x0 x3 : ByteArray) (x4 : Int) : Option ByteArray := (if x3.toList = ([] : List UInt8) then (if 0 ≤ x4 then (if x4 ≤ (x0.size : Int) then (if (x0.extract 0 (x4 : Int).toNat).size ≤ 9223372036854775807 then ((spec_l02Base64.f k (bytesOf (x0.extract 0 (x4 : Int).toNat))).bind fun t140 => (if 10 + t140.size ≤ 9223372036854775807 then (if ((⟨#[61, 63, 117, 116, 102, 45, 56, 63, 66, 63]⟩ : ByteArray) ++ t140).size + 2 ≤ 9223372036854775807 then (if x3.size + (((⟨#[61, 63, 117, 116, 102, 45, 56, 63, 66, 63]⟩ : ByteArray) ++ t140) ++ (⟨#[63, 61]⟩ : ByteArray)).size ≤ 9223372036854775807 then (spec_l03Encode.l0 k (x0.extract (x4 : Int).toNat x0.size) (x3 ++ (((⟨#[61, 63, 117, 116, 102, 45, 56, 63, 66, 63]⟩ : ByteArray) ++ t140) ++ (⟨#[63, 61]⟩ : ByteArray)))) else (none)) else (none)) else (none))) else (none)) else (none)) else (none)) else (if x3.size + 1 ≤ 9223372036854775807 then (if 0 ≤ x4 then (if x4 ≤ (x0.size : Int) then (if (x0.extract 0 (x4 : Int).toNat).size ≤ 9223372036854775807 then ((spec_l02Base64.f k (bytesOf (x0.extract 0 (x4 : Int).toNat))).bind fun t141 => (if 10 + t141.size ≤ 9223372036854775807 then (if ((⟨#[61, 63, 117, 116, 102, 45, 56, 63, 66, 63]⟩ : ByteArray) ++ t141).size + 2 ≤ 9223372036854775807 then (if (x3 ++ (⟨#[32]⟩ : ByteArray)).size + (((⟨#[61, 63, 117, 116, 102, 45, 56, 63, 66, 63]⟩ : ByteArray) ++ t141) ++ (⟨#[63, 61]⟩ : ByteArray)).size ≤ 9223372036854775807 then (spec_l03Encode.l0 k (x0.extract (x4 : Int).toNat x0.size) ((x3 ++ (⟨#[32]⟩ : ByteArray)) ++ (((⟨#[61, 63, 117, 116, 102, 45, 56, 63, 66, 63]⟩ : ByteArray) ++ t141) ++ (⟨#[63, 61]⟩ : ByteArray)))) else (none)) else (none)) else (none))) else (none)) else (none)) else (none)) else (none)))
theorem cut_loop (s o : ByteArray) (hs : s.size ≤ 1000) {R : ByteArray} : ∀ (d k : Nat), s.size - k ≤ d → k ≤ s.size → k ≤ 45 → Go.Lib.validD (s.data.toList.drop k) = true →
    ∃ K : Nat, (Ev (fun f => tl f s o (K : Int)) R → Ev (fun f => spec_l03Encode.l1 f s o (k : Int)) R) ∧ k ≤ K ∧ K ≤ 45 ∧ K ≤ s.size ∧ Go.Lib.validD (s.data.toList.drop K) = true ∧
      (K < s.size → ¬ cont (b s K) ∧ (k = 0 → 0 < K) ∧ ∀ j : Nat, K < j → j ≤ 45 → j < s.size ∧ cont (b s j)) := by
  intro d
  induction d with
  | zero =>
    intro k hd hk hn hv
    refine ⟨k, fun h => ?_, Nat.le_refl _, hn, hk, hv, fun h => by omega⟩
    refine Ev.step (fun f => by rw [spec_l03Encode.l1]) ?_
    exact Evx.neg (by omega) h
  | succ d ih =>
    intro k hd hk hn hv
    by_cases h : k < s.size
    · have hw := dec_width h
      have h4 := dec_four (s := s) (p := k)
      have hne : s.data.toList.drop k ≠ [] := by
        intro e
        have := congrArg List.length e
        rw [List.length_drop, ← Evx.size_eq, List.length_nil] at this
        omega
      have hv0 := hv
      rw [Go.Lib.validD_step _ hne, decL h, List.drop_drop] at hv
      by_cases q : (dec s k).1 = 65533 ∧ (dec s k).2 = 1
      · rw [if_pos q] at hv
        cases hv
      rw [if_neg q] at hv
      have ht := dec_start q
      by_cases g : 45 < k + (dec s k).2
      · refine ⟨k, fun hR => ?_, Nat.le_refl _, hn, hk, hv0, fun _ => ⟨ht.1, fun e => by omega, fun j h1 h2 => ?_⟩⟩
        · refine Ev.step (fun f => by rw [spec_l03Encode.l1]) ?_
          refine Evx.pos (by omega) (Ev.bind (rune (by omega) h) ?_)
          unfold out
          rw [if_neg q]
          have e : wrap64 ((k : Int) + ((dec s k).2 : Int)) = ((k + (dec s k).2 : Nat) : Int) := by
            rw [Evx.w64 (by omega) (by omega)]; omega
          show Ev (fun f => if (wrap64 ((k : Int) + ((dec s k).2 : Int))) > 45 then _ else _) _
          rw [e]
          clear e
          exact Evx.pos (by omega) hR
        · have := ht.2 (j - k) (by omega) (by omega)
          rw [show k + (j - k) = j by omega] at this
          exact ⟨by omega, this⟩
      · obtain ⟨K, h1, h2, h3, h4, h5, h6⟩ := ih (k + (dec s k).2) (by omega) (by omega) (by omega) hv
        refine ⟨K, fun hR => ?_, by omega, h3, h4, h5, fun hK => ⟨(h6 hK).1, fun _ => by omega, (h6 hK).2.2⟩⟩
        refine Ev.step (fun f => by rw [spec_l03Encode.l1]) ?_
        refine Evx.pos (by omega) (Ev.bind (rune (by omega) h) ?_)
        unfold out
        rw [if_neg q]
        have e : wrap64 ((k : Int) + ((dec s k).2 : Int)) = ((k + (dec s k).2 : Nat) : Int) := by
          rw [Evx.w64 (by omega) (by omega)]; omega
        show Ev (fun f => if (wrap64 ((k : Int) + ((dec s k).2 : Int))) > 45 then _ else spec_l03Encode.l1 f s o (wrap64 ((k : Int) + ((dec s k).2 : Int)))) _
        rw [e]
        clear e
        exact Evx.neg (by omega) (h1 hR)
    · refine ⟨k, fun hR => ?_, Nat.le_refl _, hn, hk, hv, fun h => by omega⟩
      refine Ev.step (fun f => by rw [spec_l03Encode.l1]) ?_
      exact Evx.neg (by omega) hR
theorem back_loop (s : ByteArray) (hs : s.size ≤ 1000) (K : Nat) (hc : ¬ cont (b s K)) : ∀ (d j : Nat), j - K ≤ d → K ≤ j → j < s.size → (∀ i : Nat, K < i → i ≤ j → cont (b s i)) →
    Ev (fun f => impl_firstRunes.l0 f s (j : Int)) (s.extract 0 K) := by
  intro d
  induction d with
  | zero =>
    intro j hd hk hj _
    obtain rfl : j = K := by omega
    refine Ev.step (fun f => by rw [impl_firstRunes.l0]) ?_
    rw [bt_b, start_eq _ (b_lt _ _), Int.toNat_natCast]
    refine Evx.pos (by omega) (Evx.pos (by omega) (Evx.bindc rfl (Evx.pos ?_ (Evx.pos (by omega) (Ev.now _)))))
    rw [decide_eq_false (show ¬ (128 ≤ b s _ ∧ b s _ ≤ 191) from hc)]; rfl
  | succ d ih =>
    intro j hd hk hj hm
    by_cases e : j = K
    · subst e
      refine Ev.step (fun f => by rw [impl_firstRunes.l0]) ?_
      rw [bt_b, start_eq _ (b_lt _ _), Int.toNat_natCast]
      refine Evx.pos (by omega) (Evx.pos (by omega) (Evx.bindc rfl (Evx.pos ?_ (Evx.pos (by omega) (Ev.now _)))))
      rw [decide_eq_false (show ¬ (128 ≤ b s _ ∧ b s _ ≤ 191) from hc)]; rfl
    · have := ih (j - 1) (by omega) (by omega) (by omega) (fun i h1 h2 => hm i h1 (by omega))
      refine Ev.step (fun f => by rw [impl_firstRunes.l0]) ?_
      have e1 : wrap64 ((j : Int) - 1) = ((j - 1 : Nat) : Int) := by
        rw [Evx.w64 (by omega) (by omega)]; omega
      rw [bt_b, start_eq _ (b_lt _ _), e1]
      clear e1
      refine Evx.pos (by omega) (Evx.pos (by omega) (Evx.bindc rfl (Evx.neg ?_ this)))
      rw [decide_eq_true (show 128 ≤ b s j ∧ b s j ≤ 191 from hm j (by omega) (by omega))]; simp
/-- The first part of a text: both sides find it. -/
theorem part (s o : ByteArray) (hs : s.size ≤ 1000) (hp : 0 < s.size) (hv : Go.Lib.validD s.data.toList = true) (R : ByteArray) :
    ∃ K : Nat, (Ev (fun f => tl f s o (K : Int)) R → Ev (fun f => spec_l03Encode.l1 f s o 0) R) ∧ Ev (fun f => impl_firstRunes.f f s 45) (s.extract 0 K) ∧ 0 < K ∧ K ≤ 45 ∧ K ≤ s.size ∧ Go.Lib.validD (s.data.toList.drop K) = true := by
  obtain ⟨K, h1, h2, h3, h4, h5, h6⟩ := cut_loop s o hs (R := R) s.size 0 (by omega) (by omega) (by omega) (by rw [List.drop_zero]; exact hv)
  refine ⟨K, h1, ?_, ?_, h3, h4, h5⟩
  · unfold impl_firstRunes.f
    by_cases g : (45 : Int) ≥ (s.size : Int)
    · refine Evx.pos g (Evx.eq (Ev.now _) ?_)
      have hK : K = s.size := by
        by_cases hlt : K < s.size
        · have := ((h6 hlt).2.2 s.size hlt (by omega)).1
          omega
        · omega
      rw [hK, ByteArray.extract_zero_size]
    · refine Evx.neg g ?_
      have hlt : K < s.size := by omega
      obtain ⟨c1, _, c2⟩ := h6 hlt
      exact back_loop s hs K c1 45 45 (by omega) (by omega) (by omega) (fun i q1 q2 => (c2 i q1 q2).2)
  · by_cases hlt : K < s.size
    · exact (h6 hlt).2.1 rfl
    · omega
/-- One word. -/
def wd (p : ByteArray) : ByteArray := ((⟨#[61, 63, 117, 116, 102, 45, 56, 63, 66, 63]⟩ : ByteArray) ++ strOfNums (enc (bytesOf p))) ++ (⟨#[63, 61]⟩ : ByteArray)
theorem rng (p : ByteArray) : ∀ x ∈ bytesOf p, 0 ≤ x ∧ x < 256 := by
  intro x hx
  unfold bytesOf at hx
  obtain ⟨c, _, rfl⟩ := List.mem_map.1 hx
  have := c.toNat_lt
  omega
theorem enc_size (p : ByteArray) (h : p.size ≤ 45) : (strOfNums (enc (bytesOf p))).size ≤ 60 := by
  rw [Evx.size_strOfNums, enc_length, bytesOf_length]
  omega
theorem wd_size (p : ByteArray) (h : p.size ≤ 45) : 12 ≤ (wd p).size ∧ (wd p).size ≤ 72 := by
  have := enc_size p h
  unfold wd
  rw [ByteArray.size_append, ByteArray.size_append]
  show 12 ≤ 10 + _ + 2 ∧ 10 + _ + 2 ≤ 72
  omega
theorem ten (a : ByteArray) : ((⟨#[61, 63, 117, 116, 102, 45, 56, 63, 66, 63]⟩ : ByteArray) ++ a).size = 10 + a.size := ByteArray.size_append
theorem one32 (a : ByteArray) : (a ++ (⟨#[32]⟩ : ByteArray)).size = a.size + 1 := ByteArray.size_append
theorem nil_iff (a : ByteArray) : a.toList = ([] : List UInt8) ↔ a.size = 0 := by
  rw [Bsx.toList_nil, ← Evx.bs_length, List.length_eq_zero_iff]
theorem tl_ok (s o : ByteArray) (K : Nat) (hK : K ≤ s.size) (h45 : K ≤ 45) (hs : s.size ≤ 1000) (ho : o.size ≤ 100000) {R : ByteArray}
    (h : Ev (fun k => spec_l03Encode.l0 k (s.extract K s.size) (if o.size = 0 then o ++ wd (s.extract 0 K) else (o ++ (⟨#[32]⟩ : ByteArray)) ++ wd (s.extract 0 K))) R) : Ev (fun k => tl k s o (K : Int)) R := by
  have hz : (s.extract 0 K).size = K := by rw [ByteArray.size_extract]; omega
  have h64 := spec_b64 (bytesOf (s.extract 0 K)) (by rw [bytesOf_length]; omega) (rng _)
  have he := enc_size (s.extract 0 K) (by omega)
  have hwd := wd_size (s.extract 0 K) (by omega)
  have ht := ten (strOfNums (enc (bytesOf (s.extract 0 K))))
  have h1 := one32 o
  unfold tl
  rw [Int.toNat_natCast]
  by_cases g : o.size = 0
  · rw [if_pos g] at h
    exact Evx.pos ((nil_iff o).2 g) (Evx.pos (by omega) (Evx.pos (by omega) (Evx.pos (by omega) (Ev.bind h64 (Evx.pos (by omega) (Evx.pos (by omega) (Evx.pos (by show o.size + (wd (s.extract 0 K)).size ≤ _; omega) h)))))))
  · rw [if_neg g] at h
    exact Evx.neg (fun e => g ((nil_iff o).1 e)) (Evx.pos (by omega) (Evx.pos (by omega) (Evx.pos (by omega) (Evx.pos (by omega) (Ev.bind h64 (Evx.pos (by omega) (Evx.pos (by omega) (Evx.pos (by show (o ++ (⟨#[32]⟩ : ByteArray)).size + (wd (s.extract 0 K)).size ≤ _; omega) h))))))))
/-- The words with blanks between. -/
def jn (ws : List ByteArray) : List UInt8 := Lib.join (ws.map (·.data.toList)) [32]
def tx (l : List UInt8) : ByteArray := ⟨l.toArray⟩
theorem tx_size (l : List UInt8) : (tx l).size = l.length := by rw [Evx.size_eq]; rfl
theorem tx_append (l m : List UInt8) : tx l ++ tx m = tx (l ++ m) := by
  apply ByteArray.ext
  rw [ByteArray.data_append]
  simp [tx]
theorem tx_data (s : ByteArray) : s = tx s.data.toList := rfl
theorem jn_one (w : ByteArray) : jn [w] = w.data.toList := by
  unfold jn
  rw [List.map_cons, List.map_nil, Lib.join_one]
theorem jn_snoc (ws : List ByteArray) (w : ByteArray) (h : ws ≠ []) : jn (ws ++ [w]) = jn ws ++ 32 :: w.data.toList := by
  cases ws with
  | nil => exact absurd rfl h
  | cons x xs =>
    unfold jn
    rw [List.cons_append, List.map_cons, List.map_cons, Lib.join_cons, Lib.join_cons, List.map_append]
    simp [Lib.joinTail]
theorem words (n : Nat) : ∀ (s : ByteArray) (ws : List ByteArray), s.size ≤ n → ws.length + s.size ≤ 1000 → (jn ws).length ≤ 73 * ws.length → (ws ≠ [] → 0 < (jn ws).length) → Go.Lib.validD s.data.toList = true →
    ∃ R, Ev (fun k => spec_l03Encode.l0 k s (tx (jn ws))) R ∧ Ev (fun k => impl_EncodeWords.l0 k s ws) (R, 0) := by
  have fin : ∀ (s : ByteArray) (ws : List ByteArray), s.size = 0 → ws.length ≤ 1000 → (jn ws).length ≤ 73 * ws.length → ∃ R, Ev (fun k => spec_l03Encode.l0 k s (tx (jn ws))) R ∧ Ev (fun k => impl_EncodeWords.l0 k s ws) (R, 0) := by
    intro s ws h0 h1 h2
    refine ⟨tx (jn ws), ?_, ?_⟩
    · refine Ev.step (fun k => by rw [spec_l03Encode.l0]) ?_
      exact Evx.pos ((nil_iff s).2 h0) (Ev.now _)
    · refine Ev.step (fun k => by rw [impl_EncodeWords.l0]) ?_
      refine Evx.pos ((nil_iff s).2 h0) (Evx.bindc (b := tx (jn ws)) ?_ (Ev.now _))
      unfold strings_Join.f
      exact if_pos ⟨by omega, by show (jn ws).length ≤ _; omega⟩
  induction n with
  | zero =>
    intro s ws h0 h1 h2 _ _
    exact fin s ws (by omega) (by omega) h2
  | succ n ih =>
    intro s ws h0 h1 h2 h3 hv
    by_cases hz : s.size = 0
    · exact fin s ws hz (by omega) h2
    have hne : ¬ s.toList = ([] : List UInt8) := fun e => hz ((nil_iff s).1 e)
    have hjz := tx_size (jn ws)
    have rest : ∀ K : Nat, 0 < K → K ≤ 45 → K ≤ s.size → Go.Lib.validD (s.data.toList.drop K) = true → ∃ R, Ev (fun k => spec_l03Encode.l0 k (s.extract K s.size) (tx (jn (ws ++ [wd (s.extract 0 K)])))) R ∧ Ev (fun k => impl_EncodeWords.l0 k (s.extract K s.size) (ws ++ [wd (s.extract 0 K)])) (R, 0) := by
      intro K k0 k1 k2 k3
      have hwd := wd_size (s.extract 0 K) (by rw [ByteArray.size_extract]; omega)
      have hwl : (wd (s.extract 0 K)).data.toList.length = (wd (s.extract 0 K)).size := (Evx.size_eq _).symm
      have hjl : (jn (ws ++ [wd (s.extract 0 K)])).length ≤ (jn ws).length + 73 ∧ 0 < (jn (ws ++ [wd (s.extract 0 K)])).length := by
        by_cases hw : ws = []
        · subst hw
          rw [List.nil_append, jn_one]
          omega
        · rw [jn_snoc ws _ hw, List.length_append, List.length_cons]
          omega
      refine ih (s.extract K s.size) (ws ++ [wd (s.extract 0 K)]) (by rw [ByteArray.size_extract]; omega) ?_ ?_ (fun _ => hjl.2) ?_
      · rw [ByteArray.size_extract, List.length_append, List.length_singleton]
        omega
      · rw [List.length_append, List.length_singleton]
        omega
      · rw [Bsx.extract_toList, List.take_of_length_le (by rw [← Evx.size_eq]; exact Nat.le_refl _)]
        exact k3
    have tail : ∀ (K : Nat) (R : ByteArray), 0 < K → K ≤ 45 → K ≤ s.size → Ev (fun k => spec_l03Encode.l0 k (s.extract K s.size) (tx (jn (ws ++ [wd (s.extract 0 K)])))) R → Ev (fun f => tl f s (tx (jn ws)) (K : Int)) R := by
      intro K R k0 k1 k2 hR
      refine tl_ok s (tx (jn ws)) K k2 k1 (by omega) (by omega) ?_
      refine Evx.fn hR ?_
      funext k
      congr 1
      by_cases hw : ws = []
      · subst hw
        have e0 : (tx (jn [])).size = 0 := by rw [tx_size]; rfl
        rw [if_pos e0, List.nil_append, jn_one, ← tx_data]
        apply ByteArray.ext
        rw [ByteArray.data_append]
        exact (Array.empty_append).symm
      · have := h3 hw
        rw [if_neg (by omega), jn_snoc ws _ hw]
        rw [show (⟨#[32]⟩ : ByteArray) = tx [32] from rfl, tx_append, tx_data (wd (s.extract 0 K)), tx_append, List.append_assoc]
        rfl
    obtain ⟨K, _, p2, p3, p4, p5, p6⟩ := part s (tx (jn ws)) (by omega) (by omega) hv (tx [])
    obtain ⟨R, r1, r2⟩ := rest K p3 p4 p5 p6
    obtain ⟨K', q1, q2, q3, q4, q5, q6⟩ := part s (tx (jn ws)) (by omega) (by omega) hv R
    have hKK : K' = K := by
      have e : s.extract 0 K' = s.extract 0 K := ev_same q2 p2
      have := congrArg ByteArray.size e
      rw [ByteArray.size_extract, ByteArray.size_extract] at this
      omega
    subst hKK
    refine ⟨R, ?_, ?_⟩
    · refine Ev.step (fun k => by rw [spec_l03Encode.l0]) ?_
      exact Evx.neg hne (q1 (tail K' R p3 p4 p5 r1))
    · have hz2 : (s.extract 0 K').size = K' := by rw [ByteArray.size_extract]; omega
      have h64 := impl_b64 (bytesOf (s.extract 0 K')) (by rw [bytesOf_length]; omega) (rng _)
      have he := enc_size (s.extract 0 K') (by omega)
      have ht := ten (strOfNums (enc (bytesOf (s.extract 0 K'))))
      refine Ev.step (fun k => by rw [impl_EncodeWords.l0]) ?_
      refine Evx.neg hne (Ev.bind q2 (Evx.pos (by omega) (Ev.bind (a := (strOfNums (enc (bytesOf (s.extract 0 K'))), 0)) ?_ ?_)))
      · unfold impl_Base64Text.f
        exact Evx.neg (by rw [bytesOf_length]; omega) (Ev.bind h64 (Ev.now _))
      · refine Evx.pos (by show 10 + (strOfNums (enc (bytesOf (s.extract 0 K')))).size ≤ _; omega) (Evx.pos (by show ((⟨#[61, 63, 117, 116, 102, 45, 56, 63, 66, 63]⟩ : ByteArray) ++ strOfNums (enc (bytesOf (s.extract 0 K')))).size + 2 ≤ _; omega) (Evx.pos (by omega) (Evx.pos (by omega) (Evx.pos (by omega) ?_))))
        rw [hz2, Int.toNat_natCast]
        exact r2
/-- No '=?' from a place on. -/
theorem plain_loop (s : ByteArray) (hs : s.size ≤ 65536) (d : Nat) : ∀ i : Nat, i + d = s.size → Ev (fun k => spec_l03Plain.l0 k s (i : Int)) (decide (Lib.index (s.data.toList.drop i) [61, 63] < 0)) := by
  have hlen : s.data.toList.length = s.size := (Evx.size_eq s).symm
  induction d with
  | zero =>
    intro i hi
    refine Ev.step (fun k => by rw [spec_l03Plain.l0]) ?_
    refine Evx.neg (by rw [Evx.w64 (by omega) (by omega)]; omega) (Evx.eq (Ev.now _) ?_)
    rw [List.drop_eq_nil_of_le (by omega)]
    rfl
  | succ d ih =>
    intro i hi
    have hil : i < s.data.toList.length := by omega
    refine Ev.step (fun k => by rw [spec_l03Plain.l0]) ?_
    have e1 : wrap64 ((i : Int) + 1) = ((i + 1 : Nat) : Int) := by rw [Evx.w64 (by omega) (by omega)]; omega
    rw [e1]
    clear e1
    have b0 : b s i = (s.data.toList[i]).toNat := by unfold b; rw [List.getD_eq_getElem?_getD, List.getElem?_eq_getElem hil]; rfl
    cases d with
    | zero =>
      refine Evx.neg (by omega) (Evx.eq (Ev.now _) ?_)
      rw [List.drop_eq_getElem_cons hil, List.drop_eq_nil_of_le (by omega)]
      simp [Lib.index, List.isPrefixOf]
    | succ d =>
      have hil2 : i + 1 < s.data.toList.length := by omega
      have b1 : b s (i + 1) = (s.data.toList[i + 1]).toNat := by unfold b; rw [List.getD_eq_getElem?_getD, List.getElem?_eq_getElem hil2]; rfl
      have go : ¬ ((s.data.toList[i]).toNat = 61 ∧ (s.data.toList[i + 1]).toNat = 63) → Ev (fun k => spec_l03Plain.l0 k s ((i + 1 : Nat) : Int)) (decide (Lib.index (s.data.toList.drop i) [61, 63] < 0)) := by
        intro hno
        have hge := Lib.index_ge (s.data.toList.drop (i + 1)) [61, 63]
        have e : decide (Lib.index (s.data.toList.drop i) [61, 63] < 0) = decide (Lib.index (s.data.toList.drop (i + 1)) [61, 63] < 0) := by
          rw [List.drop_eq_getElem_cons hil, Lib.index]
          have hp : List.isPrefixOf [61, 63] (s.data.toList[i] :: s.data.toList.drop (i + 1)) = false := by
            rw [List.drop_eq_getElem_cons hil2]
            simp only [List.isPrefixOf, Bool.and_true, Bool.and_eq_false_iff, beq_eq_false_iff_ne]
            by_cases h1 : (s.data.toList[i]).toNat = 61
            · exact .inr (fun e => hno ⟨h1, by rw [← e]; rfl⟩)
            · exact .inl (fun e => h1 (by rw [← e]; rfl))
          rw [hp, if_neg (by simp)]
          generalize Lib.index (s.data.toList.drop (i + 1)) [61, 63] = z at hge
          by_cases hz : z = -1
          · rw [if_pos (beq_iff_eq.2 hz), hz]
          · rw [if_neg (fun e => hz (beq_iff_eq.1 e)), decide_eq_false (by omega), decide_eq_false (by omega)]
        rw [e]
        exact ih (i + 1) (by omega)
      refine Evx.pos (by omega) (Evx.pos (by omega) (Evx.pos (by omega) ?_))
      rw [bt_b, bt_b, b0, b1]
      refine Evx.ite (fun h1 => Evx.pos (by omega) (Evx.ite (fun h2 => Evx.eq (Ev.now _) ?_) (fun h2 => go (by omega)))) (fun h1 => go (by omega))
      have c0 : s.data.toList[i] = 61 := UInt8.toNat_inj.1 (by show _ = 61; omega)
      have c1 : s.data.toList[i + 1] = 63 := UInt8.toNat_inj.1 (by show _ = 63; omega)
      rw [List.drop_eq_getElem_cons hil, List.drop_eq_getElem_cons hil2, c0, c1]
      simp [Lib.index, List.isPrefixOf]
/-- Both sides' words. -/
theorem both (s : ByteArray) (hs : s.size ≤ 1048576) : ∃ r, Ev (fun k => spec_EncodeWords.f k s) r ∧ Ev (fun k => impl_EncodeWords.f k s) r := by
  unfold spec_EncodeWords.f impl_EncodeWords.f utf8_ValidString.f
  by_cases h : (s.size : Int) > 65536
  · exact ⟨_, Evx.pos h (Ev.now _), Evx.pos h (Ev.now _)⟩
  have hv := valid_eq s (by omega)
  have hu : (if s.size ≤ 9223372036854775807 then some (Go.Lib.validD s.data.toList) else none) = some (Go.Lib.validD s.data.toList) := if_pos (by omega)
  cases hc : Go.Lib.validD s.data.toList with
  | false =>
    rw [hc] at hv hu
    exact ⟨_, Evx.neg h (Ev.bind hv (Evx.neg (by simp) (Ev.now _))), Evx.neg h (Evx.bindc hu (Evx.neg (by simp) (Ev.now _)))⟩
  | true =>
    have hc' := hc
    rw [hc] at hv hu
    by_cases h1 : (s.size : Int) > 1000
    · exact ⟨_, Evx.neg h (Ev.bind hv (Evx.pos rfl (Evx.pos h1 (Ev.now _)))), Evx.neg h (Evx.bindc hu (Evx.pos rfl (Evx.pos h1 (Ev.now _))))⟩
    have s1 := VQFnExactEncodeWords.spec_safe s (by omega)
    have s2 := VQFnExactEncodeWords.impl_safe s (by omega)
    obtain ⟨R, w1, w2⟩ := words s.size s [] (Nat.le_refl _) (by simp; omega) (by simp [jn, Lib.join_nil]) (fun e => absurd rfl e) hc'
    have j0 : Ev (fun k => impl_EncodeWords.j0 k s) (R, 0) := by
      refine Ev.step (fun k => by rw [impl_EncodeWords.j0]) ?_
      exact w2
    have enc1 : Ev (fun k => spec_l03Plain.f k s) false → Ev (fun k => spec_l03Encode.f k s) R := by
      intro hp
      unfold spec_l03Encode.f
      exact Ev.bind hp (Evx.neg (by simp) w1)
    by_cases hsafe : VQFnExactEncodeWords.safe (Evx.bs s)
    · rw [decide_eq_true hsafe] at s1 s2
      have pl := plain_loop s (by omega) s.size 0 (by omega)
      rw [List.drop_zero] at pl
      have hi : strings_Contains.f s (⟨#[61, 63]⟩ : ByteArray) = some (decide (Lib.index s.data.toList [61, 63] ≥ 0)) := by
        unfold strings_Contains.f strings_Index.f stringslite_Index.f
        rw [if_pos (by omega)]
        rfl
      have hp : Ev (fun k => spec_l03Plain.f k s) (decide (Lib.index s.data.toList [61, 63] < 0)) := by
        unfold spec_l03Plain.f
        exact Ev.bind s1 (Evx.pos rfl pl)
      by_cases hx : Lib.index s.data.toList [61, 63] < 0
      · rw [decide_eq_true hx] at hp
        rw [decide_eq_false (by omega)] at hi
        refine ⟨(s, 0), Evx.neg h (Ev.bind hv (Evx.pos rfl (Evx.neg h1 (Ev.bind (a := s) ?_ (Ev.now _))))), Evx.neg h (Evx.bindc hu (Evx.pos rfl (Evx.neg h1 (Ev.bind s2 (Evx.pos rfl (Evx.bindc hi (Evx.neg (by simp) (Ev.now _))))))))⟩
        unfold spec_l03Encode.f
        exact Ev.bind hp (Evx.pos rfl (Ev.now _))
      · rw [decide_eq_false hx] at hp
        rw [decide_eq_true (by omega)] at hi
        exact ⟨(R, 0), Evx.neg h (Ev.bind hv (Evx.pos rfl (Evx.neg h1 (Ev.bind (enc1 hp) (Ev.now _))))), Evx.neg h (Evx.bindc hu (Evx.pos rfl (Evx.neg h1 (Ev.bind s2 (Evx.pos rfl (Evx.bindc hi (Evx.pos rfl j0)))))))⟩
    · rw [decide_eq_false hsafe] at s1 s2
      have hp : Ev (fun k => spec_l03Plain.f k s) false := by
        unfold spec_l03Plain.f
        exact Ev.bind s1 (Evx.neg (by simp) (Ev.now _))
      exact ⟨(R, 0), Evx.neg h (Ev.bind hv (Evx.pos rfl (Evx.neg h1 (Ev.bind (enc1 hp) (Ev.now _))))), Evx.neg h (Evx.bindc hu (Evx.pos rfl (Evx.neg h1 (Ev.bind s2 (Evx.neg (by simp) j0)))))⟩
end Go.Proofs.YtebmhicdlamnbaaDoor.EQFnExactEncodeWords
