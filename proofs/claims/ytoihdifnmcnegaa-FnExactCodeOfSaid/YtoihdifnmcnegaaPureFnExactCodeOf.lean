/- For every text the program's CodeOf answers as the reference's. Conditions: none. -/
import Derived.Test.YtoihdifnmcnegaaPFnExactCodeOfx1
import Derived.Test.YtoihdifnmcnegaaEvx
namespace Go.Proofs.Ytoihdifnmcnegaa.Pure
open Go.RowKit Go.Proofs.Ytoihdifnmcnegaa.PFnExactCodeOf Go.Proofs.YtoihdifnmcnegaaW.PrintWords Go.Proofs.YtoihdifnmcnegaaW.PrintLast
set_option linter.unusedSimpArgs false
set_option linter.unusedVariables false

/-- The twenty code words. -/
def words : List ByteArray := (impl_codeWords.f).getD []
theorem words_length : words.length = 20 := rfl
theorem spec_word (a0 : Int) : spec_CodeWord.f a0 = (if a0 < 0 then (some (⟨#[]⟩ : ByteArray)) else (if a0 ≥ (words.length : Int) then (some (⟨#[]⟩ : ByteArray)) else (if 0 ≤ a0 then (if a0 < (words.length : Int) then (some (rdOf ByteArray.empty words a0)) else (none)) else (none)))) := rfl
/-- The first place, of d places from i on, at which the word is s; -1 without one. -/
def findFrom (s : ByteArray) : Int → Nat → Int
  | _, 0 => -1
  | i, d + 1 => if (rdOf ByteArray.empty words i).toList = s.toList then i else findFrom s (i + 1) d
theorem spec_loop (s : ByteArray) (d : Nat) : ∀ i : Int, 0 ≤ i → 20 - i = d → Ev (fun k => spec_CodeOf.l0 k s i) (findFrom s i d) := by
  induction d with
  | zero =>
    intro i h0 hd
    refine Ev.step (fun k => by rw [spec_CodeOf.l0]) ?_
    exact Evx.neg (by omega) (Ev.now _)
  | succ d ih =>
    intro i h0 hd
    have hw : spec_CodeWord.f i = some (rdOf ByteArray.empty words i) := by
      rw [spec_word, words_length, if_neg (by omega), if_neg (by omega), if_pos h0, if_pos (by omega)]
    refine Ev.step (fun k => by rw [spec_CodeOf.l0]) ?_
    refine Evx.pos (by omega) (Evx.bindc hw ?_)
    have next := ih (i + 1) (by omega) (by omega)
    rw [Evx.w64 (by omega) (by omega)]
    simp only [findFrom]
    refine Evx.ite (fun h => ?_) (fun h => ?_)
    · rw [if_pos h]; exact Ev.now _
    · rw [if_neg h]; exact next
theorem impl_loop (s : ByteArray) (d : Nat) : ∀ i : Int, 0 ≤ i → 20 - i = d → Ev (fun k => slices_Index_string_string.l0 k words s (words.length : Int) i) (findFrom s i d) := by
  rw [words_length]
  induction d with
  | zero =>
    intro i h0 hd
    refine Ev.step (fun k => by rw [slices_Index_string_string.l0]) ?_
    exact Evx.neg (by omega) (Ev.now _)
  | succ d ih =>
    intro i h0 hd
    refine Ev.step (fun k => by rw [slices_Index_string_string.l0]) ?_
    refine Evx.pos (by omega) (Evx.pos h0 (Evx.pos (by rw [words_length]; omega) ?_))
    have next := ih (i + 1) (by omega) (by omega)
    rw [Evx.w64 (by omega) (by omega)]
    simp only [findFrom]
    refine Evx.ite (fun h => ?_) (fun h => ?_)
    · rw [if_pos h.symm]; exact Ev.now _
    · rw [if_neg (fun e => h e.symm)]; exact next

theorem FnExactCodeOf : laws_FnExactCodeOf.Pure := by
  intro s hs
  refine Ev.rounds (g := fun k => laws_FnExactCodeOf.f k s) ?_
  unfold laws_FnExactCodeOf.f
  refine Evx.ite (fun _ => Ev.now _) (fun hl => ?_)
  have k1 : Ev (fun k => spec_CodeOf.f k s) (findFrom s 0 20) := spec_loop s 20 0 (by omega) rfl
  have k2 : Ev (fun k => impl_CodeOf.f k s) (findFrom s 0 20) := by
    unfold impl_CodeOf.f
    refine Evx.bindc (x := impl_codeWords.f) (b := words) rfl (Ev.bind (a := findFrom s 0 20) ?_ (Ev.now _))
    unfold slices_Index_string_string.f
    exact impl_loop s 20 0 (by omega) rfl
  refine Ev.bind k1 (Ev.bind k2 ?_)
  exact Evx.pos rfl (Ev.now _)

end Go.Proofs.Ytoihdifnmcnegaa.Pure
