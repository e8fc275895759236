/- Bytes are read back from their base 64 text, and any text that is read is just that of what was read. Conditions: none. -/
import Derived.Test.YtebmhicdlamnbaaQFnBase64x4
import Derived.Test.YtebmhicdlamnbaaEvx
import Derived.Test.YtebmhicdlamnbaaB64h
import Derived.Test.YtebmhicdlamnbaaSrcf
namespace Go.Proofs.Ytebmhicdlamnbaa.Pure
open Go.RowKit Go.Proofs.Ytebmhicdlamnbaa.QFnBase64 Go.Proofs.YtebmhicdlamnbaaW.PrintWords Go.Proofs.YtebmhicdlamnbaaW.PrintLast
set_option linter.unusedSimpArgs false
set_option linter.unusedVariables false

open Go.Proofs.Ytebmhicdlamnbaa.DQFnBase64 Go.Proofs.Ytebmhicdlamnbaa.BQFnBase64 Go.Proofs.Ytebmhicdlamnbaa.Bsx Go.Proofs.Ytebmhicdlamnbaa.Evx Go.Proofs.Ytebmhicdlamnbaa.SQFnBase64
theorem bytes_loop {l : List Int} (hl : SQFnBase64.Code l) (n : Nat) : ∀ (out : List Int) (a s : Int), (0 ≤ a ∧ a ≤ 1000 - 3 * n) → (0 ≤ s ∧ s ≤ 2147483647) → out.length + n ≤ 100 → (∀ y ∈ out, 0 ≤ y ∧ y < 256) →
    ∃ r a' s', Ev (fun k => spec_l00Src_bytes.l0 k out (n : Int) l a s) (r, a', s') ∧ (∀ y ∈ r, 0 ≤ y ∧ y < 256) ∧ r.length = out.length + n := by
  induction n with
  | zero =>
    intro out a s ha hs ho hy
    refine ⟨out, a, s, ?_, hy, rfl⟩
    refine Ev.step (fun k => by rw [spec_l00Src_bytes.l0]) ?_
    exact Evx.neg (by omega) (Ev.now _)
  | succ n ih =>
    intro out a s ha hs ho hy
    obtain ⟨r1, a1, s1, e1, b1, c1, d1⟩ := next_ok hl (a := a) (s := s) (n := 256) (by omega) hs (by omega)
    have q1 := b1.2 (by omega)
    have h0 := b1.1
    obtain ⟨r, a', s', h1, h2, h3⟩ := ih (out ++ [r1]) a1 s1 (by omega) d1 (by simp; omega) (by
      intro y hy2
      rcases List.mem_append.1 hy2 with h | h
      · exact hy y h
      · simp at h; omega)
    refine ⟨r, a', s', ?_, h2, by rw [h3]; simp; omega⟩
    refine Ev.step (fun k => by rw [spec_l00Src_bytes.l0]) ?_
    refine Evx.pos (by omega) (Evx.bindc e1 (Evx.pos (by omega) ?_))
    rw [Evx.w64 (i := ((n + 1 : Nat) : Int) - 1) (by omega) (by omega)]
    simp only
    rw [show r1 % 256 = r1 by omega, show ((n + 1 : Nat) : Int) - 1 = (n : Int) by omega]
    exact h1
theorem bytes_ok {l : List Int} (hl : SQFnBase64.Code l) : ∃ b, Ev (fun k => spec_BytesOf.f k l 40) b ∧ (∀ y ∈ b, 0 ≤ y ∧ y < 256) ∧ b.length ≤ 40 := by
  have h1 := hl.1
  unfold spec_BytesOf.f spec_l00Source.f
  obtain ⟨r1, a1, s1, e1, b1, c1, d1⟩ := next_ok hl (a := 0) (s := (l.length : Int) % 1000) (n := 41) (by omega) (by omega) (by omega)
  have q1 := b1.2 (by omega)
  have h0 := b1.1
  obtain ⟨r, a', s', h2, h3, h4⟩ := bytes_loop hl r1.toNat [] a1 s1 (by omega) d1 (by simp; omega) (by simp)
  refine ⟨r, ?_, h3, by simp at h4; omega⟩
  refine Evx.bindc rfl ?_
  unfold spec_l00Src_bytes.f
  refine Ev.bind (a := (r, a', s')) ?_ (Ev.now _)
  rw [Evx.w64 (i := 40 + 1) (by omega) (by omega)]
  refine Evx.bindc e1 ?_
  simp only
  rw [show (r1.toNat : Int) = r1 by omega] at h2
  exact h2
/-- What both sides answer. -/
def ans (s : ByteArray) : List Int × Int := if (s.size : Int) > 65536 then ([], 2) else if (rd64 s).2 = true then ((rd64 s).1, 0) else ([], 3)
theorem spec_ans (s : ByteArray) (hs : s.size ≤ 1048576) : Ev (fun k => spec_ReadBase64.f k s) (ans s) := by
  unfold spec_ReadBase64.f ans
  refine Evx.ite (fun h => ?_) (fun h => ?_)
  · rw [if_pos h]; exact Ev.now _
  · rw [if_neg h]
    refine Ev.bind (spec_rd s hs) (Evx.ite (fun a => ?_) (fun a => ?_))
    · rw [if_pos a]; exact Ev.now _
    · rw [if_neg a]; exact Ev.now _
theorem impl_ans (s : ByteArray) (hs : s.size ≤ 1048576) : Ev (fun k => impl_ReadBase64.f k s) (ans s) := by
  unfold impl_ReadBase64.f ans
  refine Evx.ite (fun h => ?_) (fun h => ?_)
  · rw [if_pos h]; exact Ev.now _
  · rw [if_neg h]
    refine Ev.bind (impl_rd s hs) (Evx.ite (fun a => ?_) (fun a => ?_))
    · rw [if_pos a]; exact Ev.now _
    · rw [if_neg a]; exact Ev.now _

theorem FnBase64 : laws_FnBase64.Pure := by
  intro l0 hm hs hw
  refine Ev.rounds (g := fun k => laws_FnBase64.f k l0) ?_
  unfold laws_FnBase64.f
  refine Evx.ite (fun _ => Ev.now _) (fun hl => ?_)
  have hx : ∀ x ∈ l0, 0 ≤ x ∧ x < 256 := fun x h => by
    have := hw x h
    simp [Lit.wf, IntKind.min, IntKind.max, IntKind.signed, IntKind.bits] at this
    omega
  have hl' : l0.length ≤ 1048576 := by omega
  obtain ⟨b, eb, hb, hlen⟩ := bytes_ok (l := l0) ⟨hl', hx⟩
  have hey := enc_range b hb
  have hel := enc_length b
  have ts : (strOfNums (enc b)).size ≤ 1048576 := by rw [size_strOfNums, hel]; omega
  have hrd : rd64 (strOfNums (enc b)) = (b, true) := by
    unfold rd64
    rw [size_strOfNums, if_pos (by omega), bs_strOfNums hey, spec_enc b [] hb]; rfl
  have k1 : Ev (fun k => impl_Base64Text.f k b) (strOfNums (enc b), 0) := by
    unfold impl_Base64Text.f
    exact Evx.neg (by omega) (Ev.bind (impl_b64 b (by omega) hb) (Ev.now _))
  have k2 : Ev (fun k => spec_Base64Text.f k b) (strOfNums (enc b), 0) := by
    unfold spec_Base64Text.f
    exact Evx.neg (by omega) (Ev.bind (spec_b64 b (by omega) hb) (Ev.now _))
  have k3 : Ev (fun k => impl_ReadBase64.f k (strOfNums (enc b))) (b, 0) := by
    unfold impl_ReadBase64.f
    refine Evx.neg (by rw [size_strOfNums, hel]; omega) (Ev.bind (impl_rd _ ts) ?_)
    rw [hrd]
    exact Evx.pos rfl (Ev.now _)
  refine Ev.bind eb (Ev.bind k1 (Ev.bind k2 (Ev.bind k3 (Evx.pos rfl (Evx.pos rfl (Evx.pos ?_ (Evx.pos rfl ?_)))))))
  · simp only
    rw [size_strOfNums, hel, Evx.w64 (i := (b.length : Int) + 2) (by omega) (by omega), Int.tdiv_eq_ediv_of_nonneg (by omega), Evx.w64 (i := ((b.length : Int) + 2) / 3) (by omega) (by omega), Evx.w64 (i := ((b.length : Int) + 2) / 3 * 4) (by omega) (by omega)]
    omega
  refine Ev.step (fun k => by rw [laws_FnBase64.j0]) ?_
  have hsz : (strOfNums l0).size ≤ 1048576 := by rw [size_strOfNums]; exact hl'
  refine Evx.neg (by simp) (Ev.bind (impl_ans _ hsz) (Ev.bind (spec_ans _ hsz) (Evx.pos rfl ?_)))
  refine Evx.ite (fun h0 => ?_) (fun h0 => Ev.now _)
  have hbs : bs (strOfNums l0) = l0 := bs_strOfNums hx
  unfold ans at h0 ⊢
  by_cases h1 : ((strOfNums l0).size : Int) > 65536
  · rw [if_pos h1] at h0; cases h0
  rw [if_neg h1] at h0 ⊢
  by_cases h2 : (rd64 (strOfNums l0)).2 = true
  · rw [if_pos h2]
    have h5 : (strOfNums l0).size % 4 = 0 := by
      unfold rd64 at h2
      by_cases c : (strOfNums l0).size % 4 = 0
      · exact c
      · rw [if_neg c] at h2; cases h2
    have e3 : rd64 (strOfNums l0) = specR [] l0 := by unfold rd64; rw [if_pos h5, hbs]
    rw [e3] at h2 ⊢
    obtain ⟨_, b', f1, f2, f3, f4⟩ := spec_ok l0 [] hx (by rw [size_strOfNums] at h5; exact h5) h2
    rw [f1, List.nil_append]
    rw [size_strOfNums] at h1
    have k9 : Ev (fun k => impl_Base64Text.f k b') (strOfNums (enc b'), 0) := by
      unfold impl_Base64Text.f
      exact Evx.neg (by omega) (Ev.bind (impl_b64 b' (by omega) f3) (Ev.now _))
    refine Ev.bind k9 (Evx.pos rfl ?_)
    simp only
    rw [f2]
    exact Evx.eq (Ev.now _) (by simp)
  · rw [if_neg h2] at h0; cases h0

end Go.Proofs.Ytebmhicdlamnbaa.Pure
