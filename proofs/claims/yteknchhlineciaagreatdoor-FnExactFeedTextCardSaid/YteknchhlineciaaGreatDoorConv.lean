/- A text turned into bytes, as one step of a walk: what it leaves is a slice that is read. Conditions: a text of at most 2^63 - 1 bytes. -/
import Derived.Test.YteknchhlineciaaGreatDoorWMore
namespace Go.Proofs.YteknchhlineciaaGreatDoor.Conv
open Go.RowKit Go.Proofs.YteknchhlineciaaGreatDoorW.PrintWords
set_option linter.unusedVariables false
theorem conv_event {P : Program} {ops : Array Oper} {rest : List Oper} {o : Oper} {a : Act} {Q : Exit → Act → World → Prop} {W : World} (hgd : o.guard = none) {N : Tmp} (_hd : o.dst = some N) (src dst e : TypeId) {u : TypeDesc}
    (s : ByteArray) (ho : ∃ x, o.op = .convert src dst x ∧ a.eval x = .string s) (hs : P.underlying src = some u) (hdt : P.underlying dst = some (.slice e)) (he : P.underlying e = some (.int .u8)) (hsz : s.size ≤ 9223372036854775807)
    (h : ∀ A1 c1 w1, Kd.C (Kd.int .u8) w1 A1 (bytesOf s).length (bytesOf s) → (bytesOf s).length ≤ c1 → Below W.heap.size W w1 → wpList P ops Q rest (a.put o.dst (.slice A1 (bytesOf s).length c1)) w1) : wpList P ops Q (o :: rest) a W := by
  obtain ⟨x, ho, hx⟩ := ho
  have hr := print_bytes (P := P) src dst e hs hdt he s W
  have hl : (bytesOf s).length = s.size := bytesOf_length s
  refine Kd.event_run hgd (v := .slice (some ⟨W.heap.size, 0, none⟩) (bytesOf s).length (grownCap W s.size 0 e)) (w1 := Lib.bytesWorld W e s) ?_ (h _ _ _ ?_ ?_ (bytes_below (Below.refl _ _) (Nat.le_refl _) e s))
  · rw [hl]
    simp [execOp, ho, hx, hr]
  · have hb := bytes_reads W e s hsz
    rw [← hl] at hb
    exact Kd.C_of_reads (enc := Value.int .u8) (d := (0 : Int)) (h1 := fun _ => rfl) hb
  · rw [hl]
    have hc := Go.grownCap_ge W s.size 0 e
    omega
end Go.Proofs.YteknchhlineciaaGreatDoor.Conv
