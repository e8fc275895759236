/- sync.Once, its first call: the lock is free, nothing is done yet, one goroutine: each part a contract of its own. What five bytes are turned into, in plain words, and how long a text becomes. What a byteStringReplacer holds behind k rounds of its build, in worlds alone. strings.Replacer's build, of the five pairs that escape a text: a byteStringReplacer. What the walk of a byteStringReplacer's Replace reads and writes: its cells, the buffer. strings.byteStringReplacer's Replace, for the five bytes: each byte turned into what it becomes. Conditions: a text of at most 100,000 bytes. strings.NewReplacer and a Replacer's first Replace, for the five pairs that escape a text. -/
import Derived.Test.YteknchhlineciaaGreatDoorWMore
import Derived.Test.YteknchhlineciaaGreatDoorProg
import Derived.Tactics
import Derived.Tactics2
import Derived.Defers
import Derived.Laws.Pointers
import Derived.Laws.LoneSync
import Derived.RegionTactic
import Derived.RegionCalls
import Derived.ChangeAlike
import Derived.Lib.Bytealg
import Derived.Test.YteknchhlineciaaGreatDoorConv
import Derived.Laws.MakeOwn
import Derived.Deep.WholeRow
import Derived.Lib.Builder
import Derived.Lib.ConvBytes
import Derived.Deep.LoopGhost
import Derived.Deep.CutBlock
import Derived.Deep.DeepCutAuto
import Derived.Deep.QuietTactic
import Derived.Lib.SlBuf
import Derived.Laws.BytesArg
import Derived.Deep.RegionLaw
import Derived.Test.YteknchhlineciaaGreatDoorShelf
import Derived.ArgAppend
namespace Go.Proofs.YteknchhlineciaaGreatDoor.Once
open Go.Proofs.YteknchhlineciaaGreatDoorW.PrintWords
set_option linter.unusedVariables false
theorem disable (w : World) : (callFunc 116 #[]).run Tryz.prog w = .ok (.value (.tuple #[])) w := run_call_mark0 Tryz.func116 (by kernel_rfl) (by kernel_rfl) (by kernel_rfl) .disable (by kernel_rfl) w
theorem enable (w : World) : (callFunc 118 #[]).run Tryz.prog w = .ok (.value (.tuple #[])) w := run_call_mark0 Tryz.func118 (by kernel_rfl) (by kernel_rfl) (by kernel_rfl) .enable (by kernel_rfl) w
theorem acquire (a : Addr) (w : World) : (callFunc 119 #[.pointer (some a)]).run Tryz.prog w = .ok (.value (.tuple #[])) w := run_call_marked Tryz.func119 (by kernel_rfl) (by kernel_rfl) (by kernel_rfl) .acquire (by kernel_rfl) a w
theorem releaseMerge (a : Addr) (w : World) : (callFunc 121 #[.pointer (some a)]).run Tryz.prog w = .ok (.value (.tuple #[])) w := run_call_marked Tryz.func121 (by kernel_rfl) (by kernel_rfl) (by kernel_rfl) .releaseMerge (by kernel_rfl) a w
/-- The flag stored, entered as a deferred call. -/
theorem store_deferred (a : Addr) (x : Value) (u : FrameMode) (w : World) (hc : w.cell? a = some x) (hz : w.frozen? a = false) :
    CallsD Tryz.prog 99 #[.pointer (some a), .bool true] u w fun e u' w' => u' = u ∧ (e = .returned (.tuple #[]) ∧ w' = w.drew.setCell a (.int .u32 1)) := by
  have hc' : w.drew.cell? a = some x := by go_simp
  have hz' : w.drew.frozen? a = false := by go_simp
  have hst := run_call_store (P := Tryz.prog) Tryz.func110 (by kernel_rfl) (by kernel_rfl) (by kernel_rfl) (by kernel_rfl) (k := .u32) (y := 1) hc' hz'
  go_enter_d Tryz.func99, Tryz.ntmps99
  go_wp2
  go_region_calls
  all_goals (go_end0; exact ⟨rfl, rfl⟩)
set_option maxRecDepth 100000 in
set_option maxHeartbeats 1600000 in
/-- The lock, free: taken. -/
theorem lock_free (a : Addr) (w : World) (hc : w.cell? a = some (.int .i32 0)) (hz : w.frozen? a = false) :
    Calls Tryz.prog 97 #[.pointer (some a)] w fun e w' => e = .returned (.tuple #[]) ∧ w' = w.setCell a (.int .i32 1) := by
  have hd := disable
  have he := enable
  have ha := acquire
  have hcas := run_call_cas_hit (P := Tryz.prog) Tryz.func117 (by kernel_rfl) (by kernel_rfl) (by kernel_rfl) .i32 (by kernel_rfl) (y := 1) hc hz
  have hc' : (w.setCell a (.int .i32 1)).cell? a = some (.int .i32 1) := World.cell?_setCell_same w a _ hc
  have hcv := run_convert_to_unsafe (P := Tryz.prog) (src := 158) (dst := 76) Tryz.underlying158 Tryz.underlying76 (by kernel_rfl) hc'
  go_enter Tryz.func97, Tryz.ntmps97
  go_wp2
  first | go_end0 | (simp only [Exit.inBlock, Exit.then]; refine bodyPost_ret (results_none rfl _ _ _) rfl ?_) | refine bodyPost_ret (results_none rfl _ _ _) rfl ?_
  go_wp2
  go_end0
  exact ⟨rfl, rfl⟩
set_option maxRecDepth 100000 in
set_option maxHeartbeats 1600000 in
/-- The lock let go, entered as a deferred call. -/
theorem unlock_deferred (a : Addr) (u : FrameMode) (w : World) (hc : w.cell? a = some (.int .i32 1)) (hz : w.frozen? a = false) :
    CallsD Tryz.prog 98 #[.pointer (some a)] u w fun e u' w' => u' = u ∧ (e = .returned (.tuple #[]) ∧ w' = w.setCell a (.int .i32 0)) := by
  have hd := disable
  have he := enable
  have hr := releaseMerge
  have hadd := run_call_add (P := Tryz.prog) Tryz.func122 (by kernel_rfl) (by kernel_rfl) (by kernel_rfl) .i32 (by kernel_rfl) (y := -1) (s := 0) hc hz (by simp [go_sem]; rfl)
  have hcv := run_convert_to_unsafe (P := Tryz.prog) (src := 158) (dst := 76) Tryz.underlying158 Tryz.underlying76 (by kernel_rfl) hc
  go_enter_d Tryz.func98, Tryz.ntmps98
  go_wp2
  go_end0
  go_wp2
  go_end0
  exact ⟨rfl, rfl⟩
set_option maxRecDepth 100000 in
set_option maxHeartbeats 1600000 in
/-- doSlow, not yet done and the lock free: the callback by its contract. -/
theorem slow_first (b : Nat) (av : Array Value) (w : World) (Post : World → Prop)
    (h0 : w.cell? ⟨b, 0, none⟩ = some (.int .u32 0)) (h1 : w.cell? ⟨b, 1, none⟩ = some (.int .i32 0))
    (f0 : w.frozen? ⟨b, 0, none⟩ = false) (f1 : w.frozen? ⟨b, 1, none⟩ = false)
    (hC : Calls Tryz.prog 77 av (w.setCell ⟨b, 1, none⟩ (.int .i32 1)) fun e w' => e = .returned (.tuple #[]) ∧ Post w' ∧ w'.cell? ⟨b, 0, none⟩ = some (.int .u32 0) ∧ w'.cell? ⟨b, 1, none⟩ = some (.int .i32 1) ∧ w'.frozen? ⟨b, 0, none⟩ = false ∧ w'.frozen? ⟨b, 1, none⟩ = false) :
    Calls Tryz.prog 89 #[.pointer (some ⟨b, 0, none⟩), .func (.func 77) av #[]] w fun e w' => e = .returned (.tuple #[]) ∧
      ∃ w2, Post w2 ∧ w2.cell? ⟨b, 0, none⟩ = some (.int .u32 0) ∧ w2.cell? ⟨b, 1, none⟩ = some (.int .i32 1) ∧ w' = (w2.drew.setCell ⟨b, 0, none⟩ (.int .u32 1)).setCell ⟨b, 1, none⟩ (.int .i32 0) := by
  have hl := run_call_load (P := Tryz.prog) Tryz.func96 (by kernel_rfl) (by kernel_rfl) (by kernel_rfl) .u32 (by kernel_rfl) (w := w.setCell ⟨b, 1, none⟩ (.int .i32 1)) (a := ⟨b, 0, none⟩) (x := 0) ((World.cell?_setCell_other _ ⟨b, 1, none⟩ ⟨b, 0, none⟩ _ (by simp)).trans h0)
  have hnot : ∀ (x : Bool) (w : World), (Op.unary .not (.bool x)).run Tryz.prog w = .ok (.bool (!x)) w := fun _ _ => rfl
  go_enter_defers Tryz.func89, Tryz.ntmps89
  go_wp2_with (first | (go_at_call 97; refine (lock_free ⟨b, 1, none⟩ _ (by go_simp) (by go_simp)).mono ?_; rintro e w' ⟨rfl, rfl⟩) | (go_at_call 77; refine hC.mono ?_; rintro e w2 ⟨rfl, hp, c0, c1, z0, z1⟩) | (go_at_call 88; go_in))
  refine leaves_cons (f := 99) (args := #[.pointer (some ⟨b, 0, none⟩), .bool true]) (by simp) (by simp [go_sem]) ?_
  refine (store_deferred ⟨b, 0, none⟩ (.int .u32 0) .returning _ c0 z0).mono ?_
  rintro e u' w3 ⟨rfl, rfl, rfl⟩
  refine leaves_cons (f := 98) (args := #[.pointer (some ⟨b, 1, none⟩)]) (by simp [settle]) (by simp [go_sem]) ?_
  have c1' : (w2.drew.setCell ⟨b, 0, none⟩ (.int .u32 1)).cell? ⟨b, 1, none⟩ = some (.int .i32 1) := by
    refine (World.cell?_setCell_other _ ⟨b, 0, none⟩ ⟨b, 1, none⟩ _ (by simp)).trans ?_
    rw [World.cell?_drew]
    exact c1
  refine (unlock_deferred ⟨b, 1, none⟩ _ _ c1' (by simp [z1])).mono ?_
  rintro e u' w3 ⟨rfl, rfl, rfl⟩
  have hfin : ∃ w2', Post w2' ∧ w2'.cell? ⟨b, 0, none⟩ = some (.int .u32 0) ∧ w2'.cell? ⟨b, 1, none⟩ = some (.int .i32 1) ∧ (w2.drew.setCell ⟨b, 0, none⟩ (.int .u32 1)).setCell ⟨b, 1, none⟩ (.int .i32 0) = (w2'.drew.setCell ⟨b, 0, none⟩ (.int .u32 1)).setCell ⟨b, 1, none⟩ (.int .i32 0) := ⟨w2, hp, c0, c1, rfl⟩
  generalize (w2.drew.setCell ⟨b, 0, none⟩ (.int .u32 1)).setCell ⟨b, 1, none⟩ (.int .i32 0) = w4 at hfin ⊢
  simp only [Leaves, settle, results, Tryz.results89]
  simp
  exact hfin
set_option maxRecDepth 100000 in
set_option maxHeartbeats 1600000 in
/-- Do, not yet done, the lock free. -/
theorem do_first (b : Nat) (av : Array Value) (w : World) (Post : World → Prop)
    (h0 : w.cell? ⟨b, 0, none⟩ = some (.int .u32 0)) (h1 : w.cell? ⟨b, 1, none⟩ = some (.int .i32 0))
    (f0 : w.frozen? ⟨b, 0, none⟩ = false) (f1 : w.frozen? ⟨b, 1, none⟩ = false)
    (hC : Calls Tryz.prog 77 av (w.setCell ⟨b, 1, none⟩ (.int .i32 1)) fun e w' => e = .returned (.tuple #[]) ∧ Post w' ∧ w'.cell? ⟨b, 0, none⟩ = some (.int .u32 0) ∧ w'.cell? ⟨b, 1, none⟩ = some (.int .i32 1) ∧ w'.frozen? ⟨b, 0, none⟩ = false ∧ w'.frozen? ⟨b, 1, none⟩ = false) :
    Calls Tryz.prog 76 #[.pointer (some ⟨b, 0, none⟩), .func (.func 77) av #[]] w fun e w' => e = .returned (.tuple #[]) ∧
      ∃ w2, Post w2 ∧ w2.cell? ⟨b, 0, none⟩ = some (.int .u32 0) ∧ w2.cell? ⟨b, 1, none⟩ = some (.int .i32 1) ∧ w' = (w2.drew.setCell ⟨b, 0, none⟩ (.int .u32 1)).setCell ⟨b, 1, none⟩ (.int .i32 0) := by
  have hl := run_call_load (P := Tryz.prog) Tryz.func96 (by kernel_rfl) (by kernel_rfl) (by kernel_rfl) .u32 (by kernel_rfl) h0
  have hnot : ∀ (x : Bool) (w : World), (Op.unary .not (.bool x)).run Tryz.prog w = .ok (.bool (!x)) w := fun _ _ => rfl
  go_enter Tryz.func76, Tryz.ntmps76
  go_wp2_with (first | (go_at_call 89; refine (slow_first b av w Post h0 h1 f0 f1 hC).mono ?_; rintro e w' ⟨rfl, hw⟩) | (go_at_call 88; go_in))
  go_end0
  exact ⟨rfl, hw⟩
end Go.Proofs.YteknchhlineciaaGreatDoor.Once
namespace Go.Proofs.YteknchhlineciaaGreatDoor.Rpl
set_option linter.unusedVariables false
/-- The bytes in the order of the build, and what each is turned into. -/
def olds : List ByteArray := [⟨#[13]⟩, ⟨#[34]⟩, ⟨#[62]⟩, ⟨#[60]⟩, ⟨#[38]⟩]
def rep (k x : Nat) : Option ByteArray :=
  if x = 13 ∧ 0 < k then some ⟨#[38, 35, 49, 51, 59]⟩ else if x = 34 ∧ 1 < k then some ⟨#[38, 113, 117, 111, 116, 59]⟩ else if x = 62 ∧ 2 < k then some ⟨#[38, 103, 116, 59]⟩ else if x = 60 ∧ 3 < k then some ⟨#[38, 108, 116, 59]⟩ else if x = 38 ∧ 4 < k then some ⟨#[38, 97, 109, 112, 59]⟩ else none
/-- What a byte turns into. -/
def e1 (b : UInt8) : List UInt8 := match rep 5 b.toNat with
  | none => [b]
  | some t => t.data.toList
def esc (l : List UInt8) : List UInt8 := l.flatMap e1
theorem esc_cons (b : UInt8) (l : List UInt8) : esc (b :: l) = e1 b ++ esc l := by unfold esc; rw [List.flatMap_cons]
theorem esc_append (l m : List UInt8) : esc (l ++ m) = esc l ++ esc m := by unfold esc; rw [List.flatMap_append]
theorem e1_none {b : UInt8} (h : rep 5 b.toNat = none) : e1 b = [b] := by unfold e1; rw [h]
theorem e1_some {b : UInt8} {t : ByteArray} (h : rep 5 b.toNat = some t) : e1 b = t.data.toList := by unfold e1; rw [h]
theorem rep_size {x : Nat} {t : ByteArray} (h : rep 5 x = some t) : 1 ≤ t.size ∧ t.size ≤ 6 := by
  unfold rep at h
  repeat' split at h
  all_goals first | (cases h; done) | (obtain rfl := Option.some.inj h; decide)
theorem e1_len (b : UInt8) : 1 ≤ (e1 b).length ∧ (e1 b).length ≤ 6 := by
  cases h : rep 5 b.toNat with
  | none => rw [e1_none h]; simp
  | some t => rw [e1_some h]; exact rep_size h
theorem esc_len (l : List UInt8) : l.length ≤ (esc l).length ∧ (esc l).length ≤ 6 * l.length := by
  induction l with
  | nil => simp [esc]
  | cons b l ih =>
    rw [esc_cons, List.length_append, List.length_cons]
    have := e1_len b
    omega
/-- The growth, byte for byte. -/
def ng (l : List UInt8) : Nat := (esc l).length - l.length
theorem ng_len (l : List UInt8) : l.length + ng l = (esc l).length := by have := esc_len l; unfold ng; omega
theorem ng_snoc (l : List UInt8) (b : UInt8) : ng (l ++ [b]) = ng l + ((e1 b).length - 1) := by
  have h1 := ng_len l
  have h2 := ng_len (l ++ [b])
  have h3 := e1_len b
  rw [esc_append, List.length_append, List.length_append] at h2
  have h4 : esc [b] = e1 b := by simp [esc]
  rw [h4] at h2
  simp at h2
  omega
/-- Whether a byte is turned. -/
def turns (b : UInt8) : Bool := (rep 5 b.toNat).isSome
theorem esc_same {l : List UInt8} (h : l.any turns = false) : esc l = l := by
  induction l with
  | nil => rfl
  | cons b l ih =>
    simp only [List.any_cons, Bool.or_eq_false_iff] at h
    rw [esc_cons, ih h.2]
    have : rep 5 b.toNat = none := by
      have h1 := h.1
      unfold turns at h1
      cases hr : rep 5 b.toNat with
      | none => rfl
      | some t => rw [hr] at h1; cases h1
    rw [e1_none this]
    rfl
/-- The five, and what each adds. -/
def adds : List (UInt8 × Nat) := [(13, 4), (34, 5), (62, 3), (60, 3), (38, 4)]
def nk (l : List UInt8) (k : Nat) : Nat := ((adds.take k).map fun p => Lib.countByte l p.1 * p.2).sum
def ak (l : List UInt8) (k : Nat) : Bool := (adds.take k).any fun p => decide (Lib.countByte l p.1 ≠ 0)
theorem e1_adds_all : ∀ n : Fin 256, (e1 (UInt8.ofNat n.val)).length = 1 + (((if UInt8.ofNat n.val = 13 then 4 else 0) + (if UInt8.ofNat n.val = 34 then 5 else 0)) + ((if UInt8.ofNat n.val = 62 then 3 else 0) + ((if UInt8.ofNat n.val = 60 then 3 else 0) + (if UInt8.ofNat n.val = 38 then 4 else 0)))) := by decide +kernel
theorem e1_adds (b : UInt8) : (e1 b).length = 1 + (((if b = 13 then 4 else 0) + (if b = 34 then 5 else 0)) + ((if b = 62 then 3 else 0) + ((if b = 60 then 3 else 0) + (if b = 38 then 4 else 0)))) := by
  have h := e1_adds_all ⟨b.toNat, UInt8.toNat_lt b⟩
  simpa using h
theorem count_cons (l : List UInt8) (b x : UInt8) : Lib.countByte (b :: l) x = Lib.countByte l x + (if b = x then 1 else 0) := by
  unfold Lib.countByte
  rw [List.count_cons]
  simp
theorem nk_len (l : List UInt8) : l.length + nk l 5 = (esc l).length := by
  induction l with
  | nil => simp [nk, adds, esc, Lib.countByte]
  | cons b l ih =>
    rw [esc_cons, List.length_append, List.length_cons, ← ih, e1_adds b]
    simp only [nk, adds, List.take_succ_cons, List.take_zero, List.map_cons, List.map_nil, List.sum_cons, List.sum_nil, count_cons]
    split <;> split <;> split <;> split <;> split <;> omega
theorem nk_step0 (l : List UInt8) : nk l 1 = nk l 0 + Lib.countByte l 13 * 4 := by simp [nk, adds]
theorem nk_step1 (l : List UInt8) : nk l 2 = nk l 1 + Lib.countByte l 34 * 5 := by simp [nk, adds]
theorem nk_step2 (l : List UInt8) : nk l 3 = nk l 2 + Lib.countByte l 62 * 3 := by simp [nk, adds]; omega
theorem nk_step3 (l : List UInt8) : nk l 4 = nk l 3 + Lib.countByte l 60 * 3 := by simp [nk, adds]; omega
theorem nk_step4 (l : List UInt8) : nk l 5 = nk l 4 + Lib.countByte l 38 * 4 := by simp [nk, adds]; omega
theorem nk_zero (l : List UInt8) : nk l 0 = 0 := by simp [nk]
theorem ak_zero (l : List UInt8) : ak l 0 = false := by simp [ak]
theorem ak_same {l : List UInt8} (h : ak l 5 = false) : esc l = l := by
  have h1 := nk_len l
  have h2 : nk l 5 = 0 := by
    simp only [ak, adds, List.take_succ_cons, List.take_zero, List.any_cons, List.any_nil, Bool.or_false, Bool.or_eq_false_iff, decide_eq_false_iff_not, Decidable.not_not] at h
    simp [nk, adds, h]
  apply esc_same
  rw [List.any_eq_false]
  intro b hb ht
  have h3 : ∀ m : List UInt8, b ∈ m → turns b = true → m.length < (esc m).length := by
    intro m
    induction m with
    | nil => intro q; cases q
    | cons c m ih =>
      intro hm hb'
      rw [esc_cons, List.length_append, List.length_cons]
      rcases List.mem_cons.1 hm with e | e
      · subst e
        have := esc_len m
        have h5 : 2 ≤ (e1 b).length := by
          unfold turns at hb'
          cases hr : rep 5 b.toNat with
          | none => rw [hr] at hb'; cases hb'
          | some t =>
            rw [e1_some hr]
            unfold rep at hr
            repeat' split at hr
            all_goals first | (cases hr; done) | (obtain rfl := Option.some.inj hr; decide)
        omega
      · have := ih e hb'
        have := e1_len c
        omega
  have := h3 l hb ht
  omega
end Go.Proofs.YteknchhlineciaaGreatDoor.Rpl
namespace Go.Proofs.YteknchhlineciaaGreatDoor.Rpl
open Go.RowKit Go.Proofs.YteknchhlineciaaGreatDoorW.PrintWords Go.Proofs.YteknchhlineciaaGreatDoorW.PrintLast Go.Proofs.YteknchhlineciaaGreatDoorW.PrintMore
set_option linter.unusedVariables false
/-- The slice that stands for a byte. -/
def RV (W : World) (base rb : Nat) (v u : Value) : Option ByteArray → Prop
  | none => u = .slice none 0 0
  | some s => ∃ g c, u = .slice (some ⟨g, 0, none⟩) s.size c ∧ base ≤ g ∧ g < W.heap.size ∧ v.ownBlock ≠ some g ∧ g ≠ rb ∧ ∀ j, j < s.size → W.cell? ⟨g, j, none⟩ = some (.int .u8 ((s.data.toList.getD j 0).toNat : Int))
structure St (W : World) (base rb k l : Nat) (v : Value) : Prop where
  low : base ≤ rb
  row : ∃ cs, W.heap[rb]? = some (.cells cs 137 (0, 0)) ∧ cs.size = 257 ∧ cs[256]? = some v ∧ ∀ x, x < 256 → ∃ u, cs[x]? = some u ∧ RV W base rb v u (rep k x)
  own : W.ownsRow base 9 1 v l (encs Value.string (olds.take l))
  ne : v.ownBlock ≠ some rb
theorem RV.kept {W W' : World} {base rb : Nat} {v u : Value} {o : Option ByteArray} (h : RV W base rb v u o) (hs : W.heap.size ≤ W'.heap.size) (hk : ∀ g, g < W.heap.size → v.ownBlock ≠ some g → g ≠ rb → W'.heap[g]? = W.heap[g]?) : RV W' base rb v u o := by
  cases o with
  | none => exact h
  | some s =>
    obtain ⟨g, c, h1, h2, h3, h4, h5, h6⟩ := h
    refine ⟨g, c, h1, h2, by omega, h4, h5, fun j hj => ?_⟩
    rw [← h6 j hj]
    unfold World.cell?
    simp only [hk g h3 h4 h5]
theorem St.below {W W' : World} {base rb k l : Nat} {v : Value} (h : St W base rb k l v) (hb : Below W.heap.size W W') : St W' base rb k l v := by
  obtain ⟨h1, ⟨cs, a1, a2, a3, a4⟩, h3, h4⟩ := h
  have hrb : rb < W.heap.size := (Array.getElem?_eq_some_iff.1 a1).1
  refine ⟨h1, ⟨cs, (hb.block _ hrb).trans a1, a2, a3, fun x hx => ?_⟩, ?_, h4⟩
  · obtain ⟨u, b1, b2⟩ := a4 x hx
    exact ⟨u, b1, b2.kept hb.size (fun g hg _ _ => hb.block g hg)⟩
  · refine ⟨h3.1, ?_⟩
    rcases h3.2 with e | ⟨g, cap, cur, e1, e2, e3, e4⟩
    · exact .inl e
    · exact .inr ⟨g, cap, cur, e1, e2, (hb.block _ (Array.getElem?_eq_some_iff.1 e3).1).trans e3, e4⟩
theorem set_at {W : World} {rb j : Nat} {cs : Array Value} {t : TypeId} {fr : Nat × Nat} (h : W.heap[rb]? = some (.cells cs t fr)) (u : Value) : (W.setCell ⟨rb, j, none⟩ u).heap[rb]? = some (.cells (cs.setIfInBounds j u) t fr) := by
  unfold World.setCell
  simp [Array.getElem?_modify, h]
theorem set_ne {W : World} {rb j k : Nat} (u : Value) (h : k ≠ rb) : (W.setCell ⟨rb, j, none⟩ u).heap[k]? = W.heap[k]? := by
  unfold World.setCell
  simp [Array.getElem?_modify, Ne.symm h]
theorem set_size {W : World} {a : Addr} (u : Value) : (W.setCell a u).heap.size = W.heap.size := by
  unfold World.setCell
  simp
theorem own_kept {W W' : World} {base n : Nat} {v : Value} {xs : List Value} (h : W.ownsRow base 9 1 v n xs) (hk : ∀ g, v.ownBlock = some g → g < W.heap.size → W'.heap[g]? = W.heap[g]?) : W'.ownsRow base 9 1 v n xs := by
  refine ⟨h.1, ?_⟩
  rcases h.2 with e | ⟨g, cap, cur, e1, e2, e3, e4⟩
  · exact .inl e
  · exact .inr ⟨g, cap, cur, e1, e2, (hk g (by rw [e1]; rfl) (Array.getElem?_eq_some_iff.1 e3).1).trans e3, e4⟩
/-- The list grown and stored. -/
theorem St.push {W w1 : World} {base rb k l : Nat} {v v1 : Value} (h : St W base rb k l v) (hg : W.grownBy w1 v.ownBlock) (own1 : w1.ownsRow base 9 1 v1 (l + 1) (encs Value.string (olds.take (l + 1)))) (hat : v1.ownBlock = v.ownBlock ∨ ∃ b, v1.ownBlock = some b ∧ W.heap.size ≤ b) :
    St (w1.setCell ⟨rb, 256, none⟩ v1) base rb k (l + 1) v1 := by
  obtain ⟨h1, ⟨cs, a1, a2, a3, a4⟩, h3, h4⟩ := h
  have hrb : rb < W.heap.size := (Array.getElem?_eq_some_iff.1 a1).1
  have b1 : w1.heap[rb]? = some (.cells cs 137 (0, 0)) := (hg.block rb hrb (fun e => h4 e.symm)).trans a1
  have hne : v1.ownBlock ≠ some rb := by
    rcases hat with e | ⟨b, e, hb⟩
    · rw [e]; exact h4
    · rw [e]; intro q; injection q with q; omega
  refine ⟨h1, ⟨cs.setIfInBounds 256 v1, set_at b1 v1, by simpa using a2, by simp [a2], fun x hx => ?_⟩, own_kept own1 (fun g e _ => set_ne v1 (fun q => hne (by rw [e, q]))), hne⟩
  obtain ⟨u, c1, c2⟩ := a4 x hx
  refine ⟨u, by rw [Array.getElem?_setIfInBounds_ne (by omega)]; exact c1, ?_⟩
  cases hr : rep k x with
  | none => rw [hr] at c2; exact c2
  | some s =>
    rw [hr] at c2
    obtain ⟨g, c, d1, d2, d3, d4, d5, d6⟩ := c2
    have hgk : (w1.setCell ⟨rb, 256, none⟩ v1).heap[g]? = W.heap[g]? := (set_ne v1 d5).trans (hg.block g d3 (fun e => d4 e.symm))
    refine ⟨g, c, d1, d2, by rw [set_size]; exact Nat.lt_of_lt_of_le d3 hg.size, ?_, d5, fun j hj => (World.cell?_of_block hgk).trans (d6 j hj)⟩
    rcases hat with e | ⟨b, e, hb⟩
    · rw [e]; exact d4
    · rw [e]; intro q; injection q with q; omega
/-- A byte's slice stored. -/
theorem St.put {W : World} {base rb k l : Nat} {v : Value} (h : St W base rb k l v) (x : Nat) (hx : x < 256) (s : ByteArray) (g c : Nat) (hs : rep (k + 1) x = some s) (ho : ∀ y, y ≠ x → rep (k + 1) y = rep k y)
    (g1 : base ≤ g) (g2 : g < W.heap.size) (g3 : v.ownBlock ≠ some g) (g4 : g ≠ rb) (g5 : ∀ j, j < s.size → W.cell? ⟨g, j, none⟩ = some (.int .u8 ((s.data.toList.getD j 0).toNat : Int))) :
    St (W.setCell ⟨rb, x, none⟩ (.slice (some ⟨g, 0, none⟩) s.size c)) base rb (k + 1) l v := by
  obtain ⟨h1, ⟨cs, a1, a2, a3, a4⟩, h3, h4⟩ := h
  refine ⟨h1, ⟨_, set_at a1 _, by simpa using a2, by rw [Array.getElem?_setIfInBounds_ne (by omega)]; exact a3, fun y hy => ?_⟩, own_kept h3 (fun g e _ => set_ne _ (fun q => h4 (by rw [e, q]))), h4⟩
  by_cases hyx : y = x
  · subst hyx
    refine ⟨_, by rw [Array.getElem?_setIfInBounds_self_of_lt (by omega)], ?_⟩
    rw [hs]
    exact ⟨g, c, rfl, g1, by rw [set_size]; exact g2, g3, g4, fun j hj => (World.cell?_of_block (set_ne _ g4)).trans (g5 j hj)⟩
  · obtain ⟨u, c1, c2⟩ := a4 y hy
    refine ⟨u, by rw [Array.getElem?_setIfInBounds_ne (fun e => hyx e.symm)]; exact c1, ?_⟩
    rw [ho y hyx]
    exact c2.kept (by rw [set_size]; exact Nat.le_refl _) (fun g _ _ hne => set_ne _ hne)
theorem mk5 (W : World) : (Instr.makeSlice 71 (.int .i64 0) (.int .i64 5)).run Tryz.prog W = .ok (.slice (some ⟨W.heap.size, 0, none⟩) 0 5) (W.alloc (.cells (madeCells #[.string ⟨#[]⟩] 5) 9)) := by
  have hinfo : (Tryz.prog.info? 9).map (fun i => (i.zero, i.size, i.bytes)) = some (some (.string ⟨#[]⟩), 1, 16) := by kernel_rfl
  obtain ⟨i, hi, he⟩ := Option.map_eq_some_iff.1 hinfo
  simp only [Prod.mk.injEq] at he
  have h := run_makeSlice (P := Tryz.prog) (w := W) 71 9 i _ Tryz.underlying71 hi he.1 .i64 .i64 0 5 (by omega) (by omega) (by rw [he.2.1]; decide) (by rw [he.2.2]; decide) (by omega)
  rw [he.2.1] at h
  exact h
/-- The cells of a byteStringReplacer as it is laid, its list on the block t. -/
noncomputable def R0 (t : Nat) : Array Value := ⟨Tryz.zeroCells137.toList.set 256 (.slice (some ⟨t, 0, none⟩) 0 5)⟩
theorem zero137 : Tryz.zeroCells137.toList = List.replicate 257 (.slice none 0 0) := by kernel_rfl
theorem R0_at (t x : Nat) (hx : x < 256) : (R0 t)[x]? = some (.slice none 0 0) := by
  unfold R0
  rw [zero137, ← Array.getElem?_toList]
  show (List.set _ _ _)[x]? = _
  rw [List.getElem?_set_ne (by omega), List.getElem?_replicate, if_pos (by omega)]
theorem R0_last (t : Nat) : (R0 t)[256]? = some (.slice (some ⟨t, 0, none⟩) 0 5) := by
  unfold R0
  rw [zero137, ← Array.getElem?_toList]
  show (List.set _ _ _)[256]? = _
  rw [List.getElem?_set_self (by rw [List.length_replicate]; omega)]
theorem R0_size (t : Nat) : (R0 t).size = 257 := by
  unfold R0
  show (List.set _ _ _).length = 257
  rw [List.length_set, zero137, List.length_replicate]
theorem st137 (W : World) (c : Array Value) : (storeCells ⟨W.heap.size + 1, 0, none⟩ (Tryz.zeroCells137.toList.set 256 (.slice (some ⟨W.heap.size, 0, none⟩) 0 5))).run Tryz.prog ((W.alloc (.cells c 9)).alloc (.cells Tryz.zeroCells137 137)) = .ok () ((W.alloc (.cells c 9)).alloc (.cells (R0 W.heap.size) 137)) := by
  have hs : (W.alloc (.cells c 9)).heap.size = W.heap.size + 1 := by simp
  have hz : Tryz.zeroCells137.size = 257 := by
    have := congrArg List.length zero137
    rw [List.length_replicate, Array.length_toList] at this
    exact this
  have h := Go.run_storeCells_new (P := Tryz.prog) (W.alloc (.cells c 9)) 137 Tryz.zeroCells137 (R0 W.heap.size) (by rw [R0_size]; kernel_rfl) (by rw [R0_size, hz]) (by
    unfold R0
    rw [zero137]
    kernel_rfl)
  rw [hs] at h
  exact h
theorem St.start (W : World) (base : Nat) (hb : base ≤ W.heap.size) : St ((W.alloc (.cells (madeCells #[.string ⟨#[]⟩] 5) 9)).alloc (.cells (R0 W.heap.size) 137)) base (W.heap.size + 1) 0 0 (.slice (some ⟨W.heap.size, 0, none⟩) 0 5) := by
  have hs : (W.alloc (.cells (madeCells #[.string ⟨#[]⟩] 5) 9)).heap.size = W.heap.size + 1 := by simp
  have h1 := heap_alloc_new (W.alloc (.cells (madeCells #[.string ⟨#[]⟩] 5) 9)) (.cells (R0 W.heap.size) 137)
  rw [hs] at h1
  have h2 : ((W.alloc (.cells (madeCells #[.string ⟨#[]⟩] 5) 9)).alloc (.cells (R0 W.heap.size) 137)).heap[W.heap.size]? = some (.cells (madeCells #[.string ⟨#[]⟩] 5) 9 (0, 0)) := by
    rw [heap_alloc_old _ _ (by rw [hs]; omega)]
    exact heap_alloc_new W _
  refine ⟨by omega, ⟨_, h1, R0_size _, R0_last _, fun x hx => ⟨_, R0_at _ x hx, ?_⟩⟩, ⟨rfl, .inr ⟨W.heap.size, 5, _, rfl, hb, h2, by omega, by simp [maxLen], by simp [size_madeCells], rfl⟩⟩, ?_⟩
  · have : rep 0 x = none := by simp [rep]
    rw [this]
    rfl
  · intro e
    injection e with e
    simp at e
theorem own_form {W : World} {base n : Nat} {v : Value} {xs : List Value} (h : W.ownsRow base 9 1 v (n + 1) xs) : ∃ g cap, v = .slice (some ⟨g, 0, none⟩) (n + 1) cap := by
  rcases h.2 with ⟨_, e⟩ | ⟨g, cap, cur, e, _⟩
  · omega
  · exact ⟨g, cap, e⟩
/-- The cell of the list, where it is stored. -/
theorem St.last {W w1 : World} {base rb k l : Nat} {v : Value} (h : St W base rb k l v) (hg : W.grownBy w1 v.ownBlock) : w1.cell? ⟨rb, 256, none⟩ = some v ∧ w1.frozen? ⟨rb, 256, none⟩ = false := by
  obtain ⟨h1, ⟨cs, a1, a2, a3, a4⟩, h3, h4⟩ := h
  have b1 := (hg.block rb (Array.getElem?_eq_some_iff.1 a1).1 (fun e => h4 e.symm)).trans a1
  refine ⟨by rw [Lib.cell_of_heap b1]; exact a3, ?_⟩
  unfold World.frozen?
  simp [b1]
theorem St.byte {W : World} {base rb k l : Nat} {v : Value} (h : St W base rb k l v) (x : Nat) (hx : x < 256) (hr : rep k x = none) : W.cell? ⟨rb, x, none⟩ = some (.slice none 0 0) ∧ W.frozen? ⟨rb, x, none⟩ = false := by
  obtain ⟨h1, ⟨cs, a1, a2, a3, a4⟩, h3, h4⟩ := h
  obtain ⟨u, b1, b2⟩ := a4 x hx
  rw [hr] at b2
  refine ⟨by rw [Lib.cell_of_heap a1, b1]; exact congrArg some b2, ?_⟩
  unfold World.frozen?
  simp [a1]
theorem St.kept {W W' : World} {base rb k l : Nat} {v : Value} (h : St W base rb k l v) (hs : W.heap.size ≤ W'.heap.size) (hk : ∀ g, base ≤ g → g < W.heap.size → W'.heap[g]? = W.heap[g]?) : St W' base rb k l v := by
  obtain ⟨h1, ⟨cs, a1, a2, a3, a4⟩, h3, h4⟩ := h
  have hrb : rb < W.heap.size := (Array.getElem?_eq_some_iff.1 a1).1
  refine ⟨h1, ⟨cs, (hk _ h1 hrb).trans a1, a2, a3, fun x hx => ?_⟩, ?_, h4⟩
  · obtain ⟨u, b1, b2⟩ := a4 x hx
    refine ⟨u, b1, ?_⟩
    cases hr : rep k x with
    | none => rw [hr] at b2; exact b2
    | some s =>
      rw [hr] at b2
      obtain ⟨g, c, d1, d2, d3, d4, d5, d6⟩ := b2
      exact ⟨g, c, d1, d2, by omega, d4, d5, fun j hj => (World.cell?_of_block (hk g d2 d3)).trans (d6 j hj)⟩
  · refine ⟨h3.1, ?_⟩
    rcases h3.2 with e | ⟨g, cap, cur, e1, e2, e3, e4⟩
    · exact .inl e
    · exact .inr ⟨g, cap, cur, e1, e2, (hk _ e2 (Array.getElem?_eq_some_iff.1 e3).1).trans e3, e4⟩
/-- A text turned into bytes and then stored for a byte. -/
theorem put_event {ops : Array Oper} {rest : List Oper} {o : Oper} {a : Act} {Q : Exit → Act → World → Prop} {W w0 : World} {base rb k : Nat} {v : Value} (hgd : o.guard = none) {N : Tmp} (_hd : o.dst = some N) (s : ByteArray) (ho : ∃ x, o.op = .convert 9 40 x ∧ a.eval x = .string s)
    (h : St W base rb k (k + 1) v) (hb : Below base w0 W) (hbs : base ≤ W.heap.size) (x : Nat) (hx : x < 256) (hn : rep k x = none) (hs : rep (k + 1) x = some s) (hoth : ∀ y, y ≠ x → rep (k + 1) y = rep k y)
    (H : ∀ g cap w1, w1.cell? ⟨rb, x, none⟩ = some (.slice none 0 0) → w1.frozen? ⟨rb, x, none⟩ = false → Aside0 (St (w1.setCell ⟨rb, x, none⟩ (.slice (some ⟨g, 0, none⟩) s.size cap)) base rb (k + 1) (k + 1) v) → Aside0 (Below base w0 (w1.setCell ⟨rb, x, none⟩ (.slice (some ⟨g, 0, none⟩) s.size cap))) → wpList Tryz.prog ops Q rest (a.put o.dst (.slice (some ⟨g, 0, none⟩) s.size cap)) w1) : wpList Tryz.prog ops Q (o :: rest) a W := by
  obtain ⟨y, ho, hy⟩ := ho
  have hr := Lib.run_convert_string_bytes (P := Tryz.prog) W 9 40 5 s Tryz.underlying9 Tryz.underlying40 Tryz.underlying5
  have hbw := bytes_below (Below.refl W.heap.size W) (Nat.le_refl _) 5 s
  have h1 := h.below hbw
  obtain ⟨c1, c2⟩ := h1.byte x hx hn
  have hrb : rb < W.heap.size := by
    obtain ⟨cs, a1, _⟩ := h.row
    exact (Array.getElem?_eq_some_iff.1 a1).1
  have hv : v.ownBlock ≠ some W.heap.size := by
    rcases h.own.2 with ⟨e, _⟩ | ⟨g, cap, cur, e1, e2, e3, e4⟩
    · subst e; simp [Value.ownBlock]
    · subst e1
      have := (Array.getElem?_eq_some_iff.1 e3).1
      intro q
      have q2 : g = W.heap.size := Option.some.inj q
      omega
  refine Kd.event_run hgd (v := .slice (some ⟨W.heap.size, 0, none⟩) s.size (grownCap W s.size 0 5)) (w1 := Lib.bytesWorld W 5 s) (by simp [execOp, ho, hy, hr]) (H _ _ _ c1 c2 ⟨?_⟩ ⟨?_⟩)
  · exact h1.put x hx s W.heap.size _ hs hoth hbs (by rw [Lib.bytesWorld_size]; omega) hv (by omega) (fun j hj => Lib.bytesWorld_cell W 5 s j hj)
  · exact (hb.trans (hbw.mono hbs)).setCell h.low _
end Go.Proofs.YteknchhlineciaaGreatDoor.Rpl
namespace Go.Proofs.YteknchhlineciaaGreatDoor.Rpl
open Go.RowKit Go.Proofs.YteknchhlineciaaGreatDoorW.PrintWords Go.Proofs.YteknchhlineciaaGreatDoorW.PrintLast Go.Proofs.YteknchhlineciaaGreatDoorW.PrintMore
set_option linter.unusedVariables false
/-- The pairs. -/
def tbl : List ByteArray := [⟨#[38]⟩, ⟨#[38, 97, 109, 112, 59]⟩, ⟨#[60]⟩, ⟨#[38, 108, 116, 59]⟩, ⟨#[62]⟩, ⟨#[38, 103, 116, 59]⟩, ⟨#[34]⟩, ⟨#[38, 113, 117, 111, 116, 59]⟩, ⟨#[13]⟩, ⟨#[38, 35, 49, 51, 59]⟩]
theorem str1 (W : World) (x : Int) (y : UInt8) (h : x = (y.toNat : Int)) : (convert 40 9 (.slice (some ⟨W.heap.size, 0, none⟩) 1 1)).run Tryz.prog (W.alloc (.cells #[.int .u8 x] 5)) = .ok (.string ⟨#[y]⟩) (W.alloc (.cells #[.int .u8 x] 5)) := by
  have ho := own_lit_of (enc := Value.int .u8) W W.heap.size 5 [x] (Nat.le_refl _) (by simp)
  subst h
  have h := own_string (P := Tryz.prog) Tryz.underlying40 Tryz.underlying5 Tryz.underlying9 (xs := [(y.toNat : Int)]) ho
  simpa [strOfNums, encs] using h
set_option maxRecDepth 100000 in
set_option maxHeartbeats 8000000 in
theorem build (b gb c : Nat) (w : World) (hs : w.cell? ⟨b, 4, none⟩ = some (.slice (some ⟨gb, 0, none⟩) 10 c)) (ht : ∀ j, j < 10 → w.cell? ⟨gb, j, none⟩ = some (.string (tbl.getD j ByteArray.empty))) :
    Calls Tryz.prog 90 #[.pointer (some ⟨b, 0, none⟩)] w fun e w' => ∃ rb v, e = .returned (.iface 138 (.pointer (some ⟨rb, 0, none⟩))) ∧ St w' w.heap.size rb 5 5 v ∧ Below w.heap.size w w' := by
  have HT := Aside0.mk ht
  have HS := Aside0.mk hs
  have hmk := mk5
  have hst := st137
  clear ht
  go_enter Tryz.func90, Tryz.ntmps90
  go_wp2_with fail
  go_loopw [5, 4] (fun v5 v4 wr => ∃ (k : Nat) (n : Int) (f : Bool), k ≤ 5 ∧ n = 2 * (k : Int) ∧ f = decide (k = 0) ∧ v5 = .int .i64 n ∧ v4 = .bool f ∧ w = wr) (fun v5 _ _ => 10 - (intOf v5).toNat)
  case atStart => exact ⟨0, 0, true, by omega, rfl, rfl, rfl, rfl, rfl⟩
  case round =>
    obtain ⟨k, n, f, hk, hn, hf, rfl, rfl, rfl⟩ := hrel
    by_cases hlt : k < 5
    · obtain rfl | rfl | rfl | rfl | rfl : k = 0 ∨ k = 1 ∨ k = 2 ∨ k = 3 ∨ k = 4 := by omega
      · obtain rfl : n = 0 := by omega
        obtain rfl : f = true := hf
        clear hn
        have c0 : w.cell? ⟨gb, 0, none⟩ = some (.string ⟨#[38]⟩) := HT.out 0 (by decide)
        have c1 : w.cell? ⟨gb, 1, none⟩ = some (.string ⟨#[38, 97, 109, 112, 59]⟩) := HT.out 1 (by decide)
        go_wp2
        go_roundw
        case rel => exact ⟨1, _, _, by omega, by first | rfl | omega | simp, by first | rfl | simp, by first | rfl | simp, by first | rfl | simp, by first | rfl | trivial⟩
        case measure => simp [intOf]
      · obtain rfl : n = 2 := by omega
        obtain rfl : f = false := hf
        clear hn
        have c0 : w.cell? ⟨gb, 2, none⟩ = some (.string ⟨#[60]⟩) := HT.out 2 (by decide)
        have c1 : w.cell? ⟨gb, 3, none⟩ = some (.string ⟨#[38, 108, 116, 59]⟩) := HT.out 3 (by decide)
        go_wp2
        go_roundw
        case rel => exact ⟨2, _, _, by omega, by first | rfl | omega | simp, by first | rfl | simp, by first | rfl | simp, by first | rfl | simp, by first | rfl | trivial⟩
        case measure => simp [intOf]
      · obtain rfl : n = 4 := by omega
        obtain rfl : f = false := hf
        clear hn
        have c0 : w.cell? ⟨gb, 4, none⟩ = some (.string ⟨#[62]⟩) := HT.out 4 (by decide)
        have c1 : w.cell? ⟨gb, 5, none⟩ = some (.string ⟨#[38, 103, 116, 59]⟩) := HT.out 5 (by decide)
        go_wp2
        go_roundw
        case rel => exact ⟨3, _, _, by omega, by first | rfl | omega | simp, by first | rfl | simp, by first | rfl | simp, by first | rfl | simp, by first | rfl | trivial⟩
        case measure => simp [intOf]
      · obtain rfl : n = 6 := by omega
        obtain rfl : f = false := hf
        clear hn
        have c0 : w.cell? ⟨gb, 6, none⟩ = some (.string ⟨#[34]⟩) := HT.out 6 (by decide)
        have c1 : w.cell? ⟨gb, 7, none⟩ = some (.string ⟨#[38, 113, 117, 111, 116, 59]⟩) := HT.out 7 (by decide)
        go_wp2
        go_roundw
        case rel => exact ⟨4, _, _, by omega, by first | rfl | omega | simp, by first | rfl | simp, by first | rfl | simp, by first | rfl | simp, by first | rfl | trivial⟩
        case measure => simp [intOf]
      · obtain rfl : n = 8 := by omega
        obtain rfl : f = false := hf
        clear hn
        have c0 : w.cell? ⟨gb, 8, none⟩ = some (.string ⟨#[13]⟩) := HT.out 8 (by decide)
        have c1 : w.cell? ⟨gb, 9, none⟩ = some (.string ⟨#[38, 35, 49, 51, 59]⟩) := HT.out 9 (by decide)
        go_wp2
        go_roundw
        case rel => exact ⟨5, _, _, by omega, by first | rfl | omega | simp, by first | rfl | simp, by first | rfl | simp, by first | rfl | simp, by first | rfl | trivial⟩
        case measure => simp [intOf]
    · obtain rfl : k = 5 := by omega
      obtain rfl : n = 10 := by omega
      obtain rfl : f = false := hf
      clear hn
      have HS0 := Aside0.mk (St.start w w.heap.size (Nat.le_refl _))
      have HB0 : Aside0 (Below w.heap.size w ((w.alloc (.cells (madeCells #[.string ⟨#[]⟩] 5) 9)).alloc (.cells (R0 w.heap.size) 137))) := ⟨((Below.refl _ w).alloc (Nat.le_refl _) _).alloc (by simp) _⟩
      go_wp2
      generalize (w.alloc (.cells (madeCells #[.string ⟨#[]⟩] 5) 9)).alloc (.cells (R0 w.heap.size) 137) = W1 at HS0 HB0 ⊢
      obtain ⟨rb, hrb⟩ : ∃ rb, w.heap.size + 1 = rb := ⟨_, rfl⟩
      rw [hrb] at HS0 ⊢
      clear hrb hmk hst
      go_loopw [12] (fun v12 W2 => ∃ (k : Nat) (v : Value), k ≤ 5 ∧ v12 = .int .i64 (8 - 2 * (k : Int)) ∧ Aside0 (St W2 w.heap.size rb k k v) ∧ Aside0 (Below w.heap.size w W2)) (fun v12 _ => (intOf v12 + 2).toNat)
      case atStart => exact ⟨0, _, by omega, rfl, HS0, HB0⟩
      case round =>
        obtain ⟨k, v, hk, rfl, HS, HB⟩ := hrel
        by_cases hlt2 : k < 5
        · obtain rfl | rfl | rfl | rfl | rfl : k = 0 ∨ k = 1 ∨ k = 2 ∨ k = 3 ∨ k = 4 := by omega
          · have e0 : w.cell? ⟨gb, 8, none⟩ = some (.string ⟨#[13]⟩) := HT.out 8 (by decide)
            have e1 : w.cell? ⟨gb, 9, none⟩ = some (.string ⟨#[38, 35, 49, 51, 59]⟩) := HT.out 9 (by decide)
            have c0 := (HB.out.cell (World.block_lt_of_cell? w _ e0)).trans e0
            have c1 := (HB.out.cell (World.block_lt_of_cell? w _ e1)).trans e1
            obtain ⟨cs, a1, a2, a3, a4⟩ := HS.out.row
            have cx : wr.cell? ⟨rb, 13, none⟩ = some (.slice none 0 0) := by
              rw [Lib.cell_of_heap a1]
              obtain ⟨u, b1, b2⟩ := a4 13 (by decide)
              rw [b1]
              have hr : rep 0 13 = none := by simp [rep]
              rw [hr] at b2
              exact congrArg some b2
            have cl : wr.cell? ⟨rb, 256, none⟩ = some v := by
              rw [Lib.cell_of_heap a1]
              exact a3
            clear a1 a2 a3 a4 e0 e1
            have hstr := fun W => str1 W 13 13 rfl
            have hnil : ∀ W : World, (binOp .eql 40 (.slice none 0 0) (.slice none 0 0)).run Tryz.prog W = .ok (.bool true) W := fun _ => rfl
            have hix : (⟨#[13]⟩ : ByteArray)[0].toNat = 13 := rfl
            have HSA : Aside0 (St (wr.alloc (.cells #[.int .u8 13] 5)) w.heap.size rb 0 0 v) := ⟨HS.out.below ((Below.refl _ wr).alloc (Nat.le_refl _) _)⟩
            have HBA : Aside0 (Below w.heap.size w (wr.alloc (.cells #[.int .u8 13] 5))) := ⟨HB.out.alloc (below_size HB.out) _⟩
            go_wp2_with (first | ((with_reducible refine gate_dst (N := 124) rfl ?_); refine print_append_of (W := wr.alloc (.cells #[.int .u8 13] 5)) (w0 := w) Value.string w.heap.size rfl (.tmp 119) (.tmp 123) 71 9 (.string ⟨#[]⟩) 16 rfl Tryz.underlying71 (by kernel_rfl) rfl (by omega) v (olds.take 0) ⟨#[13]⟩ rfl (by show Value.slice (some ⟨wr.heap.size + 1, 0, none⟩) 1 1 = _; simp) rfl HSA.out.own HBA.out (below_size HBA.out) (by simp [olds]) ?_; intro v1 w1 hown hb1 hg hat; obtain ⟨hl1, hz1⟩ := HSA.out.last hg; have HS2 := Aside0.mk (HSA.out.push hg hown hat); have HB2 : Aside0 (Below w.heap.size w (w1.setCell ⟨rb, 256, none⟩ v1)) := ⟨hb1.setCell HS.out.low _⟩; obtain ⟨g1, cap1, ev⟩ := own_form hown; subst ev; clear hg hat hown hstr hnil) | ((with_reducible refine gate_dst (N := 128) rfl ?_); refine put_event (N := 128) rfl rfl ⟨#[38, 35, 49, 51, 59]⟩ ⟨_, rfl, rfl⟩ HS2.out HB2.out (below_size HB2.out) 13 (by decide) (by simp [rep]) (by simp [rep]) (by intro y hy; simp [rep, hy]) ?_; intro g2 cap2 w2 d1 d2 HS3 HB3; clear HS2 HB2))
            go_roundw
            case rel => exact ⟨0 + 1, _, by omega, by first | rfl | simp, HS3, HB3⟩
            case measure => simp [intOf]
          · have e0 : w.cell? ⟨gb, 6, none⟩ = some (.string ⟨#[34]⟩) := HT.out 6 (by decide)
            have e1 : w.cell? ⟨gb, 7, none⟩ = some (.string ⟨#[38, 113, 117, 111, 116, 59]⟩) := HT.out 7 (by decide)
            have c0 := (HB.out.cell (World.block_lt_of_cell? w _ e0)).trans e0
            have c1 := (HB.out.cell (World.block_lt_of_cell? w _ e1)).trans e1
            obtain ⟨cs, a1, a2, a3, a4⟩ := HS.out.row
            have cx : wr.cell? ⟨rb, 34, none⟩ = some (.slice none 0 0) := by
              rw [Lib.cell_of_heap a1]
              obtain ⟨u, b1, b2⟩ := a4 34 (by decide)
              rw [b1]
              have hr : rep 1 34 = none := by simp [rep]
              rw [hr] at b2
              exact congrArg some b2
            have cl : wr.cell? ⟨rb, 256, none⟩ = some v := by
              rw [Lib.cell_of_heap a1]
              exact a3
            clear a1 a2 a3 a4 e0 e1
            have hstr := fun W => str1 W 34 34 rfl
            have hnil : ∀ W : World, (binOp .eql 40 (.slice none 0 0) (.slice none 0 0)).run Tryz.prog W = .ok (.bool true) W := fun _ => rfl
            have hix : (⟨#[34]⟩ : ByteArray)[0].toNat = 34 := rfl
            have HSA : Aside0 (St (wr.alloc (.cells #[.int .u8 34] 5)) w.heap.size rb 1 1 v) := ⟨HS.out.below ((Below.refl _ wr).alloc (Nat.le_refl _) _)⟩
            have HBA : Aside0 (Below w.heap.size w (wr.alloc (.cells #[.int .u8 34] 5))) := ⟨HB.out.alloc (below_size HB.out) _⟩
            go_wp2_with (first | ((with_reducible refine gate_dst (N := 124) rfl ?_); refine print_append_of (W := wr.alloc (.cells #[.int .u8 34] 5)) (w0 := w) Value.string w.heap.size rfl (.tmp 119) (.tmp 123) 71 9 (.string ⟨#[]⟩) 16 rfl Tryz.underlying71 (by kernel_rfl) rfl (by omega) v (olds.take 1) ⟨#[34]⟩ rfl (by show Value.slice (some ⟨wr.heap.size + 1, 0, none⟩) 1 1 = _; simp) rfl HSA.out.own HBA.out (below_size HBA.out) (by simp [olds]) ?_; intro v1 w1 hown hb1 hg hat; obtain ⟨hl1, hz1⟩ := HSA.out.last hg; have HS2 := Aside0.mk (HSA.out.push hg hown hat); have HB2 : Aside0 (Below w.heap.size w (w1.setCell ⟨rb, 256, none⟩ v1)) := ⟨hb1.setCell HS.out.low _⟩; obtain ⟨g1, cap1, ev⟩ := own_form hown; subst ev; clear hg hat hown hstr hnil) | ((with_reducible refine gate_dst (N := 128) rfl ?_); refine put_event (N := 128) rfl rfl ⟨#[38, 113, 117, 111, 116, 59]⟩ ⟨_, rfl, rfl⟩ HS2.out HB2.out (below_size HB2.out) 34 (by decide) (by simp [rep]) (by simp [rep]) (by intro y hy; simp [rep, hy]) ?_; intro g2 cap2 w2 d1 d2 HS3 HB3; clear HS2 HB2))
            go_roundw
            case rel => exact ⟨1 + 1, _, by omega, by first | rfl | simp, HS3, HB3⟩
            case measure => simp [intOf]
          · have e0 : w.cell? ⟨gb, 4, none⟩ = some (.string ⟨#[62]⟩) := HT.out 4 (by decide)
            have e1 : w.cell? ⟨gb, 5, none⟩ = some (.string ⟨#[38, 103, 116, 59]⟩) := HT.out 5 (by decide)
            have c0 := (HB.out.cell (World.block_lt_of_cell? w _ e0)).trans e0
            have c1 := (HB.out.cell (World.block_lt_of_cell? w _ e1)).trans e1
            obtain ⟨cs, a1, a2, a3, a4⟩ := HS.out.row
            have cx : wr.cell? ⟨rb, 62, none⟩ = some (.slice none 0 0) := by
              rw [Lib.cell_of_heap a1]
              obtain ⟨u, b1, b2⟩ := a4 62 (by decide)
              rw [b1]
              have hr : rep 2 62 = none := by simp [rep]
              rw [hr] at b2
              exact congrArg some b2
            have cl : wr.cell? ⟨rb, 256, none⟩ = some v := by
              rw [Lib.cell_of_heap a1]
              exact a3
            clear a1 a2 a3 a4 e0 e1
            have hstr := fun W => str1 W 62 62 rfl
            have hnil : ∀ W : World, (binOp .eql 40 (.slice none 0 0) (.slice none 0 0)).run Tryz.prog W = .ok (.bool true) W := fun _ => rfl
            have hix : (⟨#[62]⟩ : ByteArray)[0].toNat = 62 := rfl
            have HSA : Aside0 (St (wr.alloc (.cells #[.int .u8 62] 5)) w.heap.size rb 2 2 v) := ⟨HS.out.below ((Below.refl _ wr).alloc (Nat.le_refl _) _)⟩
            have HBA : Aside0 (Below w.heap.size w (wr.alloc (.cells #[.int .u8 62] 5))) := ⟨HB.out.alloc (below_size HB.out) _⟩
            go_wp2_with (first | ((with_reducible refine gate_dst (N := 124) rfl ?_); refine print_append_of (W := wr.alloc (.cells #[.int .u8 62] 5)) (w0 := w) Value.string w.heap.size rfl (.tmp 119) (.tmp 123) 71 9 (.string ⟨#[]⟩) 16 rfl Tryz.underlying71 (by kernel_rfl) rfl (by omega) v (olds.take 2) ⟨#[62]⟩ rfl (by show Value.slice (some ⟨wr.heap.size + 1, 0, none⟩) 1 1 = _; simp) rfl HSA.out.own HBA.out (below_size HBA.out) (by simp [olds]) ?_; intro v1 w1 hown hb1 hg hat; obtain ⟨hl1, hz1⟩ := HSA.out.last hg; have HS2 := Aside0.mk (HSA.out.push hg hown hat); have HB2 : Aside0 (Below w.heap.size w (w1.setCell ⟨rb, 256, none⟩ v1)) := ⟨hb1.setCell HS.out.low _⟩; obtain ⟨g1, cap1, ev⟩ := own_form hown; subst ev; clear hg hat hown hstr hnil) | ((with_reducible refine gate_dst (N := 128) rfl ?_); refine put_event (N := 128) rfl rfl ⟨#[38, 103, 116, 59]⟩ ⟨_, rfl, rfl⟩ HS2.out HB2.out (below_size HB2.out) 62 (by decide) (by simp [rep]) (by simp [rep]) (by intro y hy; simp [rep, hy]) ?_; intro g2 cap2 w2 d1 d2 HS3 HB3; clear HS2 HB2))
            go_roundw
            case rel => exact ⟨2 + 1, _, by omega, by first | rfl | simp, HS3, HB3⟩
            case measure => simp [intOf]
          · have e0 : w.cell? ⟨gb, 2, none⟩ = some (.string ⟨#[60]⟩) := HT.out 2 (by decide)
            have e1 : w.cell? ⟨gb, 3, none⟩ = some (.string ⟨#[38, 108, 116, 59]⟩) := HT.out 3 (by decide)
            have c0 := (HB.out.cell (World.block_lt_of_cell? w _ e0)).trans e0
            have c1 := (HB.out.cell (World.block_lt_of_cell? w _ e1)).trans e1
            obtain ⟨cs, a1, a2, a3, a4⟩ := HS.out.row
            have cx : wr.cell? ⟨rb, 60, none⟩ = some (.slice none 0 0) := by
              rw [Lib.cell_of_heap a1]
              obtain ⟨u, b1, b2⟩ := a4 60 (by decide)
              rw [b1]
              have hr : rep 3 60 = none := by simp [rep]
              rw [hr] at b2
              exact congrArg some b2
            have cl : wr.cell? ⟨rb, 256, none⟩ = some v := by
              rw [Lib.cell_of_heap a1]
              exact a3
            clear a1 a2 a3 a4 e0 e1
            have hstr := fun W => str1 W 60 60 rfl
            have hnil : ∀ W : World, (binOp .eql 40 (.slice none 0 0) (.slice none 0 0)).run Tryz.prog W = .ok (.bool true) W := fun _ => rfl
            have hix : (⟨#[60]⟩ : ByteArray)[0].toNat = 60 := rfl
            have HSA : Aside0 (St (wr.alloc (.cells #[.int .u8 60] 5)) w.heap.size rb 3 3 v) := ⟨HS.out.below ((Below.refl _ wr).alloc (Nat.le_refl _) _)⟩
            have HBA : Aside0 (Below w.heap.size w (wr.alloc (.cells #[.int .u8 60] 5))) := ⟨HB.out.alloc (below_size HB.out) _⟩
            go_wp2_with (first | ((with_reducible refine gate_dst (N := 124) rfl ?_); refine print_append_of (W := wr.alloc (.cells #[.int .u8 60] 5)) (w0 := w) Value.string w.heap.size rfl (.tmp 119) (.tmp 123) 71 9 (.string ⟨#[]⟩) 16 rfl Tryz.underlying71 (by kernel_rfl) rfl (by omega) v (olds.take 3) ⟨#[60]⟩ rfl (by show Value.slice (some ⟨wr.heap.size + 1, 0, none⟩) 1 1 = _; simp) rfl HSA.out.own HBA.out (below_size HBA.out) (by simp [olds]) ?_; intro v1 w1 hown hb1 hg hat; obtain ⟨hl1, hz1⟩ := HSA.out.last hg; have HS2 := Aside0.mk (HSA.out.push hg hown hat); have HB2 : Aside0 (Below w.heap.size w (w1.setCell ⟨rb, 256, none⟩ v1)) := ⟨hb1.setCell HS.out.low _⟩; obtain ⟨g1, cap1, ev⟩ := own_form hown; subst ev; clear hg hat hown hstr hnil) | ((with_reducible refine gate_dst (N := 128) rfl ?_); refine put_event (N := 128) rfl rfl ⟨#[38, 108, 116, 59]⟩ ⟨_, rfl, rfl⟩ HS2.out HB2.out (below_size HB2.out) 60 (by decide) (by simp [rep]) (by simp [rep]) (by intro y hy; simp [rep, hy]) ?_; intro g2 cap2 w2 d1 d2 HS3 HB3; clear HS2 HB2))
            go_roundw
            case rel => exact ⟨3 + 1, _, by omega, by first | rfl | simp, HS3, HB3⟩
            case measure => simp [intOf]
          · have e0 : w.cell? ⟨gb, 0, none⟩ = some (.string ⟨#[38]⟩) := HT.out 0 (by decide)
            have e1 : w.cell? ⟨gb, 1, none⟩ = some (.string ⟨#[38, 97, 109, 112, 59]⟩) := HT.out 1 (by decide)
            have c0 := (HB.out.cell (World.block_lt_of_cell? w _ e0)).trans e0
            have c1 := (HB.out.cell (World.block_lt_of_cell? w _ e1)).trans e1
            obtain ⟨cs, a1, a2, a3, a4⟩ := HS.out.row
            have cx : wr.cell? ⟨rb, 38, none⟩ = some (.slice none 0 0) := by
              rw [Lib.cell_of_heap a1]
              obtain ⟨u, b1, b2⟩ := a4 38 (by decide)
              rw [b1]
              have hr : rep 4 38 = none := by simp [rep]
              rw [hr] at b2
              exact congrArg some b2
            have cl : wr.cell? ⟨rb, 256, none⟩ = some v := by
              rw [Lib.cell_of_heap a1]
              exact a3
            clear a1 a2 a3 a4 e0 e1
            have hstr := fun W => str1 W 38 38 rfl
            have hnil : ∀ W : World, (binOp .eql 40 (.slice none 0 0) (.slice none 0 0)).run Tryz.prog W = .ok (.bool true) W := fun _ => rfl
            have hix : (⟨#[38]⟩ : ByteArray)[0].toNat = 38 := rfl
            have HSA : Aside0 (St (wr.alloc (.cells #[.int .u8 38] 5)) w.heap.size rb 4 4 v) := ⟨HS.out.below ((Below.refl _ wr).alloc (Nat.le_refl _) _)⟩
            have HBA : Aside0 (Below w.heap.size w (wr.alloc (.cells #[.int .u8 38] 5))) := ⟨HB.out.alloc (below_size HB.out) _⟩
            go_wp2_with (first | ((with_reducible refine gate_dst (N := 124) rfl ?_); refine print_append_of (W := wr.alloc (.cells #[.int .u8 38] 5)) (w0 := w) Value.string w.heap.size rfl (.tmp 119) (.tmp 123) 71 9 (.string ⟨#[]⟩) 16 rfl Tryz.underlying71 (by kernel_rfl) rfl (by omega) v (olds.take 4) ⟨#[38]⟩ rfl (by show Value.slice (some ⟨wr.heap.size + 1, 0, none⟩) 1 1 = _; simp) rfl HSA.out.own HBA.out (below_size HBA.out) (by simp [olds]) ?_; intro v1 w1 hown hb1 hg hat; obtain ⟨hl1, hz1⟩ := HSA.out.last hg; have HS2 := Aside0.mk (HSA.out.push hg hown hat); have HB2 : Aside0 (Below w.heap.size w (w1.setCell ⟨rb, 256, none⟩ v1)) := ⟨hb1.setCell HS.out.low _⟩; obtain ⟨g1, cap1, ev⟩ := own_form hown; subst ev; clear hg hat hown hstr hnil) | ((with_reducible refine gate_dst (N := 128) rfl ?_); refine put_event (N := 128) rfl rfl ⟨#[38, 97, 109, 112, 59]⟩ ⟨_, rfl, rfl⟩ HS2.out HB2.out (below_size HB2.out) 38 (by decide) (by simp [rep]) (by simp [rep]) (by intro y hy; simp [rep, hy]) ?_; intro g2 cap2 w2 d1 d2 HS3 HB3; clear HS2 HB2))
            go_roundw
            case rel => exact ⟨4 + 1, _, by omega, by first | rfl | simp, HS3, HB3⟩
            case measure => simp [intOf]
        · obtain rfl : k = 5 := by omega
          go_wp2
          go_ret
          exact ⟨rb, v, rfl, HS.out, HB.out⟩
end Go.Proofs.YteknchhlineciaaGreatDoor.Rpl
namespace Go.Proofs.YteknchhlineciaaGreatDoor.Rpl
open Go.RowKit Go.Proofs.YteknchhlineciaaGreatDoorW.PrintWords Go.Proofs.YteknchhlineciaaGreatDoorW.PrintLast Go.Proofs.YteknchhlineciaaGreatDoorW.PrintMore
set_option linter.unusedVariables false
theorem St.lt {W : World} {base rb k l : Nat} {v : Value} (h : St W base rb k l v) : rb < W.heap.size := by
  obtain ⟨cs, a1, _⟩ := h.row
  exact (Array.getElem?_eq_some_iff.1 a1).1
theorem St.at_none {W : World} {base rb k l : Nat} {v : Value} (h : St W base rb k l v) {x : Nat} (hx : x < 256) (hr : rep k x = none) : W.cell? ⟨rb, x, none⟩ = some (.slice none 0 0) := (h.byte x hx hr).1
theorem St.at_some {W : World} {base rb k l : Nat} {v : Value} (h : St W base rb k l v) {x : Nat} (hx : x < 256) {t : ByteArray} (hr : rep k x = some t) :
    ∃ g c, W.cell? ⟨rb, x, none⟩ = some (.slice (some ⟨g, 0, none⟩) t.size c) ∧ Lib.HoldsBytes W (.slice (some ⟨g, 0, none⟩) t.size c) t.data.toList := by
  obtain ⟨cs, a1, a2, a3, a4⟩ := h.row
  obtain ⟨u, b1, b2⟩ := a4 x hx
  rw [hr] at b2
  obtain ⟨g, c, d1, d2, d3, d4, d5, d6⟩ := b2
  subst d1
  refine ⟨g, c, by rw [Lib.cell_of_heap a1, b1], some ⟨g, 0, none⟩, c, ?_, (fun q => by cases q), ?_⟩
  · show _ = Value.slice _ t.data.toList.length _
    rfl
  · intro a ha i y hy
    obtain rfl := Option.some.inj ha
    have hi : i < t.size := (List.getElem?_eq_some_iff.1 hy).1
    have h1 : ((⟨g, 0, none⟩ : Addr).add i) = ⟨g, i, none⟩ := by unfold Addr.add; split <;> simp_all
    rw [h1, d6 i hi]
    have h2 : t.data.toList.getD i 0 = y := by rw [List.getD_eq_getElem?_getD, hy]; rfl
    rw [h2]
/-- The list of the bytes. -/
theorem St.list {W : World} {base rb : Nat} {v : Value} (h : St W base rb 5 5 v) :
    ∃ tb c, W.cell? ⟨rb, 256, none⟩ = some (.slice (some ⟨tb, 0, none⟩) 5 c) ∧ 5 ≤ c ∧ ∀ j, j < 5 → W.cell? ⟨tb, j, none⟩ = some (.string (olds.getD j ByteArray.empty)) := by
  obtain ⟨cs, a1, a2, a3, a4⟩ := h.row
  rcases h.own.2 with ⟨_, e⟩ | ⟨g, cap, cur, e1, e2, e3, e4⟩
  · cases e
  · subst e1
    refine ⟨g, cap, by rw [Lib.cell_of_heap a1]; exact a3, e4.1, fun j hj => ?_⟩
    have ht : cur.toList.take (5 * 1) = encs Value.string (olds.take 5) := e4.2.2.2
    have h5 : (cur.toList.take (5 * 1))[j]? = some (Value.string (olds.getD j ByteArray.empty)) := by
      rw [ht]
      obtain rfl | rfl | rfl | rfl | rfl : j = 0 ∨ j = 1 ∨ j = 2 ∨ j = 3 ∨ j = 4 := by omega
      all_goals rfl
    rw [List.getElem?_take_of_lt (by omega)] at h5
    rw [Lib.cell_of_heap e3, ← Array.getElem?_toList, h5]
theorem buf_drawn {w0 wr : World} {h N : Nat} {acc : List UInt8} (hb : Lib.Buf w0 wr h N acc) (q : Nat) : Lib.Buf w0 (wr.drewN q) h N acc :=
  ⟨pw_below_drewN hb.below q, fun j hj => by rw [World.cell?_drewN]; exact hb.there j hj, fun j hj => by rw [World.frozen?_drewN]; exact hb.free j hj, fun j x hx => by rw [World.cell?_drewN]; exact hb.holds j x hx, hb.fits⟩
theorem buf_drew {w0 wr : World} {h N : Nat} {acc : List UInt8} (hb : Lib.Buf w0 wr h N acc) : Lib.Buf w0 wr.drew h N acc :=
  ⟨below_drew1 hb.below, fun j hj => by rw [World.cell?_drew]; exact hb.there j hj, fun j hj => by rw [World.frozen?_drew]; exact hb.free j hj, fun j x hx => by rw [World.cell?_drew]; exact hb.holds j x hx, hb.fits⟩
theorem buf_put {w0 wr : World} {h N : Nat} {acc : List UInt8} (hb : Lib.Buf w0 wr h N acc) (hn : acc.length < N) (b : UInt8) : Lib.Buf w0 (wr.setCell ⟨h, acc.length, none⟩ (.int .u8 (b.toNat : Int))) h N (acc ++ [b]) := by
  obtain ⟨u, hu⟩ := Option.isSome_iff_exists.1 (hb.there acc.length hn)
  refine ⟨hb.below.setCell (Nat.le_refl _) _, fun j hj => ?_, fun j hj => ?_, fun j x hx => ?_, by rw [List.length_append]; simp; omega⟩
  · by_cases e : j = acc.length
    · subst e
      rw [World.cell?_setCell_same wr _ _ hu]
      rfl
    · rw [World.cell?_setCell_other wr _ _ _ (by simp)]
      exact hb.there j hj
  · simp only [World.frozen?_setCell]
    exact hb.free j hj
  · by_cases e : j < acc.length
    · rw [List.getElem?_append_left e] at hx
      rw [World.cell?_setCell_other wr _ _ _ (by simp)]
      exact hb.holds j x hx
    · have hl : j = acc.length := by
        have := (List.getElem?_eq_some_iff.1 hx).1
        rw [List.length_append] at this
        simp at this
        omega
      subst hl
      rw [List.getElem?_append_right (Nat.le_refl _), Nat.sub_self] at hx
      obtain rfl := Option.some.inj hx
      exact World.cell?_setCell_same wr _ _ hu
theorem buf_made (w : World) (N : Nat) : Lib.Buf w (w.alloc (.cells (madeCells #[.int .u8 0] N) 5)) w.heap.size N [] := Lib.Buf.start w (madeCells #[.int .u8 0] N) 5 N 0 (by rw [size_madeCells]; exact Nat.le_refl _)
theorem mkbuf (W : World) (N : Nat) (h : N ≤ 16777216) : (Instr.makeSlice 40 (.int .i64 (N : Int)) (.int .i64 (N : Int))).run Tryz.prog W = .ok (.slice (some ⟨W.heap.size, 0, none⟩) N N) (W.alloc (.cells (madeCells #[.int .u8 0] N) 5)) := by
  have hinfo : (Tryz.prog.info? 5).map (fun i => (i.zero, i.size, i.bytes)) = some (some (.int .u8 0), 1, 1) := by kernel_rfl
  obtain ⟨i, hi, he⟩ := Option.map_eq_some_iff.1 hinfo
  simp only [Prod.mk.injEq] at he
  have h := run_makeSlice (P := Tryz.prog) (w := W) 40 5 i _ Tryz.underlying40 hi he.1 .i64 .i64 (N : Int) (N : Int) (by omega) (by omega) (by rw [he.2.1]; omega) (by rw [he.2.2]; omega) (by omega)
  rw [he.2.1] at h
  simp only [Int.toNat_natCast, Nat.mul_one] at h
  exact h
theorem buf_string {w0 wr : World} {h N c : Nat} {acc : List UInt8} (hb : Lib.Buf w0 wr h N acc) (hN : acc.length = N) : (convert 40 9 (.slice (some ⟨h, 0, none⟩) N c)).run Tryz.prog wr = .ok (.string ⟨acc.toArray⟩) wr := by
  have hr := run_convert_bytes_arg (P := Tryz.prog) wr 40 5 Tryz.underlying40 Tryz.underlying5 h 0 N c (Lib.numsL acc) (by rw [Lib.numsL_length, hN]) (fun i hi => by
    have hi' : i < acc.length := by omega
    rw [Nat.zero_add, hb.holds i acc[i] (List.getElem?_eq_getElem hi')]
    simp [Lib.numsL, List.getD, List.getElem?_map, List.getElem?_eq_getElem hi']) 9 Tryz.underlying9
  have hs : strOfNums (Lib.numsL acc) = ⟨acc.toArray⟩ := by
    show (⟨(Lib.bytesOf (Lib.numsL acc)).toArray⟩ : ByteArray) = _
    rw [Lib.bytesOf_numsL]
  rw [hs] at hr
  exact hr
/-- 'copy' behind what is filled, as one step of a region that draws its order. -/
theorem step_copy_part {ops : Array Oper} {o : Oper} {a : Act} {w : World} {K : Act → World → Prop} {Q : Exit → Act → World → Prop} {E : Prop} (hg : o.guard = none) (d s : Operand)
    (hop : o.op = Op.call { callee := Callee.builtin Builtin.copy, args := #[d, s], argTypes := #[40, 40] }) (w0 : World) (h N : Nat) (acc l : List UInt8) (v : Value) (hd : a.eval d = Lib.tailV h N acc.length) (hs : a.eval s = v)
    (hb : Lib.Buf w0 w h N acc) (hv : Lib.HoldsBytes w0 v l) (hh : w0.heap.size ≤ h) (hfit : acc.length + l.length ≤ N)
    (H : ∀ w', Aside0 (Lib.Buf w0 w' h N (acc ++ l)) → K (a.put o.dst (.int .i64 (l.length : Int))) w') :
    if Region.wanted o (yielded ops a.tmps) = true then Oper.wp Tryz.prog o a w K Q else E := by
  have hw : Region.wanted o (yielded ops a.tmps) = true := by simp [Region.wanted, hg]
  rw [if_pos hw]
  have h5 : (Tryz.prog.info? 5).map (·.size) = some 1 := by kernel_rfl
  obtain ⟨w', hr, hb'⟩ := Lib.copy_part (P := Tryz.prog) w0 w h N acc l v 40 o.type 5 Tryz.underlying40 h5 hh hb hv hfit
  exact Lib.wp_copy_run (P := Tryz.prog) w d s 40 40 hop _ _ hd hs hr (H _ ⟨hb'⟩)
end Go.Proofs.YteknchhlineciaaGreatDoor.Rpl
namespace Go.Proofs.YteknchhlineciaaGreatDoor.Rpl
open Go.RowKit Go.Proofs.YteknchhlineciaaGreatDoorW.PrintWords Go.Proofs.YteknchhlineciaaGreatDoorW.PrintLast Go.Proofs.YteknchhlineciaaGreatDoorW.PrintMore
set_option linter.unusedVariables false
set_option linter.unusedSimpArgs false
theorem esc_take_le (l : List UInt8) (i : Nat) : (esc (l.take i)).length ≤ (esc l).length := by
  conv => rhs; rw [← List.take_append_drop i l]
  rw [esc_append, List.length_append]
  omega
theorem nk_le (l : List UInt8) (k : Nat) (hk : k ≤ 5) : nk l k ≤ 5 * l.length := by
  have h0 := nk_zero l
  have h1 := nk_step0 l
  have h2 := nk_step1 l
  have h3 := nk_step2 l
  have h4 := nk_step3 l
  have h5 := nk_step4 l
  have h6 := nk_len l
  have h7 := esc_len l
  obtain rfl | rfl | rfl | rfl | rfl | rfl : k = 0 ∨ k = 1 ∨ k = 2 ∨ k = 3 ∨ k = 4 ∨ k = 5 := by omega
  all_goals omega
theorem ng_le (l : List UInt8) : ng l ≤ 5 * l.length := by
  have h6 := ng_len l
  have h7 := esc_len l
  omega
theorem ak_step0 (l : List UInt8) : ak l 1 = (ak l 0 || decide (Lib.countByte l 13 ≠ 0)) := by simp [ak, adds, Bool.or_assoc]
theorem ak_step1 (l : List UInt8) : ak l 2 = (ak l 1 || decide (Lib.countByte l 34 ≠ 0)) := by simp [ak, adds, Bool.or_assoc]
theorem ak_step2 (l : List UInt8) : ak l 3 = (ak l 2 || decide (Lib.countByte l 62 ≠ 0)) := by simp [ak, adds, Bool.or_assoc]
theorem ak_step3 (l : List UInt8) : ak l 4 = (ak l 3 || decide (Lib.countByte l 60 ≠ 0)) := by simp [ak, adds, Bool.or_assoc]
theorem ak_step4 (l : List UInt8) : ak l 5 = (ak l 4 || decide (Lib.countByte l 38 ≠ 0)) := by simp [ak, adds, Bool.or_assoc]
set_option maxRecDepth 100000 in
set_option maxHeartbeats 8000000 in
theorem replace (base rb : Nat) (v : Value) (s : ByteArray) (w : World) (h : St w base rb 5 5 v) (hs : s.size ≤ 100000) :
    Calls Tryz.prog 159 #[.pointer (some ⟨rb, 0, none⟩), .string s] w fun e w' => e = .returned (.string ⟨(esc s.data.toList).toArray⟩) ∧ Below w.heap.size w w' := by
  have HS := Aside0.mk h
  have hrb := h.lt
  obtain ⟨tb, cap, c256, hcap, ct⟩ := h.list
  have CT := Aside0.mk ct
  have C2 := Aside0.mk c256
  have htb : tb < w.heap.size := World.block_lt_of_cell? w _ (ct 0 (by omega))
  obtain ⟨N, hN⟩ : ∃ N, (esc s.data.toList).length = N := ⟨_, rfl⟩
  have hN1 : s.size ≤ N ∧ N ≤ 600000 := by have := esc_len s.data.toList; have e : s.data.toList.length = s.size := rfl; omega
  clear h ct
  have hnn0 : ∀ W : World, (binOp .neq 40 (.slice none 0 0) (.slice none 0 0)).run Tryz.prog W = .ok (.bool false) W := fun _ => rfl
  have hnn1 : ∀ (g l c : Nat) (W : World), (binOp .neq 40 (.slice (some ⟨g, 0, none⟩) l c) (.slice none 0 0)).run Tryz.prog W = .ok (.bool true) W := fun _ _ _ _ => rfl
  go_enter Tryz.func159, Tryz.ntmps159
  go_upto_if 26 with (fail)
  go_cut [5, 6] (fun v5 v6 wc => ∃ any : Bool, v5 = .int .i64 (N : Int) ∧ v6 = .bool any ∧ Aside0 (any = false → esc s.data.toList = s.data.toList) ∧ Aside0 (Below w.heap.size w wc))
  case first =>
    clear c256
    obtain ⟨f40, h40⟩ : ∃ f, decide ((40 : Int) ≤ (s.size : Int)) = f := ⟨_, rfl⟩
    rw [h40]
    clear h40
    cases f40 with
    | true =>
      have c256 := C2.out
      go_wp2_with fail
      clear c256
      go_loopw [5, 6, 32] (fun v5 v6 v32 wr => ∃ (k : Nat) (m n : Nat) (any : Bool), k ≤ 5 ∧ n ≤ 600000 ∧ Aside0 (n = s.size + nk s.data.toList k) ∧ Aside0 (any = ak s.data.toList k) ∧ v32 = .int .i64 (m : Int) ∧ m = k ∧ v5 = .int .i64 (n : Int) ∧ v6 = .bool any ∧ Aside0 (Below w.heap.size w wr)) (fun _ _ v32 _ => 5 - (intOf v32).toNat)
      case atStart => exact ⟨0, 0, s.size, false, by omega, by omega, ⟨by rw [nk_zero]; rfl⟩, ⟨(ak_zero _).symm⟩, rfl, rfl, rfl, rfl, ⟨Below.refl _ _⟩⟩
      case round =>
        obtain ⟨k, m, n, any, hk, hn, HN, HA, rfl, hm, rfl, rfl, HB⟩ := hrel
        by_cases hlt : k < 5
        · obtain ⟨k, hk2⟩ : ∃ k', k = k' := ⟨_, rfl⟩
          subst hk2
          obtain rfl | rfl | rfl | rfl | rfl : k = 0 ∨ k = 1 ∨ k = 2 ∨ k = 3 ∨ k = 4 := by omega
          · obtain rfl : m = 0 := hm
            have cT0 : w.cell? ⟨tb, 0, none⟩ = some (.string ⟨#[13]⟩) := CT.out 0 (by decide)
            have cT := (HB.out.cell (p := ⟨tb, 0, none⟩) htb).trans cT0
            clear cT0
            obtain ⟨g, c, cG0, hG⟩ := HS.out.at_some (x := 13) (by decide) (t := ⟨#[38, 35, 49, 51, 59]⟩) (by simp [rep])
            have cG : wr.cell? ⟨rb, 13, none⟩ = some (.slice (some ⟨g, 0, none⟩) 5 c) := (HB.out.cell (p := ⟨rb, 13, none⟩) hrb).trans cG0
            clear cG0 hG
            have hst := nk_step0 s.data.toList
            have hsa := ak_step0 s.data.toList
            have hcl : Lib.countByte s.data.toList 13 ≤ 100000 := by have h1 : Lib.countByte s.data.toList 13 ≤ s.data.toList.length := List.count_le_length; have e : s.data.toList.length = s.size := rfl; omega
            have hnl := nk_le s.data.toList 1 (by omega)
            have el : s.data.toList.length = s.size := rfl
            have hcnt := Tryz.strings_Count_one s 13
            obtain ⟨q, hq⟩ : ∃ q, Lib.countByte s.data.toList 13 = q := ⟨_, rfl⟩
            rw [hq] at hst hsa hcl hcnt
            have hn2 : n + q * 4 = s.size + nk s.data.toList 1 := by have := HN.out; omega
            have hn3 : n + q * 4 ≤ 600000 := by omega
            have HN2 := Aside0.mk hn2
            have HSA := Aside0.mk hsa
            clear hst hsa hnl el hn2 hq HN
            have hix : (⟨#[13]⟩ : ByteArray)[0].toNat = 13 := rfl
            by_cases hq0 : q = 0
            · subst hq0
              go_wp2_with (first | (go_at_call 161; refine (hcnt _).mono ?_; rintro e w' ⟨rfl, rfl⟩))
              go_roundw
              case rel => exact ⟨1, 1, n, any, by omega, by omega, ⟨by have := HN2.out; simpa using this⟩, ⟨by rw [HSA.out, ← HA.out]; simp⟩, by first | rfl | simp, rfl, rfl, rfl, HB⟩
              case measure => simp [intOf]
            · have hqb : ((q : Int) != 0) = true := bne_iff_ne.2 (by omega)
              go_wp2_with (first | (go_at_call 161; refine (hcnt _).mono ?_; rintro e w' ⟨rfl, rfl⟩))
              go_region
              go_wp2
              go_roundw
              case rel => exact ⟨1, 1, n + q * 4, true, by omega, by omega, HN2, ⟨by rw [HSA.out]; simp [hq0]⟩, by first | rfl | simp, rfl, by first | rfl | (push_cast; rfl), rfl, ⟨below_drew1 HB.out⟩⟩
              case measure => simp [intOf]
          · obtain rfl : m = 1 := hm
            have cT0 : w.cell? ⟨tb, 1, none⟩ = some (.string ⟨#[34]⟩) := CT.out 1 (by decide)
            have cT := (HB.out.cell (p := ⟨tb, 1, none⟩) htb).trans cT0
            clear cT0
            obtain ⟨g, c, cG0, hG⟩ := HS.out.at_some (x := 34) (by decide) (t := ⟨#[38, 113, 117, 111, 116, 59]⟩) (by simp [rep])
            have cG : wr.cell? ⟨rb, 34, none⟩ = some (.slice (some ⟨g, 0, none⟩) 6 c) := (HB.out.cell (p := ⟨rb, 34, none⟩) hrb).trans cG0
            clear cG0 hG
            have hst := nk_step1 s.data.toList
            have hsa := ak_step1 s.data.toList
            have hcl : Lib.countByte s.data.toList 34 ≤ 100000 := by have h1 : Lib.countByte s.data.toList 34 ≤ s.data.toList.length := List.count_le_length; have e : s.data.toList.length = s.size := rfl; omega
            have hnl := nk_le s.data.toList 2 (by omega)
            have el : s.data.toList.length = s.size := rfl
            have hcnt := Tryz.strings_Count_one s 34
            obtain ⟨q, hq⟩ : ∃ q, Lib.countByte s.data.toList 34 = q := ⟨_, rfl⟩
            rw [hq] at hst hsa hcl hcnt
            have hn2 : n + q * 5 = s.size + nk s.data.toList 2 := by have := HN.out; omega
            have hn3 : n + q * 5 ≤ 600000 := by omega
            have HN2 := Aside0.mk hn2
            have HSA := Aside0.mk hsa
            clear hst hsa hnl el hn2 hq HN
            have hix : (⟨#[34]⟩ : ByteArray)[0].toNat = 34 := rfl
            by_cases hq0 : q = 0
            · subst hq0
              go_wp2_with (first | (go_at_call 161; refine (hcnt _).mono ?_; rintro e w' ⟨rfl, rfl⟩))
              go_roundw
              case rel => exact ⟨2, 2, n, any, by omega, by omega, ⟨by have := HN2.out; simpa using this⟩, ⟨by rw [HSA.out, ← HA.out]; simp⟩, by first | rfl | simp, rfl, rfl, rfl, HB⟩
              case measure => simp [intOf]
            · have hqb : ((q : Int) != 0) = true := bne_iff_ne.2 (by omega)
              go_wp2_with (first | (go_at_call 161; refine (hcnt _).mono ?_; rintro e w' ⟨rfl, rfl⟩))
              go_region
              go_wp2
              go_roundw
              case rel => exact ⟨2, 2, n + q * 5, true, by omega, by omega, HN2, ⟨by rw [HSA.out]; simp [hq0]⟩, by first | rfl | simp, rfl, by first | rfl | (push_cast; rfl), rfl, ⟨below_drew1 HB.out⟩⟩
              case measure => simp [intOf]
          · obtain rfl : m = 2 := hm
            have cT0 : w.cell? ⟨tb, 2, none⟩ = some (.string ⟨#[62]⟩) := CT.out 2 (by decide)
            have cT := (HB.out.cell (p := ⟨tb, 2, none⟩) htb).trans cT0
            clear cT0
            obtain ⟨g, c, cG0, hG⟩ := HS.out.at_some (x := 62) (by decide) (t := ⟨#[38, 103, 116, 59]⟩) (by simp [rep])
            have cG : wr.cell? ⟨rb, 62, none⟩ = some (.slice (some ⟨g, 0, none⟩) 4 c) := (HB.out.cell (p := ⟨rb, 62, none⟩) hrb).trans cG0
            clear cG0 hG
            have hst := nk_step2 s.data.toList
            have hsa := ak_step2 s.data.toList
            have hcl : Lib.countByte s.data.toList 62 ≤ 100000 := by have h1 : Lib.countByte s.data.toList 62 ≤ s.data.toList.length := List.count_le_length; have e : s.data.toList.length = s.size := rfl; omega
            have hnl := nk_le s.data.toList 3 (by omega)
            have el : s.data.toList.length = s.size := rfl
            have hcnt := Tryz.strings_Count_one s 62
            obtain ⟨q, hq⟩ : ∃ q, Lib.countByte s.data.toList 62 = q := ⟨_, rfl⟩
            rw [hq] at hst hsa hcl hcnt
            have hn2 : n + q * 3 = s.size + nk s.data.toList 3 := by have := HN.out; omega
            have hn3 : n + q * 3 ≤ 600000 := by omega
            have HN2 := Aside0.mk hn2
            have HSA := Aside0.mk hsa
            clear hst hsa hnl el hn2 hq HN
            have hix : (⟨#[62]⟩ : ByteArray)[0].toNat = 62 := rfl
            by_cases hq0 : q = 0
            · subst hq0
              go_wp2_with (first | (go_at_call 161; refine (hcnt _).mono ?_; rintro e w' ⟨rfl, rfl⟩))
              go_roundw
              case rel => exact ⟨3, 3, n, any, by omega, by omega, ⟨by have := HN2.out; simpa using this⟩, ⟨by rw [HSA.out, ← HA.out]; simp⟩, by first | rfl | simp, rfl, rfl, rfl, HB⟩
              case measure => simp [intOf]
            · have hqb : ((q : Int) != 0) = true := bne_iff_ne.2 (by omega)
              go_wp2_with (first | (go_at_call 161; refine (hcnt _).mono ?_; rintro e w' ⟨rfl, rfl⟩))
              go_region
              go_wp2
              go_roundw
              case rel => exact ⟨3, 3, n + q * 3, true, by omega, by omega, HN2, ⟨by rw [HSA.out]; simp [hq0]⟩, by first | rfl | simp, rfl, by first | rfl | (push_cast; rfl), rfl, ⟨below_drew1 HB.out⟩⟩
              case measure => simp [intOf]
          · obtain rfl : m = 3 := hm
            have cT0 : w.cell? ⟨tb, 3, none⟩ = some (.string ⟨#[60]⟩) := CT.out 3 (by decide)
            have cT := (HB.out.cell (p := ⟨tb, 3, none⟩) htb).trans cT0
            clear cT0
            obtain ⟨g, c, cG0, hG⟩ := HS.out.at_some (x := 60) (by decide) (t := ⟨#[38, 108, 116, 59]⟩) (by simp [rep])
            have cG : wr.cell? ⟨rb, 60, none⟩ = some (.slice (some ⟨g, 0, none⟩) 4 c) := (HB.out.cell (p := ⟨rb, 60, none⟩) hrb).trans cG0
            clear cG0 hG
            have hst := nk_step3 s.data.toList
            have hsa := ak_step3 s.data.toList
            have hcl : Lib.countByte s.data.toList 60 ≤ 100000 := by have h1 : Lib.countByte s.data.toList 60 ≤ s.data.toList.length := List.count_le_length; have e : s.data.toList.length = s.size := rfl; omega
            have hnl := nk_le s.data.toList 4 (by omega)
            have el : s.data.toList.length = s.size := rfl
            have hcnt := Tryz.strings_Count_one s 60
            obtain ⟨q, hq⟩ : ∃ q, Lib.countByte s.data.toList 60 = q := ⟨_, rfl⟩
            rw [hq] at hst hsa hcl hcnt
            have hn2 : n + q * 3 = s.size + nk s.data.toList 4 := by have := HN.out; omega
            have hn3 : n + q * 3 ≤ 600000 := by omega
            have HN2 := Aside0.mk hn2
            have HSA := Aside0.mk hsa
            clear hst hsa hnl el hn2 hq HN
            have hix : (⟨#[60]⟩ : ByteArray)[0].toNat = 60 := rfl
            by_cases hq0 : q = 0
            · subst hq0
              go_wp2_with (first | (go_at_call 161; refine (hcnt _).mono ?_; rintro e w' ⟨rfl, rfl⟩))
              go_roundw
              case rel => exact ⟨4, 4, n, any, by omega, by omega, ⟨by have := HN2.out; simpa using this⟩, ⟨by rw [HSA.out, ← HA.out]; simp⟩, by first | rfl | simp, rfl, rfl, rfl, HB⟩
              case measure => simp [intOf]
            · have hqb : ((q : Int) != 0) = true := bne_iff_ne.2 (by omega)
              go_wp2_with (first | (go_at_call 161; refine (hcnt _).mono ?_; rintro e w' ⟨rfl, rfl⟩))
              go_region
              go_wp2
              go_roundw
              case rel => exact ⟨4, 4, n + q * 3, true, by omega, by omega, HN2, ⟨by rw [HSA.out]; simp [hq0]⟩, by first | rfl | simp, rfl, by first | rfl | (push_cast; rfl), rfl, ⟨below_drew1 HB.out⟩⟩
              case measure => simp [intOf]
          · obtain rfl : m = 4 := hm
            have cT0 : w.cell? ⟨tb, 4, none⟩ = some (.string ⟨#[38]⟩) := CT.out 4 (by decide)
            have cT := (HB.out.cell (p := ⟨tb, 4, none⟩) htb).trans cT0
            clear cT0
            obtain ⟨g, c, cG0, hG⟩ := HS.out.at_some (x := 38) (by decide) (t := ⟨#[38, 97, 109, 112, 59]⟩) (by simp [rep])
            have cG : wr.cell? ⟨rb, 38, none⟩ = some (.slice (some ⟨g, 0, none⟩) 5 c) := (HB.out.cell (p := ⟨rb, 38, none⟩) hrb).trans cG0
            clear cG0 hG
            have hst := nk_step4 s.data.toList
            have hsa := ak_step4 s.data.toList
            have hcl : Lib.countByte s.data.toList 38 ≤ 100000 := by have h1 : Lib.countByte s.data.toList 38 ≤ s.data.toList.length := List.count_le_length; have e : s.data.toList.length = s.size := rfl; omega
            have hnl := nk_le s.data.toList 5 (by omega)
            have el : s.data.toList.length = s.size := rfl
            have hcnt := Tryz.strings_Count_one s 38
            obtain ⟨q, hq⟩ : ∃ q, Lib.countByte s.data.toList 38 = q := ⟨_, rfl⟩
            rw [hq] at hst hsa hcl hcnt
            have hn2 : n + q * 4 = s.size + nk s.data.toList 5 := by have := HN.out; omega
            have hn3 : n + q * 4 ≤ 600000 := by omega
            have HN2 := Aside0.mk hn2
            have HSA := Aside0.mk hsa
            clear hst hsa hnl el hn2 hq HN
            have hix : (⟨#[38]⟩ : ByteArray)[0].toNat = 38 := rfl
            by_cases hq0 : q = 0
            · subst hq0
              go_wp2_with (first | (go_at_call 161; refine (hcnt _).mono ?_; rintro e w' ⟨rfl, rfl⟩))
              go_roundw
              case rel => exact ⟨5, 5, n, any, by omega, by omega, ⟨by have := HN2.out; simpa using this⟩, ⟨by rw [HSA.out, ← HA.out]; simp⟩, by first | rfl | simp, rfl, rfl, rfl, HB⟩
              case measure => simp [intOf]
            · have hqb : ((q : Int) != 0) = true := bne_iff_ne.2 (by omega)
              go_wp2_with (first | (go_at_call 161; refine (hcnt _).mono ?_; rintro e w' ⟨rfl, rfl⟩))
              go_region
              go_wp2
              go_roundw
              case rel => exact ⟨5, 5, n + q * 4, true, by omega, by omega, HN2, ⟨by rw [HSA.out]; simp [hq0]⟩, by first | rfl | simp, rfl, by first | rfl | (push_cast; rfl), rfl, ⟨below_drew1 HB.out⟩⟩
              case measure => simp [intOf]
        · obtain rfl : k = 5 := by omega
          obtain rfl : m = 5 := hm
          have h1 := HN.out
          have h2 := nk_len s.data.toList
          have h3 : s.data.toList.length = s.size := rfl
          obtain rfl : n = N := by omega
          clear h1 h2 h3
          go_wp2
          go_meet
          case rel => exact ⟨any, rfl, rfl, ⟨fun e => ak_same (by rw [← HA.out]; exact e)⟩, HB⟩
    | false =>
      go_wp2_with fail
      go_loopw [5, 6, 10] (fun v5 v6 v10 wr => ∃ (i n : Nat) (any : Bool), i ≤ s.size ∧ n ≤ 600000 ∧ Aside0 (n = s.size + ng (s.data.toList.take i)) ∧ Aside0 (any = (s.data.toList.take i).any turns) ∧ v10 = .int .i64 (i : Int) ∧ v5 = .int .i64 (n : Int) ∧ v6 = .bool any ∧ Aside0 (Below w.heap.size w wr)) (fun _ _ v10 _ => s.size - (intOf v10).toNat)
      case atStart => exact ⟨0, s.size, false, by omega, by omega, ⟨by simp [ng, esc]⟩, ⟨by simp⟩, rfl, rfl, rfl, ⟨Below.refl _ _⟩⟩
      case round =>
        obtain ⟨i, n, any, hi, hn, HN, HA, rfl, rfl, rfl, HB⟩ := hrel
        by_cases hlt : i < s.size
        · obtain ⟨b, hb⟩ : ∃ b, s[i]'hlt = b := ⟨_, rfl⟩
          have hb2 : s.data.toList[i]? = some b := by
            rw [← hb]
            rw [Array.getElem?_toList, Array.getElem?_eq_getElem (show i < s.data.size from hlt)]
            rfl
          have htk : s.data.toList.take (i + 1) = s.data.toList.take i ++ [b] := by rw [List.take_add_one, hb2]; rfl
          have hng := ng_snoc (s.data.toList.take i) b
          have han : (s.data.toList.take (i + 1)).any turns = ((s.data.toList.take i).any turns || turns b) := by rw [htk]; simp
          rw [← htk] at hng
          have hnl : ng (s.data.toList.take (i + 1)) ≤ 500000 := by
            have h1 := ng_le (s.data.toList.take (i + 1))
            have h2 : (s.data.toList.take (i + 1)).length ≤ s.data.toList.length := by rw [List.length_take]; omega
            have h3 : s.data.toList.length = s.size := rfl
            omega
          have hb256 : b.toNat < 256 := UInt8.toNat_lt b
          have hbi : (b.toNat : Int) < 256 := by omega
          have HNG := Aside0.mk hng
          have HAN := Aside0.mk han
          clear htk hng han hb2
          cases hr : rep 5 b.toNat with
          | none =>
            have c0 : wr.cell? ⟨rb, b.toNat, none⟩ = some (.slice none 0 0) := (HB.out.cell (p := ⟨rb, b.toNat, none⟩) hrb).trans (HS.out.at_none hb256 hr)
            have e1l := e1_none hr
            have htn : turns b = false := by unfold turns; rw [hr]; rfl
            go_wp2
            go_roundw
            case rel => exact ⟨i + 1, n, any, by omega, by omega, ⟨by rw [HNG.out, e1l]; have := HN.out; simpa using this⟩, ⟨by rw [HAN.out, htn, ← HA.out]; simp⟩, by first | rfl | go_num, rfl, rfl, HB⟩
            case measure => simp [intOf]; omega
          | some t =>
            obtain ⟨g, c, cG0, hG⟩ := HS.out.at_some hb256 hr
            have cG : wr.cell? ⟨rb, b.toNat, none⟩ = some (.slice (some ⟨g, 0, none⟩) t.size c) := (HB.out.cell (p := ⟨rb, b.toNat, none⟩) hrb).trans cG0
            clear cG0 hG
            have e1l := e1_some hr
            have ez : t.data.toList.length = t.size := rfl
            have hts := rep_size hr
            have htn : turns b = true := by unfold turns; rw [hr]; rfl
            have hn2 : n + (t.size - 1) ≤ 600000 ∧ n + (t.size - 1) = s.size + ng (s.data.toList.take (i + 1)) := by
              have h1 := HN.out
              have h2 := HNG.out
              rw [e1l, ez] at h2
              omega
            go_wp2
            go_roundw
            case rel => exact ⟨i + 1, n + (t.size - 1), true, by omega, hn2.1, ⟨hn2.2⟩, ⟨by rw [HAN.out, htn]; simp⟩, by first | rfl | go_num, by first | rfl | (congr 1; omega), rfl, HB⟩
            case measure => simp [intOf]; omega
        · obtain rfl : i = s.size := by omega
          have h1 := HN.out
          have h0 : s.data.toList.take s.size = s.data.toList := by
            have h3 : s.data.toList.length = s.size := rfl
            rw [← h3, List.take_length]
          rw [h0] at h1
          have h2 := ng_len s.data.toList
          have h3 : s.data.toList.length = s.size := rfl
          obtain rfl : n = N := by omega
          have HA2 := HA.out
          rw [h0] at HA2
          clear h1 h2 h3
          go_wp2
          go_meet
          case rel => exact ⟨any, rfl, rfl, ⟨fun e => esc_same (by rw [← HA2]; exact e)⟩, HB⟩
  case rest =>
    clear c256
    obtain ⟨any, rfl, rfl, HA, HB⟩ := hcut
    cases any with
    | false =>
      have he := HA.out rfl
      go_wp2
      go_ret
      exact ⟨rfl, HB.out⟩
    | true =>
      have HC := Aside0.mk (HS.out.below HB.out)
      have hrc := HC.out.lt
      have hmk := mkbuf wc N (by omega)
      have HF := Aside0.mk (buf_made wc N)
      go_wp2_with fail
      generalize wc.alloc (.cells (madeCells #[.int .u8 0] N) 5) = W1 at HF ⊢
      obtain ⟨hp, hhp⟩ : ∃ hp, wc.heap.size = hp := ⟨_, rfl⟩
      rw [hhp] at HF hrc ⊢
      clear hmk
      go_loopw [13, 14] (fun v13 v14 wr => ∃ (i a : Nat) (acc : List UInt8), i ≤ s.size ∧ acc.length = a ∧ a ≤ N ∧ Aside0 (acc = esc (s.data.toList.take i)) ∧ v14 = .int .i64 (i : Int) ∧ v13 = .int .i64 (a : Int) ∧ Aside0 (Lib.Buf wc wr hp N acc)) (fun _ v14 _ => s.size - (intOf v14).toNat)
      case atStart => exact ⟨0, 0, [], by omega, rfl, by omega, ⟨by simp [esc]⟩, rfl, rfl, HF⟩
      case round =>
        obtain ⟨i, a, acc, hi, ha, haN, HE, rfl, rfl, HF⟩ := hrel
        by_cases hlt : i < s.size
        · obtain ⟨b, hb⟩ : ∃ b, s[i]'hlt = b := ⟨_, rfl⟩
          have hb2 : s.data.toList[i]? = some b := by
            rw [← hb]
            rw [Array.getElem?_toList, Array.getElem?_eq_getElem (show i < s.data.size from hlt)]
            rfl
          have htk : esc (s.data.toList.take (i + 1)) = acc ++ e1 b := by
            rw [List.take_add_one, hb2, esc_append, HE.out]
            simp [esc]
          have hle := esc_take_le s.data.toList (i + 1)
          rw [htk, hN, List.length_append] at hle
          have hb256 : b.toNat < 256 := UInt8.toNat_lt b
          have hbi : (b.toNat : Int) < 256 := by omega
          have hlb := e1_len b
          have HT := Aside0.mk htk
          clear htk hb2
          cases hr : rep 5 b.toNat with
          | none =>
            have e1l := e1_none hr
            rw [e1l] at hle
            have haN2 : a < N := by simp at hle; omega
            have haN3 : (a : Int) < (N : Int) := by omega
            have c0 : wr.cell? ⟨rb, b.toNat, none⟩ = some (.slice none 0 0) := (HF.out.below.cell (p := ⟨rb, b.toNat, none⟩) hrc).trans (HC.out.at_none hb256 hr)
            obtain ⟨u0, hu0⟩ := Option.isSome_iff_exists.1 (HF.out.there a haN2)
            have hz0 := HF.out.free a haN2
            have HP := Aside0.mk (buf_put HF.out (by omega) b)
            rw [ha] at HP
            clear hle
            go_wp2
            go_roundw
            case rel => exact ⟨i + 1, a + 1, acc ++ [b], by omega, by simp [ha], by omega, ⟨by rw [HT.out, e1l]⟩, by first | rfl | go_num, by first | rfl | go_num, HP⟩
            case measure => simp [intOf]; omega
          | some t =>
            have e1l := e1_some hr
            have ez : t.data.toList.length = t.size := rfl
            have hts := rep_size hr
            rw [e1l] at hle
            obtain ⟨g, c, cG0, hG⟩ := HC.out.at_some hb256 hr
            have cG : wr.cell? ⟨rb, b.toNat, none⟩ = some (.slice (some ⟨g, 0, none⟩) t.size c) := (HF.out.below.cell (p := ⟨rb, b.toNat, none⟩) hrc).trans cG0
            have HG := Aside0.mk hG
            have hsl : ∀ W, (Instr.slice 40 (.slice (some ⟨hp, 0, none⟩) N N) (some (.int .i64 (a : Int))) none none).run Tryz.prog W = .ok (Lib.tailV hp N a) W := fun W => Lib.run_slice_tailV W 40 5 Tryz.underlying40 (fun _ => rfl) _ N a haN
            have hzl : a + t.data.toList.length ≤ N := by omega
            clear cG0 hG
            go_wp2_with fail
            go_region_law (refine step_copy_part rfl (.tmp 105) (.tmp 111) rfl wc hp N acc t.data.toList (.slice (some ⟨g, 0, none⟩) t.size c) (by rw [ha]; rfl) rfl (by first | exact HF.out | exact buf_drew HF.out) HG.out (by omega) (by omega) ?_; intro w2 HF2)
            go_wp2
            go_roundw
            case rel => exact ⟨i + 1, a + t.data.toList.length, acc ++ t.data.toList, by omega, by rw [List.length_append, ha], by omega, ⟨by rw [HT.out, e1l]⟩, by first | rfl | go_num, by first | rfl | go_num, HF2⟩
            case measure => simp [intOf]; omega
        · obtain rfl : i = s.size := by omega
          have h0 : s.data.toList.take s.size = s.data.toList := by
            have h3 : s.data.toList.length = s.size := rfl
            rw [← h3, List.take_length]
          have he := HE.out
          rw [h0] at he
          have hst := buf_string (c := N) HF.out (by rw [he]; exact hN)
          clear h0
          go_wp2
          go_ret
          exact ⟨rfl, HB.out.trans (HF.out.below.mono (by have := HB.out.size; omega))⟩
end Go.Proofs.YteknchhlineciaaGreatDoor.Rpl
namespace Go.Proofs.YteknchhlineciaaGreatDoor.Rpl
open Go.RowKit Go.Proofs.YteknchhlineciaaGreatDoorW.PrintWords Go.Proofs.YteknchhlineciaaGreatDoorW.PrintLast Go.Proofs.YteknchhlineciaaGreatDoorW.PrintMore
set_option linter.unusedVariables false
set_option linter.unusedSimpArgs false
theorem tbl_at : ∀ j u, (tbl.map Value.string)[j]? = some u → j < 10 ∧ u = .string (tbl.getD j ByteArray.empty) := by
  intro j u h
  have hj : j < 10 := by
    have := (List.getElem?_eq_some_iff.1 h).1
    simpa [tbl] using this
  refine ⟨hj, ?_⟩
  rw [List.getElem?_map] at h
  obtain ⟨x, hx, rfl⟩ := Option.map_eq_some_iff.1 h
  rw [List.getD_eq_getElem?_getD, hx]
  rfl
theorem row_cells {W : World} {base : Nat} {v : Value} (h : W.ownsRow base 9 1 v 10 (tbl.map Value.string)) : ∃ g c, v = .slice (some ⟨g, 0, none⟩) 10 c ∧ base ≤ g ∧ g < W.heap.size ∧ 10 ≤ c ∧ ∀ j, j < 10 → W.cell? ⟨g, j, none⟩ = some (.string (tbl.getD j ByteArray.empty)) := by
  rcases h.2 with ⟨_, e⟩ | ⟨g, cap, cur, e1, e2, e3, e4⟩
  · cases e
  · subst e1
    refine ⟨g, cap, rfl, e2, (Array.getElem?_eq_some_iff.1 e3).1, e4.1, fun j hj => ?_⟩
    have ht : cur.toList.take (10 * 1) = tbl.map Value.string := e4.2.2.2
    have h5 : (cur.toList.take (10 * 1))[j]? = some (Value.string (tbl.getD j ByteArray.empty)) := by
      rw [ht, List.getElem?_map]
      have hl : j < tbl.length := hj
      rw [List.getElem?_eq_getElem hl, List.getD_eq_getElem?_getD, List.getElem?_eq_getElem hl]
      rfl
    rw [List.getElem?_take_of_lt (by omega)] at h5
    rw [Lib.cell_of_heap e3, ← Array.getElem?_toList, h5]
set_option maxRecDepth 100000 in
set_option maxHeartbeats 1600000 in
theorem newRep (gb c : Nat) (w : World) (hc : 10 ≤ c) (ht : ∀ j, j < 10 → w.cell? ⟨gb, j, none⟩ = some (.string (tbl.getD j ByteArray.empty))) :
    Calls Tryz.prog 54 #[.slice (some ⟨gb, 0, none⟩) 10 c] w fun e w' => ∃ b ob oc, e = .returned (.pointer (some ⟨b, 0, none⟩)) ∧ w.heap.size ≤ b ∧ w'.heap[b]? = some (.cells #[.int .u32 0, .int .i32 0, .int .u32 0, Value.nilIface, .slice (some ⟨ob, 0, none⟩) 10 oc] 103 (0, 0)) ∧
      w.heap.size ≤ ob ∧ ob < b ∧ (∀ j, j < 10 → w'.cell? ⟨ob, j, none⟩ = some (.string (tbl.getD j ByteArray.empty))) ∧ Below w.heap.size w w' := by
  have HT := Aside0.mk ht
  clear ht
  have hinfo : (Tryz.prog.info? 9).map (fun i => (i.zero, i.size, i.bytes)) = some (some (.string ⟨#[]⟩), 1, 16) := by kernel_rfl
  obtain ⟨i, hi, he⟩ := Option.map_eq_some_iff.1 hinfo
  simp only [Prod.mk.injEq] at he
  go_enter Tryz.func54, Tryz.ntmps54
  go_wp2_with ((with_reducible refine gate_dst (N := 9) rfl ?_); go_loud (refine wpList_append_grows w rfl _ (.tmp 8) 71 rfl 9 i (.string ⟨#[]⟩) 1 16 Tryz.underlying71 hi he.1 he.2.1 he.2.2 rfl (by decide) none 0 0 [] rfl (fun _ => ⟨rfl, rfl⟩) rfl (fun b e => by cases e) ⟨gb, 0, none⟩ 10 c (tbl.map Value.string) rfl rfl (fun j u hj => by obtain ⟨h1, rfl⟩ := tbl_at j u hj; have h2 : ((⟨gb, 0, none⟩ : Addr).add j) = ⟨gb, j, none⟩ := (by unfold Addr.add; split <;> simp_all); rw [h2]; exact HT.out j h1) (fun u hu => by obtain ⟨x, _, rfl⟩ := List.mem_map.1 hu; rfl) (by decide) (by decide) (by decide) ?_); intro v1 w1 hown hg; obtain ⟨ob, oc, rfl, g1, g2, g3, g4⟩ := row_cells hown; have HT1 := Aside0.mk g4; have HG1 := Aside0.mk hg; clear g4 hown hg)
  go_ret
  have hs1 : w.heap.size ≤ w1.heap.size := HG1.out.size
  refine ⟨w1.heap.size, ob, oc, rfl, hs1, heap_alloc_new w1 _, g1, g2, fun j hj => ?_, ?_⟩
  · rw [World.cell?_of_block (heap_alloc_old w1 _ g2)]
    exact HT1.out j hj
  · exact ((Below.refl _ w).grown HG1.out (Nat.le_refl _) (fun k e => by cases e)).alloc hs1 _
/-- A block's cells as they stand. -/
theorem at_cell {W : World} {b : Nat} {cs : Array Value} {t : TypeId} (h : W.heap[b]? = some (.cells cs t (0, 0))) (j : Nat) (v : Value) (hv : cs[j]? = some v) : W.cell? ⟨b, j, none⟩ = some v ∧ W.frozen? ⟨b, j, none⟩ = false := by
  refine ⟨by rw [Lib.cell_of_heap h]; exact hv, ?_⟩
  unfold World.frozen?
  simp [h]
set_option maxRecDepth 100000 in
set_option maxHeartbeats 1600000 in
theorem buildOnce (b gb c B : Nat) (rv : Value) (w0 w : World) (hB : B ≤ b) (hw : w0.heap.size ≤ B) (hBel : Below B w0 w) (hgb : gb ≠ b) (hb : w.heap[b]? = some (.cells #[.int .u32 0, .int .i32 1, .int .u32 0, rv, .slice (some ⟨gb, 0, none⟩) 10 c] 103 (0, 0))) (ht : ∀ j, j < 10 → w.cell? ⟨gb, j, none⟩ = some (.string (tbl.getD j ByteArray.empty))) :
    Calls Tryz.prog 77 #[.pointer (some ⟨b, 0, none⟩)] w fun e w' => e = .returned (.tuple #[]) ∧ ∃ rb v, St w' w.heap.size rb 5 5 v ∧ w'.heap[b]? = some (.cells #[.int .u32 0, .int .i32 1, .int .u32 0, .iface 138 (.pointer (some ⟨rb, 0, none⟩)), .slice none 0 0] 103 (0, 0)) ∧ Below B w0 w' ∧ w.heap.size ≤ w'.heap.size := by
  have hlt : b < w.heap.size := (Array.getElem?_eq_some_iff.1 hb).1
  have c4 := (at_cell hb 4 _ rfl).1
  have cB := build b gb c w c4 ht
  have HBel := Aside0.mk hBel
  have HH := Aside0.mk hb
  have HC := Aside0.mk cB
  clear hBel hb ht c4 cB
  go_enter Tryz.func77, Tryz.ntmps77
  go_wp2_with (go_at_call 90; refine HC.out.mono ?_; rintro e w2 ⟨rb, v, rfl, hst, hbl⟩; have hh2 := (hbl.block b hlt).trans HH.out; obtain ⟨c3, z3⟩ := at_cell hh2 3 _ rfl; have HST := Aside0.mk hst; have HB2 := Aside0.mk hbl; have HH2 := Aside0.mk hh2; obtain ⟨c5, z5⟩ := at_cell (set_at hh2 (.iface 138 (.pointer (some ⟨rb, 0, none⟩))) (j := 3)) 4 _ rfl; clear hst hbl hh2)
  go_end0
  refine ⟨rfl, rb, v, ?_, ?_, ?_, ?_⟩
  · refine HST.out.kept (by rw [set_size, set_size]; exact Nat.le_refl _) (fun g hg _ => ?_)
    rw [set_ne _ (by omega), set_ne _ (by omega)]
  · exact (set_at (set_at HH2.out _) _).trans rfl
  · exact ((HBel.out.trans (HB2.out.mono (by omega))).setCell hB _).setCell hB _
  · rw [set_size, set_size]
    exact HB2.out.size
set_option maxRecDepth 100000 in
set_option maxHeartbeats 1600000 in
theorem firstReplace (b gb c B : Nat) (rv : Value) (s : ByteArray) (hs : s.size ≤ 100000) (w0 w : World) (hB : B ≤ b) (hw : w0.heap.size ≤ B) (hBel : Below B w0 w) (hgb : gb ≠ b) (hb : w.heap[b]? = some (.cells #[.int .u32 0, .int .i32 0, .int .u32 0, rv, .slice (some ⟨gb, 0, none⟩) 10 c] 103 (0, 0))) (ht : ∀ j, j < 10 → w.cell? ⟨gb, j, none⟩ = some (.string (tbl.getD j ByteArray.empty))) :
    Calls Tryz.prog 55 #[.pointer (some ⟨b, 0, none⟩), .string s] w fun e w' => e = .returned (.string ⟨(esc s.data.toList).toArray⟩) ∧ Below B w0 w' := by
  have hlt : b < w.heap.size := (Array.getElem?_eq_some_iff.1 hb).1
  obtain ⟨c0, z0⟩ := at_cell hb 0 _ rfl
  obtain ⟨c1, z1⟩ := at_cell hb 1 _ rfl
  have hb1 : (w.setCell ⟨b, 1, none⟩ (.int .i32 1)).heap[b]? = some (.cells #[.int .u32 0, .int .i32 1, .int .u32 0, rv, .slice (some ⟨gb, 0, none⟩) 10 c] 103 (0, 0)) := (set_at hb _).trans rfl
  have ht1 : ∀ j, j < 10 → (w.setCell ⟨b, 1, none⟩ (.int .i32 1)).cell? ⟨gb, j, none⟩ = some (.string (tbl.getD j ByteArray.empty)) := fun j hj => (World.cell?_of_block (set_ne _ hgb)).trans (ht j hj)
  have hD := Once.do_first b #[.pointer (some ⟨b, 0, none⟩)] w (fun w' => ∃ rb v, St w' w.heap.size rb 5 5 v ∧ w'.heap[b]? = some (.cells #[.int .u32 0, .int .i32 1, .int .u32 0, .iface 138 (.pointer (some ⟨rb, 0, none⟩)), .slice none 0 0] 103 (0, 0)) ∧ Below B w0 w' ∧ w.heap.size ≤ w'.heap.size) c0 c1 z0 z1
    ((buildOnce b gb c B rv w0 (w.setCell ⟨b, 1, none⟩ (.int .i32 1)) hB hw (hBel.setCell hB _) hgb hb1 ht1).mono (by
      rintro e w' ⟨rfl, rb, v, h1, h2, h3, h4⟩
      rw [set_size] at h1 h4
      obtain ⟨d0, f0⟩ := at_cell h2 0 _ rfl
      obtain ⟨d1, f1⟩ := at_cell h2 1 _ rfl
      exact ⟨rfl, ⟨rb, v, h1, h2, h3, h4⟩, d0, d1, f0, f1⟩))
  have hD2 : Calls Tryz.prog 76 #[.pointer (some ⟨b, 0, none⟩), .func (.func 77) #[.pointer (some ⟨b, 0, none⟩)] #[]] w fun e w' => e = .returned (.tuple #[]) ∧ ∃ rb v, St w' w.heap.size rb 5 5 v ∧ w'.cell? ⟨b, 3, none⟩ = some (.iface 138 (.pointer (some ⟨rb, 0, none⟩))) ∧ Below B w0 w' := hD.mono (by
    rintro e w' ⟨rfl, w2, ⟨rb, v, h1, h2, h3, h4⟩, d0, d1, rfl⟩
    have h2' : w2.drew.heap[b]? = some (.cells #[.int .u32 0, .int .i32 1, .int .u32 0, .iface 138 (.pointer (some ⟨rb, 0, none⟩)), .slice none 0 0] 103 (0, 0)) := h2
    refine ⟨rfl, rb, v, ?_, ?_, ?_⟩
    · refine h1.kept (by rw [set_size, set_size]; exact Nat.le_refl _) (fun g hg _ => ?_)
      rw [set_ne _ (by omega), set_ne _ (by omega)]
      rfl
    · exact (at_cell (set_at (set_at h2' (.int .u32 1) (j := 0)) (.int .i32 0) (j := 1)) 3 _ rfl).1
    · exact ((below_drew1 h3).setCell hB _).setCell hB _)
  have HD := Aside0.mk hD2
  clear hD hD2 ht1 hb1 ht hb c0 c1 z0 z1 hBel
  have hme : ∀ (rb : Nat) (W : World), (method 304 138 (.pointer (some ⟨rb, 0, none⟩)) "Replace").run Tryz.prog W = .ok (159, .pointer (some ⟨rb, 0, none⟩)) W := fun _ _ => by kernel_rfl
  go_enter Tryz.func55, Tryz.ntmps55
  go_wp2_with (first | (go_at_call 76; refine HD.out.mono ?_; rintro e w' ⟨rfl, rb, v, h1, h2, h3⟩; have HS := Aside0.mk h1; have HB := Aside0.mk h3; clear h1 h3) | (go_at_call 159; refine (replace _ _ _ s _ HS.out hs).mono ?_; rintro e w3 ⟨rfl, hb3⟩; have HB3 := Aside0.mk hb3; clear hb3))
  go_ret
  exact ⟨rfl, HB.out.trans (HB3.out.mono (by have := HB.out.size; have := HS.out.lt; have := HS.out.low; omega))⟩
set_option maxRecDepth 100000 in
set_option maxHeartbeats 1600000 in
/-- impl.escapeXml. -/
theorem escape (s : ByteArray) (hs : s.size ≤ 100000) (w : World) : Calls Tryz.prog 34 #[.string s] w fun e w' => e = .returned (.string ⟨(esc s.data.toList).toArray⟩) ∧ Below w.heap.size w w' := by
  have ht : ∀ j, j < 10 → (w.alloc (.cells (tbl.map Value.string).toArray 9)).cell? ⟨w.heap.size, j, none⟩ = some (.string (tbl.getD j ByteArray.empty)) := by
    intro j hj
    rw [Lib.cell_of_heap (heap_alloc_new w _)]
    have hl : j < tbl.length := hj
    rw [List.getElem?_toArray, List.getElem?_map, List.getElem?_eq_getElem hl, List.getD_eq_getElem?_getD, List.getElem?_eq_getElem hl]
    rfl
  have HT := Aside0.mk ht
  have HB : Aside0 (Below w.heap.size w (w.alloc (.cells (tbl.map Value.string).toArray 9))) := ⟨(Below.refl _ w).alloc (Nat.le_refl _) _⟩
  have hsz : (w.alloc (.cells (tbl.map Value.string).toArray 9)).heap.size = w.heap.size + 1 := by simp
  clear ht
  go_enter Tryz.func34, Tryz.ntmps34
  go_wp2_with (first | (go_at_call 54; refine (newRep w.heap.size 10 _ (by omega) HT.out).mono ?_; rintro e w1 ⟨b, ob, oc, rfl, h1, h2, h3, h4, h5, h6⟩; have HH := Aside0.mk h2; have HT1 := Aside0.mk h5; have HB1 := Aside0.mk (HB.out.trans (h6.mono (by rw [hsz]; omega))); clear h2 h5 h6) | (go_at_call 55; refine (firstReplace b ob oc w.heap.size _ s hs w _ (by omega) (Nat.le_refl _) HB1.out (by omega) HH.out HT1.out).mono ?_; rintro e w2 ⟨rfl, hb2⟩))
  go_ret
  exact ⟨rfl, hb2⟩
end Go.Proofs.YteknchhlineciaaGreatDoor.Rpl
