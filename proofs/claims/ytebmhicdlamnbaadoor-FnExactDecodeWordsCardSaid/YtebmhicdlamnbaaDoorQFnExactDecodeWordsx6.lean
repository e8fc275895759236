/- Printed by a program of this session's own (wip/myprint.py): the functions that FnExactDecodeWords reaches as plain Lean functions, and that Go's calls do what they say. Conditions: as each theorem states. -/
import Derived.Test.YtebmhicdlamnbaaDoorQFnExactDecodeWordsx0
namespace Go.Proofs.YtebmhicdlamnbaaDoor.QFnExactDecodeWords
open Go.RowKit Go.Proofs.YtebmhicdlamnbaaDoorW.PrintWords Go.Proofs.YtebmhicdlamnbaaDoorW.PrintLast Go.Proofs.YtebmhicdlamnbaaDoorW.PrintMore
attribute [local go_sem] max2_int min2_int max_two min_two max_three min_three max_four min_four   -- for this text's walks alone
set_option linter.unusedVariables false
set_option linter.unusedSimpArgs false

/-! ### utf8_Valid: function 95, a valid text in a slice of bytes: walked by hand -/
/-- A slice of bytes that a text's bytes stand in, from a place of a block on. -/
def utf8_Valid.Sl (w : World) (g o : Nat) (t : ByteArray) : Prop := ∀ j, j < t.size → w.cell? ⟨g, o + j, none⟩ = some (.int .u8 ((t.get! j).toNat : Int))
set_option maxHeartbeats 8000000 in
set_option maxRecDepth 100000 in
theorem utf8_Valid.word (g o : Nat) (t : ByteArray) (w : World) (hs : 8 ≤ t.size) (hc : utf8_Valid.Sl w g o t) :
    Calls Tryd.prog 115 #[.slice (some ⟨g, o, none⟩) t.size t.size] w fun e w' => e = .returned (.int .u64 (Lib.leNat [t.get! 0, t.get! 1, t.get! 2, t.get! 3, t.get! 4, t.get! 5, t.get! 6, t.get! 7])) ∧ ∃ q, w' = w.drewN q := by
  have k0 := hc 0 (by omega); have k1 := hc 1 (by omega); have k2 := hc 2 (by omega); have k3 := hc 3 (by omega)
  have k4 := hc 4 (by omega); have k5 := hc 5 (by omega); have k6 := hc 6 (by omega); have k7 := hc 7 (by omega)
  rw [Nat.add_zero] at k0
  have h0 := (t.get! 0).toNat_lt; have h1 := (t.get! 1).toNat_lt; have h2 := (t.get! 2).toNat_lt; have h3 := (t.get! 3).toNat_lt
  have h4 := (t.get! 4).toNat_lt; have h5 := (t.get! 5).toNat_lt; have h6 := (t.get! 6).toNat_lt; have h7 := (t.get! 7).toNat_lt
  generalize t.get! 0 = x0 at *; generalize t.get! 1 = x1 at *; generalize t.get! 2 = x2 at *; generalize t.get! 3 = x3 at *
  generalize t.get! 4 = x4 at *; generalize t.get! 5 = x5 at *; generalize t.get! 6 = x6 at *; generalize t.get! 7 = x7 at *
  generalize t.size = n at *
  have hv : ((Lib.leNat [x0, x1, x2, x3, x4, x5, x6, x7] : Nat) : Int) = (x0.toNat : Int) + (x1.toNat : Int) * 256 + (x2.toNat : Int) * 65536 + (x3.toNat : Int) * 16777216 + (x4.toNat : Int) * 4294967296 + (x5.toNat : Int) * 1099511627776 + (x6.toNat : Int) * 281474976710656 + (x7.toNat : Int) * 72057594037927936 := by
    simp only [Lib.leNat]
    push_cast
    omega
  have HV := Aside0.mk hv
  clear hv hc
  have q0 : (0 : Int) < (n : Int) := by omega
  have q1 : (1 : Int) < (n : Int) := by omega
  have q2 : (2 : Int) < (n : Int) := by omega
  have q3 : (3 : Int) < (n : Int) := by omega
  have q4 : (4 : Int) < (n : Int) := by omega
  have q5 : (5 : Int) < (n : Int) := by omega
  have q6 : (6 : Int) < (n : Int) := by omega
  have q7 : (7 : Int) < (n : Int) := by omega
  have p0 : 0 < n := by omega
  have p1 : 1 < n := by omega
  have p2 : 2 < n := by omega
  have p3 : 3 < n := by omega
  have p4 : 4 < n := by omega
  have p5 : 5 < n := by omega
  have p6 : 6 < n := by omega
  have p7 : 7 < n := by omega
  go_enter Tryd.func115, Tryd.ntmps115
  go_wp2
  go_quiet (fail)
  go_wp2
  go_ret
  refine ⟨?_, _, rfl⟩
  simp (disch := omega) only [u64_wrap_id, u64_or8, u64_or16, u64_or24, u64_or32, u64_or40, u64_or48, u64_or56]
  rw [HV.out]
  rfl
theorem utf8_Valid.Sl.now {w W : World} {g o : Nat} {t : ByteArray} (h : utf8_Valid.Sl w g o t) (hb : Below w.heap.size w W) : utf8_Valid.Sl W g o t := fun j hj => (hb.cell (World.block_lt_of_cell? w _ (h j hj))).trans (h j hj)
theorem utf8_Valid.Sl.cut {w : World} {g o o' k : Nat} {t : ByteArray} (h : utf8_Valid.Sl w g o t) (hk : k ≤ t.size) (ho : ∀ j, j < t.size - k → o' + j = o + (k + j)) : utf8_Valid.Sl w g o' (t.extract k t.size) := by
  intro j hj
  rw [Lib.ext_size] at hj
  rw [ho j hj, h (k + j) (by omega)]
  congr 3
  rw [← Lib.getD_get!', ← Lib.getD_get!', Lib.ext_list, List.getD_eq_getElem?_getD, List.getD_eq_getElem?_getD, List.getElem?_drop]
theorem utf8_Valid.cut (g o n k : Nat) (hk : k ≤ n) : ∃ o' : Nat, (∀ W : World, (Instr.slice 22 (.slice (some ⟨g, o, none⟩) n n) (some (.int .i64 (k : Int))) none none).run Tryd.prog W = .ok (.slice (some ⟨g, o', none⟩) (n - k) (n - k)) W) ∧ ∀ j, j < n - k → o' + j = o + (k + j) := by
  obtain ⟨i, hi, _, hsz, _⟩ := info_parts info5
  have hel : Tryd.prog.elem 22 = 5 := by simp [Program.elem, Tryd.underlying22]
  have hu : Tryd.prog.underlying 22 = some (.slice (Tryd.prog.elem 22)) := by rw [hel]; exact Tryd.underlying22
  have run : ∀ W : World, (Instr.slice 22 (.slice (some ⟨g, o, none⟩) n n) (some (.int .i64 (k : Int))) none none).run Tryd.prog W = .ok (.slice (if n = k then some ⟨g, o, none⟩ else some ((⟨g, o, none⟩ : Addr).add k)) (n - k) (n - k)) W := by
    intro W
    rw [run_slice_l W 22 (some ⟨g, o, none⟩) n n hu .i64 (k : Int) (Int.natCast_nonneg _) (by omega), hel]
    simp [sizeOf, typeInfo, hi, hsz, sliced, Result.andThen]
  by_cases e : n = k
  · exact ⟨o, fun W => by rw [run W, if_pos e], fun j hj => by omega⟩
  · refine ⟨o + k, fun W => ?_, fun j _ => by omega⟩
    rw [run W, if_neg e]
    have : (⟨g, o, none⟩ : Addr).add k = ⟨g, o + k, none⟩ := by unfold Addr.add; split <;> simp_all
    rw [this]
theorem utf8_Valid.of {w : World} {A : Option Addr} {xs : List Int} (h : Kd.C (Kd.int .u8) w A xs.length xs) (h0 : 0 < xs.length) (hx : ∀ x ∈ xs, 0 ≤ x ∧ x < 256) : ∃ g o, A = some ⟨g, o, none⟩ ∧ utf8_Valid.Sl w g o (strOfNums xs) := by
  obtain ⟨_, _, hr⟩ := Kd.reads_of_C (enc := Value.int .u8) (d := (0 : Int)) (h1 := fun _ => rfl) h
  obtain ⟨ad, e, hc⟩ := hr h0
  have h1 := hc 0 h0
  have hspot : ad.spot = none := by
    cases hs : ad.spot with
    | none => rfl
    | some q =>
      exfalso
      have : w.cell? (ad.add 0) = none := by
        unfold World.cell? Addr.add
        simp only [if_pos]
        split
        · rw [hs]; rfl
        · rfl
      rw [this] at h1
      cases h1
  obtain ⟨g, o, sp⟩ := ad
  obtain rfl : sp = none := hspot
  refine ⟨g, o, e, fun j hj => ?_⟩
  have hz : (strOfNums xs).size = xs.length := by rw [Lib.size_eq]; simp [strOfNums]
  rw [hz] at hj
  have ea : (⟨g, o, none⟩ : Addr).add j = ⟨g, o + j, none⟩ := by unfold Addr.add; split <;> simp_all
  have h2 := hc j hj
  rw [ea] at h2
  rw [h2]
  have hb := hx xs[j] (List.getElem_mem hj)
  congr 3
  rw [← Lib.getD_get!', List.getD_eq_getElem?_getD, List.getElem?_eq_getElem hj]
  simp [strOfNums, List.getD_eq_getElem?_getD, hj]
  omega
theorem utf8_Valid.drewNv {B : Nat} {a w : World} (h : Below B a w) : ∀ q, Below B a (w.drewN q)
  | 0 => h
  | q + 1 => (utf8_Valid.drewNv h q).drew
def utf8_Valid.f (l0 : List Int) : Option Bool := if (0 < l0.length ∧ l0.length ≤ 1000000) ∧ (∀ x ∈ l0, 0 ≤ x ∧ x < 256) then some (Lib.validD (strOfNums l0).data.toList) else none
set_option maxHeartbeats 32000000 in
set_option maxRecDepth 1000000 in
theorem utf8_Valid.calls (A0 : Option Addr) (c0 : Nat) (l0 : List Int) (r : Bool) (w : World) (hr0 : Kd.C (Kd.int .u8) w A0 l0.length l0) (hc0 : l0.length ≤ c0) (h : utf8_Valid.f l0 = some r) (hG : Glob w) :
    Calls Tryd.prog 95 #[.slice A0 l0.length c0] w fun e w' => e = .returned (.bool r) ∧ Below w.heap.size w w' := by
  unfold utf8_Valid.f at h
  by_cases hcond : (0 < l0.length ∧ l0.length ≤ 1000000) ∧ (∀ x ∈ l0, 0 ≤ x ∧ x < 256)
  case neg => rw [if_neg hcond] at h; cases h
  rw [if_pos hcond] at h
  obtain ⟨g, o0, rfl, hsl⟩ := utf8_Valid.of hr0 hcond.1.1 hcond.2
  have hz : (strOfNums l0).size = l0.length := by rw [Lib.size_eq]; simp [strOfNums]
  have hz1 := hcond.1.2
  have hT : Lib.Utf8Tabs 0 1 w := hG.tabs
  have HTB := Aside0.mk hT
  generalize strOfNums l0 = t0 at h hsl hz
  rw [← hz] at hc0 hz1 ⊢
  have HSL := Aside0.mk hsl
  have ANS0 := Option.some.inj h
  clear hr0 hcond h hz hG hT hsl
  have hcap : ∀ W : World, (Instr.slice 22 (.slice (some ⟨g, o0, none⟩) t0.size c0) none (some (.int .i64 (t0.size : Int))) (some (.int .i64 (t0.size : Int)))).run Tryd.prog W = .ok (.slice (some ⟨g, o0, none⟩) t0.size t0.size) W := by
    intro W
    obtain ⟨i, hi, _, hsz, _⟩ := info_parts info5
    have hel : Tryd.prog.elem 22 = 5 := by simp [Program.elem, Tryd.underlying22]
    have hu : Tryd.prog.underlying 22 = some (.slice (Tryd.prog.elem 22)) := by rw [hel]; exact Tryd.underlying22
    rw [run_slice_hm W 22 (some ⟨g, o0, none⟩) t0.size c0 hu .i64 .i64 (t0.size : Int) (t0.size : Int) (by omega) (by omega) (by omega), hel]
    simp [sizeOf, typeInfo, hi, hsz, sliced, Result.andThen]
    intro _
    unfold Addr.add
    split <;> simp_all
  have HA := Aside0.mk ANS0
  clear ANS0
  have HB0 := Aside0.mk (Below.refl w.heap.size w)
  go_enter Tryd.func95, Tryd.ntmps95
  go_wp2
  go_loopg [0] (t0.size + 1) (fun gk s0 wx => ∃ (t : ByteArray) (o : Nat), s0 = .slice (some ⟨g, o, none⟩) t.size t.size ∧ t.size < gk ∧ t.size ≤ 1000000 ∧ Aside0 (Below w.heap.size w wx) ∧ Aside0 (utf8_Valid.Sl w g o t) ∧ Aside0 (Lib.validD t.data.toList = r))
  case atStart => exact ⟨t0, o0, rfl, by omega, hz1, HB0, HSL, HA⟩
  case round =>
    obtain ⟨t, o, rfl, hg, hts, HB, HS, HV⟩ := hrel
    clear HA HSL HB0
    by_cases h0 : 0 < t.size
    · obtain ⟨g', rfl⟩ : ∃ g', gk = g' + 1 := ⟨gk - 1, by omega⟩
      have h0z : (0 : Int) < (t.size : Int) := by omega
      have hS := HS.out.now HB.out
      have hx0c := hS 0 h0
      rw [Nat.add_zero] at hx0c
      obtain ⟨x0, hx0⟩ : ∃ x0, t.get! 0 = x0 := ⟨_, rfl⟩
      rw [hx0] at hx0c
      have hx0lt : x0.toNat < 256 := x0.toNat_lt
      by_cases hasc : x0.toNat < 128
      · have hascz : (x0.toNat : Int) < 128 := by omega
        have a1 : Lib.Asc t 1 := Lib.asc_one t h0 (by rw [hx0]; exact hasc)
        clear hS
        by_cases c8 : 8 < t.size - 1
        · have y1 := HS
          have HS1 := Aside0.mk (HS.out.cut (k := 1) (o' := o + 1) (by omega) (fun j _ => by omega))
          have HV1 : Aside0 (Lib.validD (t.extract 1 t.size).data.toList = r) := ⟨by rw [Lib.valid_skip t 1 a1]; exact HV.out⟩
          have zt1 : t.size - 1 = (t.extract 1 t.size).size := (Lib.ext_size t 1).symm
          obtain ⟨t1, et1⟩ : ∃ z, t.extract 1 t.size = z := ⟨_, rfl⟩
          rw [et1] at HS1 HV1 zt1
          obtain ⟨o1, xo1⟩ : ∃ z, o + 1 = z := ⟨_, rfl⟩
          rw [xo1] at HS1
          have nt1 : ¬ t.size = 1 := by omega
          clear y1 HS HV et1 a1 hx0
          have c8z : (8 : Int) < (t1.size : Int) := by omega
          obtain ⟨A1, hA1⟩ : ∃ z, Lib.leNat [t1.get! 0, t1.get! 1, t1.get! 2, t1.get! 3, t1.get! 4, t1.get! 5, t1.get! 6, t1.get! 7] = z := ⟨_, rfl⟩
          have CW1 : Aside0 (Calls Tryd.prog 115 #[.slice (some ⟨g, o1, none⟩) t1.size t1.size] wr fun e w' => e = .returned (.int .u64 A1) ∧ ∃ q, w' = wr.drewN q) := ⟨by rw [← hA1]; exact utf8_Valid.word g o1 t1 _ (by omega) (HS1.out.now HB.out)⟩
          have lA1 : A1 < 18446744073709551616 := hA1 ▸ Lib.word_lt t1
          have kA1 := Lib.word_asc t1 (by omega)
          rw [hA1] at kA1
          have hand1 : bits .and .u64 (A1 : Int) 9259542123273814144 = ((A1 &&& 9259542123273814144 : Nat) : Int) := u64_and_nat A1 9259542123273814144 lA1 (by omega)
          generalize A1 &&& 9259542123273814144 = Z1 at hand1 kA1
          clear hA1 lA1
          by_cases hz1 : Z1 = 0
          · as_aux_lemma =>
            have hz1b : ((Z1 : Int) == 0) = true := by simp [hz1]
            have a8 : Lib.Asc t1 8 := kA1.1 hz1
            have HS2 := Aside0.mk (HS1.out.cut (k := 8) (o' := o1 + 8) (by omega) (fun j _ => by omega))
            have HV2 : Aside0 (Lib.validD (t1.extract 8 t1.size).data.toList = r) := ⟨by rw [Lib.valid_skip t1 8 a8]; exact HV1.out⟩
            have zt2 : t1.size - 8 = (t1.extract 8 t1.size).size := (Lib.ext_size t1 8).symm
            obtain ⟨t2, et2⟩ : ∃ z, t1.extract 8 t1.size = z := ⟨_, rfl⟩
            rw [et2] at HS2 HV2 zt2
            obtain ⟨o2, xo2⟩ : ∃ z, o1 + 8 = z := ⟨_, rfl⟩
            rw [xo2] at HS2
            have nt2 : ¬ t1.size = 8 := by omega
            clear kA1 hz1 a8 et2
            go_wp2_with (go_at_call 115; with_reducible refine CW1.out.mono ?_; rintro e W1 ⟨rfl, q1, rfl⟩)
            have HB1 := Aside0.mk (utf8_Valid.drewNv HB.out q1)
            generalize wr.drewN q1 = wq at HB1 ⊢
            clear CW1 HB hand1 hz1b HS1 HV1 c8z
            by_cases c16 : 16 < t2.size
            · have c16z : (16 : Int) < (t2.size : Int) := by omega
              have c16b : decide ((16 : Int) < (t2.size : Int)) = true := decide_eq_true c16z
              have HS3 := Aside0.mk (HS2.out.cut (k := 8) (o' := o2 + 8) (by omega) (fun j _ => by omega))
              have zt2b : t2.size - 8 = (t2.extract 8 t2.size).size := (Lib.ext_size t2 8).symm
              obtain ⟨t2b, et2b⟩ : ∃ z, t2.extract 8 t2.size = z := ⟨_, rfl⟩
              rw [et2b] at HS3 zt2b
              obtain ⟨o3, xo3⟩ : ∃ z, o2 + 8 = z := ⟨_, rfl⟩
              rw [xo3] at HS3
              have nt2b : ¬ t2.size = 8 := by omega
              obtain ⟨A2, hA2⟩ : ∃ z, Lib.leNat [t2.get! 0, t2.get! 1, t2.get! 2, t2.get! 3, t2.get! 4, t2.get! 5, t2.get! 6, t2.get! 7] = z := ⟨_, rfl⟩
              have CW2 : Aside0 (∀ q, Calls Tryd.prog 115 #[.slice (some ⟨g, o2, none⟩) t2.size t2.size] (wq.drewN q) fun e w' => e = .returned (.int .u64 A2) ∧ ∃ m, w' = (wq.drewN q).drewN m) := ⟨fun q => by rw [← hA2]; exact utf8_Valid.word g o2 t2 _ (by omega) (HS2.out.now (utf8_Valid.drewNv HB1.out q))⟩
              have lA2 : A2 < 18446744073709551616 := hA2 ▸ Lib.word_lt t2
              have kA2 := Lib.word_asc t2 (by omega)
              rw [hA2] at kA2
              obtain ⟨A3, hA3⟩ : ∃ z, Lib.leNat [t2b.get! 0, t2b.get! 1, t2b.get! 2, t2b.get! 3, t2b.get! 4, t2b.get! 5, t2b.get! 6, t2b.get! 7] = z := ⟨_, rfl⟩
              have CW3 : Aside0 (∀ q, Calls Tryd.prog 115 #[.slice (some ⟨g, o3, none⟩) t2b.size t2b.size] (wq.drewN q) fun e w' => e = .returned (.int .u64 A3) ∧ ∃ m, w' = (wq.drewN q).drewN m) := ⟨fun q => by rw [← hA3]; exact utf8_Valid.word g o3 t2b _ (by omega) (HS3.out.now (utf8_Valid.drewNv HB1.out q))⟩
              have lA3 : A3 < 18446744073709551616 := hA3 ▸ Lib.word_lt t2b
              have kA3 := Lib.word_asc t2b (by omega)
              rw [hA3] at kA3
              have hor2 : bits .or .u64 (A2 : Int) (A3 : Int) = ((A2 ||| A3 : Nat) : Int) := u64_or_nat A2 A3 lA2 lA3
              have lor2 : A2 ||| A3 < 18446744073709551616 := Nat.or_lt_two_pow (n := 64) lA2 lA3
              have hand2 : bits .and .u64 ((A2 ||| A3 : Nat) : Int) 9259542123273814144 = (((A2 ||| A3) &&& 9259542123273814144 : Nat) : Int) := u64_and_nat _ 9259542123273814144 lor2 (by omega)
              have k2 : (A2 ||| A3) &&& 9259542123273814144 = 0 → Lib.Asc t2 16 := fun h0' => by
                obtain ⟨e1, e2⟩ := (Lib.or_mask A2 A3 _).1 h0'
                exact Lib.asc_add t2 8 8 (kA2.1 e1) (by rw [et2b]; exact kA3.1 e2)
              generalize A2 ||| A3 = O2 at hor2 hand2 k2 lor2
              generalize O2 &&& 9259542123273814144 = Z2 at hand2 k2
              clear kA2 kA3 lor2 lA2 lA3 hA2 hA3 et2b
              by_cases hz2 : Z2 = 0
              · as_aux_lemma =>
                have hz2b : ((Z2 : Int) == 0) = true := by simp [hz2]
                have a16 := k2 hz2
                have HS4 := Aside0.mk (HS2.out.cut (k := 16) (o' := o2 + 16) (by omega) (fun j _ => by omega))
                have HV4 : Aside0 (Lib.validD (t2.extract 16 t2.size).data.toList = r) := ⟨by rw [Lib.valid_skip t2 16 a16]; exact HV2.out⟩
                have zt3 : t2.size - 16 = (t2.extract 16 t2.size).size := (Lib.ext_size t2 16).symm
                obtain ⟨t3, et3⟩ : ∃ z, t2.extract 16 t2.size = z := ⟨_, rfl⟩
                rw [et3] at HS4 HV4 zt3
                obtain ⟨o4, xo4⟩ : ∃ z, o2 + 16 = z := ⟨_, rfl⟩
                rw [xo4] at HS4
                have nt3 : ¬ t2.size = 16 := by omega
                clear k2 hz2 a16 et3
                go_quiet ((first | (go_at_call 115; with_reducible refine Calls.quiet_of (CW2.out _)) | (go_at_call 115; with_reducible refine Calls.quiet_of (CW3.out _))))
                have HB2 := Aside0.mk (utf8_Valid.drewNv HB1.out nq)
                generalize wq.drewN nq = wq2 at HB2 ⊢
                clear CW2 CW3 HB1 HS2 HV2 HS3 hor2 hand2 hz2b
                go_wp2
                go_loopg [0] (t3.size + 1) (fun gk s0 wx => ∃ (u : ByteArray) (p : Nat), s0 = .slice (some ⟨g, p, none⟩) u.size u.size ∧ u.size < gk ∧ u.size ≤ t3.size ∧ Aside0 (Below w.heap.size w wx) ∧ Aside0 (utf8_Valid.Sl w g p u) ∧ Aside0 (Lib.validD u.data.toList = r))
                case atStart => exact ⟨t3, o4, rfl, by omega, Nat.le_refl _, HB2, HS4, HV4⟩
                case round =>
                  obtain ⟨u, p, rfl, hgu, hut, HBu, HSu, HVu⟩ := hrel
                  clear HB2 HS4 HV4
                  by_cases c32 : 32 < u.size
                  · obtain ⟨g3, rfl⟩ : ∃ g3, gk = g3 + 1 := ⟨gk - 1, by omega⟩
                    have c32z : (32 : Int) < (u.size : Int) := by omega
                    have c32b : decide ((32 : Int) < (u.size : Int)) = true := decide_eq_true c32z
                    have HSb := Aside0.mk (HSu.out.cut (k := 8) (o' := p + 8) (by omega) (fun j _ => by omega))
                    have zub : u.size - 8 = (u.extract 8 u.size).size := (Lib.ext_size u 8).symm
                    obtain ⟨ub, eub⟩ : ∃ z, u.extract 8 u.size = z := ⟨_, rfl⟩
                    rw [eub] at HSb zub
                    obtain ⟨pb, xpb⟩ : ∃ z, p + 8 = z := ⟨_, rfl⟩
                    rw [xpb] at HSb
                    have nub : ¬ u.size = 8 := by omega
                    have HSc := Aside0.mk (HSu.out.cut (k := 16) (o' := p + 16) (by omega) (fun j _ => by omega))
                    have zuc : u.size - 16 = (u.extract 16 u.size).size := (Lib.ext_size u 16).symm
                    obtain ⟨uc, euc⟩ : ∃ z, u.extract 16 u.size = z := ⟨_, rfl⟩
                    rw [euc] at HSc zuc
                    obtain ⟨pc, xpc⟩ : ∃ z, p + 16 = z := ⟨_, rfl⟩
                    rw [xpc] at HSc
                    have nuc : ¬ u.size = 16 := by omega
                    have HSd := Aside0.mk (HSu.out.cut (k := 24) (o' := p + 24) (by omega) (fun j _ => by omega))
                    have zud : u.size - 24 = (u.extract 24 u.size).size := (Lib.ext_size u 24).symm
                    obtain ⟨ud, eud⟩ : ∃ z, u.extract 24 u.size = z := ⟨_, rfl⟩
                    rw [eud] at HSd zud
                    obtain ⟨pd, xpd⟩ : ∃ z, p + 24 = z := ⟨_, rfl⟩
                    rw [xpd] at HSd
                    have nud : ¬ u.size = 24 := by omega
                    obtain ⟨B0, hB0⟩ : ∃ z, Lib.leNat [u.get! 0, u.get! 1, u.get! 2, u.get! 3, u.get! 4, u.get! 5, u.get! 6, u.get! 7] = z := ⟨_, rfl⟩
                    have CB0 : Aside0 (∀ q, Calls Tryd.prog 115 #[.slice (some ⟨g, p, none⟩) u.size u.size] (wr.drewN q) fun e w' => e = .returned (.int .u64 B0) ∧ ∃ m, w' = (wr.drewN q).drewN m) := ⟨fun q => by rw [← hB0]; exact utf8_Valid.word g p u _ (by omega) (HSu.out.now (utf8_Valid.drewNv HBu.out q))⟩
                    have lB0 : B0 < 18446744073709551616 := hB0 ▸ Lib.word_lt u
                    have kB0 := Lib.word_asc u (by omega)
                    rw [hB0] at kB0
                    obtain ⟨B1, hB1⟩ : ∃ z, Lib.leNat [ub.get! 0, ub.get! 1, ub.get! 2, ub.get! 3, ub.get! 4, ub.get! 5, ub.get! 6, ub.get! 7] = z := ⟨_, rfl⟩
                    have CB1 : Aside0 (∀ q, Calls Tryd.prog 115 #[.slice (some ⟨g, pb, none⟩) ub.size ub.size] (wr.drewN q) fun e w' => e = .returned (.int .u64 B1) ∧ ∃ m, w' = (wr.drewN q).drewN m) := ⟨fun q => by rw [← hB1]; exact utf8_Valid.word g pb ub _ (by omega) (HSb.out.now (utf8_Valid.drewNv HBu.out q))⟩
                    have lB1 : B1 < 18446744073709551616 := hB1 ▸ Lib.word_lt ub
                    have kB1 := Lib.word_asc ub (by omega)
                    rw [hB1] at kB1
                    obtain ⟨B2, hB2⟩ : ∃ z, Lib.leNat [uc.get! 0, uc.get! 1, uc.get! 2, uc.get! 3, uc.get! 4, uc.get! 5, uc.get! 6, uc.get! 7] = z := ⟨_, rfl⟩
                    have CB2 : Aside0 (∀ q, Calls Tryd.prog 115 #[.slice (some ⟨g, pc, none⟩) uc.size uc.size] (wr.drewN q) fun e w' => e = .returned (.int .u64 B2) ∧ ∃ m, w' = (wr.drewN q).drewN m) := ⟨fun q => by rw [← hB2]; exact utf8_Valid.word g pc uc _ (by omega) (HSc.out.now (utf8_Valid.drewNv HBu.out q))⟩
                    have lB2 : B2 < 18446744073709551616 := hB2 ▸ Lib.word_lt uc
                    have kB2 := Lib.word_asc uc (by omega)
                    rw [hB2] at kB2
                    obtain ⟨B3, hB3⟩ : ∃ z, Lib.leNat [ud.get! 0, ud.get! 1, ud.get! 2, ud.get! 3, ud.get! 4, ud.get! 5, ud.get! 6, ud.get! 7] = z := ⟨_, rfl⟩
                    have CB3 : Aside0 (∀ q, Calls Tryd.prog 115 #[.slice (some ⟨g, pd, none⟩) ud.size ud.size] (wr.drewN q) fun e w' => e = .returned (.int .u64 B3) ∧ ∃ m, w' = (wr.drewN q).drewN m) := ⟨fun q => by rw [← hB3]; exact utf8_Valid.word g pd ud _ (by omega) (HSd.out.now (utf8_Valid.drewNv HBu.out q))⟩
                    have lB3 : B3 < 18446744073709551616 := hB3 ▸ Lib.word_lt ud
                    have kB3 := Lib.word_asc ud (by omega)
                    rw [hB3] at kB3
                    have hq1 : bits .or .u64 (B0 : Int) (B1 : Int) = ((B0 ||| B1 : Nat) : Int) := u64_or_nat B0 B1 lB0 lB1
                    have hq2 : bits .or .u64 (B2 : Int) (B3 : Int) = ((B2 ||| B3 : Nat) : Int) := u64_or_nat B2 B3 lB2 lB3
                    have lo1 : B0 ||| B1 < 18446744073709551616 := Nat.or_lt_two_pow (n := 64) lB0 lB1
                    have lo2 : B2 ||| B3 < 18446744073709551616 := Nat.or_lt_two_pow (n := 64) lB2 lB3
                    have hq3 : bits .or .u64 ((B0 ||| B1 : Nat) : Int) ((B2 ||| B3 : Nat) : Int) = (((B0 ||| B1) ||| (B2 ||| B3) : Nat) : Int) := u64_or_nat _ _ lo1 lo2
                    have lo3 : (B0 ||| B1) ||| (B2 ||| B3) < 18446744073709551616 := Nat.or_lt_two_pow (n := 64) lo1 lo2
                    have hand3 : bits .and .u64 (((B0 ||| B1) ||| (B2 ||| B3) : Nat) : Int) 9259542123273814144 = ((((B0 ||| B1) ||| (B2 ||| B3)) &&& 9259542123273814144 : Nat) : Int) := u64_and_nat _ 9259542123273814144 lo3 (by omega)
                    have k3 : ((B0 ||| B1) ||| (B2 ||| B3)) &&& 9259542123273814144 = 0 → Lib.Asc u 32 := fun h0' => by
                      obtain ⟨e01, e23⟩ := (Lib.or_mask _ _ _).1 h0'
                      obtain ⟨e0, e1⟩ := (Lib.or_mask _ _ _).1 e01
                      obtain ⟨e2, e3⟩ := (Lib.or_mask _ _ _).1 e23
                      have s16 : Lib.Asc u 16 := Lib.asc_add u 8 8 (kB0.1 e0) (by rw [eub]; exact kB1.1 e1)
                      have s24 : Lib.Asc u 24 := Lib.asc_add u 16 8 s16 (by rw [euc]; exact kB2.1 e2)
                      exact Lib.asc_add u 24 8 s24 (by rw [eud]; exact kB3.1 e3)
                    generalize B0 ||| B1 = P1 at hq1 hq3 hand3 k3 lo1 lo3
                    generalize B2 ||| B3 = P2 at hq2 hq3 hand3 k3 lo2 lo3
                    generalize P1 ||| P2 = P3 at hq3 hand3 k3 lo3
                    generalize P3 &&& 9259542123273814144 = Z3 at hand3 k3
                    clear kB0 kB1 kB2 kB3 lo1 lo2 lo3 lB0 lB1 lB2 lB3 hB0 hB1 hB2 hB3 eub euc eud
                    by_cases hz3 : Z3 = 0
                    · as_aux_lemma =>
                      have hz3b : ((Z3 : Int) == 0) = true := by simp [hz3]
                      have a32 := k3 hz3
                      have HS5 := Aside0.mk (HSu.out.cut (k := 32) (o' := p + 32) (by omega) (fun j _ => by omega))
                      have HV5 : Aside0 (Lib.validD (u.extract 32 u.size).data.toList = r) := ⟨by rw [Lib.valid_skip u 32 a32]; exact HVu.out⟩
                      have zu2 : u.size - 32 = (u.extract 32 u.size).size := (Lib.ext_size u 32).symm
                      obtain ⟨u2, eu2⟩ : ∃ z, u.extract 32 u.size = z := ⟨_, rfl⟩
                      rw [eu2] at HS5 HV5 zu2
                      obtain ⟨p2, xp2⟩ : ∃ z, p + 32 = z := ⟨_, rfl⟩
                      rw [xp2] at HS5
                      have nu2 : ¬ u.size = 32 := by omega
                      clear k3 hz3 a32 eu2
                      go_wp2_with fail
                      go_quiet ((first | (go_at_call 115; with_reducible refine Calls.quiet_of (CB0.out _)) | (go_at_call 115; with_reducible refine Calls.quiet_of (CB1.out _)) | (go_at_call 115; with_reducible refine Calls.quiet_of (CB2.out _)) | (go_at_call 115; with_reducible refine Calls.quiet_of (CB3.out _))))
                      go_wp2
                      go_roundg g3
                      case measure => omega
                      case rel => exact ⟨u2, p2, rfl, by omega, by omega, ⟨utf8_Valid.drewNv HBu.out nq⟩, HS5, HV5⟩
                    · as_aux_lemma =>
                      have hz3b : ((Z3 : Int) == 0) = false := by simp; omega
                      clear k3 hz3
                      go_wp2_with fail
                      go_quiet ((first | (go_at_call 115; with_reducible refine Calls.quiet_of (CB0.out _)) | (go_at_call 115; with_reducible refine Calls.quiet_of (CB1.out _)) | (go_at_call 115; with_reducible refine Calls.quiet_of (CB2.out _)) | (go_at_call 115; with_reducible refine Calls.quiet_of (CB3.out _))))
                      go_wp2
                      go_roundg g'
                      case measure => omega
                      case rel => exact ⟨u, p, rfl, by omega, by omega, ⟨utf8_Valid.drewNv HBu.out nq⟩, HSu, HVu⟩
                  · have c32z : ¬ ((32 : Int) < (u.size : Int)) := by omega
                    have c32b : decide ((32 : Int) < (u.size : Int)) = false := decide_eq_false c32z
                    go_wp2_with fail
                    go_quiet (fail)
                    go_wp2
                    go_roundg g'
                    case measure => omega
                    case rel => exact ⟨u, p, rfl, by omega, by omega, ⟨utf8_Valid.drewNv HBu.out nq⟩, HSu, HVu⟩
              · as_aux_lemma =>
                have hz2b : ((Z2 : Int) == 0) = false := by simp; omega
                clear k2 hz2
                go_quiet ((first | (go_at_call 115; with_reducible refine Calls.quiet_of (CW2.out _)) | (go_at_call 115; with_reducible refine Calls.quiet_of (CW3.out _))))
                go_wp2
                go_roundg g'
                case measure => omega
                case rel => exact ⟨t2, o2, rfl, by omega, by omega, ⟨utf8_Valid.drewNv HB1.out nq⟩, HS2, HV2⟩
            · have c16z : ¬ ((16 : Int) < (t2.size : Int)) := by omega
              have c16b : decide ((16 : Int) < (t2.size : Int)) = false := decide_eq_false c16z
              go_quiet (fail)
              go_wp2
              go_roundg g'
              case measure => omega
              case rel => exact ⟨t2, o2, rfl, by omega, by omega, ⟨utf8_Valid.drewNv HB1.out nq⟩, HS2, HV2⟩
          · have hz1b : ((Z1 : Int) == 0) = false := by simp; omega
            clear kA1 hz1
            go_wp2_with (go_at_call 115; with_reducible refine CW1.out.mono ?_; rintro e W1 ⟨rfl, q1, rfl⟩)
            go_roundg g'
            case measure => omega
            case rel => exact ⟨t1, o1, rfl, by omega, by omega, ⟨utf8_Valid.drewNv HB.out q1⟩, HS1, HV1⟩
        · by_cases n1 : t.size = 1
          · have HV1 : Aside0 (Lib.validD ((⟨#[]⟩ : ByteArray)).data.toList = r) := ⟨by
              rw [← HV.out, ← Lib.valid_skip t 1 a1, Lib.ext_list, List.drop_eq_nil_of_le (by rw [← Lib.size_eq]; omega)]⟩
            have HS1 : Aside0 (utf8_Valid.Sl w g o (⟨#[]⟩ : ByteArray)) := ⟨fun j hj => absurd hj (Nat.not_lt_zero _)⟩
            clear a1 HS HV hx0 c8
            go_wp2
            go_roundg g'
            case measure => omega
            case rel => exact ⟨⟨#[]⟩, o, rfl, by show 0 < g'; omega, by show 0 ≤ 1000000; omega, HB, HS1, HV1⟩
          · have y1 := HS
            have HS1 := Aside0.mk (HS.out.cut (k := 1) (o' := o + 1) (by omega) (fun j _ => by omega))
            have HV1 : Aside0 (Lib.validD (t.extract 1 t.size).data.toList = r) := ⟨by rw [Lib.valid_skip t 1 a1]; exact HV.out⟩
            have zt1 : t.size - 1 = (t.extract 1 t.size).size := (Lib.ext_size t 1).symm
            obtain ⟨t1, et1⟩ : ∃ z, t.extract 1 t.size = z := ⟨_, rfl⟩
            rw [et1] at HS1 HV1 zt1
            obtain ⟨o1, xo1⟩ : ∃ z, o + 1 = z := ⟨_, rfl⟩
            rw [xo1] at HS1
            have nt1 : ¬ t.size = 1 := by omega
            have c8z : ¬ ((8 : Int) < (t1.size : Int)) := by omega
            clear y1 HS HV et1 a1 hx0 c8
            go_wp2
            go_roundg g'
            case measure => omega
            case rel => exact ⟨t1, o1, rfl, by omega, by omega, HB, HS1, HV1⟩
      · have hge : 128 ≤ x0.toNat := by omega
        have hascz : ¬ ((x0.toNat : Int) < 128) := by omega
        have hTr := Utf8Tabs_below HTB.out HB.out
        have hgl : g < wr.heap.size := World.block_lt_of_cell? wr _ hx0c
        have hgn : ¬ g = wr.heap.size := by omega
        have hgm : ¬ wr.heap.size = g := by omega
        have hx1c : 1 < t.size → wr.cell? ⟨g, o + 1, none⟩ = some (.int .u8 ((t.get! 1).toNat : Int)) := fun h => hS 1 h
        have hx2c : 2 < t.size → wr.cell? ⟨g, o + 2, none⟩ = some (.int .u8 ((t.get! 2).toNat : Int)) := fun h => hS 2 h
        have hx3c : 3 < t.size → wr.cell? ⟨g, o + 3, none⟩ = some (.int .u8 ((t.get! 3).toNat : Int)) := fun h => hS 3 h
        have hne : t.data.toList ≠ [] := fun h => by rw [Lib.size_eq, h] at h0; simp at h0
        have hlead := Lib.validD_lead t.data.toList hne (by rw [Lib.getD_get!', hx0]; exact hge)
        rw [Lib.getD_get!', Lib.getD_get!', Lib.getD_get!', Lib.getD_get!', hx0, ← Lib.size_eq, HV.out] at hlead
        obtain ⟨x1, hx1⟩ : ∃ x1, t.get! 1 = x1 := ⟨_, rfl⟩
        obtain ⟨x2, hx2⟩ : ∃ x2, t.get! 2 = x2 := ⟨_, rfl⟩
        obtain ⟨x3, hx3⟩ : ∃ x3, t.get! 3 = x3 := ⟨_, rfl⟩
        rw [hx1] at hx1c
        rw [hx2] at hx2c
        rw [hx3] at hx3c
        rw [hx1, hx2, hx3] at hlead
        have HX1 := Aside0.mk hx1c
        have HX2 := Aside0.mk hx2c
        have HX3 := Aside0.mk hx3c
        have l1 := x1.toNat_lt; have l2 := x2.toNat_lt; have l3 := x3.toNat_lt
        have hc0 := hTr.1 x0.toNat hx0lt
        have hXlt : Lib.firstT x0.toNat < 256 := by rcases Lib.firstT_cases x0.toNat with h | h | h | h | h | h | h | h | h <;> omega
        obtain ⟨X, hX⟩ : ∃ X, Lib.firstT x0.toNat = X := ⟨_, rfl⟩
        rw [hX] at hc0 hXlt hlead
        have h7 := and7 ⟨X, hXlt⟩
        simp only at h7
        have ha0 : wr.cell? ⟨1, X / 16 * 2, none⟩ = some (.int .u8 (Lib.accLo (X / 16))) := by rw [Nat.mul_comm]; exact (hTr.2 (X / 16) (by omega)).1
        have ha1 : wr.cell? ⟨1, X / 16 * 2 + 1, none⟩ = some (.int .u8 (Lib.accHi (X / 16))) := by rw [Nat.mul_comm]; exact (hTr.2 (X / 16) (by omega)).2
        obtain ⟨LO, hLO⟩ : ∃ LO, Lib.accLo (X / 16) = LO := ⟨_, rfl⟩
        obtain ⟨HI, hHI⟩ : ∃ HI, Lib.accHi (X / 16) = HI := ⟨_, rfl⟩
        rw [hLO] at ha0 hlead
        rw [hHI] at ha1 hlead
        obtain ⟨SZ, hSZ⟩ : ∃ SZ, X % 8 = SZ := ⟨_, rfl⟩
        rw [hSZ] at hlead
        clear hTr hX hLO hHI hne hx1 hx2 hx3 hx0 hx1c hx2c hx3c hS HV
        by_cases s2 : SZ = 2
        · as_aux_lemma =>
          subst s2
          have hSZz : (X : Int) % 8 = 2 := by omega
          simp only [Lib.checkN, Nat.reduceEqDiff, if_true, if_false] at hlead
          have HLD0 := Aside0.mk hlead
          clear hlead
          obtain ⟨qb, HQ⟩ : ∃ qb : Bool, Aside0 (decide (t.size < 2 ∨ x1.toNat < LO ∨ HI < x1.toNat) = qb) := ⟨_, ⟨rfl⟩⟩
          go_upto_region 18 with fail
          go_cut [103] from 85 to 103 (fun c wx => c = .bool qb ∧ Aside0 (Below w.heap.size w wx))
          case first =>
            by_cases q0 : t.size < 2
            · have q0z : (t.size : Int) < 2 := by omega
              go_quiet (fail)
              go_wp2
              go_meet
              exact ⟨congrArg Value.bool ((decide_eq_true (p := t.size < 2 ∨ x1.toNat < LO ∨ HI < x1.toNat) (by omega)).symm.trans HQ.out), ⟨utf8_Valid.drewNv (HB.out.alloc HB.out.size _) _⟩⟩
            · have q0z : ¬ ((t.size : Int) < 2) := by omega
              have hz1 : (1 : Int) < (t.size : Int) := by omega
              have hp1 : 1 < t.size := by omega
              have hy1 := HX1.out hp1
              by_cases q1 : x1.toNat < LO
              · have q1z : (x1.toNat : Int) < (LO : Int) := by omega
                go_quiet (fail)
                go_wp2
                go_meet
                exact ⟨congrArg Value.bool ((decide_eq_true (p := t.size < 2 ∨ x1.toNat < LO ∨ HI < x1.toNat) (by omega)).symm.trans HQ.out), ⟨utf8_Valid.drewNv (HB.out.alloc HB.out.size _) _⟩⟩
              · have q1z : ¬ ((x1.toNat : Int) < (LO : Int)) := by omega
                by_cases q2 : HI < x1.toNat
                · have q2z : (HI : Int) < (x1.toNat : Int) := by omega
                  go_quiet (fail)
                  go_wp2
                  go_meet
                  exact ⟨congrArg Value.bool ((decide_eq_true (p := t.size < 2 ∨ x1.toNat < LO ∨ HI < x1.toNat) (by omega)).symm.trans HQ.out), ⟨utf8_Valid.drewNv (HB.out.alloc HB.out.size _) _⟩⟩
                · have q2z : ¬ ((HI : Int) < (x1.toNat : Int)) := by omega
                  go_quiet (fail)
                  go_wp2
                  go_meet
                  exact ⟨congrArg Value.bool ((decide_eq_false (p := t.size < 2 ∨ x1.toNat < LO ∨ HI < x1.toNat) (by omega)).symm.trans HQ.out), ⟨utf8_Valid.drewNv (HB.out.alloc HB.out.size _) _⟩⟩
          case rest =>
            obtain ⟨rfl, hbc⟩ := hcut
            have hlead := HLD0.out
            clear HLD0
            cases qb with
            | true =>
              have hb : t.size < 2 ∨ x1.toNat < LO ∨ HI < x1.toNat := of_decide_eq_true HQ.out
              clear HQ
              rw [if_pos hb] at hlead
              replace hlead : r = false := hlead
              subst hlead
              clear hb
              go_wp2
              all_goals (go_ret; exact ⟨rfl, hbc.out⟩)
            | false =>
              have hb : ¬ (t.size < 2 ∨ x1.toNat < LO ∨ HI < x1.toNat) := of_decide_eq_false HQ.out
              clear HQ
              rw [if_neg hb] at hlead
              replace hlead : r = Lib.validD (t.data.toList.drop 2) := hlead
              have HLD := Aside0.mk hlead
              have hsz : 2 ≤ t.size := by omega
              clear hlead hb
              by_cases n1 : t.size = 2
              · have HV1 : Aside0 (Lib.validD ((⟨#[]⟩ : ByteArray)).data.toList = r) := ⟨by
                  rw [HLD.out, List.drop_eq_nil_of_le (by rw [← Lib.size_eq]; omega)]⟩
                have HS1 : Aside0 (utf8_Valid.Sl w g o (⟨#[]⟩ : ByteArray)) := ⟨fun j hj => absurd hj (Nat.not_lt_zero _)⟩
                go_wp2
                go_roundg g'
                case measure => omega
                case rel => exact ⟨⟨#[]⟩, o, rfl, by show 0 < g'; omega, by show 0 ≤ 1000000; omega, hbc, HS1, HV1⟩
              · have y1 := HS
                have HS1 := Aside0.mk (HS.out.cut (k := 2) (o' := o + 2) (by omega) (fun j _ => by omega))
                have HV1 : Aside0 (Lib.validD (t.extract 2 t.size).data.toList = r) := ⟨by rw [Lib.ext_list]; exact HLD.out.symm⟩
                have zt1 : t.size - 2 = (t.extract 2 t.size).size := (Lib.ext_size t 2).symm
                obtain ⟨t1, et1⟩ : ∃ z, t.extract 2 t.size = z := ⟨_, rfl⟩
                rw [et1] at HS1 HV1 zt1
                obtain ⟨o1, xo1⟩ : ∃ z, o + 2 = z := ⟨_, rfl⟩
                rw [xo1] at HS1
                have nt1 : ¬ t.size = 2 := by omega
                clear y1 et1
                go_wp2
                go_roundg g'
                case measure => omega
                case rel => exact ⟨t1, o1, rfl, by omega, by omega, hbc, HS1, HV1⟩
        by_cases s3 : SZ = 3
        · as_aux_lemma =>
          subst s3
          have hSZz : (X : Int) % 8 = 3 := by omega
          simp only [Lib.checkN, Nat.reduceEqDiff, if_true, if_false] at hlead
          have HLD0 := Aside0.mk hlead
          clear hlead
          obtain ⟨qb, HQ⟩ : ∃ qb : Bool, Aside0 (decide (t.size < 3 ∨ x1.toNat < LO ∨ HI < x1.toNat ∨ x2.toNat < 128 ∨ 191 < x2.toNat) = qb) := ⟨_, ⟨rfl⟩⟩
          go_upto_region 22 with fail
          go_cut [138] from 108 to 138 (fun c wx => c = .bool qb ∧ Aside0 (Below w.heap.size w wx))
          case first =>
            by_cases q0 : t.size < 3
            · have q0z : (t.size : Int) < 3 := by omega
              go_quiet (fail)
              go_wp2
              go_meet
              exact ⟨congrArg Value.bool ((decide_eq_true (p := t.size < 3 ∨ x1.toNat < LO ∨ HI < x1.toNat ∨ x2.toNat < 128 ∨ 191 < x2.toNat) (by omega)).symm.trans HQ.out), ⟨utf8_Valid.drewNv (HB.out.alloc HB.out.size _) _⟩⟩
            · have q0z : ¬ ((t.size : Int) < 3) := by omega
              have hz1 : (1 : Int) < (t.size : Int) := by omega
              have hp1 : 1 < t.size := by omega
              have hy1 := HX1.out hp1
              have hz2 : (2 : Int) < (t.size : Int) := by omega
              have hp2 : 2 < t.size := by omega
              have hy2 := HX2.out hp2
              by_cases q1 : x1.toNat < LO
              · have q1z : (x1.toNat : Int) < (LO : Int) := by omega
                go_quiet (fail)
                go_wp2
                go_meet
                exact ⟨congrArg Value.bool ((decide_eq_true (p := t.size < 3 ∨ x1.toNat < LO ∨ HI < x1.toNat ∨ x2.toNat < 128 ∨ 191 < x2.toNat) (by omega)).symm.trans HQ.out), ⟨utf8_Valid.drewNv (HB.out.alloc HB.out.size _) _⟩⟩
              · have q1z : ¬ ((x1.toNat : Int) < (LO : Int)) := by omega
                by_cases q2 : HI < x1.toNat
                · have q2z : (HI : Int) < (x1.toNat : Int) := by omega
                  go_quiet (fail)
                  go_wp2
                  go_meet
                  exact ⟨congrArg Value.bool ((decide_eq_true (p := t.size < 3 ∨ x1.toNat < LO ∨ HI < x1.toNat ∨ x2.toNat < 128 ∨ 191 < x2.toNat) (by omega)).symm.trans HQ.out), ⟨utf8_Valid.drewNv (HB.out.alloc HB.out.size _) _⟩⟩
                · have q2z : ¬ ((HI : Int) < (x1.toNat : Int)) := by omega
                  by_cases q3 : x2.toNat < 128
                  · have q3z : (x2.toNat : Int) < 128 := by omega
                    go_quiet (fail)
                    go_wp2
                    go_meet
                    exact ⟨congrArg Value.bool ((decide_eq_true (p := t.size < 3 ∨ x1.toNat < LO ∨ HI < x1.toNat ∨ x2.toNat < 128 ∨ 191 < x2.toNat) (by omega)).symm.trans HQ.out), ⟨utf8_Valid.drewNv (HB.out.alloc HB.out.size _) _⟩⟩
                  · have q3z : ¬ ((x2.toNat : Int) < 128) := by omega
                    by_cases q4 : 191 < x2.toNat
                    · have q4z : (191 : Int) < (x2.toNat : Int) := by omega
                      go_quiet (fail)
                      go_wp2
                      go_meet
                      exact ⟨congrArg Value.bool ((decide_eq_true (p := t.size < 3 ∨ x1.toNat < LO ∨ HI < x1.toNat ∨ x2.toNat < 128 ∨ 191 < x2.toNat) (by omega)).symm.trans HQ.out), ⟨utf8_Valid.drewNv (HB.out.alloc HB.out.size _) _⟩⟩
                    · have q4z : ¬ ((191 : Int) < (x2.toNat : Int)) := by omega
                      go_quiet (fail)
                      go_wp2
                      go_meet
                      exact ⟨congrArg Value.bool ((decide_eq_false (p := t.size < 3 ∨ x1.toNat < LO ∨ HI < x1.toNat ∨ x2.toNat < 128 ∨ 191 < x2.toNat) (by omega)).symm.trans HQ.out), ⟨utf8_Valid.drewNv (HB.out.alloc HB.out.size _) _⟩⟩
          case rest =>
            obtain ⟨rfl, hbc⟩ := hcut
            have hlead := HLD0.out
            clear HLD0
            cases qb with
            | true =>
              have hb : t.size < 3 ∨ x1.toNat < LO ∨ HI < x1.toNat ∨ x2.toNat < 128 ∨ 191 < x2.toNat := of_decide_eq_true HQ.out
              clear HQ
              rw [if_pos hb] at hlead
              replace hlead : r = false := hlead
              subst hlead
              clear hb
              go_wp2
              all_goals (go_ret; exact ⟨rfl, hbc.out⟩)
            | false =>
              have hb : ¬ (t.size < 3 ∨ x1.toNat < LO ∨ HI < x1.toNat ∨ x2.toNat < 128 ∨ 191 < x2.toNat) := of_decide_eq_false HQ.out
              clear HQ
              rw [if_neg hb] at hlead
              replace hlead : r = Lib.validD (t.data.toList.drop 3) := hlead
              have HLD := Aside0.mk hlead
              have hsz : 3 ≤ t.size := by omega
              clear hlead hb
              by_cases n1 : t.size = 3
              · have HV1 : Aside0 (Lib.validD ((⟨#[]⟩ : ByteArray)).data.toList = r) := ⟨by
                  rw [HLD.out, List.drop_eq_nil_of_le (by rw [← Lib.size_eq]; omega)]⟩
                have HS1 : Aside0 (utf8_Valid.Sl w g o (⟨#[]⟩ : ByteArray)) := ⟨fun j hj => absurd hj (Nat.not_lt_zero _)⟩
                go_wp2
                go_roundg g'
                case measure => omega
                case rel => exact ⟨⟨#[]⟩, o, rfl, by show 0 < g'; omega, by show 0 ≤ 1000000; omega, hbc, HS1, HV1⟩
              · have y1 := HS
                have HS1 := Aside0.mk (HS.out.cut (k := 3) (o' := o + 3) (by omega) (fun j _ => by omega))
                have HV1 : Aside0 (Lib.validD (t.extract 3 t.size).data.toList = r) := ⟨by rw [Lib.ext_list]; exact HLD.out.symm⟩
                have zt1 : t.size - 3 = (t.extract 3 t.size).size := (Lib.ext_size t 3).symm
                obtain ⟨t1, et1⟩ : ∃ z, t.extract 3 t.size = z := ⟨_, rfl⟩
                rw [et1] at HS1 HV1 zt1
                obtain ⟨o1, xo1⟩ : ∃ z, o + 3 = z := ⟨_, rfl⟩
                rw [xo1] at HS1
                have nt1 : ¬ t.size = 3 := by omega
                clear y1 et1
                go_wp2
                go_roundg g'
                case measure => omega
                case rel => exact ⟨t1, o1, rfl, by omega, by omega, hbc, HS1, HV1⟩
        by_cases s4 : SZ = 4
        · as_aux_lemma =>
          subst s4
          have hSZz : (X : Int) % 8 = 4 := by omega
          simp only [Lib.checkN, Nat.reduceEqDiff, if_true, if_false] at hlead
          have HLD0 := Aside0.mk hlead
          clear hlead
          obtain ⟨qb, HQ⟩ : ∃ qb : Bool, Aside0 (decide (t.size < 4 ∨ x1.toNat < LO ∨ HI < x1.toNat ∨ x2.toNat < 128 ∨ 191 < x2.toNat ∨ x3.toNat < 128 ∨ 191 < x3.toNat) = qb) := ⟨_, ⟨rfl⟩⟩
          go_upto_region 26 with fail
          go_cut [185] from 143 to 185 (fun c wx => c = .bool qb ∧ Aside0 (Below w.heap.size w wx))
          case first =>
            by_cases q0 : t.size < 4
            · have q0z : (t.size : Int) < 4 := by omega
              go_quiet (fail)
              go_wp2
              go_meet
              exact ⟨congrArg Value.bool ((decide_eq_true (p := t.size < 4 ∨ x1.toNat < LO ∨ HI < x1.toNat ∨ x2.toNat < 128 ∨ 191 < x2.toNat ∨ x3.toNat < 128 ∨ 191 < x3.toNat) (by omega)).symm.trans HQ.out), ⟨utf8_Valid.drewNv (HB.out.alloc HB.out.size _) _⟩⟩
            · have q0z : ¬ ((t.size : Int) < 4) := by omega
              have hz1 : (1 : Int) < (t.size : Int) := by omega
              have hp1 : 1 < t.size := by omega
              have hy1 := HX1.out hp1
              have hz2 : (2 : Int) < (t.size : Int) := by omega
              have hp2 : 2 < t.size := by omega
              have hy2 := HX2.out hp2
              have hz3 : (3 : Int) < (t.size : Int) := by omega
              have hp3 : 3 < t.size := by omega
              have hy3 := HX3.out hp3
              by_cases q1 : x1.toNat < LO
              · have q1z : (x1.toNat : Int) < (LO : Int) := by omega
                go_quiet (fail)
                go_wp2
                go_meet
                exact ⟨congrArg Value.bool ((decide_eq_true (p := t.size < 4 ∨ x1.toNat < LO ∨ HI < x1.toNat ∨ x2.toNat < 128 ∨ 191 < x2.toNat ∨ x3.toNat < 128 ∨ 191 < x3.toNat) (by omega)).symm.trans HQ.out), ⟨utf8_Valid.drewNv (HB.out.alloc HB.out.size _) _⟩⟩
              · have q1z : ¬ ((x1.toNat : Int) < (LO : Int)) := by omega
                by_cases q2 : HI < x1.toNat
                · have q2z : (HI : Int) < (x1.toNat : Int) := by omega
                  go_quiet (fail)
                  go_wp2
                  go_meet
                  exact ⟨congrArg Value.bool ((decide_eq_true (p := t.size < 4 ∨ x1.toNat < LO ∨ HI < x1.toNat ∨ x2.toNat < 128 ∨ 191 < x2.toNat ∨ x3.toNat < 128 ∨ 191 < x3.toNat) (by omega)).symm.trans HQ.out), ⟨utf8_Valid.drewNv (HB.out.alloc HB.out.size _) _⟩⟩
                · have q2z : ¬ ((HI : Int) < (x1.toNat : Int)) := by omega
                  by_cases q3 : x2.toNat < 128
                  · have q3z : (x2.toNat : Int) < 128 := by omega
                    go_quiet (fail)
                    go_wp2
                    go_meet
                    exact ⟨congrArg Value.bool ((decide_eq_true (p := t.size < 4 ∨ x1.toNat < LO ∨ HI < x1.toNat ∨ x2.toNat < 128 ∨ 191 < x2.toNat ∨ x3.toNat < 128 ∨ 191 < x3.toNat) (by omega)).symm.trans HQ.out), ⟨utf8_Valid.drewNv (HB.out.alloc HB.out.size _) _⟩⟩
                  · have q3z : ¬ ((x2.toNat : Int) < 128) := by omega
                    by_cases q4 : 191 < x2.toNat
                    · have q4z : (191 : Int) < (x2.toNat : Int) := by omega
                      go_quiet (fail)
                      go_wp2
                      go_meet
                      exact ⟨congrArg Value.bool ((decide_eq_true (p := t.size < 4 ∨ x1.toNat < LO ∨ HI < x1.toNat ∨ x2.toNat < 128 ∨ 191 < x2.toNat ∨ x3.toNat < 128 ∨ 191 < x3.toNat) (by omega)).symm.trans HQ.out), ⟨utf8_Valid.drewNv (HB.out.alloc HB.out.size _) _⟩⟩
                    · have q4z : ¬ ((191 : Int) < (x2.toNat : Int)) := by omega
                      by_cases q5 : x3.toNat < 128
                      · have q5z : (x3.toNat : Int) < 128 := by omega
                        go_quiet (fail)
                        go_wp2
                        go_meet
                        exact ⟨congrArg Value.bool ((decide_eq_true (p := t.size < 4 ∨ x1.toNat < LO ∨ HI < x1.toNat ∨ x2.toNat < 128 ∨ 191 < x2.toNat ∨ x3.toNat < 128 ∨ 191 < x3.toNat) (by omega)).symm.trans HQ.out), ⟨utf8_Valid.drewNv (HB.out.alloc HB.out.size _) _⟩⟩
                      · have q5z : ¬ ((x3.toNat : Int) < 128) := by omega
                        by_cases q6 : 191 < x3.toNat
                        · have q6z : (191 : Int) < (x3.toNat : Int) := by omega
                          go_quiet (fail)
                          go_wp2
                          go_meet
                          exact ⟨congrArg Value.bool ((decide_eq_true (p := t.size < 4 ∨ x1.toNat < LO ∨ HI < x1.toNat ∨ x2.toNat < 128 ∨ 191 < x2.toNat ∨ x3.toNat < 128 ∨ 191 < x3.toNat) (by omega)).symm.trans HQ.out), ⟨utf8_Valid.drewNv (HB.out.alloc HB.out.size _) _⟩⟩
                        · have q6z : ¬ ((191 : Int) < (x3.toNat : Int)) := by omega
                          go_quiet (fail)
                          go_wp2
                          go_meet
                          exact ⟨congrArg Value.bool ((decide_eq_false (p := t.size < 4 ∨ x1.toNat < LO ∨ HI < x1.toNat ∨ x2.toNat < 128 ∨ 191 < x2.toNat ∨ x3.toNat < 128 ∨ 191 < x3.toNat) (by omega)).symm.trans HQ.out), ⟨utf8_Valid.drewNv (HB.out.alloc HB.out.size _) _⟩⟩
          case rest =>
            obtain ⟨rfl, hbc⟩ := hcut
            have hlead := HLD0.out
            clear HLD0
            cases qb with
            | true =>
              have hb : t.size < 4 ∨ x1.toNat < LO ∨ HI < x1.toNat ∨ x2.toNat < 128 ∨ 191 < x2.toNat ∨ x3.toNat < 128 ∨ 191 < x3.toNat := of_decide_eq_true HQ.out
              clear HQ
              rw [if_pos hb] at hlead
              replace hlead : r = false := hlead
              subst hlead
              clear hb
              go_wp2
              all_goals (go_ret; exact ⟨rfl, hbc.out⟩)
            | false =>
              have hb : ¬ (t.size < 4 ∨ x1.toNat < LO ∨ HI < x1.toNat ∨ x2.toNat < 128 ∨ 191 < x2.toNat ∨ x3.toNat < 128 ∨ 191 < x3.toNat) := of_decide_eq_false HQ.out
              clear HQ
              rw [if_neg hb] at hlead
              replace hlead : r = Lib.validD (t.data.toList.drop 4) := hlead
              have HLD := Aside0.mk hlead
              have hsz : 4 ≤ t.size := by omega
              clear hlead hb
              by_cases n1 : t.size = 4
              · have HV1 : Aside0 (Lib.validD ((⟨#[]⟩ : ByteArray)).data.toList = r) := ⟨by
                  rw [HLD.out, List.drop_eq_nil_of_le (by rw [← Lib.size_eq]; omega)]⟩
                have HS1 : Aside0 (utf8_Valid.Sl w g o (⟨#[]⟩ : ByteArray)) := ⟨fun j hj => absurd hj (Nat.not_lt_zero _)⟩
                go_wp2
                go_roundg g'
                case measure => omega
                case rel => exact ⟨⟨#[]⟩, o, rfl, by show 0 < g'; omega, by show 0 ≤ 1000000; omega, hbc, HS1, HV1⟩
              · have y1 := HS
                have HS1 := Aside0.mk (HS.out.cut (k := 4) (o' := o + 4) (by omega) (fun j _ => by omega))
                have HV1 : Aside0 (Lib.validD (t.extract 4 t.size).data.toList = r) := ⟨by rw [Lib.ext_list]; exact HLD.out.symm⟩
                have zt1 : t.size - 4 = (t.extract 4 t.size).size := (Lib.ext_size t 4).symm
                obtain ⟨t1, et1⟩ : ∃ z, t.extract 4 t.size = z := ⟨_, rfl⟩
                rw [et1] at HS1 HV1 zt1
                obtain ⟨o1, xo1⟩ : ∃ z, o + 4 = z := ⟨_, rfl⟩
                rw [xo1] at HS1
                have nt1 : ¬ t.size = 4 := by omega
                clear y1 et1
                go_wp2
                go_roundg g'
                case measure => omega
                case rel => exact ⟨t1, o1, rfl, by omega, by omega, hbc, HS1, HV1⟩
        · have e2 : ¬ ((X : Int) % 8 = 2) := by omega
          have e3 : ¬ ((X : Int) % 8 = 3) := by omega
          have e4 : ¬ ((X : Int) % 8 = 4) := by omega
          have e2b : (((X : Int) % 8) == 2) = false := by simp; omega
          have e3b : (((X : Int) % 8) == 3) = false := by simp; omega
          have e4b : (((X : Int) % 8) == 4) = false := by simp; omega
          simp only [Lib.checkN, s2, s3, s4, if_false] at hlead
          replace hlead : r = false := hlead
          subst hlead
          go_wp2
          all_goals (go_ret; exact ⟨rfl, HB.out.alloc HB.out.size _⟩)
    · have h0z : ¬ ((0 : Int) < (t.size : Int)) := by omega
      have ht0 : t.data.toList = [] := List.eq_nil_of_length_eq_zero (by rw [← Lib.size_eq]; omega)
      have hv := HV.out
      rw [ht0, Lib.validD_nil] at hv
      subst hv
      go_wp2
      go_ret
      exact ⟨rfl, HB.out⟩

end Go.Proofs.YtebmhicdlamnbaaDoor.QFnExactDecodeWords
