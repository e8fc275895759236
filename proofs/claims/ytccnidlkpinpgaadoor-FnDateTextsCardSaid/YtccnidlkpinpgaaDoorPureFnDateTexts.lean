/- A stamp is read back from both of its texts, also from another zone's. Conditions: none. -/
import Derived.Test.YtccnidlkpinpgaaDoorTFnDateTexts
import Derived.Test.YtccnidlkpinpgaaDoorRFnDateTexts
import Derived.Test.YtccnidlkpinpgaaDoorSrt
namespace Go.Proofs.YtccnidlkpinpgaaDoor.Pure
open Go.RowKit Go.Proofs.YtccnidlkpinpgaaDoor.QFnDateTexts Go.Proofs.YtccnidlkpinpgaaDoorW.PrintWords Go.Proofs.YtccnidlkpinpgaaDoorW.PrintLast Go.Proofs.YtccnidlkpinpgaaDoorW.PrintMore Go.Proofs.YtccnidlkpinpgaaDoor.Evx Go.Proofs.YtccnidlkpinpgaaDoor.Bsx Go.Proofs.YtccnidlkpinpgaaDoor.Dates
set_option linter.unusedSimpArgs false
set_option linter.unusedVariables false
open Go.Proofs.YtccnidlkpinpgaaDoor.TQFnDateTexts (tw yr clk tw_size yr_size clk_size sz1 sz2 sz6 tw_bs yr_bs t3339 t822 spec_text impl_text spec_text822 impl_text822 parts wd mn wdi wdi_range wd_size mn_size week_idx)
open Go.Proofs.YtccnidlkpinpgaaDoor.RQFnDateTexts (ans ans_of p7_Z p7_ahead en_ok impl_read impl_read8 ans8 fi wdl mnl z1ans val8 zr fin8 wk digB okd dgt)
theorem t3339_size (n : Int) : (t3339 n).size = 20 := by
  unfold t3339
  simp only [ByteArray.size_append, tw_size, yr_size, clk_size, sz1]
theorem t3339_bs {n : Int} (h : 0 ≤ n ∧ n ≤ 4102444799) : bs (t3339 n) = (48 + (civ n).1 / 1000) :: (48 + (civ n).1 / 100 % 10) :: (48 + (civ n).1 / 10 % 10) :: (48 + (civ n).1 % 10) :: 45 :: (48 + (civ n).2.1 / 10) :: (48 + (civ n).2.1 % 10) :: 45 :: (48 + (civ n).2.2.1 / 10) :: (48 + (civ n).2.2.1 % 10) :: 84 :: (48 + (civ n).2.2.2.1 / 10) :: (48 + (civ n).2.2.2.1 % 10) :: 58 :: (48 + (civ n).2.2.2.2.1 / 10) :: (48 + (civ n).2.2.2.2.1 % 10) :: 58 :: (48 + (civ n).2.2.2.2.2 / 10) :: (48 + (civ n).2.2.2.2.2 % 10) :: [90] := by
  obtain ⟨p1, p2, p3, p4, p5, p6⟩ := parts h
  unfold t3339 clk
  simp only [bs_append]
  rw [yr_bs (by omega), tw_bs (n := (civ n).2.1) (by omega), tw_bs (n := (civ n).2.2.1) (by omega), tw_bs (n := (civ n).2.2.2.1) (by omega), tw_bs (n := (civ n).2.2.2.2.1) (by omega), tw_bs (n := (civ n).2.2.2.2.2) (by omega)]
  rfl
theorem read3339 {n : Int} (h : 0 ≤ n ∧ n ≤ 4102444799) : impl_ReadRfc3339.f (t3339 n) = some (n, 0) := by
  obtain ⟨p1, p2, p3, p4, p5, p6⟩ := parts h
  have hs := t3339_size n
  rw [impl_read (t3339 n) (by omega), if_neg (by omega), t3339_bs h, ans_of (by omega) (by omega) (by omega) (by omega) (by omega) (by omega), p7_Z, en_ok (n := n) (civ_okc h) (by rw [civ_stv h]; omega) h]
theorem wd_at {i : Int} (h : 0 ≤ i ∧ i < 7) : ∃ a b c, bs (wd i) = [a, b, c] ∧ fi wdl 0 [a, b, c] = i := by
  have h7 : i = 0 ∨ i = 1 ∨ i = 2 ∨ i = 3 ∨ i = 4 ∨ i = 5 ∨ i = 6 := by omega
  rcases h7 with rfl | rfl | rfl | rfl | rfl | rfl | rfl
  · exact ⟨83, 117, 110, rfl, by decide⟩
  · exact ⟨77, 111, 110, rfl, by decide⟩
  · exact ⟨84, 117, 101, rfl, by decide⟩
  · exact ⟨87, 101, 100, rfl, by decide⟩
  · exact ⟨84, 104, 117, rfl, by decide⟩
  · exact ⟨70, 114, 105, rfl, by decide⟩
  · exact ⟨83, 97, 116, rfl, by decide⟩
theorem mn_at {m : Int} (h : 1 ≤ m ∧ m ≤ 12) : ∃ a b c, bs (mn m) = [a, b, c] ∧ 0 ≤ fi mnl 0 [a, b, c] ∧ fi mnl 0 [a, b, c] + 1 = m := by
  have h7 : m = 1 ∨ m = 2 ∨ m = 3 ∨ m = 4 ∨ m = 5 ∨ m = 6 ∨ m = 7 ∨ m = 8 ∨ m = 9 ∨ m = 10 ∨ m = 11 ∨ m = 12 := by omega
  rcases h7 with rfl | rfl | rfl | rfl | rfl | rfl | rfl | rfl | rfl | rfl | rfl | rfl
  · exact ⟨74, 97, 110, rfl, by decide, by decide⟩
  · exact ⟨70, 101, 98, rfl, by decide, by decide⟩
  · exact ⟨77, 97, 114, rfl, by decide, by decide⟩
  · exact ⟨65, 112, 114, rfl, by decide, by decide⟩
  · exact ⟨77, 97, 121, rfl, by decide, by decide⟩
  · exact ⟨74, 117, 110, rfl, by decide, by decide⟩
  · exact ⟨74, 117, 108, rfl, by decide, by decide⟩
  · exact ⟨65, 117, 103, rfl, by decide, by decide⟩
  · exact ⟨83, 101, 112, rfl, by decide, by decide⟩
  · exact ⟨79, 99, 116, rfl, by decide, by decide⟩
  · exact ⟨78, 111, 118, rfl, by decide, by decide⟩
  · exact ⟨68, 101, 99, rfl, by decide, by decide⟩
theorem t822_size {n : Int} (h : 0 ≤ n ∧ n ≤ 4102444799) : (t822 n).size = 31 := by
  obtain ⟨p1, p2, p3, p4, p5, p6⟩ := parts h
  unfold t822
  simp only [ByteArray.size_append, tw_size, yr_size, clk_size, sz1, sz2, sz6, wd_size (wdi_range n), mn_size p2]
theorem zr0 : zr [43, 48, 48, 48, 48] = some 0 := by decide
theorem read822 {n : Int} (h : 0 ≤ n ∧ n ≤ 4102444799) : impl_ReadRfc822.f (t822 n) = some (n, 0) := by
  obtain ⟨p1, p2, p3, p4, p5, p6⟩ := parts h
  obtain ⟨w1, w2, w3, ew, fw⟩ := wd_at (wdi_range n)
  obtain ⟨m1, m2, m3, em, fm0, fm⟩ := mn_at p2
  have hs := t822_size h
  have hb : bs (t822 n) = w1 :: w2 :: w3 :: 44 :: 32 :: ([48 + (civ n).2.2.1 / 10, 48 + (civ n).2.2.1 % 10] ++ 32 :: ([m1, m2, m3] ++ 32 :: ([48 + (civ n).1 / 1000, 48 + (civ n).1 / 100 % 10, 48 + (civ n).1 / 10 % 10, 48 + (civ n).1 % 10] ++ 32 :: ([48 + (civ n).2.2.2.1 / 10, 48 + (civ n).2.2.2.1 % 10, 58, 48 + (civ n).2.2.2.2.1 / 10, 48 + (civ n).2.2.2.2.1 % 10, 58, 48 + (civ n).2.2.2.2.2 / 10, 48 + (civ n).2.2.2.2.2 % 10] ++ 32 :: [43, 48, 48, 48, 48])))) := by
    unfold t822 clk
    simp only [bs_append]
    rw [ew, em, yr_bs (by omega), tw_bs (n := (civ n).2.2.1) (by omega), tw_bs (n := (civ n).2.2.2.1) (by omega), tw_bs (n := (civ n).2.2.2.2.1) (by omega), tw_bs (n := (civ n).2.2.2.2.2) (by omega)]
    rfl
  rw [impl_read8 (t822 n) (by omega), if_neg (by omega), hb]
  have f : Go.Proofs.YtccnidlkpinpgaaDoor.RQFnDateTexts.Form ([48 + (civ n).2.2.1 / 10, 48 + (civ n).2.2.1 % 10] ++ 32 :: ([m1, m2, m3] ++ 32 :: ([48 + (civ n).1 / 1000, 48 + (civ n).1 / 100 % 10, 48 + (civ n).1 / 10 % 10, 48 + (civ n).1 % 10] ++ 32 :: ([48 + (civ n).2.2.2.1 / 10, 48 + (civ n).2.2.2.1 % 10, 58, 48 + (civ n).2.2.2.2.1 / 10, 48 + (civ n).2.2.2.2.1 % 10, 58, 48 + (civ n).2.2.2.2.2 / 10, 48 + (civ n).2.2.2.2.2 % 10] ++ 32 :: [43, 48, 48, 48, 48])))) [48 + (civ n).2.2.1 / 10, 48 + (civ n).2.2.1 % 10] [m1, m2, m3] [48 + (civ n).1 / 1000, 48 + (civ n).1 / 100 % 10, 48 + (civ n).1 / 10 % 10, 48 + (civ n).1 % 10] [43, 48, 48, 48, 48] (48 + (civ n).2.2.2.1 / 10) (48 + (civ n).2.2.2.1 % 10) (48 + (civ n).2.2.2.2.1 / 10) (48 + (civ n).2.2.2.2.1 % 10) (48 + (civ n).2.2.2.2.2 / 10) (48 + (civ n).2.2.2.2.2 % 10) :=
    ⟨rfl, Or.inr rfl, by
      unfold okd
      rw [List.all_cons, List.all_cons, dgt (by omega), dgt (by omega)]
      rfl, fm0, rfl, rfl, by
      unfold okd
      rw [List.all_cons, List.all_cons, List.all_cons, List.all_cons, dgt (by omega), dgt (by omega), dgt (by omega), dgt (by omega)]
      rfl, dgt (by omega), dgt (by omega), dgt (by omega), dgt (by omega), dgt (by omega), dgt (by omega)⟩
  have hr := wdi_range n
  have e3 : ∀ r : List Int, (w1 :: w2 :: w3 :: 44 :: 32 :: r).take 3 = [w1, w2, w3] := fun _ => rfl
  have e2 : ∀ r : List Int, ((w1 :: w2 :: w3 :: 44 :: 32 :: r).drop 3).take 2 = [44, 32] := fun _ => rfl
  have e5 : ∀ r : List Int, (w1 :: w2 :: w3 :: 44 :: 32 :: r).drop 5 = r := fun _ => rfl
  unfold ans8
  rw [e3, e2, e5, fw, if_pos hr.1, if_pos rfl, f.ans, fm]
  unfold val8
  rw [zr0]
  have hst := civ_stv h
  have hok := civ_okc h
  rw [Go.Proofs.YtccnidlkpinpgaaDoor.RQFnDateTexts.tw_vl (by omega), Go.Proofs.YtccnidlkpinpgaaDoor.RQFnDateTexts.tw_vl (by omega), Go.Proofs.YtccnidlkpinpgaaDoor.RQFnDateTexts.tw_vl (by omega), Go.Proofs.YtccnidlkpinpgaaDoor.RQFnDateTexts.tw_vl (by omega), Go.Proofs.YtccnidlkpinpgaaDoor.RQFnDateTexts.yr_vl (by omega)]
  have hw : wk n = wdi n := week_idx h
  simp only
  unfold fin8
  rw [if_pos hok, hst, if_neg (fun e => e.2 hw), en_ok (n := n) hok (by rw [hst]; omega) h]
theorem at_ok (l : List Int) (hl : l.length ≤ 1048576) (hx : ∀ x ∈ l, 0 ≤ x ∧ x < 256) : ∃ t, laws_at.f l 0 13 = some t ∧ 0 ≤ t ∧ t ≤ 12 := by
  unfold laws_at.f
  rw [if_neg (by decide)]
  by_cases h0 : (l.length : Int) = 0
  · rw [if_pos h0, if_neg (by decide), show wrap64 (0 * 7) = 0 from Evx.w64 (i := 0 * 7) (by omega) (by omega)]
    exact ⟨_, rfl, by decide, by decide⟩
  · have r : ∀ i : Int, 0 ≤ i → i < (l.length : Int) → 0 ≤ rd l i ∧ rd l i < 256 := fun i a b => by
      have hm : rd l i ∈ l := by
        unfold rd
        rw [List.getD_eq_getElem?_getD, List.getElem?_eq_getElem (by omega)]
        exact List.getElem_mem _
      exact hx _ hm
    have m0 : Int.tmod 0 (l.length : Int) = 0 := Int.zero_tmod _
    have w1 : wrap64 (0 + 1) = 1 := Evx.w64 (by omega) (by omega)
    have m1 : 0 ≤ Int.tmod 1 (l.length : Int) ∧ Int.tmod 1 (l.length : Int) < (l.length : Int) := ⟨Int.tmod_nonneg _ (by omega), Int.tmod_lt_of_pos _ (by omega)⟩
    have d0 : Int.tdiv 0 (l.length : Int) = 0 := Int.zero_tdiv _
    rw [if_neg h0, m0, w1, d0, if_pos (by omega), if_pos (by omega), if_pos m1.1, if_pos m1.2, if_neg (by decide)]
    have a := r 0 (by omega) (by omega)
    have b := r _ m1.1 m1.2
    generalize rd l 0 = u at *
    generalize rd l (Int.tmod 1 (l.length : Int)) = v at *
    clear w1
    rw [Evx.w64 (i := u) (by omega) (by omega), Evx.w64 (i := u * 31) (by omega) (by omega), Evx.w64 (i := v) (by omega) (by omega), Evx.w64 (i := u * 31 + v) (by omega) (by omega), Evx.w64 (i := 0) (by omega) (by omega), Evx.w64 (i := u * 31 + v + 0) (by omega) (by omega)]
    refine ⟨_, rfl, Int.tmod_nonneg _ (by omega), ?_⟩
    have := Int.tmod_lt_of_pos (u * 31 + v + 0) (b := 13) (by decide)
    omega
theorem FnDateTexts : laws_FnDateTexts.Pure := by
  intro l0 l1 _ _ hw0 _ _ hw1
  refine Ev.rounds (g := fun k => laws_FnDateTexts.f k l0 l1) ?_
  have u8 : ∀ l : List Int, (∀ x ∈ l, (Lit.int .u8 x).wf = true) → ∀ x ∈ l, 0 ≤ x ∧ x < 256 := fun l hw x h => by
    have := hw x h
    simp [Lit.wf, IntKind.min, IntKind.max, IntKind.signed, IntKind.bits] at this
    omega
  unfold laws_FnDateTexts.f
  have skip : Ev (fun k => laws_FnDateTexts.j0 k l0 l1 true) true := Ev.step (fun k => by rw [laws_FnDateTexts.j0]) (Evx.pos rfl (Ev.now _))
  refine Evx.ite (fun _ => skip) (fun h0 => ?_)
  by_cases h1 : (l1.length : Int) > 1048576
  · rw [decide_eq_true h1]; exact skip
  rw [decide_eq_false h1]
  obtain ⟨n, en, n0, n1⟩ := Go.Proofs.YtccnidlkpinpgaaDoor.SQFnDateTexts.stamp_ok (l := l0) ⟨by omega, u8 l0 hw0⟩
  have hn : 0 ≤ n ∧ n ≤ 4102444799 := ⟨n0, n1⟩
  refine Ev.step (fun k => by rw [laws_FnDateTexts.j0]) (Evx.neg (by simp) (Evx.bindc en ?_))
  have i1 := impl_text n
  have i2 := impl_text822 n
  have s1 := spec_text n
  have s2 := spec_text822 n
  rw [if_pos hn] at i1 i2 s1 s2
  refine Ev.bind i1 (Ev.bind i2 (Ev.bind s1 (Ev.bind s2 (Evx.bindc (read3339 hn) (Evx.bindc (read822 hn) ?_)))))
  refine Evx.pos rfl (Evx.pos rfl (Evx.pos rfl (Evx.pos rfl (Evx.pos rfl (Evx.pos rfl (Evx.pos rfl ?_))))))
  refine Ev.step (fun k => by rw [laws_FnDateTexts.j1]) ?_
  obtain ⟨z, ez, z0, z1⟩ := at_ok l1 (by omega) (u8 l1 hw1)
  refine Evx.neg (by simp) (Evx.bindc ez ?_)
  rw [Evx.w64 (i := z * 3600) (by omega) (by omega), Evx.w64 (i := n + z * 3600) (by omega) (by omega)]
  refine Evx.ite (fun _ => Ev.now _) (fun hm => ?_)
  have hmm : 0 ≤ n + z * 3600 ∧ n + z * 3600 ≤ 4102444799 := by omega
  have i3 := impl_text (n + z * 3600)
  rw [if_pos hmm] at i3
  have hsz := t3339_size (n + z * 3600)
  have e19 : mx 0 (wrap64 (((t3339 (n + z * 3600)).size : Int) - 1)) = 19 := by rw [hsz, Evx.w64 (by omega) (by omega)]; rfl
  refine Ev.bind i3 (Evx.bindc rfl ?_)
  show Ev (fun k => if 0 ≤ (mx 0 (wrap64 (((t3339 (n + z * 3600)).size : Int) - 1))) then (if (mx 0 (wrap64 (((t3339 (n + z * 3600)).size : Int) - 1))) ≤ ((t3339 (n + z * 3600)).size : Int) then (if ((t3339 (n + z * 3600)).extract 0 ((mx 0 (wrap64 (((t3339 (n + z * 3600)).size : Int) - 1))) : Int).toNat).size + (strOfNums [43, (wrap64 (48 + (wrap64 (Int.tdiv z 10)))) % 256, (wrap64 (48 + (Int.tmod z 10))) % 256, 58, 48, 48]).size ≤ 9223372036854775807 then ((impl_ReadRfc3339.f (((t3339 (n + z * 3600)).extract 0 ((mx 0 (wrap64 (((t3339 (n + z * 3600)).size : Int) - 1))) : Int).toNat) ++ (strOfNums [43, (wrap64 (48 + (wrap64 (Int.tdiv z 10)))) % 256, (wrap64 (48 + (Int.tmod z 10))) % 256, 58, 48, 48]))).bind fun bt314 => (if (0 : Int) = 0 then (if bt314.2 = 0 then (some (bt314.1 == n)) else (some false)) else (some false))) else (none)) else (none)) else (none)) true
  rw [e19, hsz]
  have hx : impl_ReadRfc3339.f ((t3339 (n + z * 3600)).extract 0 (19 : Int).toNat ++ (strOfNums [43, (wrap64 (48 + (wrap64 (Int.tdiv z 10)))) % 256, (wrap64 (48 + (Int.tmod z 10))) % 256, 58, 48, 48])) = some (n, 0) := by
    rw [Int.tdiv_eq_ediv_of_nonneg z0, Int.tmod_eq_emod_of_nonneg z0, Evx.w64 (i := z / 10) (by omega) (by omega), Evx.w64 (i := 48 + z / 10) (by omega) (by omega), Evx.w64 (i := 48 + z % 10) (by omega) (by omega), show (48 + z / 10) % 256 = 48 + z / 10 by omega, show (48 + z % 10) % 256 = 48 + z % 10 by omega]
    obtain ⟨p1, p2, p3, p4, p5, p6⟩ := parts hmm
    have hb : bs ((t3339 (n + z * 3600)).extract 0 (19 : Int).toNat ++ strOfNums [43, 48 + z / 10, 48 + z % 10, 58, 48, 48]) = (bs (t3339 (n + z * 3600))).take 19 ++ [43, 48 + z / 10, 48 + z % 10, 58, 48, 48] := by
      rw [bs_append, bs_take, bs_strOfNums (by intro x hx; simp only [List.mem_cons, List.not_mem_nil, or_false] at hx; omega)]
      rfl
    have hl : ((t3339 (n + z * 3600)).extract 0 (19 : Int).toNat ++ strOfNums [43, 48 + z / 10, 48 + z % 10, 58, 48, 48]).size ≤ 1000 := by
      rw [ByteArray.size_append, ByteArray.size_extract, size_strOfNums, hsz]
      simp only [List.length_cons, List.length_nil]
      omega
    rw [impl_read _ (by omega), if_neg (by omega), hb, t3339_bs hmm]
    refine congrArg some ?_
    refine (ans_of (y := (civ (n + z * 3600)).1) (m := (civ (n + z * 3600)).2.1) (d := (civ (n + z * 3600)).2.2.1) (h := (civ (n + z * 3600)).2.2.2.1) (i := (civ (n + z * 3600)).2.2.2.2.1) (c := (civ (n + z * 3600)).2.2.2.2.2) (by omega) (by omega) (by omega) (by omega) (by omega) (by omega) [43, 48 + z / 10, 48 + z % 10, 58, 48, 48]).trans ?_
    rw [p7_ahead _ _ _ _ _ _ (z := z) (by omega), en_ok (n := n) (civ_okc hmm) (civ_stv hmm) hn]
  have hl2 : ((t3339 (n + z * 3600)).extract 0 (19 : Int).toNat).size + (strOfNums [43, (wrap64 (48 + (wrap64 (Int.tdiv z 10)))) % 256, (wrap64 (48 + (Int.tmod z 10))) % 256, 58, 48, 48]).size ≤ 9223372036854775807 := by
    rw [ByteArray.size_extract, size_strOfNums, hsz]
    simp only [List.length_cons, List.length_nil]
    omega
  exact Evx.pos (by decide) (Evx.pos (by decide) (Evx.pos hl2 (Evx.bindc hx (Evx.pos rfl (Evx.pos rfl (Evx.const (by simp)))))))
end Go.Proofs.YtccnidlkpinpgaaDoor.Pure
