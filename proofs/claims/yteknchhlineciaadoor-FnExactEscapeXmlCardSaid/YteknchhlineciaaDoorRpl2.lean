/- What the walk of a byteStringReplacer's Replace reads and writes: its cells, the buffer. -/
import Derived.Test.YteknchhlineciaaDoorRpl0
import Derived.Lib.SlBuf
import Derived.Laws.BytesArg
import Derived.Laws.MakeOwn
import Derived.Deep.RegionLaw
namespace Go.Proofs.YteknchhlineciaaDoor.Rpl
open Go.RowKit Go.Proofs.YteknchhlineciaaDoorW.PrintWords Go.Proofs.YteknchhlineciaaDoorW.PrintLast Go.Proofs.YteknchhlineciaaDoorW.PrintMore
set_option linter.unusedVariables false
theorem St.lt {W : World} {base rb k l : Nat} {v : Value} (h : St W base rb k l v) : rb < W.heap.size := by
  obtain ⟨cs, a1, _⟩ := h.row
  exact (Array.getElem?_eq_some_iff.1 a1).1
theorem St.at_none {W : World} {base rb k l : Nat} {v : Value} (h : St W base rb k l v) {x : Nat} (hx : x < 256) (hr : rep k x = none) : W.cell? ⟨rb, x, none⟩ = some (.slice none 0 0) := (h.byte x hx hr).1
theorem St.at_some {W : World} {base rb k l : Nat} {v : Value} (h : St W base rb k l v) {x : Nat} (hx : x < 256) {t : ByteArray} (hr : rep k x = some t) :
    ∃ g c, W.cell? ⟨rb, x, none⟩ = some (.slice (some ⟨g, 0, none⟩) t.size c) ∧ Lib.HoldsBytes W (.slice (some ⟨g, 0, none⟩) t.size c) t.data.toList := by
  obtain ⟨cs, a1, a2, a3, a4⟩ := h.row
  obtain ⟨u, b1, b2⟩ := a4 x hx
  rw [hr] at b2
  obtain ⟨g, c, d1, d2, d3, d4, d5, d6⟩ := b2
  subst d1
  refine ⟨g, c, by rw [Lib.cell_of_heap a1, b1], some ⟨g, 0, none⟩, c, ?_, (fun q => by cases q), ?_⟩
  · show _ = Value.slice _ t.data.toList.length _
    rfl
  · intro a ha i y hy
    obtain rfl := Option.some.inj ha
    have hi : i < t.size := (List.getElem?_eq_some_iff.1 hy).1
    have h1 : ((⟨g, 0, none⟩ : Addr).add i) = ⟨g, i, none⟩ := by unfold Addr.add; split <;> simp_all
    rw [h1, d6 i hi]
    have h2 : t.data.toList.getD i 0 = y := by rw [List.getD_eq_getElem?_getD, hy]; rfl
    rw [h2]
/-- The list of the bytes. -/
theorem St.list {W : World} {base rb : Nat} {v : Value} (h : St W base rb 5 5 v) :
    ∃ tb c, W.cell? ⟨rb, 256, none⟩ = some (.slice (some ⟨tb, 0, none⟩) 5 c) ∧ 5 ≤ c ∧ ∀ j, j < 5 → W.cell? ⟨tb, j, none⟩ = some (.string (olds.getD j ByteArray.empty)) := by
  obtain ⟨cs, a1, a2, a3, a4⟩ := h.row
  rcases h.own.2 with ⟨_, e⟩ | ⟨g, cap, cur, e1, e2, e3, e4⟩
  · cases e
  · subst e1
    refine ⟨g, cap, by rw [Lib.cell_of_heap a1]; exact a3, e4.1, fun j hj => ?_⟩
    have ht : cur.toList.take (5 * 1) = encs Value.string (olds.take 5) := e4.2.2.2
    have h5 : (cur.toList.take (5 * 1))[j]? = some (Value.string (olds.getD j ByteArray.empty)) := by
      rw [ht]
      obtain rfl | rfl | rfl | rfl | rfl : j = 0 ∨ j = 1 ∨ j = 2 ∨ j = 3 ∨ j = 4 := by omega
      all_goals rfl
    rw [List.getElem?_take_of_lt (by omega)] at h5
    rw [Lib.cell_of_heap e3, ← Array.getElem?_toList, h5]
theorem buf_drawn {w0 wr : World} {h N : Nat} {acc : List UInt8} (hb : Lib.Buf w0 wr h N acc) (q : Nat) : Lib.Buf w0 (wr.drewN q) h N acc :=
  ⟨pw_below_drewN hb.below q, fun j hj => by rw [World.cell?_drewN]; exact hb.there j hj, fun j hj => by rw [World.frozen?_drewN]; exact hb.free j hj, fun j x hx => by rw [World.cell?_drewN]; exact hb.holds j x hx, hb.fits⟩
theorem buf_drew {w0 wr : World} {h N : Nat} {acc : List UInt8} (hb : Lib.Buf w0 wr h N acc) : Lib.Buf w0 wr.drew h N acc :=
  ⟨below_drew1 hb.below, fun j hj => by rw [World.cell?_drew]; exact hb.there j hj, fun j hj => by rw [World.frozen?_drew]; exact hb.free j hj, fun j x hx => by rw [World.cell?_drew]; exact hb.holds j x hx, hb.fits⟩
theorem buf_put {w0 wr : World} {h N : Nat} {acc : List UInt8} (hb : Lib.Buf w0 wr h N acc) (hn : acc.length < N) (b : UInt8) : Lib.Buf w0 (wr.setCell ⟨h, acc.length, none⟩ (.int .u8 (b.toNat : Int))) h N (acc ++ [b]) := by
  obtain ⟨u, hu⟩ := Option.isSome_iff_exists.1 (hb.there acc.length hn)
  refine ⟨hb.below.setCell (Nat.le_refl _) _, fun j hj => ?_, fun j hj => ?_, fun j x hx => ?_, by rw [List.length_append]; simp; omega⟩
  · by_cases e : j = acc.length
    · subst e
      rw [World.cell?_setCell_same wr _ _ hu]
      rfl
    · rw [World.cell?_setCell_other wr _ _ _ (by simp)]
      exact hb.there j hj
  · simp only [World.frozen?_setCell]
    exact hb.free j hj
  · by_cases e : j < acc.length
    · rw [List.getElem?_append_left e] at hx
      rw [World.cell?_setCell_other wr _ _ _ (by simp)]
      exact hb.holds j x hx
    · have hl : j = acc.length := by
        have := (List.getElem?_eq_some_iff.1 hx).1
        rw [List.length_append] at this
        simp at this
        omega
      subst hl
      rw [List.getElem?_append_right (Nat.le_refl _), Nat.sub_self] at hx
      obtain rfl := Option.some.inj hx
      exact World.cell?_setCell_same wr _ _ hu
theorem buf_made (w : World) (N : Nat) : Lib.Buf w (w.alloc (.cells (madeCells #[.int .u8 0] N) 5)) w.heap.size N [] := Lib.Buf.start w (madeCells #[.int .u8 0] N) 5 N 0 (by rw [size_madeCells]; exact Nat.le_refl _)
theorem mkbuf (W : World) (N : Nat) (h : N ≤ 16777216) : (Instr.makeSlice 67 (.int .i64 (N : Int)) (.int .i64 (N : Int))).run Tryd.prog W = .ok (.slice (some ⟨W.heap.size, 0, none⟩) N N) (W.alloc (.cells (madeCells #[.int .u8 0] N) 5)) := by
  have hinfo : (Tryd.prog.info? 5).map (fun i => (i.zero, i.size, i.bytes)) = some (some (.int .u8 0), 1, 1) := by kernel_rfl
  obtain ⟨i, hi, he⟩ := Option.map_eq_some_iff.1 hinfo
  simp only [Prod.mk.injEq] at he
  have h := run_makeSlice (P := Tryd.prog) (w := W) 67 5 i _ Tryd.underlying67 hi he.1 .i64 .i64 (N : Int) (N : Int) (by omega) (by omega) (by rw [he.2.1]; omega) (by rw [he.2.2]; omega) (by omega)
  rw [he.2.1] at h
  simp only [Int.toNat_natCast, Nat.mul_one] at h
  exact h
theorem buf_string {w0 wr : World} {h N c : Nat} {acc : List UInt8} (hb : Lib.Buf w0 wr h N acc) (hN : acc.length = N) : (convert 67 9 (.slice (some ⟨h, 0, none⟩) N c)).run Tryd.prog wr = .ok (.string ⟨acc.toArray⟩) wr := by
  have hr := run_convert_bytes_arg (P := Tryd.prog) wr 67 5 Tryd.underlying67 Tryd.underlying5 h 0 N c (Lib.numsL acc) (by rw [Lib.numsL_length, hN]) (fun i hi => by
    have hi' : i < acc.length := by omega
    rw [Nat.zero_add, hb.holds i acc[i] (List.getElem?_eq_getElem hi')]
    simp [Lib.numsL, List.getD, List.getElem?_map, List.getElem?_eq_getElem hi']) 9 Tryd.underlying9
  have hs : strOfNums (Lib.numsL acc) = ⟨acc.toArray⟩ := by
    show (⟨(Lib.bytesOf (Lib.numsL acc)).toArray⟩ : ByteArray) = _
    rw [Lib.bytesOf_numsL]
  rw [hs] at hr
  exact hr
/-- 'copy' behind what is filled, as one step of a region that draws its order. -/
theorem step_copy_part {ops : Array Oper} {o : Oper} {a : Act} {w : World} {K : Act → World → Prop} {Q : Exit → Act → World → Prop} {E : Prop} (hg : o.guard = none) (d s : Operand)
    (hop : o.op = Op.call { callee := Callee.builtin Builtin.copy, args := #[d, s], argTypes := #[67, 67] }) (w0 : World) (h N : Nat) (acc l : List UInt8) (v : Value) (hd : a.eval d = Lib.tailV h N acc.length) (hs : a.eval s = v)
    (hb : Lib.Buf w0 w h N acc) (hv : Lib.HoldsBytes w0 v l) (hh : w0.heap.size ≤ h) (hfit : acc.length + l.length ≤ N)
    (H : ∀ w', Aside0 (Lib.Buf w0 w' h N (acc ++ l)) → K (a.put o.dst (.int .i64 (l.length : Int))) w') :
    if Region.wanted o (yielded ops a.tmps) = true then Oper.wp Tryd.prog o a w K Q else E := by
  have hw : Region.wanted o (yielded ops a.tmps) = true := by simp [Region.wanted, hg]
  rw [if_pos hw]
  have h5 : (Tryd.prog.info? 5).map (·.size) = some 1 := by kernel_rfl
  obtain ⟨w', hr, hb'⟩ := Lib.copy_part (P := Tryd.prog) w0 w h N acc l v 67 o.type 5 Tryd.underlying67 h5 hh hb hv hfit
  exact Lib.wp_copy_run (P := Tryd.prog) w d s 67 67 hop _ _ hd hs hr (H _ ⟨hb'⟩)
end Go.Proofs.YteknchhlineciaaDoor.Rpl
