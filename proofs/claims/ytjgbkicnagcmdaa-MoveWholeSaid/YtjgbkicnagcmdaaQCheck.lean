/- Queues: 'Check' of a queue that may be. -/
import Derived.Test.YtjgbkicnagcmdaaQ
import Derived.OwnWalk
import Derived.Deep.DeepCutAuto
namespace Go.Proofs.Ytjgbkicnagcmdaa
open Go.RowKit Go.Maps

theorem win_size : (Try.prog.info? 44).map (·.size) = some 36 := by kernel_rfl
theorem win_under : Try.prog.underlying 44 = some (.array 4 43) := by kernel_rfl
def wArr (t : Nat → Int) (f : Nat → Nat → Bool) : Array Value := (qCells 0 0 0 (.bool true) (.bool true) t f).extract 5 (5 + 36)
theorem wArr_eq (ep nx gv : Int) (vr vl : Value) (t : Nat → Int) (f : Nat → Nat → Bool) : (qCells ep nx gv vr vl t f).extract 5 (5 + 36) = wArr t f := by
  unfold wArr qCells
  rfl
theorem wArr_at (t : Nat → Int) (f : Nat → Nat → Bool) (i : Nat) (hi : i < 4) (W : World) : (Instr.index 44 (.agg (wArr t f)) (.int .i64 i)).run Try.prog W = .ok (.agg (winCells (t i) (f i))) W := by
  rcases (show i = 0 ∨ i = 1 ∨ i = 2 ∨ i = 3 by omega) with rfl | rfl | rfl | rfl <;> kernel_rfl
theorem four_nat : ((4 : Nat) : Int) = 4 := rfl
theorem k3 : Keyed Try.prog 3 := int_keyed Try.underlying3

theorem _root_.Go.World.ownsMap.below' {H : Type} {P : Program} {k : TypeId} {R : Value → Option (DataW H × List MemPlace)} {w w' : World} {b n : Nat} {D : DataW H} {B : Nat} (h : w.ownsMap P k R b n D) (hb : Below B w w') (hg : b < B) : w'.ownsMap P k R b n D := by
  obtain ⟨es, clock, h1, r⟩ := h
  exact ⟨es, clock, (hb.block b hg).trans h1, r⟩
theorem nodup_take {α : Type} (l : List α) (i : Nat) (x : α) (h : l[i]? = some x) (hd : l.Nodup) : x ∉ l.take i ∧ l.take (i + 1) = l.take i ++ [x] := by
  have e : l.take (i + 1) = l.take i ++ [x] := by rw [List.take_add_one, h]; rfl
  refine ⟨fun hm => ?_, e⟩
  have h2 := hd.sublist (List.take_sublist (i + 1) l)
  rw [e, List.nodup_append] at h2
  exact h2.2.2 x hm x (by simp) rfl
theorem key_take (rd : List (Int × Int)) (n i : Nat) (hn : rd.length = n) (hi : i < n) (hd : (rd.map Prod.fst).Nodup) : (rd.getD i (0, 0)).1 ∉ (rd.map Prod.fst).take i ∧ (rd.map Prod.fst).take (i + 1) = (rd.map Prod.fst).take i ++ [(rd.getD i (0, 0)).1] := by
  have e : (rd.map Prod.fst)[i]? = some (rd.getD i (0, 0)).1 := by
    rw [List.getElem?_map, List.getElem?_eq_getElem (show i < rd.length by omega)]
    simp [List.getD, List.getElem?_eq_getElem (show i < rd.length by omega)]
  exact nodup_take _ i _ e hd
theorem key_take2 (rd : List (Int × Int)) (ls : List (Int × Int × Int)) (n i : Nat) (hn : ls.length = n) (hi : i < n) (hd : (rd.map Prod.fst ++ ls.map fun l => l.2.1).Nodup) :
    (ls.getD i (0, 0, 0)).2.1 ∉ rd.map Prod.fst ++ (ls.map fun l => l.2.1).take i ∧ rd.map Prod.fst ++ (ls.map fun l => l.2.1).take (i + 1) = (rd.map Prod.fst ++ (ls.map fun l => l.2.1).take i) ++ [(ls.getD i (0, 0, 0)).2.1] := by
  have e : (ls.map fun l => l.2.1)[i]? = some (ls.getD i (0, 0, 0)).2.1 := by
    rw [List.getElem?_map, List.getElem?_eq_getElem (show i < ls.length by omega)]
    simp [List.getD, List.getElem?_eq_getElem (show i < ls.length by omega)]
  rw [List.nodup_append] at hd
  obtain ⟨h1, h2⟩ := nodup_take _ i _ e hd.2.1
  rw [h2, ← List.append_assoc]
  refine ⟨fun hm => ?_, rfl⟩
  rcases List.mem_append.1 hm with h | h
  · exact hd.2.2 _ h _ (List.mem_of_getElem? e) rfl
  · exact h1 h
theorem prev_lo (ls : List (Int × Int × Int)) (h : ∀ i, i < ls.length → prevN Prod.fst ls (0, 0, 0) i < (ls.getD i (0, 0, 0)).1) : ∀ i, i ≤ ls.length → -1 ≤ prevN Prod.fst ls (0, 0, 0) i
  | 0, _ => by simp [prevN]
  | i + 1, hi => by
    have ih := prev_lo ls h i (by omega)
    have h2 := h i (by omega)
    have e : prevN Prod.fst ls (0, 0, 0) (i + 1) = (ls.getD i (0, 0, 0)).1 := by simp [prevN]
    rw [e]
    omega
theorem wf_of_is64 {a : Int} (h : Is64 a) : (Lit.int .i64 a).wf = true := by
  obtain ⟨h1, h2⟩ := h
  simp [Lit.wf, IntKind.min, IntKind.max, IntKind.signed, IntKind.bits]
  omega

set_option maxRecDepth 100000 in
set_option maxHeartbeats 2000000 in
theorem qcheck_ok (ep nx gv : Int) (rd : List (Int × Int)) (ls : List (Int × Int × Int)) (t : Nat → Int) (S : Nat → Int → Bool) (A1 A2 : Option Addr) (n m c1 c2 B : Nat) (w : World) (h : QOk ep nx gv rd ls t S) (hn : rd.length = n) (hm : ls.length = m) (hr : Reads w B 2 A1 n (msgCells rd)) (hr2 : Reads w B 4 A2 m (lsCells ep ls)) (hB : B ≤ w.heap.size) :
    Calls Try.prog 37 #[.agg (qCells ep nx gv (.slice A1 n c1) (.slice A2 m c2) t (fun i => shows (t i) (S i)))] w (Puts w (.int .i64 0)) := by
  obtain ⟨e0, e1, n0, n1, g0, g1, hlen, hwin, hrds, hlss, hap⟩ := h
  have hmm := @run_makeMap Try.prog
  have HW := Lib.hid (fun i (hi : i < 4) W => wcheck_ok (t i) (S i) W (hwin i hi))
  have HR := Lib.hid hrds
  have HL := Lib.hid hlss
  have HA := Lib.hid hap
  have WA := Lib.hid (wArr_at t (fun i => shows (t i) (S i)))
  have hsz := rfl (a := (qCells ep nx gv (.slice A1 n c1) (.slice A2 m c2) t (fun i => shows (t i) (S i))).size)
  have hws := wArr_eq ep nx gv (.slice A1 n c1) (.slice A2 m c2) t (fun i => shows (t i) (S i))
  have q0 : (qCells ep nx gv (.slice A1 n c1) (.slice A2 m c2) t (fun i => shows (t i) (S i)))[0]? = some (.int .i64 ep) := rfl
  have q1 : (qCells ep nx gv (.slice A1 n c1) (.slice A2 m c2) t (fun i => shows (t i) (S i)))[1]? = some (.int .i64 nx) := rfl
  have q2 : (qCells ep nx gv (.slice A1 n c1) (.slice A2 m c2) t (fun i => shows (t i) (S i)))[2]? = some (.int .i64 gv) := rfl
  have q3 : (qCells ep nx gv (.slice A1 n c1) (.slice A2 m c2) t (fun i => shows (t i) (S i)))[3]? = some (.slice A1 n c1) := rfl
  have q4 : (qCells ep nx gv (.slice A1 n c1) (.slice A2 m c2) t (fun i => shows (t i) (S i)))[4]? = some (.slice A2 m c2) := rfl
  have hq41 : (qCells ep nx gv (.slice A1 n c1) (.slice A2 m c2) t (fun i => shows (t i) (S i))).size = 41 := rfl
  generalize qCells ep nx gv (.slice A1 n c1) (.slice A2 m c2) t (fun i => shows (t i) (S i)) = cs at *
  clear hsz hrds hlss hap hwin
  have E := Blk.new w 46 cs
  have x0 := (E.cell 0).trans q0
  have x1 := (E.cell 1).trans q1
  have x2 := (E.cell 2).trans q2
  have x3 := (E.cell 3).trans q3
  have x4 := (E.cell 4).trans q4
  have bel0 := (Below.refl w.heap.size w).alloc (Nat.le_refl _) (.cells cs 46)
  have HQ := Lib.hid (show cs[0]? = _ ∧ cs[1]? = _ ∧ cs[2]? = _ ∧ cs[3]? = _ ∧ cs[4]? = _ from ⟨q0, q1, q2, q3, q4⟩)
  have H41 := Lib.hid hq41
  have HWS := Lib.hid hws
  have hc1 : ¬ ep < 0 := by omega
  have hc2 : ¬ 1048576 < ep := by omega
  have hc3 : ¬ nx < 0 := by omega
  have hc4 : ¬ 1073741824 < nx := by omega
  have hc5 : ¬ gv < 0 := by omega
  have hc6 : ¬ 1073741824 < gv := by omega
  have hc7 : ¬ (500 : Int) < (n : Int) + (m : Int) := by omega
  have hc8 : ¬ 500 < n + m := by omega
  have iw : IntKind.i64.wrap ((n : Int) + (m : Int)) = (n : Int) + (m : Int) := IntWalk.i64_in _ (by omega)
  clear q0 q1 q2 q3 q4 hq41 hws
  go_enter Try.func37, Try.ntmps37
  go_wp2_with (refine wpList_load_part rfl 44 (.tmp 50) rfl w.heap.size 5 36 rfl 46 cs _ E win_under rfl win_size (by rw [H41.out]; omega) ?_; rw [HWS.out])
  go_loopw [52] (fun s52 wr => ∃ i : Nat, i ≤ 4 ∧ s52 = .int .i64 i ∧ Blk wr w.heap.size 46 cs ∧ Below w.heap.size w wr) (fun s52 _ => 4 - (intOf s52).toNat)
  case atStart => exact ⟨0, by omega, rfl, E, bel0⟩
  case round =>
    clear E bel0 x0 x1 x2 x3 x4
    obtain ⟨i, hi, rfl, E, bel⟩ := hrel
    by_cases hlt : i < 4
    · have wi := WA.out i hlt
      have hw := HW.out i hlt
      unfold winCells at wi hw
      have HCW := Lib.hid hw
      clear hw
      generalize shows (t i) (S i) = fi at *
      generalize t i = ti at *
      have hI : (i : Int) < 4 := by omega
      have i2 : IntKind.i64.wrap ((i : Int) + 1) = (i : Int) + 1 := IntWalk.i64_in _ (by omega)
      have hz := bel.size
      clear WA HW
      go_wp2_with fail
      refine (HCW.out _).mono ?_
      rintro e w1 ⟨rfl, b1⟩
      have E1 := (E.alloc (.cells #[.int .i64 ti, .bool (fi 0), .bool (fi 1), .bool (fi 2), .bool (fi 3), .bool (fi 4), .bool (fi 5), .bool (fi 6), .bool (fi 7)] 43)).below b1 (by have := E.lt; simp; omega)
      have bel1 := (bel.alloc hz (.cells #[.int .i64 ti, .bool (fi 0), .bool (fi 1), .bool (fi 2), .bool (fi 3), .bool (fi 4), .bool (fi 5), .bool (fi 6), .bool (fi 7)] 43)).trans (b1.mono (by simp; omega))
      clear E bel b1 HCW wi
      go_wp2_with fail
      go_roundw
      case rel => exact ⟨i + 1, by omega, by go_num, E1, bel1⟩
      case measure => simp [intOf]; omega
    · obtain rfl : i = 4 := by omega
      rw [four_nat]
      obtain ⟨q0, q1, q2, q3, q4⟩ := HQ.out
      have x3 := (E.cell 3).trans q3
      have hz := bel.size
      have zq := E.lt
      have E1 := E.alloc (.map #[] 0)
      have bel1 := bel.alloc hz (.map #[] 0)
      have M0 := World.ownsMap_made wr Try.prog 3 (unitElem (H := Unit))
      obtain ⟨gm, hgm⟩ : ∃ gm, gm = wr.heap.size := ⟨_, rfl⟩
      have hgw : w.heap.size ≤ gm := by omega
      have hne : w.heap.size ≠ gm := by omega
      rw [← hgm] at M0
      have HGM := Lib.hid hgm
      clear hgm WA HW q0 q1 q2 q3 q4
      go_wp2_with fail
      rw [← HGM.out]
      go_loopw [7, 65] (fun s7 s65 wr => ∃ (i : Nat) (D : DataW Unit), i ≤ n ∧ s65 = .int .i64 i ∧ s7 = .int .i64 (prevN Prod.fst rd (0, 0) i) ∧ SetIs D ((rd.map Prod.fst).take i) ∧ wr.ownsMap Try.prog 3 unitElem gm i D ∧ Blk wr w.heap.size 46 cs ∧ Below w.heap.size w wr) (fun _ s65 _ => n - (intOf s65).toNat)
      case atStart => exact ⟨0, _, by omega, rfl, rfl, SetIs.nil, M0, E1, bel1⟩
      case round =>
        clear E1 bel1 M0 HGM E bel x3 hz zq
        obtain ⟨i, D, hi, rfl, rfl, hD, M, E, bel⟩ := hrel
        by_cases hlt : i < n
        · obtain ⟨b, off, hA1, hb, y0, y1⟩ := msgAt (hr.below (bel.mono hB)) hn hlt
          subst hA1
          obtain ⟨r0, r1, r2, r3, r4⟩ := HR.out i (by omega)
          have hlast := Lib.hid (show prevN Prod.fst rd (0, 0) (i + 1) = (rd.getD i (0, 0)).1 by simp [prevN])
          have hD2 := Lib.hid (show (rd.getD i (0, 0)).1 ∉ (rd.map Prod.fst).take i ∧ (rd.map Prod.fst).take (i + 1) = (rd.map Prod.fst).take i ++ [(rd.getD i (0, 0)).1] from key_take rd n i hn hlt (List.nodup_append.1 HA.out).1)
          generalize (rd.getD i (0, 0)).1 = no at *
          generalize (rd.getD i (0, 0)).2 = body at *
          generalize prevN Prod.fst rd (0, 0) i = last at *
          obtain ⟨q0, q1, q2, q3, q4⟩ := HQ.out
          have MO := Lib.hid (fun W => msg_ok cs nx no body W q1 r1 r2 r3 r4)
          have hI : (i : Int) < (n : Int) := by omega
          have i2 : IntKind.i64.wrap ((i : Int) + 1) = (i : Int) + 1 := IntWalk.i64_in _ (by omega)
          have hz := bel.size
          have zb : b < wr.heap.size := by omega
          have hkey : keyOf Try.prog 3 (.int .i64 no) = some (.int .i64 no) := keyOf_int_mk Try.underlying3 (by have : Is64 no := ⟨by omega, by omega⟩; exact wf_of_is64 this)
          have E1 := E.alloc (.cells #[.int .i64 no, .int .i64 body] 91)
          have M1 := M.alloc (.cells #[.int .i64 no, .int .i64 body] 91)
          have bel1 := bel.alloc hz (.cells #[.int .i64 no, .int .i64 body] 91)
          have D1 := Blk.new wr 91 #[.int .i64 no, .int .i64 body]
          have hjl : ¬ no ≤ last := by omega
          clear q0 q1 q2 q3 q4 hr HR HA E M bel
          go_wp2_with (refine wpList_load_row rfl 46 (.tmp 1) rfl w.heap.size rfl 46 cs (0, 0) _ E1 q_under rfl (by rw [q_size, H41.out]) ?_)
          refine (MO.out _).mono ?_
          rintro e w2 ⟨rfl, b2⟩
          have E2 := E1.below b2 E1.lt
          have M2 := M1.below' b2 M1.lt
          have D2 := D1.below b2 (by simp)
          have bel2 := bel1.trans (b2.mono bel1.size)
          have z2 := D2.lt
          have d0 := D2.cell 0
          clear E1 M1 D1 bel1 b2 MO
          go_wp2_with (at_mapUpdate; go_loud (refine wpList_mapUpdate_own _ rfl _ _ _ 102 rfl 3 104 k3 Try.underlying102 (unitElem (H := Unit)) gm i _ rfl M2 (by unfold maxLen; omega) _ _ _ rfl rfl hkey _ [] unitElem_mk ?_; intro w3 M3 g3))
          have E3 := E2.grown g3 (by simp; omega)
          have bel3 := bel2.grown g3 bel2.size (fun j hj => by cases hj; exact hgw)
          go_roundw
          case rel => exact ⟨i + 1, _, by omega, by go_num, by rw [hlast.out], by rw [hD2.out.2]; exact hD.add no hD2.out.1, M3, E3, bel3⟩
          case measure => simp [intOf]; omega
        · obtain rfl : i = n := by omega
          obtain ⟨q0, q1, q2, q3, q4⟩ := HQ.out
          have x4 := (E.cell 4).trans q4
          have hDD : SetIs D (rd.map Prod.fst ++ (ls.map fun l => l.2.1).take 0) := by
            have := hD
            rw [List.take_of_length_le (by simp; omega)] at this
            simpa using this
          clear q0 q1 q2 q3 q4 hD HR
          go_wp2_with fail
          go_loopw [7, 89] (fun s7 s89 wr => ∃ (j : Nat) (D : DataW Unit), j ≤ m ∧ s89 = .int .i64 j ∧ s7 = .int .i64 (prevN Prod.fst ls (0, 0, 0) j) ∧ SetIs D (rd.map Prod.fst ++ (ls.map fun l => l.2.1).take j) ∧ wr.ownsMap Try.prog 3 unitElem gm (i + j) D ∧ Blk wr w.heap.size 46 cs ∧ Below w.heap.size w wr) (fun _ s89 _ => m - (intOf s89).toNat)
          case atStart => exact ⟨0, D, by omega, rfl, rfl, hDD, M, E, bel⟩
          case round =>
            clear hDD M E bel x4 D
            obtain ⟨j, D, hj, rfl, rfl, hD, M, E, bel⟩ := hrel
            by_cases hlt : j < m
            · obtain ⟨b, off, hA2, hb, y0, y1, y2, y3⟩ := lsAt (hr2.below (bel.mono hB)) hm hlt
              subst hA2
              obtain ⟨r0, r1, r2, r3, r4, r5⟩ := HL.out j (by omega)
              have hlast := Lib.hid (show prevN Prod.fst ls (0, 0, 0) (j + 1) = (ls.getD j (0, 0, 0)).1 by simp [prevN])
              have hD2 := Lib.hid (key_take2 rd ls m j hm hlt HA.out)
              have hlo : -1 ≤ prevN Prod.fst ls (0, 0, 0) j := prev_lo ls (fun i hi => (HL.out i hi).1) j (by omega)
              generalize (ls.getD j (0, 0, 0)).1 = hno at *
              generalize (ls.getD j (0, 0, 0)).2.1 = no at *
              generalize (ls.getD j (0, 0, 0)).2.2 = body at *
              generalize prevN Prod.fst ls (0, 0, 0) j = last at *
              obtain ⟨q0, q1, q2, q3, q4⟩ := HQ.out
              have MO := Lib.hid (fun W => msg_ok cs nx no body W q1 r2 r3 r4 r5)
              have hI : (j : Int) < (m : Int) := by omega
              have i2 : IntKind.i64.wrap ((j : Int) + 1) = (j : Int) + 1 := IntWalk.i64_in _ (by omega)
              have hz := bel.size
              have zb : b < wr.heap.size := by omega
              have hkey : keyOf Try.prog 3 (.int .i64 no) = some (.int .i64 no) := keyOf_int_mk Try.underlying3 (wf_of_is64 ⟨by omega, by omega⟩)
              have E1 := E.alloc (.cells #[.int .i64 ep, .int .i64 hno, .int .i64 no, .int .i64 body] 94)
              have M1 := M.alloc (.cells #[.int .i64 ep, .int .i64 hno, .int .i64 no, .int .i64 body] 94)
              have bel1 := bel.alloc hz (.cells #[.int .i64 ep, .int .i64 hno, .int .i64 no, .int .i64 body] 94)
              have D1 := Blk.new wr 94 #[.int .i64 ep, .int .i64 hno, .int .i64 no, .int .i64 body]
              have hjl : ¬ hno ≤ last := by omega
              have hjg : ¬ gv ≤ hno := by omega
              clear hr2 HL HA E M bel
              go_wp2_with (refine wpList_load_row rfl 46 (.tmp 1) rfl w.heap.size rfl 46 cs (0, 0) _ E1 q_under rfl (by rw [q_size, H41.out]) ?_)
              refine (MO.out _).mono ?_
              rintro e w2 ⟨rfl, b2⟩
              have E2 := E1.below b2 E1.lt
              have M2 := M1.below' b2 M1.lt
              have D2 := D1.below b2 (by simp)
              have bel2 := bel1.trans (b2.mono bel1.size)
              have z2 := D2.lt
              have d0 := D2.cell 0
              have d1 := D2.cell 1
              have d2 := D2.cell 2
              have x0 := (E2.cell 0).trans q0
              have x2 := (E2.cell 2).trans q2
              clear E1 M1 D1 bel1 b2 MO q0 q1 q2 q3 q4
              go_wp2_with (at_mapUpdate; go_loud (refine wpList_mapUpdate_own _ rfl _ _ _ 102 rfl 3 104 k3 Try.underlying102 (unitElem (H := Unit)) gm (i + j) _ rfl M2 (by unfold maxLen; omega) _ _ _ rfl rfl hkey _ [] unitElem_mk ?_; intro w3 M3 g3))
              have E3 := E2.grown g3 (by simp; omega)
              have bel3 := bel2.grown g3 bel2.size (fun j hj => by cases hj; exact hgw)
              go_roundw
              case rel => exact ⟨j + 1, _, by omega, by go_num, by rw [hlast.out], by rw [hD2.out.2]; exact hD.add no hD2.out.1, M3, E3, bel3⟩
              case measure => simp [intOf]; omega
            · obtain rfl : j = m := by omega
              obtain ⟨q0, q1, q2, q3, q4⟩ := HQ.out
              have x3 := (E.cell 3).trans q3
              have x4 := (E.cell 4).trans q4
              have hsize : Maps.size D = i + j := by rw [hD.size, List.take_of_length_le (by simp; omega)]; simp; omega
              have hnl : ¬ ((Maps.size D : Nat) : Int) < (i : Int) + (j : Int) := by omega
              have HS := Lib.hid hsize
              clear q0 q1 q2 q3 q4 HL hD hsize
              have hnl2 : ¬ Maps.size D < i + j := by omega
              go_wp2_with (at_len; refine wpList_len_own _ rfl _ 102 rfl 3 104 Try.underlying102 _ gm (i + j) _ rfl M ?_)
              go_ret
              exact ⟨rfl, bel⟩

end Go.Proofs.Ytjgbkicnagcmdaa
