/- Queues: 'ack': IndexFunc, Delete at leases. -/
import Derived.Test.YtjgbkicnagcmdaaQDesk
namespace Go.Proofs.Ytjgbkicnagcmdaa
open Go.RowKit

set_option maxHeartbeats 400000 in
theorem aclosure_ok (ep i x y id : Int) (gb : Nat) (w : World) (h4 : w.cell? ⟨gb, 4, none⟩ = some (.int .i64 ep)) (h5 : w.cell? ⟨gb, 5, none⟩ = some (.int .i64 id)) :
    Calls Try.prog 55 #[.agg #[.int .i64 ep, .int .i64 i, .int .i64 x, .int .i64 y], .pointer (some ⟨gb, 0, none⟩)] w (Puts w (.bool (i == id))) := by
  have hb := lt_of_cell h4
  have hb2 : gb < w.heap.size := hb
  have hbel := (Below.refl w.heap.size w).alloc (Nat.le_refl _) (.cells #[.int .i64 ep, .int .i64 i, .int .i64 x, .int .i64 y] 94)
  have he := handle_eql
  go_enter Try.func55, Try.ntmps55
  go_wp2
  go_ret
  exact ⟨by simp, hbel⟩

/-- the place of an id -/
def IdAtL (ws : List (Int × Int × Int)) (id r : Int) : Prop := (∃ k : Nat, k < ws.length ∧ r = k ∧ (ws.getD k (0, 0, 0)).1 = id ∧ ∀ t, t < k → (ws.getD t (0, 0, 0)).1 ≠ id) ∨ (r = -1 ∧ ∀ t, t < ws.length → (ws.getD t (0, 0, 0)).1 ≠ id)

set_option maxHeartbeats 1000000 in
theorem index_ls (ep : Int) (A : Option Addr) (n c B : Nat) (ws : List (Int × Int × Int)) (id r : Int) (gb : Nat) (w : World) (hl : ws.length = n) (hn : n ≤ 500) (hr : Reads w B 4 A n (lsCells ep ws)) (hB : B ≤ w.heap.size) (h : w.cell? ⟨gb, 4, none⟩ = some (.int .i64 ep)) (h5 : w.cell? ⟨gb, 5, none⟩ = some (.int .i64 id)) (hid : IdAtL ws id r) :
    Calls Try.prog 54 #[.slice A n c, .func (.func 55) #[] #[.pointer (some ⟨gb, 0, none⟩)]] w (Puts w (.int .i64 r)) := by
  have hgb : gb < w.heap.size := lt_of_cell h
  have HID := Lib.hid hid
  have HL := Lib.hid hl
  clear hid hl
  go_enter Try.func54, Try.ntmps54
  go_wp2_with fail
  go_loopw [8] (fun s8 wr => ∃ k : Nat, k ≤ n ∧ s8 = .int .i64 k ∧ (∀ t, t < k → (ws.getD t (0, 0, 0)).1 ≠ id) ∧ Below w.heap.size w wr) (fun s8 _ => n - (intOf s8).toNat)
  case atStart => exact ⟨0, Nat.zero_le _, rfl, fun t ht => absurd ht (by omega), Below.refl _ _⟩
  case round =>
    obtain ⟨k, hk, rfl, hno, bel⟩ := hrel
    have HNO := Lib.hid hno
    clear hno
    by_cases hlt : k < n
    · obtain ⟨b, off, rfl, hb, y0, y1, y2, y3⟩ := lsAt (hr.below (bel.mono hB)) HL.out hlt
      have hcell := (bel.cell (p := ⟨gb, 4, none⟩) hgb).trans h
      have hcell5 := (bel.cell (p := ⟨gb, 5, none⟩) hgb).trans h5
      have CL := Lib.hid (fun W hc hc5 => aclosure_ok ep (ws.getD k (0, 0, 0)).1 (ws.getD k (0, 0, 0)).2.1 (ws.getD k (0, 0, 0)).2.2 id gb W hc hc5)
      have HK := Lib.hid (show ∀ i, (ws.getD k (0, 0, 0)).1 = i → i ≠ id → ∀ t, t < k + 1 → (ws.getD t (0, 0, 0)).1 ≠ id from fun i hi hne t ht => by
        rcases Nat.lt_or_ge t k with h' | h'
        · exact HNO.out t h'
        · obtain rfl : t = k := by omega
          rw [hi]; exact hne)
      have HF := Lib.hid (show (ws.getD k (0, 0, 0)).1 = id → r = (k : Int) from fun hi => by
        rcases HID.out with ⟨k', h1, h2, h3, h4⟩ | ⟨h1, h2⟩
        · rcases Nat.lt_trichotomy k k' with hh | hh | hh
          · exact absurd hi (h4 k hh)
          · rw [h2, hh]
          · exact absurd h3 (HNO.out k' hh)
        · exact absurd hi (h2 k (by rw [HL.out]; exact hlt)))
      have HKI : ∀ i, (ws.getD k (0, 0, 0)).1 = i → Hid (∀ j, i = j → True) := fun _ _ => Lib.hid (fun _ _ => trivial)
      obtain ⟨i, hi⟩ : ∃ i, (ws.getD k (0, 0, 0)).1 = i := ⟨_, rfl⟩
      have HK2 := Lib.hid (HK.out i hi)
      rw [hi] at y1 CL HF
      generalize (ws.getD k (0, 0, 0)).2.1 = b1 at *
      generalize (ws.getD k (0, 0, 0)).2.2 = b2' at *
      clear hi HK HKI hr
      have hI : (k : Int) < (n : Int) := by omega
      have i1 : IntKind.i64.wrap ((k : Int) + 1) = (k : Int) + 1 := IntWalk.i64_in _ (by omega)
      have zb : b < wr.heap.size := by have := bel.size; omega
      go_wp2_with fail
      refine (CL.out _ hcell hcell5).mono ?_
      rintro e w2 ⟨rfl, b2⟩
      have bel2 := bel.trans (b2.mono bel.size)
      clear CL hcell hcell5 y0 y1 y2 y3 bel b2 zb
      by_cases heq : i = id
      · have hb1 : (i == id) = true := by rw [beq_iff_eq]; exact heq
        have HRK := Lib.hid (HF.out heq)
        rw [hb1]
        clear hb1 heq HF HID
        go_wp2_with fail
        go_ret
        exact ⟨by rw [HRK.out]; rfl, bel2⟩
      · have hb1 : (i == id) = false := by rw [beq_eq_false_iff_ne]; exact heq
        rw [hb1]
        have hk3 := Lib.hid (HK2.out heq)
        clear hb1 heq HF HK2
        go_wp2_with fail
        go_roundw
        case rel => exact ⟨k + 1, by omega, by go_num, hk3.out, bel2⟩
        case measure => simp [intOf]; omega
    · obtain rfl : k = n := by omega
      have hrm : r = -1 := by
        rcases HID.out with ⟨k', h1, h2, h3, h4⟩ | ⟨h1, h2⟩
        · exact absurd h3 (HNO.out k' (by rw [← HL.out]; exact h1))
        · exact h1
      have HRM := Lib.hid hrm
      clear hrm hr
      go_wp2_with fail
      go_ret
      exact ⟨by rw [HRM.out]; rfl, bel⟩

theorem Blk.setCells {t : TypeId} {g : Nat} : ∀ (vs : List Value) (o : Nat) (w : World) (cs : Array Value), Blk w g t cs → o + vs.length ≤ cs.size → ∃ cs', Blk (w.setCells g o vs) g t cs' ∧ cs'.toList = cs.toList.take o ++ vs ++ cs.toList.drop (o + vs.length) ∧ cs'.size = cs.size
  | [], o, w, cs, h, hl => ⟨cs, h, by simp, rfl⟩
  | v :: vs, o, w, cs, h, hl => by
    simp only [List.length_cons] at hl
    obtain ⟨cs', h1, h2, h3⟩ := Blk.setCells vs (o + 1) (w.setCell ⟨g, o, none⟩ v) (cs.setIfInBounds o v) (h.set_ o v) (by simp; omega)
    refine ⟨cs', h1, ?_, by simpa using h3⟩
    rw [h2, Array.toList_setIfInBounds]
    have hlen : o < cs.toList.length := by simp; omega
    have e1 : (cs.toList.set o v).take (o + 1) = cs.toList.take o ++ [v] := by
      have hto : (cs.toList.take o).length = o := by rw [List.length_take]; omega
      rw [List.set_eq_take_append_cons_drop, if_pos hlen, List.take_append, List.take_of_length_le (by omega), hto, show o + 1 - o = 1 by omega]
      rfl
    have e2 : (cs.toList.set o v).drop (o + 1 + vs.length) = cs.toList.drop (o + (vs.length + 1)) := by
      rw [List.drop_set_of_lt (by omega)]
      congr 1
      omega
    rw [e1, e2]
    simp [List.append_assoc]

theorem run_clear_struct {P : Program} (w : World) (t e ty : TypeId) (z : Value) (zs : List Value) (ht : P.underlying t = some (.slice e)) (hv : ∀ w, (zeroValue e).run P w = .ok z w) (hzc : (Builtin.zeroCells z.cells 1).toList = zs) (h1 : ∀ v ∈ zs, v.oneCell' = true) (b o c : Nat)
    (hc : ∀ j, j < zs.length → (w.cell? ⟨b, o + j, none⟩).isSome = true) (hf : ∀ j, j < zs.length → w.frozen? ⟨b, o + j, none⟩ = false) :
    (Builtin.clear_ #[t] ty #[.slice (some ⟨b, o, none⟩) 1 c]).run P w = .ok (.tuple #[]) (w.setCells b o zs) := by
  have hst := run_storeCells_cells (P := P) b o zs 0 w (by simpa using hc) (by simpa using hf) h1
  simp only [Nat.add_zero] at hst
  simp [Builtin.clear_, run_underlying ht, hv, hzc, hst]

theorem Blk.some_ {w : World} {g : Nat} {t : TypeId} {cs : Array Value} (h : Blk w g t cs) (i : Nat) (hi : i < cs.size) : (w.cell? ⟨g, i, none⟩).isSome = true := by
  rw [h.cell i, Array.getElem?_eq_getElem hi]; rfl

theorem below_setCells' {B b : Nat} {a : World} (hb : B ≤ b) : ∀ (vs : List Value) (o : Nat) (w : World), Below B a w → Below B a (w.setCells b o vs)
  | [], _, _, h => h
  | v :: vs, o, w, h => below_setCells' hb vs (o + 1) (w.setCell ⟨b, o, none⟩ v) (h.setCell hb v)

theorem grown_setCells' {b : Nat} {a : World} : ∀ (vs : List Value) (o : Nat) (w : World), a.grownBy w (some b) → a.grownBy (w.setCells b o vs) (some b)
  | [], _, _, h => h
  | v :: vs, o, w, h => grown_setCells' vs (o + 1) (w.setCell ⟨b, o, none⟩ v) ⟨h.os, h.tape, h.output, by simp [World.setCell]; exact h.size, fun i hi hne => (Below.heap_setCell _ _ _ _ (fun e => hne (by rw [e]))).trans (h.block i hi hne)⟩

def zeros4 : List Value := [.int .i64 0, .int .i64 0, .int .i64 0, .int .i64 0]
theorem ls_zero (w : World) : (zeroValue 94).run Try.prog w = .ok (.agg #[.int .i64 0, .int .i64 0, .int .i64 0, .int .i64 0]) w := by kernel_rfl

/-- one is taken out, in place -/
def DelPostL (w : World) (base g cap n : Nat) (xs : List Value) (e : Ending) (w' : World) : Prop :=
  e = .returned (.slice (some ⟨g, 0, none⟩) n cap) ∧ w'.ownsRow base 94 4 (.slice (some ⟨g, 0, none⟩) n cap) n xs ∧ Below g w w' ∧ w.grownBy w' (some g)

set_option maxRecDepth 100000 in
set_option maxHeartbeats 4000000 in
theorem delete_ls (base g cap n k : Nat) (xs : List Value) (w : World) (h : w.ownsRow base 94 4 (.slice (some ⟨g, 0, none⟩) n cap) n xs) (hx : ∀ u ∈ xs, u.oneCell' = true) (hk : k < n) (hn : n ≤ 500) :
    Calls Try.prog 56 #[.slice (some ⟨g, 0, none⟩) n cap, .int .i64 k, .int .i64 ((k : Int) + 1)] w (DelPostL w base g cap (n - 1) (xs.take (k * 4) ++ xs.drop ((k + 1) * 4))) := by
  obtain ⟨i0, hi0, hz0, hz1, hz2⟩ := info_parts ls_info
  obtain ⟨hxl, ⟨h1, _⟩ | ⟨g', cap', cur, hv, hbase, hh, hnc, hm, hcs, htk⟩⟩ := h
  · cases h1
  injection hv with e1 e2 e3
  injection e1 with e1
  injection e1 with e1
  subst e1 e3
  have hB : Blk w g 94 cur := hh
  have hBd : Blk w.drew g 94 cur := hB
  obtain ⟨news, hnews⟩ : ∃ news, xs.drop ((k + 1) * 4) = news := ⟨_, rfl⟩
  have hnl : news.length = (n - (k + 1)) * 4 := by rw [← hnews, List.length_drop, hxl]; omega
  have hcl : cur.toList.length = cap * 4 := by simp [hcs]
  have hsrc : Hid (∀ j u, news[j]? = some u → w.drew.cell? ((⟨g, (k + 1) * 4, none⟩ : Addr).add j) = some u) := by
    intro j u hu
    have e : (⟨g, (k + 1) * 4, none⟩ : Addr).add j = ⟨g, (k + 1) * 4 + j, none⟩ := by
      unfold Addr.add
      by_cases h : j = 0 <;> simp [h]
    rw [e, hBd.cell]
    rw [← hnews, List.getElem?_drop, ← htk, List.getElem?_take] at hu
    split at hu
    · simpa using hu
    · cases hu
  have s1 : Hid (news.length = (n - (k + 1)) * 4) := hnl
  have s2 : Hid (∀ u ∈ news, u.oneCell' = true) := fun u hu => hx u (List.mem_of_mem_drop (by rw [hnews]; exact hu))
  have s3 : Hid (∀ j, j < news.length → (w.drew.cell? ⟨g, 0 + k * 4 + j, none⟩).isSome = true ∧ w.drew.frozen? ⟨g, 0 + k * 4 + j, none⟩ = false) := fun j hj => ⟨hBd.some_ _ (by rw [hcs]; omega), hBd.frozen _⟩
  obtain ⟨cur1, hB1, ht1, hs1⟩ := Blk.setCells news (0 + k * 4) w.drew cur hBd (by rw [hnl, hcs]; omega)
  obtain ⟨W1, hW1⟩ : ∃ W1, w.drew.setCells g (0 + k * 4) news = W1 := ⟨_, rfl⟩
  have HW1 := Lib.hid hW1
  rw [hW1] at hB1
  obtain ⟨cur2, hB2, ht2, hs2⟩ := Blk.setCells zeros4 ((n - 1) * 4) W1 cur1 hB1 (by rw [hs1, hcs]; simp [zeros4]; omega)
  have hcl2 : ∀ ty, (Builtin.clear_ #[40] ty #[.slice (some ⟨g, (n - 1) * 4, none⟩) 1 (cap - (n - 1))]).run Try.prog W1 = .ok (.tuple #[]) (W1.setCells g ((n - 1) * 4) zeros4) := fun ty =>
    run_clear_struct W1 _ 94 ty _ zeros4 Try.underlying40 ls_zero (by kernel_rfl) (by intro v hv; simp [zeros4] at hv; subst hv; rfl) g ((n - 1) * 4) _ (fun j hj => hB1.some_ _ (by rw [hs1, hcs]; simp [zeros4] at hj; omega)) (fun j _ => hB1.frozen _)
  have FIN : DelPostL w base g cap (n - 1) (xs.take (k * 4) ++ news) (.returned (.slice (some ⟨g, 0, none⟩) (n - 1) cap)) (W1.setCells g ((n - 1) * 4) zeros4) := by
    refine ⟨rfl, ⟨by rw [List.length_append, List.length_take, hxl, hnl]; omega, .inr ⟨g, cap, cur2, rfl, hbase, hB2, by omega, hm, by rw [hs2, hs1, hcs], ?_⟩⟩, ?_, ?_⟩
    · rw [ht2, ht1, List.append_assoc, List.take_append_of_le_length (by simp; omega), List.take_take, Nat.min_self, Nat.zero_add]
      have e4 : cur.toList.take (k * 4) = xs.take (k * 4) := by rw [← htk, List.take_take, Nat.min_eq_left (by omega)]
      rw [e4]
      exact List.take_left' (by rw [List.length_append, List.length_take, hxl, hnl]; omega)
    · rw [← hW1]
      exact below_setCells' (Nat.le_refl _) _ _ _ (below_setCells' (Nat.le_refl _) _ _ _ (Below.refl _ _).drew)
    · rw [← hW1]
      exact grown_setCells' _ _ _ (grown_setCells' _ _ _ ⟨rfl, rfl, rfl, Nat.le_refl _, fun _ _ _ => rfl⟩)
  have FH := Lib.hid FIN
  rw [hnews]
  generalize DelPostL w base g cap (n - 1) (xs.take (k * 4) ++ news) = POST at *
  clear FIN hB hBd hB1 hB2 ht1 ht2 hs1 hs2 hcs htk hh hnews hnl hcl hW1 hx hxl
  have hkI : (k : Int) < (n : Int) := by omega
  have hkI2 : (k : Int) + 1 ≤ (n : Int) := by omega
  have hcI : (n : Int) ≤ (cap : Int) := by omega
  have i1 : IntKind.i64.wrap ((k : Int) + 1) = (k : Int) + 1 := IntWalk.i64_in _ (by omega)
  have hkn : k + (n - (k + 1)) = n - 1 := by omega
  have hn1 : n - (n - 1) = 1 := by omega
  have hkc : (k : Int) ≤ (cap : Int) := by omega
  have hkc1 : (k : Int) ≤ (k : Int) + 1 := by omega
  have hkc2 : (k : Int) + 1 ≤ (cap : Int) := by omega
  have hkN : k ≤ cap := by omega
  have hk0 : (0 : Int) ≤ (k : Int) + 1 := by omega
  have hkN1 : k + 1 ≤ n := by omega
  by_cases hck : cap = k + 1
  · subst hck
    obtain rfl : n = k + 1 := by omega
    have hsrc0 : Hid (∀ j u, news[j]? = some u → w.drew.cell? ((⟨g, 0, none⟩ : Addr).add j) = some u) := by
      intro j u hu
      have h0 : news.length = 0 := by rw [s1.out]; omega
      rw [List.length_eq_zero_iff.1 h0] at hu
      simp at hu
    have s0 : Hid (news.length = 0 * 4) := by rw [Nat.zero_mul]; have := s1.out; rw [Nat.sub_self, Nat.zero_mul] at this; exact this
    simp only [Nat.add_sub_cancel, Nat.add_sub_cancel_left] at hcl2 FH
    clear hkn hn1
    go_enter Try.func56, Try.ntmps56
    go_wp2_with fail
    go_region_law (refine step_append_room rfl (.tmp 22) (.tmp 25) 40 rfl 94 i0 4 Try.underlying40 hi0 hz1 g 0 k (k + 1) (by simp [Act.eval, Act.put]) ⟨g, 0, none⟩ 0 0 news (by simp [Act.eval, Act.put]) s0.out hsrc0.out s2.out (by omega) s3.out ?_; rw [HW1.out])
    all_goals
      go_wp2_with fail
      exact FH.out
  · have hck2 : ¬ cap ≤ k + 1 := by omega
    go_enter Try.func56, Try.ntmps56
    go_wp2_with fail
    go_region_law (refine step_append_room rfl (.tmp 22) (.tmp 25) 40 rfl 94 i0 4 Try.underlying40 hi0 hz1 g 0 k cap (by simp [Act.eval, Act.put]) ⟨g, (k + 1) * 4, none⟩ (n - (k + 1)) (cap - (k + 1)) news (by simp [Act.eval, Act.put]) s1.out hsrc.out s2.out (by omega) s3.out ?_; rw [HW1.out])
    all_goals
      go_wp2_with fail
      exact FH.out

end Go.Proofs.Ytjgbkicnagcmdaa
