/- Clients: slices.IndexFunc, slices.Delete, Done. -/
import Derived.Test.YtcbpgmpbjcknbaaCliSend
import Derived.Deep.RegionLaw
namespace Go.Proofs.Ytcbpgmpbjcknbaa
open Go.RowKit

set_option maxHeartbeats 400000 in
theorem closure_ok (p i b id : Int) (gb : Nat) (w : World) (h : w.cell? ⟨gb, 0, none⟩ = some (.int .i64 id)) :
    Calls Try.prog 27 #[.agg (evCells p i b), .pointer (some ⟨gb, 0, none⟩)] w (Puts w (.bool (i == id))) := by
  have hb := lt_of_cell h
  have hb2 : gb < w.heap.size := hb
  have hbel := (Below.refl w.heap.size w).alloc (Nat.le_refl _) (.cells (evCells p i b) 58)
  unfold evCells at *
  go_enter Try.func27, Try.ntmps27
  go_wp2
  go_ret
  exact ⟨rfl, hbel⟩

/-- the place of an id -/
def IdAt (ws : List (Int × Int)) (id r : Int) : Prop := (∃ k : Nat, k < ws.length ∧ r = k ∧ (ws.getD k (0, 0)).1 = id ∧ ∀ t, t < k → (ws.getD t (0, 0)).1 ≠ id) ∨ (r = -1 ∧ ∀ t, t < ws.length → (ws.getD t (0, 0)).1 ≠ id)

set_option maxHeartbeats 1000000 in
theorem index_ev (p : Int) (A : Option Addr) (n c B : Nat) (ws : List (Int × Int)) (id r : Int) (gb : Nat) (w : World) (hl : ws.length = n) (hn : n ≤ 100) (hr : Reads w B 6 A n (evRow p ws)) (hB : B ≤ w.heap.size) (h : w.cell? ⟨gb, 0, none⟩ = some (.int .i64 id)) (hid : IdAt ws id r) :
    Calls Try.prog 26 #[.slice A n c, .func (.func 27) #[] #[.pointer (some ⟨gb, 0, none⟩)]] w (Puts w (.int .i64 r)) := by
  have hgb : gb < w.heap.size := lt_of_cell h
  have HID := Lib.hid hid
  have HL := Lib.hid hl
  clear hid hl
  go_enter Try.func26, Try.ntmps26
  go_wp2_with fail
  go_loopw [8] (fun s8 wr => ∃ k : Nat, k ≤ n ∧ s8 = .int .i64 k ∧ (∀ t, t < k → (ws.getD t (0, 0)).1 ≠ id) ∧ Below w.heap.size w wr) (fun s8 _ => n - (intOf s8).toNat)
  case atStart => exact ⟨0, Nat.zero_le _, rfl, fun t ht => absurd ht (by omega), Below.refl _ _⟩
  case round =>
    obtain ⟨k, hk, rfl, hno, bel⟩ := hrel
    have HNO := Lib.hid hno
    clear hno
    by_cases hlt : k < n
    · obtain ⟨b, off, rfl, hb, y0, y1, y2, y3, y4, y5⟩ := evAt HL.out (hr.below (bel.mono hB)) hlt
      have hcell := (bel.cell (p := ⟨gb, 0, none⟩) hgb).trans h
      have CL := Lib.hid (fun W hc => closure_ok p (ws.getD k (0, 0)).1 (ws.getD k (0, 0)).2 id gb W hc)
      have HK := Lib.hid (show ∀ i, (ws.getD k (0, 0)).1 = i → i ≠ id → ∀ t, t < k + 1 → (ws.getD t (0, 0)).1 ≠ id from fun i hi hne t ht => by
        rcases Nat.lt_or_ge t k with h' | h'
        · exact HNO.out t h'
        · obtain rfl : t = k := by omega
          rw [hi]; exact hne)
      have HF := Lib.hid (show (ws.getD k (0, 0)).1 = id → r = (k : Int) from fun hi => by
        rcases HID.out with ⟨k', h1, h2, h3, h4⟩ | ⟨h1, h2⟩
        · rcases Nat.lt_trichotomy k k' with hh | hh | hh
          · exact absurd hi (h4 k hh)
          · rw [h2, hh]
          · exact absurd h3 (HNO.out k' hh)
        · exact absurd hi (h2 k (by rw [HL.out]; exact hlt)))
      have HKI : ∀ i, (ws.getD k (0, 0)).1 = i → Hid (∀ j, i = j → True) := fun _ _ => Lib.hid (fun _ _ => trivial)
      obtain ⟨i, hi⟩ : ∃ i, (ws.getD k (0, 0)).1 = i := ⟨_, rfl⟩
      have HK2 := Lib.hid (HK.out i hi)
      rw [hi] at y2 CL HF
      generalize (ws.getD k (0, 0)).2 = bd at *
      clear hi HK HKI hr
      have hI : (k : Int) < (n : Int) := by omega
      have i1 : IntKind.i64.wrap ((k : Int) + 1) = (k : Int) + 1 := IntWalk.i64_in _ (by omega)
      have zb : b < wr.heap.size := by have := bel.size; omega
      go_wp2_with fail
      refine (CL.out _ hcell).mono ?_
      rintro e w2 ⟨rfl, b2⟩
      have bel2 := bel.trans (b2.mono bel.size)
      clear CL hcell y0 y1 y2 y3 y4 y5 bel b2 zb
      by_cases heq : i = id
      · have hb1 : (i == id) = true := by rw [beq_iff_eq]; exact heq
        have HRK := Lib.hid (HF.out heq)
        rw [hb1]
        clear hb1 heq HF HID
        go_wp2_with fail
        go_ret
        exact ⟨by rw [HRK.out]; rfl, bel2⟩
      · have hb1 : (i == id) = false := by rw [beq_eq_false_iff_ne]; exact heq
        rw [hb1]
        have hk3 := Lib.hid (HK2.out heq)
        clear hb1 heq HF HK2
        go_wp2_with fail
        go_roundw
        case rel => exact ⟨k + 1, by omega, by go_num, hk3.out, bel2⟩
        case measure => simp [intOf]; omega
    · obtain rfl : k = n := by omega
      have hrm : r = -1 := by
        rcases HID.out with ⟨k', h1, h2, h3, h4⟩ | ⟨h1, h2⟩
        · exact absurd h3 (HNO.out k' (by rw [← HL.out]; exact h1))
        · exact h1
      have HRM := Lib.hid hrm
      clear hrm hr
      go_wp2_with fail
      go_ret
      exact ⟨by rw [HRM.out]; rfl, bel⟩

theorem Blk.setCells {t : TypeId} {g : Nat} : ∀ (vs : List Value) (o : Nat) (w : World) (cs : Array Value), Blk w g t cs → o + vs.length ≤ cs.size → ∃ cs', Blk (w.setCells g o vs) g t cs' ∧ cs'.toList = cs.toList.take o ++ vs ++ cs.toList.drop (o + vs.length) ∧ cs'.size = cs.size
  | [], o, w, cs, h, hl => ⟨cs, h, by simp, rfl⟩
  | v :: vs, o, w, cs, h, hl => by
    simp only [List.length_cons] at hl
    obtain ⟨cs', h1, h2, h3⟩ := Blk.setCells vs (o + 1) (w.setCell ⟨g, o, none⟩ v) (cs.setIfInBounds o v) (h.set_ o v) (by simp; omega)
    refine ⟨cs', h1, ?_, by simpa using h3⟩
    rw [h2, Array.toList_setIfInBounds]
    have hlen : o < cs.toList.length := by simp; omega
    have e1 : (cs.toList.set o v).take (o + 1) = cs.toList.take o ++ [v] := by
      have hto : (cs.toList.take o).length = o := by rw [List.length_take]; omega
      rw [List.set_eq_take_append_cons_drop, if_pos hlen, List.take_append, List.take_of_length_le (by omega), hto, show o + 1 - o = 1 by omega]
      rfl
    have e2 : (cs.toList.set o v).drop (o + 1 + vs.length) = cs.toList.drop (o + (vs.length + 1)) := by
      rw [List.drop_set_of_lt (by omega)]
      congr 1
      omega
    rw [e1, e2]
    simp [List.append_assoc]

theorem run_clear_struct {P : Program} (w : World) (t e ty : TypeId) (z : Value) (zs : List Value) (ht : P.underlying t = some (.slice e)) (hv : ∀ w, (zeroValue e).run P w = .ok z w) (hzc : (Builtin.zeroCells z.cells 1).toList = zs) (h1 : ∀ v ∈ zs, v.oneCell' = true) (b o c : Nat)
    (hc : ∀ j, j < zs.length → (w.cell? ⟨b, o + j, none⟩).isSome = true) (hf : ∀ j, j < zs.length → w.frozen? ⟨b, o + j, none⟩ = false) :
    (Builtin.clear_ #[t] ty #[.slice (some ⟨b, o, none⟩) 1 c]).run P w = .ok (.tuple #[]) (w.setCells b o zs) := by
  have hst := run_storeCells_cells (P := P) b o zs 0 w (by simpa using hc) (by simpa using hf) h1
  simp only [Nat.add_zero] at hst
  simp [Builtin.clear_, run_underlying ht, hv, hzc, hst]

theorem Blk.some_ {w : World} {g : Nat} {t : TypeId} {cs : Array Value} (h : Blk w g t cs) (i : Nat) (hi : i < cs.size) : (w.cell? ⟨g, i, none⟩).isSome = true := by
  rw [h.cell i, Array.getElem?_eq_getElem hi]; rfl

theorem below_setCells' {B b : Nat} {a : World} (hb : B ≤ b) : ∀ (vs : List Value) (o : Nat) (w : World), Below B a w → Below B a (w.setCells b o vs)
  | [], _, _, h => h
  | v :: vs, o, w, h => below_setCells' hb vs (o + 1) (w.setCell ⟨b, o, none⟩ v) (h.setCell hb v)

def zeros6 : List Value := [.int .i64 0, .int .i64 0, .int .i64 0, .int .i64 0, .int .i64 0, .int .i64 0]
theorem ev_zero (w : World) : (zeroValue 58).run Try.prog w = .ok (.agg #[.int .i64 0, .int .i64 0, .int .i64 0, .int .i64 0, .int .i64 0, .int .i64 0]) w := by kernel_rfl

/-- one is taken out, in place -/
def DelPost (w : World) (base g cap n : Nat) (xs : List Value) (e : Ending) (w' : World) : Prop :=
  e = .returned (.slice (some ⟨g, 0, none⟩) n cap) ∧ w'.ownsRow base 58 6 (.slice (some ⟨g, 0, none⟩) n cap) n xs ∧ Below g w w'

set_option maxHeartbeats 1000000 in
theorem delete_ev (base g cap n k : Nat) (xs : List Value) (w : World) (h : w.ownsRow base 58 6 (.slice (some ⟨g, 0, none⟩) n cap) n xs) (hx : ∀ u ∈ xs, u.oneCell' = true) (hk : k < n) (hn : n ≤ 100) :
    Calls Try.prog 28 #[.slice (some ⟨g, 0, none⟩) n cap, .int .i64 k, .int .i64 ((k : Int) + 1)] w (DelPost w base g cap (n - 1) (xs.take (k * 6) ++ xs.drop ((k + 1) * 6))) := by
  obtain ⟨i0, hi0, hz0, hz1, hz2⟩ := info_parts ev_info
  obtain ⟨hxl, ⟨h1, _⟩ | ⟨g', cap', cur, hv, hbase, hh, hnc, hm, hcs, htk⟩⟩ := h
  · cases h1
  injection hv with e1 e2 e3
  injection e1 with e1
  injection e1 with e1
  subst e1 e3
  have hB : Blk w g 58 cur := hh
  have hBd : Blk w.drew g 58 cur := hB
  obtain ⟨news, hnews⟩ : ∃ news, xs.drop ((k + 1) * 6) = news := ⟨_, rfl⟩
  have hnl : news.length = (n - (k + 1)) * 6 := by rw [← hnews, List.length_drop, hxl]; omega
  have hcl : cur.toList.length = cap * 6 := by simp [hcs]
  have hsrc : Hid (∀ j u, news[j]? = some u → w.drew.cell? ((⟨g, (k + 1) * 6, none⟩ : Addr).add j) = some u) := by
    intro j u hu
    have e : (⟨g, (k + 1) * 6, none⟩ : Addr).add j = ⟨g, (k + 1) * 6 + j, none⟩ := by
      unfold Addr.add
      by_cases h : j = 0 <;> simp [h]
    rw [e, hBd.cell]
    rw [← hnews, List.getElem?_drop, ← htk, List.getElem?_take] at hu
    split at hu
    · simpa using hu
    · cases hu
  have s1 : Hid (news.length = (n - (k + 1)) * 6) := hnl
  have s2 : Hid (∀ u ∈ news, u.oneCell' = true) := fun u hu => hx u (List.mem_of_mem_drop (by rw [hnews]; exact hu))
  have s3 : Hid (∀ j, j < news.length → (w.drew.cell? ⟨g, 0 + k * 6 + j, none⟩).isSome = true ∧ w.drew.frozen? ⟨g, 0 + k * 6 + j, none⟩ = false) := fun j hj => ⟨hBd.some_ _ (by rw [hcs]; omega), hBd.frozen _⟩
  obtain ⟨cur1, hB1, ht1, hs1⟩ := Blk.setCells news (0 + k * 6) w.drew cur hBd (by rw [hnl, hcs]; omega)
  obtain ⟨W1, hW1⟩ : ∃ W1, w.drew.setCells g (0 + k * 6) news = W1 := ⟨_, rfl⟩
  have HW1 := Lib.hid hW1
  rw [hW1] at hB1
  obtain ⟨cur2, hB2, ht2, hs2⟩ := Blk.setCells zeros6 ((n - 1) * 6) W1 cur1 hB1 (by rw [hs1, hcs]; simp [zeros6]; omega)
  have hcl2 : ∀ ty, (Builtin.clear_ #[43] ty #[.slice (some ⟨g, (n - 1) * 6, none⟩) 1 (cap - (n - 1))]).run Try.prog W1 = .ok (.tuple #[]) (W1.setCells g ((n - 1) * 6) zeros6) := fun ty =>
    run_clear_struct W1 _ 58 ty _ zeros6 Try.underlying43 ev_zero (by kernel_rfl) (by intro v hv; simp [zeros6] at hv; subst hv; rfl) g ((n - 1) * 6) _ (fun j hj => hB1.some_ _ (by rw [hs1, hcs]; simp [zeros6] at hj; omega)) (fun j _ => hB1.frozen _)
  have FIN : DelPost w base g cap (n - 1) (xs.take (k * 6) ++ news) (.returned (.slice (some ⟨g, 0, none⟩) (n - 1) cap)) (W1.setCells g ((n - 1) * 6) zeros6) := by
    refine ⟨rfl, ⟨by rw [List.length_append, List.length_take, hxl, hnl]; omega, .inr ⟨g, cap, cur2, rfl, hbase, hB2, by omega, hm, by rw [hs2, hs1, hcs], ?_⟩⟩, ?_⟩
    · rw [ht2, ht1, List.append_assoc, List.take_append_of_le_length (by simp; omega), List.take_take, Nat.min_self, Nat.zero_add]
      have e4 : cur.toList.take (k * 6) = xs.take (k * 6) := by rw [← htk, List.take_take, Nat.min_eq_left (by omega)]
      rw [e4]
      exact List.take_left' (by rw [List.length_append, List.length_take, hxl, hnl]; omega)
    · rw [← hW1]
      exact below_setCells' (Nat.le_refl _) _ _ _ (below_setCells' (Nat.le_refl _) _ _ _ (Below.refl _ _).drew)
  have FH := Lib.hid FIN
  rw [hnews]
  generalize DelPost w base g cap (n - 1) (xs.take (k * 6) ++ news) = POST at *
  clear FIN hB hBd hB1 hB2 ht1 ht2 hs1 hs2 hcs htk hh hnews hnl hcl hW1 hx hxl
  have hkI : (k : Int) < (n : Int) := by omega
  have hkI2 : (k : Int) + 1 ≤ (n : Int) := by omega
  have hcI : (n : Int) ≤ (cap : Int) := by omega
  have i1 : IntKind.i64.wrap ((k : Int) + 1) = (k : Int) + 1 := IntWalk.i64_in _ (by omega)
  have hkn : k + (n - (k + 1)) = n - 1 := by omega
  have hn1 : n - (n - 1) = 1 := by omega
  have hkc : (k : Int) ≤ (cap : Int) := by omega
  have hkc1 : (k : Int) ≤ (k : Int) + 1 := by omega
  have hkc2 : (k : Int) + 1 ≤ (cap : Int) := by omega
  have hkN : k ≤ cap := by omega
  have hk0 : (0 : Int) ≤ (k : Int) + 1 := by omega
  have hkN1 : k + 1 ≤ n := by omega
  by_cases hck : cap = k + 1
  · subst hck
    obtain rfl : n = k + 1 := by omega
    have hsrc0 : Hid (∀ j u, news[j]? = some u → w.drew.cell? ((⟨g, 0, none⟩ : Addr).add j) = some u) := by
      intro j u hu
      have h0 : news.length = 0 := by rw [s1.out]; omega
      rw [List.length_eq_zero_iff.1 h0] at hu
      simp at hu
    have s0 : Hid (news.length = 0 * 6) := by rw [Nat.zero_mul]; have := s1.out; rw [Nat.sub_self, Nat.zero_mul] at this; exact this
    simp only [Nat.add_sub_cancel, Nat.add_sub_cancel_left] at hcl2 FH
    clear hkn hn1
    go_enter Try.func28, Try.ntmps28
    go_wp2_with fail
    go_region_law (refine step_append_room rfl (.tmp 22) (.tmp 25) 43 rfl 58 i0 6 Try.underlying43 hi0 hz1 g 0 k (k + 1) (by simp [Act.eval, Act.put]) ⟨g, 0, none⟩ 0 0 news (by simp [Act.eval, Act.put]) s0.out hsrc0.out s2.out (by omega) s3.out ?_; rw [HW1.out])
    all_goals
      go_wp2_with fail
      exact FH.out
  · have hck2 : ¬ cap ≤ k + 1 := by omega
    go_enter Try.func28, Try.ntmps28
    go_wp2_with fail
    go_region_law (refine step_append_room rfl (.tmp 22) (.tmp 25) 43 rfl 58 i0 6 Try.underlying43 hi0 hz1 g 0 k cap (by simp [Act.eval, Act.put]) ⟨g, (k + 1) * 6, none⟩ (n - (k + 1)) (cap - (k + 1)) news (by simp [Act.eval, Act.put]) s1.out hsrc.out s2.out (by omega) s3.out ?_; rw [HW1.out])
    all_goals
      go_wp2_with fail
      exact FH.out

theorem evRow_del (p : Int) (ws : List (Int × Int)) (k : Nat) (hk : k < ws.length) : evRow p (ws.take k ++ ws.drop (k + 1)) = (evRow p ws).take (k * 6) ++ (evRow p ws).drop ((k + 1) * 6) := by
  have e1 : ∀ a b : List (Int × Int), evRow p (a ++ b) = evRow p a ++ evRow p b := fun a b => by unfold evRow; rw [List.map_append, rowCells_append]
  have h1 : (evRow p ws).take (k * 6) = evRow p (ws.take k) := by
    have h2 : (evRow p (ws.take k)).length = k * 6 := by rw [evRow_len, List.length_take]; congr 1; omega
    conv => lhs; rw [← List.take_append_drop k ws, e1, ← h2]
    rw [List.take_left]
  have h3 : (evRow p ws).drop ((k + 1) * 6) = evRow p (ws.drop (k + 1)) := by
    have h2 : (evRow p (ws.take (k + 1))).length = (k + 1) * 6 := by rw [evRow_len, List.length_take]; congr 1; omega
    conv => lhs; rw [← List.take_append_drop (k + 1) ws, e1, ← h2]
    rw [List.drop_left]
  rw [e1, h1, h3]

def DonePost (w : World) (p nx : Int) (n : Nat) (xs : List Value) (f : Nat → Int) (e : Ending) (w' : World) : Prop :=
  ∃ v, e = .returned (.tuple #[.agg (cliCells p nx v f), .int .i64 0]) ∧ w'.ownsRow w.heap.size 58 6 v n xs ∧ Below w.heap.size w w'

set_option maxHeartbeats 2000000 in
theorem cdone_ok (p nx : Int) (A : Option Addr) (n c B : Nat) (ws : List (Int × Int)) (f : Nat → Int) (id : Int) (k : Nat) (w : World) (h : ClOk p nx ws f) (hl : ws.length = n) (hn : n ≤ 100) (hnc : n ≤ c) (hr : Reads w B 6 A n (evRow p ws)) (hB : B ≤ w.heap.size)
    (hk : k < n) (hid : (ws.getD k (0, 0)).1 = id) (hno : ∀ t, t < k → (ws.getD t (0, 0)).1 ≠ id) :
    Calls Try.prog 19 #[.agg (cliCells p nx (.slice A n c) f), .int .i64 id] w (DonePost w p nx (n - 1) (evRow p (ws.take k ++ ws.drop (k + 1))) f) := by
  have CC := Lib.hid (fun W hr hb => ccheck_ok p nx A n c B ws f W h hl hn hr hb)
  have CI := Lib.hid (fun gb W hr hb hc => index_ev p A n c B ws id k gb W hl hn hr hb hc (.inl ⟨k, by omega, rfl, hid, hno⟩))
  have CO := Lib.hid (fun W hr hb => own_ok p nx A n c B (evRow p ws) f W hr (evRow_one p ws) hnc (by omega) hb)
  have CD := Lib.hid (fun base g cp W ho => delete_ev base g cp n k (evRow p ws) W ho (evRow_one p ws) hk hn)
  rw [evRow_del p ws k (by omega)]
  have HP := Lib.hid (show ∀ v w', w'.ownsRow w.heap.size 58 6 v (n - 1) ((evRow p ws).take (k * 6) ++ (evRow p ws).drop ((k + 1) * 6)) → Below w.heap.size w w' → DonePost w p nx (n - 1) ((evRow p ws).take (k * 6) ++ (evRow p ws).drop ((k + 1) * 6)) f (.returned (.tuple #[.agg (cliCells p nx v f), .int .i64 0])) w' from fun v w' h1 h2 => ⟨v, rfl, h1, h2⟩)
  generalize DonePost w p nx (n - 1) ((evRow p ws).take (k * 6) ++ (evRow p ws).drop ((k + 1) * 6)) f = POST at *
  obtain ⟨E, D, F, bel⟩ := blk3' w 46 3 46 (cliCells p nx (.slice A n c) f) #[.int .i64 id] (cliCells 0 0 (.slice none 0 0) (fun _ => 0))
  have hr2 := ((hr.alloc hB (.cells (cliCells p nx (.slice A n c) f) 46)).alloc (by simp; omega) (.cells #[.int .i64 id] 3)).alloc (by simp; omega) (.cells (cliCells 0 0 (.slice none 0 0) (fun _ => 0)) 46)
  clear h hid hno hr hl
  unfold cliCells at *
  go_enter Try.func19, Try.ntmps19
  go_wp2_with fail
  refine (CC.out _ hr2 (by simp; omega)).mono ?_
  rintro e w1 ⟨rfl, b1⟩
  have E1 := E.below b1 E.lt
  have D1 := D.below b1 D.lt
  have F1 := F.below b1 F.lt
  have bel1 := bel.trans (b1.mono (by simp; omega))
  have hr3 := hr2.below (b1.mono (by simp; omega))
  have hq1 := bel1.size
  clear CC E D F bel b1 hr2
  have x0 := E1.cell 0
  have x1 := E1.cell 1
  have x2 := E1.cell 2
  have x3 := E1.cell 3
  have x4 := E1.cell 4
  have x5 := E1.cell 5
  have x6 := E1.cell 6
  go_wp2_with fail
  refine (CI.out _ _ hr3 (by omega) (D1.cell 0)).mono ?_
  rintro e w2 ⟨rfl, b2⟩
  have E2 := E1.below b2 E1.lt
  have F2 := F1.below b2 F1.lt
  have bel2 := bel1.trans (b2.mono hq1)
  have hr4 := hr3.below (b2.mono (by omega))
  have hq2 := bel2.size
  clear CI E1 D1 F1 bel1 b2 hr3 hq1 x0 x1 x2 x3 x4 x5 x6
  have x0 := E2.cell 0
  have x1 := E2.cell 1
  have x2 := E2.cell 2
  have x3 := E2.cell 3
  have x4 := E2.cell 4
  have x5 := E2.cell 5
  have x6 := E2.cell 6
  have hk0 : ¬ (k : Int) < 0 := by omega
  have i1 : IntKind.i64.wrap ((k : Int) + 1) = (k : Int) + 1 := IntWalk.i64_in _ (by omega)
  go_wp2_with fail
  refine (CO.out _ hr4 (by omega)).mono ?_
  rintro e w3 ⟨v, rfl, o3, b3⟩
  obtain ⟨g, cp, rfl, hcp, hcp2, hgb, hgl⟩ := own_head o3 (by omega)
  have E3 := E2.below b3 E2.lt
  have F3 := F2.below b3 F2.lt
  have bel3 := bel2.trans (b3.mono hq2)
  have o4 := own_base (base' := w.heap.size) o3 hq2
  have hFg : w.heap.size + 1 + 1 < g := by have := F2.lt; omega
  clear CO E2 F2 bel2 b3 hr4 x0 x1 x2 x3 x4 x5 x6 o3
  have n1 := own_blk_ne o4 E3 (by decide)
  have x0 := E3.cell 0
  have x1 := E3.cell 1
  have x2 := E3.cell 2
  have x3 := E3.cell 3
  have x4 := E3.cell 4
  have x5 := E3.cell 5
  have x6 := E3.cell 6
  have xf := E3.frozen
  have zE := E3.lt
  have E4 := putFrom_blk E3 [.int .i64 p, .int .i64 nx, .slice (some ⟨g, 0, none⟩) n cp, .int .i64 (f 0), .int .i64 (f 1), .int .i64 (f 2), .int .i64 (f 3)] rfl
  have F4 := putFrom_far (g := w.heap.size) (show w.heap.size + 1 + 1 ≠ w.heap.size by omega) [.int .i64 p, .int .i64 nx, .slice (some ⟨g, 0, none⟩) n cp, .int .i64 (f 0), .int .i64 (f 1), .int .i64 (f 2), .int .i64 (f 3)] 0 _ F3
  have o5 := putFrom_own (g := w.heap.size) n1 [.int .i64 p, .int .i64 nx, .slice (some ⟨g, 0, none⟩) n cp, .int .i64 (f 0), .int .i64 (f 1), .int .i64 (f 2), .int .i64 (f 3)] 0 _ o4
  have bel4 := putFrom_below (g := w.heap.size) (Nat.le_refl w.heap.size) [.int .i64 p, .int .i64 nx, .slice (some ⟨g, 0, none⟩) n cp, .int .i64 (f 0), .int .i64 (f 1), .int .i64 (f 2), .int .i64 (f 3)] 0 _ bel3
  unfold cliCells
  go_wp2_with fail
  rw [put7_eq]
  generalize putFrom w3 w.heap.size 0 [.int .i64 p, .int .i64 nx, .slice (some ⟨g, 0, none⟩) n cp, .int .i64 (f 0), .int .i64 (f 1), .int .i64 (f 2), .int .i64 (f 3)] = w4 at *
  clear x0 x1 x2 x3 x4 x5 x6 xf zE E3 F3 bel3 o4 n1
  refine (CD.out w.heap.size g cp w4 o5).mono ?_
  rintro e w5 ⟨rfl, o6, b6⟩
  have E5 := E4.below b6 (by omega)
  have F5 := F4.below b6 (by omega)
  have bel5 := bel4.trans (b6.mono (by omega))
  clear CD E4 F4 bel4 b6 o5
  have n1 := own_blk_ne o6 E5 (by decide)
  have n2 := own_blk_ne o6 F5 (by decide)
  have E6 : Blk (w5.setCell ⟨w.heap.size, 2, none⟩ (.slice (some ⟨g, 0, none⟩) (n - 1) cp)) w.heap.size 46 #[.int .i64 p, .int .i64 nx, .slice (some ⟨g, 0, none⟩) (n - 1) cp, .int .i64 (f 0), .int .i64 (f 1), .int .i64 (f 2), .int .i64 (f 3)] := E5.set_ 2 (.slice (some ⟨g, 0, none⟩) (n - 1) cp)
  have F6 := F5.far (p := ⟨w.heap.size, 2, none⟩) (by simp; omega) (.slice (some ⟨g, 0, none⟩) (n - 1) cp)
  have o7 := ownsRow_setCell_other (a := ⟨w.heap.size, 2, none⟩) o6 n1 (.slice (some ⟨g, 0, none⟩) (n - 1) cp)
  have bel6 := bel5.setCell (p := ⟨w.heap.size, 2, none⟩) (Nat.le_refl _) (.slice (some ⟨g, 0, none⟩) (n - 1) cp)
  have x2 : w5.cell? ⟨w.heap.size, 2, none⟩ = some (.slice (some ⟨g, 0, none⟩) n cp) := E5.cell 2
  have xf := E5.frozen
  have x0 := E5.cell 0
  have x1 := E5.cell 1
  have x3 := E5.cell 3
  have x4 := E5.cell 4
  have x5 := E5.cell 5
  have x6 := E5.cell 6
  have y0 := F5.cell 0
  have y1 := F5.cell 1
  have y2 := F5.cell 2
  have y3 := F5.cell 3
  have y4 := F5.cell 4
  have y5 := F5.cell 5
  have y6 := F5.cell 6
  have yf := F5.frozen
  have hfin := HP.out _ _ (putFrom_own (g := w.heap.size + 1 + 1) n2 [.int .i64 p, .int .i64 nx, .slice (some ⟨g, 0, none⟩) (n - 1) cp, .int .i64 (f 0), .int .i64 (f 1), .int .i64 (f 2), .int .i64 (f 3)] 0 _ o7) (putFrom_below (g := w.heap.size + 1 + 1) (by omega) [.int .i64 p, .int .i64 nx, .slice (some ⟨g, 0, none⟩) (n - 1) cp, .int .i64 (f 0), .int .i64 (f 1), .int .i64 (f 2), .int .i64 (f 3)] 0 _ bel6)
  clear E6 F6 E5 F5 o6 o7 bel5 bel6 n1 n2 HP
  go_wp2_with fail
  exact bodyPost_ret (v := .tuple #[.agg #[.int .i64 p, .int .i64 nx, .slice (some ⟨g, 0, none⟩) (n - 1) cp, .int .i64 (f 0), .int .i64 (f 1), .int .i64 (f 2), .int .i64 (f 3)], .int .i64 0]) (by simp [results, Try.results19, go_sem, *]) rfl (by rw [put7_eq]; exact hfin)

set_option maxHeartbeats 1000000 in
theorem cdone_none (p nx : Int) (A : Option Addr) (n c B : Nat) (ws : List (Int × Int)) (f : Nat → Int) (id : Int) (w : World) (h : ClOk p nx ws f) (hl : ws.length = n) (hn : n ≤ 100) (hr : Reads w B 6 A n (evRow p ws)) (hB : B ≤ w.heap.size)
    (hno : ∀ t, t < n → (ws.getD t (0, 0)).1 ≠ id) :
    Calls Try.prog 19 #[.agg (cliCells p nx (.slice A n c) f), .int .i64 id] w (Puts2 w (.agg (cliCells 0 0 (.slice none 0 0) (fun _ => 0))) (.int .i64 7)) := by
  have CC := Lib.hid (fun W hr hb => ccheck_ok p nx A n c B ws f W h hl hn hr hb)
  have CI := Lib.hid (fun gb W hr hb hc => index_ev p A n c B ws id (-1) gb W hl hn hr hb hc (.inr ⟨rfl, by rw [hl]; exact hno⟩))
  have HP := Lib.hid (show ∀ w', Below w.heap.size w w' → Puts2 w (.agg (cliCells 0 0 (.slice none 0 0) (fun _ => 0))) (.int .i64 7) (.returned (.tuple #[.agg (cliCells 0 0 (.slice none 0 0) (fun _ => 0)), .int .i64 7])) w' from fun w' h => ⟨rfl, h⟩)
  generalize Puts2 w (.agg (cliCells 0 0 (.slice none 0 0) (fun _ => 0))) (.int .i64 7) = POST at *
  obtain ⟨E, D, F, bel⟩ := blk3' w 46 3 46 (cliCells p nx (.slice A n c) f) #[.int .i64 id] (cliCells 0 0 (.slice none 0 0) (fun _ => 0))
  have hr2 := ((hr.alloc hB (.cells (cliCells p nx (.slice A n c) f) 46)).alloc (by simp; omega) (.cells #[.int .i64 id] 3)).alloc (by simp; omega) (.cells (cliCells 0 0 (.slice none 0 0) (fun _ => 0)) 46)
  clear h hno hr hl
  unfold cliCells at *
  go_enter Try.func19, Try.ntmps19
  go_wp2_with fail
  refine (CC.out _ hr2 (by simp; omega)).mono ?_
  rintro e w1 ⟨rfl, b1⟩
  have E1 := E.below b1 E.lt
  have D1 := D.below b1 D.lt
  have F1 := F.below b1 F.lt
  have bel1 := bel.trans (b1.mono (by simp; omega))
  have hr3 := hr2.below (b1.mono (by simp; omega))
  have hq1 := bel1.size
  clear CC E D F bel b1 hr2
  have x2 := E1.cell 2
  go_wp2_with fail
  refine (CI.out _ _ hr3 (by omega) (D1.cell 0)).mono ?_
  rintro e w2 ⟨rfl, b2⟩
  have F2 := F1.below b2 F1.lt
  have hbel := bel1.trans (b2.mono hq1)
  clear CI E1 D1 F1 bel1 b2 hr3 hq1 x2
  have y0 := F2.cell 0
  have y1 := F2.cell 1
  have y2 := F2.cell 2
  have y3 := F2.cell 3
  have y4 := F2.cell 4
  have y5 := F2.cell 5
  have y6 := F2.cell 6
  have yf := F2.frozen
  go_wp2_with fail
  exact bodyPost_ret (v := .tuple #[.agg #[.int .i64 0, .int .i64 0, .slice none 0 0, .int .i64 0, .int .i64 0, .int .i64 0, .int .i64 0], .int .i64 7]) (by simp [results, Try.results19, go_sem, *]) rfl (HP.out _ (by (repeat' (first | with_reducible exact hbel | with_reducible refine Below.setCell ?_ ?_ _)) <;> (simp <;> omega)))

end Go.Proofs.Ytcbpgmpbjcknbaa
