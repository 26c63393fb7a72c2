/- RebuildMove: for every input the law returns true. The walk lies in XLawRebuildMove; here the row's frame. Conditions: none. -/
import Derived.Test.YtjmncbfmjeeneaaRows
import Derived.OpenShut
import Derived.ChangeOld
import Derived.Test.YtjmncbfmjeeneaaRB8

namespace Go.Proofs.Ytjmncbfmjeeneaa
open Go.RowKit

theorem ppost_to {P : Program} {f : FuncId} {args : Array Value} {w W : World} {J : List It} {es : List Ev} {last last' : Bool} {p : Nat} (hl : es.length = p) (hb : last = last') (h : Calls P f args W (PPost w J es last)) :
    Calls P f args W (fun ed w' => ∃ A c, ed = .returned (.tuple #[.slice A p c, .bool last', .int .i64 0]) ∧ p ≤ c ∧ St w w' (evIt A es :: J)) := by
  subst hl hb
  exact h
theorem here_allocAt (d : Nat) {P : Program} {ops : Array Oper} {rest : List Oper} {ty : TypeId} {t : TypeId} {p : String} {af : Array Edge} {gd : Option (Nat × Bool)} {a : Act} {w : World} {Q : Exit → Act → World → Prop} (h : wpList P ops Q (⟨some d, .alloc ty, t, p, af, gd⟩ :: rest) a w) : wpList P ops Q (⟨some d, .alloc ty, t, p, af, gd⟩ :: rest) a w := h
/-- the source's state while the queue is on its way: behind i rounds, j of its events are there -/
def MvR (q ro r : Int) (i : Nat) (fs : List Ev) (ms j e : Nat) : Prop :=
  (⟨ro, q, 0, 3, r, fs⟩ : BM).Ok 40 ∧ j ≤ ms ∧ ((ro = 2 ∧ r = i ∧ i ≤ 4 ∧ ms ≤ 30 + i + e) ∨ (ro = 3 ∧ r = 0 ∧ 1 ≤ i ∧ i ≤ 5 + j ∧ ms ≤ 35))
theorem MvR.more {q ro r : Int} {i : Nat} {fs : List Ev} {ms j e : Nat} (h : MvR q ro r i fs ms j e) : MvR q ro r i fs ms j (e + 1) := ⟨h.1, h.2.1, by have := h.2.2; omega⟩
/-- an event is served -/
theorem MvR.serve {q ro r : Int} {i : Nat} {fs : List Ev} {ms j : Nat} (h : MvR q ro r i fs ms j 0) (hl : fs.length = ms) (x : Ev) (hx : x.check = 0) :
    ∃ fs' a b, (⟨ro, q, 0, 3, r, fs⟩ : BM).serve x = (⟨ro, q, 0, 3, r, fs'⟩, a, b) ∧ MvR q ro r i fs' fs'.length j 1 ∧ fs'.take j = fs.take j := by
  obtain ⟨h1, h2, h3⟩ := h
  have h4 := h1.serve x hx
  have hlen := BM.serve_len ⟨ro, q, 0, 3, r, fs⟩ x
  have hq1 : 1 ≤ q ∧ q ≤ 1048576 := by
    rcases h1.shape with h | h
    · have := h.1
      dsimp only at this
      omega
    · exact ⟨h.1, h.2.1⟩
  unfold BM.serve at h4 hlen ⊢
  dsimp only at h4 hlen ⊢
  rcases h3 with ⟨rfl, e2, e3, e4⟩ | ⟨rfl, e2, e3, e4, e5⟩
  · rw [if_neg (by decide), if_pos (by decide)] at h4 ⊢
    split
    · next hc =>
      rw [if_pos hc] at h4
      refine ⟨_, _, _, rfl, ⟨⟨h4.shape, h4.chk, ?_, h4.told⟩, ?_, .inl ⟨rfl, e2, e3, ?_⟩⟩, ?_⟩
      · simp; omega
      · simp; omega
      · simp; omega
      · rw [List.take_append_of_le_length (by omega)]
    · exact ⟨_, _, _, rfl, ⟨h1, by omega, .inl ⟨rfl, e2, e3, by omega⟩⟩, rfl⟩
  · rw [if_pos rfl]
    exact ⟨_, _, _, rfl, ⟨h1, by omega, .inr ⟨rfl, e2, e3, e4, by omega⟩⟩, rfl⟩
/-- the target tells how far it is -/
theorem MvR.caught {q ro r : Int} {i : Nat} {fs : List Ev} {ms j : Nat} (h : MvR q ro r i fs ms j 1) (hl : fs.length = ms) :
    ∃ ro2 r2, (⟨ro, q, 0, 3, r, fs⟩ : BM).caughtR j = (⟨ro2, q, 0, 3, r2, fs⟩, 0) ∧ (⟨ro2, q, 0, 3, r2, fs⟩ : BM).Ok 40 ∧ (ro2 = 2 ∨ ro2 = 3) ∧ ms ≤ 35 ∧ i ≤ 5 + j ∧
      ((ro2 = 2 ∧ r2 = ((i + 1 : Nat) : Int) ∧ i + 1 ≤ 4 ∧ ms ≤ 30 + (i + 1) ∧ j < ms) ∨ (ro2 = 3 ∧ r2 = 0)) := by
  obtain ⟨h1, h2, h3⟩ := h
  have h4 := h1.caughtR j
  unfold BM.caughtR BM.caught at h4 ⊢
  dsimp only at h4 ⊢
  rcases h3 with ⟨rfl, e2, e3, e4⟩ | ⟨rfl, e2, e3, e4, e5⟩
  · rw [if_neg (by omega), if_neg (by omega), if_neg (by omega)] at h4 ⊢
    split
    · next hc =>
      rw [if_pos hc] at h4
      exact ⟨_, _, rfl, h4, .inr rfl, by omega, by omega, .inr ⟨rfl, rfl⟩⟩
    · next hc =>
      rw [if_neg hc] at h4
      exact ⟨_, _, rfl, h4, .inl rfl, by omega, by omega, .inl ⟨rfl, by omega, by omega, by omega, by omega⟩⟩
  · rw [if_neg (by omega), if_neg (by omega), if_pos rfl] at h4 ⊢
    exact ⟨_, _, rfl, h4, .inr rfl, by omega, by omega, .inr ⟨rfl, e2⟩⟩
/-- what 'moved' gives -/
def MPost (w0 : World) (I : List It) (q : Int) (ed : Ending) (w' : World) : Prop :=
  ∃ (fs : List Ev) (m : Nat) (A : Option Addr) (c : Nat) (B : Option Addr) (d : Nat), ed = .returned (.tuple #[.agg #[.int .i64 3, .int .i64 q, .int .i64 0, .int .i64 3, .int .i64 0, .slice A m c], .agg #[.int .i64 1, .int .i64 (q + 1), .int .i64 0, .int .i64 0, .int .i64 0, .slice B (m + 1) d], .bool true]) ∧ fs.length = m ∧ m ≤ 40 ∧ (⟨3, q, 0, 3, 0, fs⟩ : BM).Ok 40 ∧ m ≤ c ∧ m + 1 ≤ d ∧ St w0 w' (evIt A fs :: evIt B (fs ++ [⟨4, 0, 0, 0, 0, 0⟩]) :: I)
set_option maxRecDepth 100000 in
set_option maxHeartbeats 8000000 in
theorem moved_st {w w1 : World} {I : List It} (ep : Int) (A : Option Addr) (n c : Nat) (rows : List (List Int)) (A2 : Option Addr) (n2 c2 : Nat) (rows2 : List (List Int)) (A3 : Option Addr) (n3 c3 : Nat) (zs : List Bool) (h0 : Is64 ep) (h : IsRows 4 32 w A n c rows) (h2 : IsRows 4 32 w A2 n2 c2 rows2) (h3 : IsBools 1 w A3 n3 c3 zs) (H : St w w1 I) :
    Calls Try.prog 23 #[.int .i64 ep, .slice A n c, .slice A2 n2 c2, .slice A3 n3 c3] w1 (MPost w I (1 + pick ep 1000)) := by
  have SV0 := fun W J (H : St w W J) => served_st (w0 := w) (w := W) (I := J) ep A n c 30 rows h0 h (by omega) H
  have p0 := pick_lo ep 1000 (by omega)
  have p1 := pick_hi ep 1000 (by omega)
  obtain ⟨q, hq⟩ : ∃ q, 1 + pick ep 1000 = q := ⟨_, rfl⟩
  rw [hq] at SV0 ⊢
  have hq1 : 1 ≤ q := by omega
  have hq2 : q ≤ 1000 := by omega
  clear hq p0 p1
  obtain ⟨es, hsv, hm0, hx0, hnb0⟩ := served_is q rows hq1 (by omega) (min n 30)
  rw [hsv] at SV0
  have hm : es.length ≤ 30 := by omega
  have HX := Lib.hid (hx0.more (show min n 30 ≤ 30 by omega))
  obtain ⟨m, hl⟩ : ∃ m, es.length = m := ⟨_, rfl⟩
  rw [hl] at hm
  have SV := Lib.hid (fun W J (H : St w W J) => (show Calls Try.prog 16 #[.int .i64 ep, .slice A n c, .int .i64 30] W (fun ed w' => ∃ A c, ed = .returned (.tuple #[.agg #[.int .i64 1, .int .i64 q, .int .i64 0, .int .i64 0, .int .i64 0, .slice A m c], .bool true]) ∧ m ≤ c ∧ St w w' (evIt A es :: J)) from vpost_to hl (SV0 W J H)))
  have HL := Lib.hid hl
  have HZ := Lib.hid (BM.zero_ok)
  have HNB := Lib.hid hnb0
  have HL0 := Lib.hid (show ([] : List Ev).length = 0 from rfl)
  clear SV0 hsv hm0 hx0 hl hnb0
  have C1 := Lib.hid (fun W J (H : St w W J) A c (hc : m ≤ c) (hI : Has J (evIt A es)) => (show Calls Try.prog 21 #[.agg #[.int .i64 1, .int .i64 q, .int .i64 0, .int .i64 0, .int .i64 0, .slice A m c], .int .i64 3] W (fun ed w' => ∃ A' c', ed = .returned (.tuple #[.agg #[.int .i64 2, .int .i64 q, .int .i64 0, .int .i64 3, .int .i64 0, .slice A' m c'], .int .i64 0]) ∧ m ≤ c' ∧ St w w' (evIt A' es :: J)) from by
    have h := go_st (h := hI) (w0 := w) (w := W) (I := J) ⟨1, q, 0, 0, 0, es⟩ A m c 30 3 HL.out HX.out (by omega) hc H
    rw [show BM.goR ⟨1, q, 0, 0, 0, es⟩ (3) = (⟨2, q, 0, 3, 0, es⟩, 0) from (by have hl := HL.out; unfold BM.goR; dsimp only; repeat (first | rw [if_pos (by omega)] | rw [if_neg (by omega)]); try rfl)] at h
    exact bpost_to HL.out h))
  have C2 := Lib.hid (fun W J (H : St w W J) A c (hc : 0 ≤ c) (hI : Has J (evIt A [])) => (show Calls Try.prog 46 #[.agg #[.int .i64 0, .int .i64 0, .int .i64 0, .int .i64 0, .int .i64 0, .slice A 0 c], .int .i64 (q + 1), .int .i64 1] W (fun ed w' => ∃ A' c', ed = .returned (.tuple #[.agg #[.int .i64 4, .int .i64 (q + 1), .int .i64 1, .int .i64 0, .int .i64 0, .slice A' 0 c'], .int .i64 0]) ∧ 0 ≤ c' ∧ St w w' (evIt A' [] :: J)) from by
    have h := begin_st (h := hI) (w0 := w) (w := W) (I := J) ⟨0, 0, 0, 0, 0, []⟩ A 0 c 0 (q + 1) 1 HL0.out HZ.out (by omega) hc H
    rw [show BM.beginR ⟨0, 0, 0, 0, 0, []⟩ (q + 1) (1) = (⟨4, q + 1, 1, 0, 0, []⟩, 0) from (by have hl := HL.out; unfold BM.beginR; dsimp only; repeat (first | rw [if_pos (by omega)] | rw [if_neg (by omega)]); try rfl)] at h
    exact bpost_to HL0.out h))
  have HYO := Lib.hid (show (⟨2, q, 0, 3, 0, es⟩ : BM).Ok 40 from (HX.out.more (by omega)).same (by unfold BM.Shape; dsimp only; omega) rfl)
  have w9 : IntKind.i64.wrap (q + 1) = q + 1 := IntWalk.i64_in _ (by omega)
  have HRW := Lib.hid h2
  have HBW := Lib.hid h3
  clear h0 h h2 h3
  have HF := Lib.hid (fun W fs ms A c B d (h1 : fs.length = ms) (h2 : ms ≤ 40) (h3 : (⟨3, q, 0, 3, 0, fs⟩ : BM).Ok 40) (h4 : ms ≤ c) (h5 : ms + 1 ≤ d) (h6 : St w W (evIt A fs :: evIt B (fs ++ [⟨4, 0, 0, 0, 0, 0⟩]) :: I)) => (show MPost w I q (.returned (.tuple #[.agg #[.int .i64 3, .int .i64 q, .int .i64 0, .int .i64 3, .int .i64 0, .slice A ms c], .agg #[.int .i64 1, .int .i64 (q + 1), .int .i64 0, .int .i64 0, .int .i64 0, .slice B (ms + 1) d], .bool true])) W from ⟨fs, ms, A, c, B, d, rfl, h1, h2, h3, h4, h5, h6⟩))
  generalize MPost w I q = POST at *
  go_enter Try.func23, Try.ntmps23
  go_upto_region 1 with (first | ((with_reducible refine here_allocAt 8 ?_); refine wpList_alloc_st H rfl 58 rfl _ ber_zero ?_; clear H; intro g8 wx H) | ((with_reducible refine here_allocAt 9 ?_); refine wpList_alloc_st H rfl 58 rfl _ ber_zero ?_; clear H; intro g9 wx H) | fail)
  (try simp only [Act.put])
  go_upto_region 2 with (first | (go_at_call 16; with_reducible refine (SV.out _ _ H).mono ?_; clear H; rintro ed wy ⟨Ax, cx, rfl, hcx, H⟩) | (first | ((with_reducible refine here_load ?_); first | refine ldR H rfl _ _ rfl rfl (by kernel_rfl) ?_ | refine ldS H rfl _ _ rfl rfl (by rfl) ?_ | refine ldSG H (by rfl) _ _ rfl rfl (by rfl) ?_ | refine ldRG H (by rfl) _ _ rfl rfl (by kernel_rfl) ?_) | ((with_reducible refine here_store ?_); first | (refine stR H rfl _ _ _ rfl rfl rfl (by rfl) (by rfl) (by kernel_rfl) ?_; clear H; intro wx H) | (refine stS H rfl _ _ _ rfl rfl _ rfl (by rfl) (by rfl) (by rfl) ?_; clear H; intro wx H)) | ((with_reducible refine here_alloc ?_); first | (refine wpList_alloc_st H rfl 37 rfl _ q_zero ?_; clear H; intro gqx wx H) | (refine wpList_alloc_st H rfl 48 rfl _ ans_zero ?_; clear H; intro gax wx H) | (refine wpList_alloc_st H rfl 44 rfl _ ev_zero ?_; clear H; intro gex wx H) | (refine wpList_alloc_st H rfl 58 rfl _ ber_zero ?_; clear H; intro grx wx H)) | ((with_reducible refine here_box ?_); refine wpList_box_st H rfl _ _ rfl _ rfl ?_; clear H; intro gbx wx H)))
  (try simp only [Act.put])
  go_upto_region 3 with (first | (go_at_call 21; with_reducible refine (C1.out _ _ H Ax cx hcx inferInstance).mono ?_; clear H; rintro ed wy ⟨Ay, cy, rfl, hcy, H⟩) | (first | ((with_reducible refine here_load ?_); first | refine ldR H rfl _ _ rfl rfl (by kernel_rfl) ?_ | refine ldS H rfl _ _ rfl rfl (by rfl) ?_ | refine ldSG H (by rfl) _ _ rfl rfl (by rfl) ?_ | refine ldRG H (by rfl) _ _ rfl rfl (by kernel_rfl) ?_) | ((with_reducible refine here_store ?_); first | (refine stR H rfl _ _ _ rfl rfl rfl (by rfl) (by rfl) (by kernel_rfl) ?_; clear H; intro wx H) | (refine stS H rfl _ _ _ rfl rfl _ rfl (by rfl) (by rfl) (by rfl) ?_; clear H; intro wx H)) | ((with_reducible refine here_alloc ?_); first | (refine wpList_alloc_st H rfl 37 rfl _ q_zero ?_; clear H; intro gq2 wx H) | (refine wpList_alloc_st H rfl 48 rfl _ ans_zero ?_; clear H; intro ga2 wx H) | (refine wpList_alloc_st H rfl 44 rfl _ ev_zero ?_; clear H; intro ge2 wx H) | (refine wpList_alloc_st H rfl 58 rfl _ ber_zero ?_; clear H; intro gr2 wx H)) | ((with_reducible refine here_box ?_); refine wpList_box_st H rfl _ _ rfl _ rfl ?_; clear H; intro gb2 wx H)))
  (try simp only [Act.put])
  go_upto_region 4 with (first | (go_at_call 46; replace H := H.noEv; with_reducible refine (C2.out _ _ H none 0 (Nat.le_refl _) inferInstance).mono ?_; clear H; rintro ed wy ⟨At, ct, rfl, hct, H⟩) | (first | ((with_reducible refine here_load ?_); first | refine ldR H rfl _ _ rfl rfl (by kernel_rfl) ?_ | refine ldS H rfl _ _ rfl rfl (by rfl) ?_ | refine ldSG H (by rfl) _ _ rfl rfl (by rfl) ?_ | refine ldRG H (by rfl) _ _ rfl rfl (by kernel_rfl) ?_) | ((with_reducible refine here_store ?_); first | (refine stR H rfl _ _ _ rfl rfl rfl (by rfl) (by rfl) (by kernel_rfl) ?_; clear H; intro wx H) | (refine stS H rfl _ _ _ rfl rfl _ rfl (by rfl) (by rfl) (by rfl) ?_; clear H; intro wx H)) | ((with_reducible refine here_alloc ?_); first | (refine wpList_alloc_st H rfl 37 rfl _ q_zero ?_; clear H; intro gq3 wx H) | (refine wpList_alloc_st H rfl 48 rfl _ ans_zero ?_; clear H; intro ga3 wx H) | (refine wpList_alloc_st H rfl 44 rfl _ ev_zero ?_; clear H; intro ge3 wx H) | (refine wpList_alloc_st H rfl 58 rfl _ ber_zero ?_; clear H; intro gr3 wx H)) | ((with_reducible refine here_box ?_); refine wpList_box_st H rfl _ _ rfl _ rfl ?_; clear H; intro gb3 wx H)))
  (try simp only [Act.put])
  go_upto_region 8 with (first | (first | ((with_reducible refine here_load ?_); first | refine ldR H rfl _ _ rfl rfl (by kernel_rfl) ?_ | refine ldS H rfl _ _ rfl rfl (by rfl) ?_ | refine ldSG H (by rfl) _ _ rfl rfl (by rfl) ?_ | refine ldRG H (by rfl) _ _ rfl rfl (by kernel_rfl) ?_) | ((with_reducible refine here_store ?_); first | (refine stR H rfl _ _ _ rfl rfl rfl (by rfl) (by rfl) (by kernel_rfl) ?_; clear H; intro wx H) | (refine stS H rfl _ _ _ rfl rfl _ rfl (by rfl) (by rfl) (by rfl) ?_; clear H; intro wx H)) | ((with_reducible refine here_alloc ?_); first | (refine wpList_alloc_st H rfl 37 rfl _ q_zero ?_; clear H; intro gq4 wx H) | (refine wpList_alloc_st H rfl 48 rfl _ ans_zero ?_; clear H; intro ga4 wx H) | (refine wpList_alloc_st H rfl 44 rfl _ ev_zero ?_; clear H; intro ge4 wx H) | (refine wpList_alloc_st H rfl 58 rfl _ ber_zero ?_; clear H; intro gr4 wx H)) | ((with_reducible refine here_box ?_); refine wpList_box_st H rfl _ _ rfl _ rfl ?_; clear H; intro gb4 wx H)))
  (try simp only [Act.put])
  go_loopw [16, 17] (fun s16 s17 wr => ∃ (i a : Nat) (ro r : Int) (fs : List Ev) (ms j : Nat) (A1 : Option Addr) (c1 : Nat) (B1 : Option Addr) (d1 : Nat), s16 = .int .i64 a ∧ s17 = .int .i64 i ∧ fs.length = ms ∧ ms ≤ c1 ∧ ((MvR q ro r i fs ms j 0 ∧ j ≤ d1 ∧ St w wr (.bl grx 58 #[.int .i64 ro, .int .i64 q, .int .i64 0, .int .i64 3, .int .i64 r, .slice A1 ms c1] :: evIt A1 fs :: .bl gr3 58 #[.int .i64 4, .int .i64 (q + 1), .int .i64 1, .int .i64 0, .int .i64 0, .slice B1 j d1] :: evIt B1 (fs.take j) :: .bl g8 58 #[.int .i64 0, .int .i64 0, .int .i64 0, .int .i64 0, .int .i64 0, .slice none 0 0] :: .bl g9 58 #[.int .i64 0, .int .i64 0, .int .i64 0, .int .i64 0, .int .i64 0, .slice none 0 0] :: I)) ∨ (i ≤ 50 ∧ (⟨3, q, 0, 3, 0, fs⟩ : BM).Ok 40 ∧ ms ≤ 40 ∧ ms + 1 ≤ d1 ∧ St w wr (.bl grx 58 #[.int .i64 3, .int .i64 q, .int .i64 0, .int .i64 3, .int .i64 0, .slice A1 ms c1] :: evIt A1 fs :: .bl gr3 58 #[.int .i64 1, .int .i64 (q + 1), .int .i64 0, .int .i64 0, .int .i64 0, .slice B1 ((ms + 1)) d1] :: evIt B1 (fs ++ [⟨4, 0, 0, 0, 0, 0⟩]) :: .bl g8 58 #[.int .i64 0, .int .i64 0, .int .i64 0, .int .i64 0, .int .i64 0, .slice none 0 0] :: .bl g9 58 #[.int .i64 0, .int .i64 0, .int .i64 0, .int .i64 0, .int .i64 0, .slice none 0 0] :: I)))) (fun _ s17 _ => 200 - (intOf s17).toNat)
  case atStart => exact ⟨0, 0, 2, 0, es, m, 0, Ay, cy, At, ct, rfl, rfl, HL.out, hcy, .inl ⟨⟨HYO.out, by omega, .inl ⟨rfl, rfl, by omega, by omega⟩⟩, by omega, (by rw [List.take_zero]; exact H.subm _)⟩⟩
  case round =>
    as_aux_lemma =>
      clear H
      obtain ⟨i, a, ro, r, fs, ms, j, A1, c1, B1, d1, rfl, rfl, hfs, hc1, hor⟩ := hrel
      rcases hor with ⟨hmv, hd1, H⟩ | ⟨hi, hok, hms, hd1, H⟩
      · as_aux_lemma =>
          have hq := hmv.2.2
          have hjm := hmv.2.1
          have e1 : (i : Int) < 200 := by omega
          have e2 := decide_eq_true e1
          have i1 : IntKind.i64.wrap ((i : Int) + 1) = (i : Int) + 1 := IntWalk.i64_in _ (by omega)
          have HMV := Lib.hid hmv
          have HFS := Lib.hid hfs
          clear hmv hq hfs
          go_upto_region 10 with (first | ((with_reducible refine here_load ?_); first | refine ldR H rfl _ _ rfl rfl (by kernel_rfl) ?_ | refine ldS H rfl _ _ rfl rfl (by rfl) ?_ | refine ldSG H (by rfl) _ _ rfl rfl (by rfl) ?_ | refine ldRG H (by rfl) _ _ rfl rfl (by kernel_rfl) ?_) | ((with_reducible refine here_store ?_); first | (refine stR H rfl _ _ _ rfl rfl rfl (by rfl) (by rfl) (by kernel_rfl) ?_; clear H; intro wx H) | (refine stS H rfl _ _ _ rfl rfl _ rfl (by rfl) (by rfl) (by rfl) ?_; clear H; intro wx H)) | ((with_reducible refine here_alloc ?_); first | (refine wpList_alloc_st H rfl 37 rfl _ q_zero ?_; clear H; intro gq5 wx H) | (refine wpList_alloc_st H rfl 48 rfl _ ans_zero ?_; clear H; intro ga5 wx H) | (refine wpList_alloc_st H rfl 44 rfl _ ev_zero ?_; clear H; intro ge5 wx H) | (refine wpList_alloc_st H rfl 58 rfl _ ber_zero ?_; clear H; intro gr5 wx H)) | ((with_reducible refine here_box ?_); refine wpList_box_st H rfl _ _ rfl _ rfl ?_; clear H; intro gb5 wx H))
          go_cut [16, 17, 80] (fun s16 s17 s80 wx => s16 = .int .i64 a ∧ s17 = .int .i64 i ∧ s80 = .bool (decide (a < n2 ∧ a < 20)) ∧ St w wx (.bl grx 58 #[.int .i64 ro, .int .i64 q, .int .i64 0, .int .i64 3, .int .i64 r, .slice A1 ms c1] :: evIt A1 fs :: .bl gr3 58 #[.int .i64 4, .int .i64 (q + 1), .int .i64 1, .int .i64 0, .int .i64 0, .slice B1 j d1] :: evIt B1 (fs.take j) :: .bl g8 58 #[.int .i64 0, .int .i64 0, .int .i64 0, .int .i64 0, .int .i64 0, .slice none 0 0] :: .bl g9 58 #[.int .i64 0, .int .i64 0, .int .i64 0, .int .i64 0, .int .i64 0, .slice none 0 0] :: I))
          case first =>
            have hor : ¬ (a : Int) < (n2 : Int) ∨ ((a : Int) < (n2 : Int) ∧ ¬ (a : Int) < 20) ∨ ((a : Int) < (n2 : Int) ∧ (a : Int) < 20) := by omega
            rcases hor with ho | ⟨ho, ho2⟩ | ⟨ho, ho2⟩
            · have ho3 := decide_eq_false ho
              have ho5 : decide (a < n2 ∧ a < 20) = false := decide_eq_false (by omega)
              go_wp2_with (first | ((with_reducible refine here_load ?_); first | refine ldR H rfl _ _ rfl rfl (by kernel_rfl) ?_ | refine ldS H rfl _ _ rfl rfl (by rfl) ?_ | refine ldSG H (by rfl) _ _ rfl rfl (by rfl) ?_ | refine ldRG H (by rfl) _ _ rfl rfl (by kernel_rfl) ?_) | ((with_reducible refine here_store ?_); first | (refine stR H rfl _ _ _ rfl rfl rfl (by rfl) (by rfl) (by kernel_rfl) ?_; clear H; intro wx H) | (refine stS H rfl _ _ _ rfl rfl _ rfl (by rfl) (by rfl) (by rfl) ?_; clear H; intro wx H)) | ((with_reducible refine here_alloc ?_); first | (refine wpList_alloc_st H rfl 37 rfl _ q_zero ?_; clear H; intro gq6 wx H) | (refine wpList_alloc_st H rfl 48 rfl _ ans_zero ?_; clear H; intro ga6 wx H) | (refine wpList_alloc_st H rfl 44 rfl _ ev_zero ?_; clear H; intro ge6 wx H) | (refine wpList_alloc_st H rfl 58 rfl _ ber_zero ?_; clear H; intro gr6 wx H)) | ((with_reducible refine here_box ?_); refine wpList_box_st H rfl _ _ rfl _ rfl ?_; clear H; intro gb6 wx H))
              go_meet
              exact ⟨rfl, rfl, congrArg Value.bool ho5.symm, H.subm _⟩
            · have ho3 := decide_eq_true ho
              have ho4 := decide_eq_false ho2
              have ho5 : decide (a < n2 ∧ a < 20) = false := decide_eq_false (by omega)
              go_wp2_with (first | ((with_reducible refine here_load ?_); first | refine ldR H rfl _ _ rfl rfl (by kernel_rfl) ?_ | refine ldS H rfl _ _ rfl rfl (by rfl) ?_ | refine ldSG H (by rfl) _ _ rfl rfl (by rfl) ?_ | refine ldRG H (by rfl) _ _ rfl rfl (by kernel_rfl) ?_) | ((with_reducible refine here_store ?_); first | (refine stR H rfl _ _ _ rfl rfl rfl (by rfl) (by rfl) (by kernel_rfl) ?_; clear H; intro wx H) | (refine stS H rfl _ _ _ rfl rfl _ rfl (by rfl) (by rfl) (by rfl) ?_; clear H; intro wx H)) | ((with_reducible refine here_alloc ?_); first | (refine wpList_alloc_st H rfl 37 rfl _ q_zero ?_; clear H; intro gq6 wx H) | (refine wpList_alloc_st H rfl 48 rfl _ ans_zero ?_; clear H; intro ga6 wx H) | (refine wpList_alloc_st H rfl 44 rfl _ ev_zero ?_; clear H; intro ge6 wx H) | (refine wpList_alloc_st H rfl 58 rfl _ ber_zero ?_; clear H; intro gr6 wx H)) | ((with_reducible refine here_box ?_); refine wpList_box_st H rfl _ _ rfl _ rfl ?_; clear H; intro gb6 wx H))
              go_meet
              exact ⟨rfl, rfl, congrArg Value.bool ho5.symm, H.subm _⟩
            · have ho3 := decide_eq_true ho
              have ho4 := decide_eq_true ho2
              have ho5 : decide (a < n2 ∧ a < 20) = true := decide_eq_true (by omega)
              go_wp2_with (first | ((with_reducible refine here_load ?_); first | refine ldR H rfl _ _ rfl rfl (by kernel_rfl) ?_ | refine ldS H rfl _ _ rfl rfl (by rfl) ?_ | refine ldSG H (by rfl) _ _ rfl rfl (by rfl) ?_ | refine ldRG H (by rfl) _ _ rfl rfl (by kernel_rfl) ?_) | ((with_reducible refine here_store ?_); first | (refine stR H rfl _ _ _ rfl rfl rfl (by rfl) (by rfl) (by kernel_rfl) ?_; clear H; intro wx H) | (refine stS H rfl _ _ _ rfl rfl _ rfl (by rfl) (by rfl) (by rfl) ?_; clear H; intro wx H)) | ((with_reducible refine here_alloc ?_); first | (refine wpList_alloc_st H rfl 37 rfl _ q_zero ?_; clear H; intro gq6 wx H) | (refine wpList_alloc_st H rfl 48 rfl _ ans_zero ?_; clear H; intro ga6 wx H) | (refine wpList_alloc_st H rfl 44 rfl _ ev_zero ?_; clear H; intro ge6 wx H) | (refine wpList_alloc_st H rfl 58 rfl _ ber_zero ?_; clear H; intro gr6 wx H)) | ((with_reducible refine here_box ?_); refine wpList_box_st H rfl _ _ rfl _ rfl ?_; clear H; intro gb6 wx H))
              go_meet
              exact ⟨rfl, rfl, congrArg Value.bool ho5.symm, H.subm _⟩
          case rest =>
            clear H
            obtain ⟨rfl, rfl, rfl, H⟩ := hcut
            obtain ⟨gd, hgd⟩ : ∃ b, decide (a < n2 ∧ a < 20) = b := ⟨_, rfl⟩
            have HGD := Lib.hid hgd
            rw [hgd]
            clear hgd
            go_upto_if 80 with fail
            go_cut [16, 17] (fun s16 s17 wx => ∃ (a' : Nat) (fs' : List Ev) (ms' : Nat) (A' : Option Addr) (c' : Nat), s16 = .int .i64 a' ∧ s17 = .int .i64 i ∧ fs'.length = ms' ∧ ms' ≤ c' ∧ fs'.take j = fs.take j ∧ MvR q ro r i fs' ms' j 1 ∧ St w wx (.bl grx 58 #[.int .i64 ro, .int .i64 q, .int .i64 0, .int .i64 3, .int .i64 r, .slice A' ms' c'] :: evIt A' fs' :: .bl gr3 58 #[.int .i64 4, .int .i64 (q + 1), .int .i64 1, .int .i64 0, .int .i64 0, .slice B1 j d1] :: evIt B1 (fs.take j) :: .bl g8 58 #[.int .i64 0, .int .i64 0, .int .i64 0, .int .i64 0, .int .i64 0, .slice none 0 0] :: .bl g9 58 #[.int .i64 0, .int .i64 0, .int .i64 0, .int .i64 0, .int .i64 0, .slice none 0 0] :: I))
            case first =>
              as_aux_lemma =>
                cases gd
                rotate_left
                · have ha : a < n2 ∧ a < 20 := of_decide_eq_true HGD.out
                  obtain ⟨hl, hnc, hcbig, hr, hs⟩ := HRW.out
                  obtain ⟨b8, off, rfl, hb8, g1, l1⟩ := row4q hl hs hr ha.1
                  have q0 := (H.bel.cell (p := ⟨b8, off + a * 4, none⟩) hb8).trans (g1 0 (by omega))
                  have q1 := (H.bel.cell (p := ⟨b8, off + a * 4 + 1, none⟩) hb8).trans (g1 1 (by omega))
                  have q2 := (H.bel.cell (p := ⟨b8, off + a * 4 + 2, none⟩) hb8).trans (g1 2 (by omega))
                  have q3 := (H.bel.cell (p := ⟨b8, off + a * 4 + 3, none⟩) hb8).trans (g1 3 (by omega))
                  have EC := Lib.hid (fun W => event_any _ _ _ _ W (l1 0) (l1 1) (l1 2) (l1 3))
                  have hck := evOf_chk ((rows2.getD a []).getD 0 0) ((rows2.getD a []).getD 1 0) ((rows2.getD a []).getD 2 0) ((rows2.getD a []).getD 3 0)
                  generalize evOf ((rows2.getD a []).getD 0 0) ((rows2.getD a []).getD 1 0) ((rows2.getD a []).getD 2 0) ((rows2.getD a []).getD 3 0) = ev at *
                  generalize (rows2.getD a []).getD 0 0 = z0 at *
                  generalize (rows2.getD a []).getD 1 0 = z1 at *
                  generalize (rows2.getD a []).getD 2 0 = z2 at *
                  generalize (rows2.getD a []).getD 3 0 = z3 at *
                  have f1 : (a : Int) < (n2 : Int) := by omega
                  have f2 := decide_eq_true f1
                  have f3 : (a : Int) < 20 := by omega
                  have f4 := decide_eq_true f3
                  have f5 : (0 : Int) ≤ (a : Int) := by omega
                  have f6 : (n2 : Int) ≤ (c2 : Int) := by omega
                  have i2 : IntKind.i64.wrap ((a : Int) + 1) = (a : Int) + 1 := IntWalk.i64_in _ (by omega)
                  clear g1 l1 hl hnc hcbig hr hs hb8 ha
                  by_cases hk4 : ev.kind = 4
                  · obtain ⟨x0, x1, x2, x3, x4, x5⟩ := ev
                    dsimp only at hk4
                    subst hk4
                    unfold Ev.val at EC
                    go_wp2_with (first | (go_at_call 39; refine (EC.out _).mono ?_; rintro ed wy ⟨rfl, hb9⟩; replace H := H.below hb9; clear hb9 q0 q1 q2 q3) | (first | ((with_reducible refine here_load ?_); first | refine ldR H rfl _ _ rfl rfl (by kernel_rfl) ?_ | refine ldS H rfl _ _ rfl rfl (by rfl) ?_ | refine ldSG H (by rfl) _ _ rfl rfl (by rfl) ?_ | refine ldRG H (by rfl) _ _ rfl rfl (by kernel_rfl) ?_) | ((with_reducible refine here_store ?_); first | (refine stR H rfl _ _ _ rfl rfl rfl (by rfl) (by rfl) (by kernel_rfl) ?_; clear H; intro wx H) | (refine stS H rfl _ _ _ rfl rfl _ rfl (by rfl) (by rfl) (by rfl) ?_; clear H; intro wx H)) | ((with_reducible refine here_alloc ?_); first | (refine wpList_alloc_st H rfl 37 rfl _ q_zero ?_; clear H; intro gq6 wx H) | (refine wpList_alloc_st H rfl 48 rfl _ ans_zero ?_; clear H; intro ga6 wx H) | (refine wpList_alloc_st H rfl 44 rfl _ ev_zero ?_; clear H; intro ge6 wx H) | (refine wpList_alloc_st H rfl 58 rfl _ ber_zero ?_; clear H; intro gr6 wx H)) | ((with_reducible refine here_box ?_); refine wpList_box_st H rfl _ _ rfl _ rfl ?_; clear H; intro gb6 wx H)))
                    go_meet
                    exact ⟨a + 1, fs, ms, A1, c1, by go_num, rfl, HFS.out, hc1, rfl, HMV.out.more, H.subm _⟩
                  · obtain ⟨fs', ⟨a0, a1, a2, a3⟩, chg, hsv, hmv', htk⟩ := HMV.out.serve HFS.out ev hck
                    obtain ⟨x0, x1, x2, x3, x4, x5⟩ := ev
                    have k1 : ((x0 : Int) == 4) = false := by simpa using hk4
                    have k2 : decide ((x0 : Int) = 4) = false := by simpa using hk4
                    obtain ⟨ms', hms'⟩ : ∃ k, fs'.length = k := ⟨_, rfl⟩
                    have HMS := Lib.hid hms'
                    have HTK := Lib.hid htk
                    rw [hms'] at hmv'
                    have HMV' := Lib.hid hmv'
                    have HOKM := Lib.hid HMV.out.1
                    have CSV := Lib.hid (fun W J (H : St w W J) A c (hc : ms ≤ c) (hI : Has J (evIt A fs)) => (show Calls Try.prog 40 #[.agg #[.int .i64 ro, .int .i64 q, .int .i64 0, .int .i64 3, .int .i64 r, .slice A ms c], .agg #[.int .i64 x0, .int .i64 x1, .int .i64 x2, .int .i64 x3, .int .i64 x4, .int .i64 x5]] W (fun ed w' => ∃ A' c', ed = .returned (.tuple #[.agg #[.int .i64 ro, .int .i64 q, .int .i64 0, .int .i64 3, .int .i64 r, .slice A' ms' c'], .agg #[.int .i64 a0, .int .i64 a1, .int .i64 a2, .int .i64 a3], .bool chg, .int .i64 0]) ∧ ms' ≤ c' ∧ St w w' (evIt A' fs' :: J)) from by
                      have h := serve_st (h := hI) (w0 := w) (w := W) (I := J) ⟨ro, q, 0, 3, r, fs⟩ ⟨x0, x1, x2, x3, x4, x5⟩ A ms c 40 HFS.out HOKM.out (by omega) hc hck hk4 H
                      rw [hsv] at h
                      exact spost_to HMS.out h))
                    unfold Ev.val at EC
                    dsimp only at EC
                    clear hsv hmv' htk hms' hk4 hck
                    go_wp2_with (first | (go_at_call 39; refine (EC.out _).mono ?_; rintro ed wy ⟨rfl, hb9⟩; replace H := H.below hb9; clear hb9 q0 q1 q2 q3) | (go_at_call 40; with_reducible refine (CSV.out _ _ H A1 c1 hc1 inferInstance).mono ?_; clear H; rintro ed wy ⟨A9, c9, rfl, hc9, H⟩) | (first | ((with_reducible refine here_load ?_); first | refine ldR H rfl _ _ rfl rfl (by kernel_rfl) ?_ | refine ldS H rfl _ _ rfl rfl (by rfl) ?_ | refine ldSG H (by rfl) _ _ rfl rfl (by rfl) ?_ | refine ldRG H (by rfl) _ _ rfl rfl (by kernel_rfl) ?_) | ((with_reducible refine here_store ?_); first | (refine stR H rfl _ _ _ rfl rfl rfl (by rfl) (by rfl) (by kernel_rfl) ?_; clear H; intro wx H) | (refine stS H rfl _ _ _ rfl rfl _ rfl (by rfl) (by rfl) (by rfl) ?_; clear H; intro wx H)) | ((with_reducible refine here_alloc ?_); first | (refine wpList_alloc_st H rfl 37 rfl _ q_zero ?_; clear H; intro gq6 wx H) | (refine wpList_alloc_st H rfl 48 rfl _ ans_zero ?_; clear H; intro ga6 wx H) | (refine wpList_alloc_st H rfl 44 rfl _ ev_zero ?_; clear H; intro ge6 wx H) | (refine wpList_alloc_st H rfl 58 rfl _ ber_zero ?_; clear H; intro gr6 wx H)) | ((with_reducible refine here_box ?_); refine wpList_box_st H rfl _ _ rfl _ rfl ?_; clear H; intro gb6 wx H)))
                    go_meet
                    exact ⟨a + 1, fs', ms', A9, c9, by go_num, rfl, HMS.out, hc9, HTK.out, HMV'.out, H.subm _⟩
                · go_wp2_with (first | ((with_reducible refine here_load ?_); first | refine ldR H rfl _ _ rfl rfl (by kernel_rfl) ?_ | refine ldS H rfl _ _ rfl rfl (by rfl) ?_ | refine ldSG H (by rfl) _ _ rfl rfl (by rfl) ?_ | refine ldRG H (by rfl) _ _ rfl rfl (by kernel_rfl) ?_) | ((with_reducible refine here_store ?_); first | (refine stR H rfl _ _ _ rfl rfl rfl (by rfl) (by rfl) (by kernel_rfl) ?_; clear H; intro wx H) | (refine stS H rfl _ _ _ rfl rfl _ rfl (by rfl) (by rfl) (by rfl) ?_; clear H; intro wx H)) | ((with_reducible refine here_alloc ?_); first | (refine wpList_alloc_st H rfl 37 rfl _ q_zero ?_; clear H; intro gq6 wx H) | (refine wpList_alloc_st H rfl 48 rfl _ ans_zero ?_; clear H; intro ga6 wx H) | (refine wpList_alloc_st H rfl 44 rfl _ ev_zero ?_; clear H; intro ge6 wx H) | (refine wpList_alloc_st H rfl 58 rfl _ ber_zero ?_; clear H; intro gr6 wx H)) | ((with_reducible refine here_box ?_); refine wpList_box_st H rfl _ _ rfl _ rfl ?_; clear H; intro gb6 wx H))
                  go_meet
                  exact ⟨a, fs, ms, A1, c1, rfl, rfl, HFS.out, hc1, rfl, HMV.out.more, H.subm _⟩
            case rest =>
              clear H
              obtain ⟨a', fs', ms', A', c', rfl, rfl, hfs', hc', htk, hmv', H⟩ := hcut
              have hjm' := hmv'.2.1
              obtain ⟨ro2, r2, hct, hok2, hro, hms35, hij, hout⟩ := hmv'.caught hfs'
              have HOKM := Lib.hid hmv'.1
              have HOK2 := Lib.hid hok2
              have HFS' := Lib.hid hfs'
              obtain ⟨p, hp⟩ : ∃ p, min 3 (ms' - j) = p := ⟨_, rfl⟩
              obtain ⟨pt, hpt⟩ : ∃ pt, (fs'.drop j).take 3 = pt := ⟨_, rfl⟩
              have HPT := Lib.hid (show pt.length = p by rw [← hpt]; simp; omega)
              have HTJ := Lib.hid (show (fs'.take j).length = j by rw [List.length_take, hfs']; omega)
              have HCAT := Lib.hid (show fs'.take j ++ pt = fs'.take (j + p) by
                rw [← hpt, ← List.take_append_drop j (fs'.take (j + p)), List.take_take, List.drop_take, Nat.min_eq_left (by omega), Nat.add_sub_cancel_left]
                congr 1
                rw [List.take_eq_take_iff, List.length_drop]
                omega)
              have HPTK := Lib.hid (show (fs'.drop j).take p = pt by
                rw [← hpt, List.take_eq_take_iff, List.length_drop]
                omega)
              rw [← htk] at H
              obtain ⟨lst, hlst⟩ : ∃ l, BM.partEnd ⟨ro2, q, 0, 3, r2, fs'⟩ j = l := ⟨_, rfl⟩
              have hls : (lst = true → ro2 = 3 ∧ j + p = ms') ∧ (lst = false → (ro2 = 2 ∧ j < ms') ∨ (ro2 = 3 ∧ p = 3 ∧ j + 3 < ms')) := by
                rw [← hlst]
                unfold BM.partEnd
                dsimp only
                rw [hfs']
                constructor
                · intro h
                  simp only [Bool.and_eq_true, beq_iff_eq] at h
                  omega
                · intro h
                  rw [Bool.and_eq_false_iff] at h
                  simp only [beq_eq_false_iff_ne] at h
                  omega
              have HLS := Lib.hid hlst
              have HHO := Lib.hid hout
              have HSH := Lib.hid (show 1 ≤ q ∧ q ≤ 1000 from ⟨hq1, hq2⟩)
              have CC := Lib.hid (fun W J (H : St w W J) A c (hc : ms' ≤ c) (hI : Has J (evIt A fs')) => (show Calls Try.prog 22 #[.agg #[.int .i64 ro, .int .i64 q, .int .i64 0, .int .i64 3, .int .i64 r, .slice A ms' c], .int .i64 j] W (fun ed w' => ∃ A' c', ed = .returned (.tuple #[.agg #[.int .i64 ro2, .int .i64 q, .int .i64 0, .int .i64 3, .int .i64 r2, .slice A' ms' c'], .int .i64 0]) ∧ ms' ≤ c' ∧ St w w' (evIt A' fs' :: J)) from by
                have h := caught_st (h := hI) (w0 := w) (w := W) (I := J) ⟨ro, q, 0, 3, r, fs'⟩ A ms' c 40 j HFS'.out HOKM.out (by omega) hc H
                rw [hct] at h
                exact bpost_to HFS'.out h))
              have CP := Lib.hid (fun W J (H : St w W J) A c (hc : ms' ≤ c) (hI : Has J (evIt A fs')) => (show Calls Try.prog 47 #[.agg #[.int .i64 ro2, .int .i64 q, .int .i64 0, .int .i64 3, .int .i64 r2, .slice A ms' c], .int .i64 j] W (fun ed w' => ∃ A' c', ed = .returned (.tuple #[.slice A' p c', .bool lst, .int .i64 0]) ∧ p ≤ c' ∧ St w w' (evIt A' pt :: J)) from by
                have h := part_st (h := hI) (w0 := w) (w := W) (I := J) ⟨ro2, q, 0, 3, r2, fs'⟩ A ms' c 40 j HFS'.out HOK2.out (by omega) hc hro hjm' H
                exact ppost_to HPT.out HLS.out (by rw [← hpt]; exact h)))
              clear hct hmv' hok2 hfs' htk
              cases lst
              · as_aux_lemma =>
                  obtain hl2 := hls.2 rfl
                  clear hls
                  have HTP := Lib.hid (show (fs'.take (j + p)).length = j + p by rw [List.length_take, HFS'.out]; omega)
                  have HOT := Lib.hid (show (⟨4, q + 1, 1, 0, 0, (fs'.take j)⟩ : BM).Ok 40 from HOK2.out.cut j (by unfold BM.Shape; dsimp only; omega) rfl)
                  have HOP := Lib.hid (show (⟨4, q + 1, 1, 0, 0, (fs'.take (j + p))⟩ : BM).Ok 40 from HOK2.out.cut (j + p) (by unfold BM.Shape; dsimp only; omega) rfl)
                  have CI1 := Lib.hid (fun W J (H : St w W J) A c (hc : j ≤ c) B d (hd : p ≤ d) (hI : Has J (evIt A (fs'.take j))) (hI2 : Has J (evIt B pt)) => (show Calls Try.prog 48 #[.agg #[.int .i64 4, .int .i64 (q + 1), .int .i64 1, .int .i64 0, .int .i64 0, .slice A j c], .int .i64 (q + 1), .int .i64 j, .slice B p d, .bool false] W (fun ed w' => ∃ A' c', ed = .returned (.tuple #[.agg #[.int .i64 4, .int .i64 (q + 1), .int .i64 1, .int .i64 0, .int .i64 0, .slice A' (j + p) c'], .int .i64 0]) ∧ j + p ≤ c' ∧ St w w' (evIt A' (fs'.take (j + p)) :: J)) from by
                    have h := import_on (h := hI) (h2 := hI2) (w0 := w) (w := W) (I := J) (q + 1) 1 0 0 (fs'.take j) pt A B j c p d 40 j 0 40 HTJ.out HPT.out HOT.out (by omega) (by omega) hc hd (Nat.le_refl _) (by omega) (by simp) (by rw [List.drop_zero, HCAT.out]; exact HOP.out) (by omega) H
                    rw [show fs'.take j ++ pt.drop 0 = fs'.take (j + p) from by rw [List.drop_zero, HCAT.out]] at h
                    exact bpost_to HTP.out h))
                  have CI2 := Lib.hid (fun W J (H : St w W J) A c (hc : j + p ≤ c) B d (hd : p ≤ d) (hI : Has J (evIt A (fs'.take (j + p)))) (hI2 : Has J (evIt B pt)) => (show Calls Try.prog 48 #[.agg #[.int .i64 4, .int .i64 (q + 1), .int .i64 1, .int .i64 0, .int .i64 0, .slice A (j + p) c], .int .i64 (q + 1), .int .i64 j, .slice B p d, .bool false] W (fun ed w' => ∃ A' c', ed = .returned (.tuple #[.agg #[.int .i64 4, .int .i64 (q + 1), .int .i64 1, .int .i64 0, .int .i64 0, .slice A' (j + p) c'], .int .i64 0]) ∧ j + p ≤ c' ∧ St w w' (evIt A' (fs'.take (j + p)) :: J)) from by
                    have h := import_on (h := hI) (h2 := hI2) (w0 := w) (w := W) (I := J) (q + 1) 1 0 0 (fs'.take (j + p)) pt A B (j + p) c p d 40 j p 40 HTP.out HPT.out HOP.out (by omega) (by omega) hc hd (by omega) (by omega) (by rw [List.drop_take, Nat.add_sub_cancel_left, List.take_take, Nat.min_self, List.drop_zero, HPTK.out, List.take_of_length_le (Nat.le_of_eq HPT.out)]) (by rw [show pt.drop p = [] from List.drop_eq_nil_of_le (Nat.le_of_eq HPT.out), List.append_nil]; exact HOP.out) (by omega) H
                    rw [show fs'.take (j + p) ++ pt.drop p = fs'.take (j + p) from by rw [List.drop_eq_nil_of_le (Nat.le_of_eq HPT.out), List.append_nil]] at h
                    exact bpost_to HTP.out h))
                  have hi40 : i ≤ 40 := by omega
                  have HL2 := Lib.hid hl2
                  have HMM := Lib.hid (show j ≤ ms' ∧ ms' ≤ 35 ∧ i ≤ 5 + j ∧ min 3 (ms' - j) = p from ⟨hjm', hms35, hij, hp⟩)
                  clear hl2 hout hro hp hpt hlst hij hjm' hms35 hjm
                  go_upto_region 24 with (first | ((with_reducible refine here_allocAt 24 ?_); refine wpList_alloc_st H rfl 58 rfl _ ber_zero ?_; clear H; intro gr24 wx H) | ((with_reducible refine here_allocAt 29 ?_); refine wpList_alloc_st H rfl 58 rfl _ ber_zero ?_; clear H; intro gr29 wx H) | (go_at_call 22; with_reducible refine (CC.out _ _ H A' c' hc' inferInstance).mono ?_; clear H; rintro ed wy ⟨A6, c6, rfl, hc6, H⟩) | (go_at_call 47; with_reducible refine (CP.out _ _ H A6 c6 hc6 inferInstance).mono ?_; clear H; rintro ed wy ⟨A7, c7, rfl, hc7, H⟩) | (go_at_call 48; with_reducible refine (CI1.out _ _ H B1 d1 hd1 A7 c7 hc7 inferInstance inferInstance).mono ?_; clear H; rintro ed wy ⟨A8, c8, rfl, hc8, H⟩) | (first | ((with_reducible refine here_load ?_); first | refine ldR H rfl _ _ rfl rfl (by kernel_rfl) ?_ | refine ldS H rfl _ _ rfl rfl (by rfl) ?_ | refine ldSG H (by rfl) _ _ rfl rfl (by rfl) ?_ | refine ldRG H (by rfl) _ _ rfl rfl (by kernel_rfl) ?_) | ((with_reducible refine here_store ?_); first | (refine stR H rfl _ _ _ rfl rfl rfl (by rfl) (by rfl) (by kernel_rfl) ?_; clear H; intro wx H) | (refine stS H rfl _ _ _ rfl rfl _ rfl (by rfl) (by rfl) (by rfl) ?_; clear H; intro wx H)) | ((with_reducible refine here_alloc ?_); first | (refine wpList_alloc_st H rfl 37 rfl _ q_zero ?_; clear H; intro gq7 wx H) | (refine wpList_alloc_st H rfl 48 rfl _ ans_zero ?_; clear H; intro ga7 wx H) | (refine wpList_alloc_st H rfl 44 rfl _ ev_zero ?_; clear H; intro ge7 wx H) | (refine wpList_alloc_st H rfl 58 rfl _ ber_zero ?_; clear H; intro gr7 wx H)) | ((with_reducible refine here_box ?_); refine wpList_box_st H rfl _ _ rfl _ rfl ?_; clear H; intro gb7 wx H)))
                  go_cut [16, 17, 24, 29, 23, 26, 27, 152] (fun s16 s17 s24 s29 s23 s26 s27 s152 wx => ∃ tw : Bool, s16 = .int .i64 a' ∧ s17 = .int .i64 i ∧ s24 = .pointer (some ⟨gr24, 0, none⟩) ∧ s29 = .pointer (some ⟨gr29, 0, none⟩) ∧ s23 = .int .i64 j ∧ s26 = .slice A7 p c7 ∧ s27 = .bool false ∧ s152 = .bool tw ∧ St w wx (.bl gr24 58 #[.int .i64 ro2, .int .i64 q, .int .i64 0, .int .i64 3, .int .i64 r2, .slice A6 ms' c6] :: evIt A6 fs' :: evIt A7 pt :: .bl gr29 58 #[.int .i64 4, .int .i64 (q + 1), .int .i64 1, .int .i64 0, .int .i64 0, .slice A8 (j + p) c8] :: evIt A8 (fs'.take (j + p)) :: .bl grx 58 #[.int .i64 ro, .int .i64 q, .int .i64 0, .int .i64 3, .int .i64 r, .slice A' ms' c'] :: evIt A' fs' :: .bl gr3 58 #[.int .i64 4, .int .i64 (q + 1), .int .i64 1, .int .i64 0, .int .i64 0, .slice B1 j d1] :: evIt B1 (fs'.take j) :: .bl g8 58 #[.int .i64 0, .int .i64 0, .int .i64 0, .int .i64 0, .int .i64 0, .slice none 0 0] :: .bl g9 58 #[.int .i64 0, .int .i64 0, .int .i64 0, .int .i64 0, .int .i64 0, .slice none 0 0] :: I))
                  case first =>
                    as_aux_lemma =>
                      by_cases hi3 : i < n3
                      · obtain ⟨hl3, hnc3, hcb3, hr3⟩ := HBW.out
                        obtain ⟨b8, off, rfl, hb8, hcl⟩ := hr3.plain (by omega) (by omega)
                        have hz : zs[i]? = some (zs.getD i false) := by rw [List.getElem?_eq_getElem (show i < zs.length by omega)]; simp [List.getD, List.getElem?_eq_getElem (show i < zs.length by omega)]
                        have q0 := (H.bel.cell (p := ⟨b8, off + i, none⟩) hb8).trans (hcl i _ (by rw [List.getElem?_map, hz]; rfl))
                        have f1 : (i : Int) < (n3 : Int) := by omega
                        have f2 := decide_eq_true f1
                        have f3 : (0 : Int) ≤ (i : Int) := by omega
                        have f4 : (n3 : Int) ≤ (c3 : Int) := by omega
                        clear hl3 hnc3 hcb3 hr3 hb8 hcl hz hi3
                        generalize zs.getD i false = z at *
                        go_wp2_with (first | ((with_reducible refine here_load ?_); first | refine ldR H rfl _ _ rfl rfl (by kernel_rfl) ?_ | refine ldS H rfl _ _ rfl rfl (by rfl) ?_ | refine ldSG H (by rfl) _ _ rfl rfl (by rfl) ?_ | refine ldRG H (by rfl) _ _ rfl rfl (by kernel_rfl) ?_) | ((with_reducible refine here_store ?_); first | (refine stR H rfl _ _ _ rfl rfl rfl (by rfl) (by rfl) (by kernel_rfl) ?_; clear H; intro wx H) | (refine stS H rfl _ _ _ rfl rfl _ rfl (by rfl) (by rfl) (by rfl) ?_; clear H; intro wx H)) | ((with_reducible refine here_alloc ?_); first | (refine wpList_alloc_st H rfl 37 rfl _ q_zero ?_; clear H; intro gq8 wx H) | (refine wpList_alloc_st H rfl 48 rfl _ ans_zero ?_; clear H; intro ga8 wx H) | (refine wpList_alloc_st H rfl 44 rfl _ ev_zero ?_; clear H; intro ge8 wx H) | (refine wpList_alloc_st H rfl 58 rfl _ ber_zero ?_; clear H; intro gr8 wx H)) | ((with_reducible refine here_box ?_); refine wpList_box_st H rfl _ _ rfl _ rfl ?_; clear H; intro gb8 wx H))
                        go_meet
                        exact ⟨_, rfl, rfl, rfl, rfl, rfl, rfl, rfl, rfl, H.subm _⟩
                      · have f1 : ¬ (i : Int) < (n3 : Int) := by omega
                        have f2 := decide_eq_false f1
                        clear hi3
                        go_wp2_with (first | ((with_reducible refine here_load ?_); first | refine ldR H rfl _ _ rfl rfl (by kernel_rfl) ?_ | refine ldS H rfl _ _ rfl rfl (by rfl) ?_ | refine ldSG H (by rfl) _ _ rfl rfl (by rfl) ?_ | refine ldRG H (by rfl) _ _ rfl rfl (by kernel_rfl) ?_) | ((with_reducible refine here_store ?_); first | (refine stR H rfl _ _ _ rfl rfl rfl (by rfl) (by rfl) (by kernel_rfl) ?_; clear H; intro wx H) | (refine stS H rfl _ _ _ rfl rfl _ rfl (by rfl) (by rfl) (by rfl) ?_; clear H; intro wx H)) | ((with_reducible refine here_alloc ?_); first | (refine wpList_alloc_st H rfl 37 rfl _ q_zero ?_; clear H; intro gq8 wx H) | (refine wpList_alloc_st H rfl 48 rfl _ ans_zero ?_; clear H; intro ga8 wx H) | (refine wpList_alloc_st H rfl 44 rfl _ ev_zero ?_; clear H; intro ge8 wx H) | (refine wpList_alloc_st H rfl 58 rfl _ ber_zero ?_; clear H; intro gr8 wx H)) | ((with_reducible refine here_box ?_); refine wpList_box_st H rfl _ _ rfl _ rfl ?_; clear H; intro gb8 wx H))
                        go_meet
                        exact ⟨_, rfl, rfl, rfl, rfl, rfl, rfl, rfl, rfl, H.subm _⟩
                  case rest =>
                    clear H
                    obtain ⟨tw, rfl, rfl, rfl, rfl, rfl, rfl, rfl, rfl, H⟩ := hcut
                    go_upto_if 152 with fail
                    go_cut [16, 17, 24, 29] (fun s16 s17 s24 s29 wx => s16 = .int .i64 a' ∧ s17 = .int .i64 i ∧ s24 = .pointer (some ⟨gr24, 0, none⟩) ∧ s29 = .pointer (some ⟨gr29, 0, none⟩) ∧ St w wx (.bl gr24 58 #[.int .i64 ro2, .int .i64 q, .int .i64 0, .int .i64 3, .int .i64 r2, .slice A6 ms' c6] :: evIt A6 fs' :: evIt A7 pt :: .bl gr29 58 #[.int .i64 4, .int .i64 (q + 1), .int .i64 1, .int .i64 0, .int .i64 0, .slice A8 (j + p) c8] :: evIt A8 (fs'.take (j + p)) :: .bl grx 58 #[.int .i64 ro, .int .i64 q, .int .i64 0, .int .i64 3, .int .i64 r, .slice A' ms' c'] :: evIt A' fs' :: .bl gr3 58 #[.int .i64 4, .int .i64 (q + 1), .int .i64 1, .int .i64 0, .int .i64 0, .slice B1 j d1] :: evIt B1 (fs'.take j) :: .bl g8 58 #[.int .i64 0, .int .i64 0, .int .i64 0, .int .i64 0, .int .i64 0, .slice none 0 0] :: .bl g9 58 #[.int .i64 0, .int .i64 0, .int .i64 0, .int .i64 0, .int .i64 0, .slice none 0 0] :: I))
                    case first =>
                      as_aux_lemma =>
                        cases tw
                        · go_wp2_with (first | (go_at_call 48; with_reducible refine (CI2.out _ _ H A8 c8 hc8 A7 c7 hc7 inferInstance inferInstance).mono ?_; clear H; rintro ed wy ⟨A10, c10, rfl, hc10, H⟩) | (go_at_call 19; with_reducible refine (sameEv_st ((fs'.take (j + p))) A10 A8 (j + p) c10 c8 HTP.out H (by have := HMM.out; omega) hc10 hc8).mono ?_; clear H; rintro ed wy ⟨rfl, H⟩) | fail | (first | ((with_reducible refine here_load ?_); first | refine ldR H rfl _ _ rfl rfl (by kernel_rfl) ?_ | refine ldS H rfl _ _ rfl rfl (by rfl) ?_ | refine ldSG H (by rfl) _ _ rfl rfl (by rfl) ?_ | refine ldRG H (by rfl) _ _ rfl rfl (by kernel_rfl) ?_) | ((with_reducible refine here_store ?_); first | (refine stR H rfl _ _ _ rfl rfl rfl (by rfl) (by rfl) (by kernel_rfl) ?_; clear H; intro wx H) | (refine stS H rfl _ _ _ rfl rfl _ rfl (by rfl) (by rfl) (by rfl) ?_; clear H; intro wx H)) | ((with_reducible refine here_alloc ?_); first | (refine wpList_alloc_st H rfl 37 rfl _ q_zero ?_; clear H; intro gq9 wx H) | (refine wpList_alloc_st H rfl 48 rfl _ ans_zero ?_; clear H; intro ga9 wx H) | (refine wpList_alloc_st H rfl 44 rfl _ ev_zero ?_; clear H; intro ge9 wx H) | (refine wpList_alloc_st H rfl 58 rfl _ ber_zero ?_; clear H; intro gr9 wx H)) | ((with_reducible refine here_box ?_); refine wpList_box_st H rfl _ _ rfl _ rfl ?_; clear H; intro gb9 wx H)))
                          go_meet
                          exact ⟨rfl, rfl, rfl, rfl, H.subm _⟩
                        · go_wp2_with (first | (go_at_call 48; with_reducible refine (CI2.out _ _ H A8 c8 hc8 A7 c7 hc7 inferInstance inferInstance).mono ?_; clear H; rintro ed wy ⟨A10, c10, rfl, hc10, H⟩) | (go_at_call 19; with_reducible refine (sameEv_st ((fs'.take (j + p))) A10 A8 (j + p) c10 c8 HTP.out H (by have := HMM.out; omega) hc10 hc8).mono ?_; clear H; rintro ed wy ⟨rfl, H⟩) | fail | (first | ((with_reducible refine here_load ?_); first | refine ldR H rfl _ _ rfl rfl (by kernel_rfl) ?_ | refine ldS H rfl _ _ rfl rfl (by rfl) ?_ | refine ldSG H (by rfl) _ _ rfl rfl (by rfl) ?_ | refine ldRG H (by rfl) _ _ rfl rfl (by kernel_rfl) ?_) | ((with_reducible refine here_store ?_); first | (refine stR H rfl _ _ _ rfl rfl rfl (by rfl) (by rfl) (by kernel_rfl) ?_; clear H; intro wx H) | (refine stS H rfl _ _ _ rfl rfl _ rfl (by rfl) (by rfl) (by rfl) ?_; clear H; intro wx H)) | ((with_reducible refine here_alloc ?_); first | (refine wpList_alloc_st H rfl 37 rfl _ q_zero ?_; clear H; intro gq9 wx H) | (refine wpList_alloc_st H rfl 48 rfl _ ans_zero ?_; clear H; intro ga9 wx H) | (refine wpList_alloc_st H rfl 44 rfl _ ev_zero ?_; clear H; intro ge9 wx H) | (refine wpList_alloc_st H rfl 58 rfl _ ber_zero ?_; clear H; intro gr9 wx H)) | ((with_reducible refine here_box ?_); refine wpList_box_st H rfl _ _ rfl _ rfl ?_; clear H; intro gb9 wx H)))
                          go_meet
                          exact ⟨rfl, rfl, rfl, rfl, H.subm _⟩
                    case rest =>
                      as_aux_lemma =>
                        clear H
                        obtain ⟨rfl, rfl, rfl, rfl, H⟩ := hcut
                        go_wp2_with (first | fail | (first | ((with_reducible refine here_load ?_); first | refine ldR H rfl _ _ rfl rfl (by kernel_rfl) ?_ | refine ldS H rfl _ _ rfl rfl (by rfl) ?_ | refine ldSG H (by rfl) _ _ rfl rfl (by rfl) ?_ | refine ldRG H (by rfl) _ _ rfl rfl (by kernel_rfl) ?_) | ((with_reducible refine here_store ?_); first | (refine stR H rfl _ _ _ rfl rfl rfl (by rfl) (by rfl) (by kernel_rfl) ?_; clear H; intro wx H) | (refine stS H rfl _ _ _ rfl rfl _ rfl (by rfl) (by rfl) (by rfl) ?_; clear H; intro wx H)) | ((with_reducible refine here_alloc ?_); first | (refine wpList_alloc_st H rfl 37 rfl _ q_zero ?_; clear H; intro gq10 wx H) | (refine wpList_alloc_st H rfl 48 rfl _ ans_zero ?_; clear H; intro ga10 wx H) | (refine wpList_alloc_st H rfl 44 rfl _ ev_zero ?_; clear H; intro ge10 wx H) | (refine wpList_alloc_st H rfl 58 rfl _ ber_zero ?_; clear H; intro gr10 wx H)) | ((with_reducible refine here_box ?_); refine wpList_box_st H rfl _ _ rfl _ rfl ?_; clear H; intro gb10 wx H)))
                        go_roundw
                        case rel =>
                          exact ⟨i + 1, a', ro2, r2, fs', ms', j + p, A6, c6, A8, c8, rfl, by go_num, HFS'.out, hc6, .inl ⟨⟨HOK2.out, by have := HMM.out; omega, by have := HMM.out; have := HHO.out; have := HL2.out; omega⟩, hc8, H.subm _⟩⟩
                        case measure => simp [intOf] <;> omega
              · as_aux_lemma =>
                  obtain ⟨hl1, hl2⟩ := hls.1 rfl
                  clear hls
                  have HL1 := Lib.hid (show (fs' ++ [(⟨4, 0, 0, 0, 0, 0⟩ : Ev)]).length = ms' + 1 from by rw [List.length_append, HFS'.out]; rfl)
                  have HALL := Lib.hid (show fs'.take j ++ pt.drop 0 = fs' from by rw [List.drop_zero, HCAT.out, hl2]; exact List.take_of_length_le (Nat.le_of_eq HFS'.out))
                  have HOT := Lib.hid (show (⟨4, q + 1, 1, 0, 0, (fs'.take j)⟩ : BM).Ok 40 from HOK2.out.cut j (by unfold BM.Shape; dsimp only; omega) rfl)
                  have HOU := Lib.hid (show (⟨1, q + 1, 0, 0, 0, (fs' ++ [(⟨4, 0, 0, 0, 0, 0⟩ : Ev)])⟩ : BM).Ok 41 from ((show (⟨1, q + 1, 0, 0, 0, fs'⟩ : BM).Ok 40 from HOK2.out.same (by unfold BM.Shape; dsimp only; omega) rfl).brk (show (1 : Int) ≠ 0 by decide)).2.2)
                  have CI1 := Lib.hid (fun W J (H : St w W J) A c (hc : j ≤ c) B d (hd : p ≤ d) (hI : Has J (evIt A (fs'.take j))) (hI2 : Has J (evIt B pt)) => (show Calls Try.prog 48 #[.agg #[.int .i64 4, .int .i64 (q + 1), .int .i64 1, .int .i64 0, .int .i64 0, .slice A j c], .int .i64 (q + 1), .int .i64 j, .slice B p d, .bool true] W (fun ed w' => ∃ A' c', ed = .returned (.tuple #[.agg #[.int .i64 1, .int .i64 (q + 1), .int .i64 0, .int .i64 0, .int .i64 0, .slice A' (ms' + 1) c'], .int .i64 0]) ∧ ms' + 1 ≤ c' ∧ St w w' (evIt A' (fs' ++ [(⟨4, 0, 0, 0, 0, 0⟩ : Ev)]) :: J)) from by
                    have h := import_last (h := hI) (h2 := hI2) (w0 := w) (w := W) (I := J) (q + 1) 1 0 0 (fs'.take j) pt A B j c p d 40 j 0 41 HTJ.out HPT.out HOT.out (by omega) (by omega) hc hd (Nat.le_refl _) (by omega) (by simp) (by omega) (by rw [HALL.out]; exact HOU.out) (by omega) H
                    rw [HALL.out] at h
                    exact bpost_to HL1.out h))
                  have CI2 := Lib.hid (fun W J (H : St w W J) A c (hc : ms' + 1 ≤ c) B d (hd : p ≤ d) (hI : Has J (evIt A (fs' ++ [(⟨4, 0, 0, 0, 0, 0⟩ : Ev)]))) (hI2 : Has J (evIt B pt)) => (show Calls Try.prog 48 #[.agg #[.int .i64 1, .int .i64 (q + 1), .int .i64 0, .int .i64 0, .int .i64 0, .slice A (ms' + 1) c], .int .i64 (q + 1), .int .i64 j, .slice B p d, .bool true] W (fun ed w' => ∃ A' c', ed = .returned (.tuple #[.agg #[.int .i64 0, .int .i64 0, .int .i64 0, .int .i64 0, .int .i64 0, .slice A' 0 c'], .int .i64 7]) ∧ 0 ≤ c' ∧ St w w' (evIt A' [] :: J)) from by
                    have h := import_none1 (h := hI) (h2 := hI2) (w0 := w) (w := W) (I := J) (q + 1) 0 0 0 (q + 1) j (fs' ++ [(⟨4, 0, 0, 0, 0, 0⟩ : Ev)]) pt A B (ms' + 1) c p d 41 true HL1.out HPT.out HOU.out (by omega) (by omega) hc hd  H
                    exact bpost_to HL0.out h))
                  have hi40 : i ≤ 40 := by omega
                  have HL2 := Lib.hid hl1
                  have HMM := Lib.hid (show j ≤ ms' ∧ ms' ≤ 35 ∧ i ≤ 5 + j from ⟨hjm', hms35, hij⟩)
                  clear hl1 hl2 hout hro hp hpt hlst hij hjm' hms35 hjm
                  go_upto_region 24 with (first | ((with_reducible refine here_allocAt 24 ?_); refine wpList_alloc_st H rfl 58 rfl _ ber_zero ?_; clear H; intro gr24 wx H) | ((with_reducible refine here_allocAt 29 ?_); refine wpList_alloc_st H rfl 58 rfl _ ber_zero ?_; clear H; intro gr29 wx H) | (go_at_call 22; with_reducible refine (CC.out _ _ H A' c' hc' inferInstance).mono ?_; clear H; rintro ed wy ⟨A6, c6, rfl, hc6, H⟩) | (go_at_call 47; with_reducible refine (CP.out _ _ H A6 c6 hc6 inferInstance).mono ?_; clear H; rintro ed wy ⟨A7, c7, rfl, hc7, H⟩) | (go_at_call 48; with_reducible refine (CI1.out _ _ H B1 d1 hd1 A7 c7 hc7 inferInstance inferInstance).mono ?_; clear H; rintro ed wy ⟨A8, c8, rfl, hc8, H⟩) | (first | ((with_reducible refine here_load ?_); first | refine ldR H rfl _ _ rfl rfl (by kernel_rfl) ?_ | refine ldS H rfl _ _ rfl rfl (by rfl) ?_ | refine ldSG H (by rfl) _ _ rfl rfl (by rfl) ?_ | refine ldRG H (by rfl) _ _ rfl rfl (by kernel_rfl) ?_) | ((with_reducible refine here_store ?_); first | (refine stR H rfl _ _ _ rfl rfl rfl (by rfl) (by rfl) (by kernel_rfl) ?_; clear H; intro wx H) | (refine stS H rfl _ _ _ rfl rfl _ rfl (by rfl) (by rfl) (by rfl) ?_; clear H; intro wx H)) | ((with_reducible refine here_alloc ?_); first | (refine wpList_alloc_st H rfl 37 rfl _ q_zero ?_; clear H; intro gq7 wx H) | (refine wpList_alloc_st H rfl 48 rfl _ ans_zero ?_; clear H; intro ga7 wx H) | (refine wpList_alloc_st H rfl 44 rfl _ ev_zero ?_; clear H; intro ge7 wx H) | (refine wpList_alloc_st H rfl 58 rfl _ ber_zero ?_; clear H; intro gr7 wx H)) | ((with_reducible refine here_box ?_); refine wpList_box_st H rfl _ _ rfl _ rfl ?_; clear H; intro gb7 wx H)))
                  go_cut [16, 17, 24, 29, 23, 26, 27, 152] (fun s16 s17 s24 s29 s23 s26 s27 s152 wx => ∃ tw : Bool, s16 = .int .i64 a' ∧ s17 = .int .i64 i ∧ s24 = .pointer (some ⟨gr24, 0, none⟩) ∧ s29 = .pointer (some ⟨gr29, 0, none⟩) ∧ s23 = .int .i64 j ∧ s26 = .slice A7 p c7 ∧ s27 = .bool true ∧ s152 = .bool tw ∧ St w wx (.bl gr24 58 #[.int .i64 ro2, .int .i64 q, .int .i64 0, .int .i64 3, .int .i64 r2, .slice A6 ms' c6] :: evIt A6 fs' :: evIt A7 pt :: .bl gr29 58 #[.int .i64 1, .int .i64 (q + 1), .int .i64 0, .int .i64 0, .int .i64 0, .slice A8 (ms' + 1) c8] :: evIt A8 (fs' ++ [(⟨4, 0, 0, 0, 0, 0⟩ : Ev)]) :: .bl grx 58 #[.int .i64 ro, .int .i64 q, .int .i64 0, .int .i64 3, .int .i64 r, .slice A' ms' c'] :: evIt A' fs' :: .bl gr3 58 #[.int .i64 4, .int .i64 (q + 1), .int .i64 1, .int .i64 0, .int .i64 0, .slice B1 j d1] :: evIt B1 (fs'.take j) :: .bl g8 58 #[.int .i64 0, .int .i64 0, .int .i64 0, .int .i64 0, .int .i64 0, .slice none 0 0] :: .bl g9 58 #[.int .i64 0, .int .i64 0, .int .i64 0, .int .i64 0, .int .i64 0, .slice none 0 0] :: I))
                  case first =>
                    as_aux_lemma =>
                      by_cases hi3 : i < n3
                      · obtain ⟨hl3, hnc3, hcb3, hr3⟩ := HBW.out
                        obtain ⟨b8, off, rfl, hb8, hcl⟩ := hr3.plain (by omega) (by omega)
                        have hz : zs[i]? = some (zs.getD i false) := by rw [List.getElem?_eq_getElem (show i < zs.length by omega)]; simp [List.getD, List.getElem?_eq_getElem (show i < zs.length by omega)]
                        have q0 := (H.bel.cell (p := ⟨b8, off + i, none⟩) hb8).trans (hcl i _ (by rw [List.getElem?_map, hz]; rfl))
                        have f1 : (i : Int) < (n3 : Int) := by omega
                        have f2 := decide_eq_true f1
                        have f3 : (0 : Int) ≤ (i : Int) := by omega
                        have f4 : (n3 : Int) ≤ (c3 : Int) := by omega
                        clear hl3 hnc3 hcb3 hr3 hb8 hcl hz hi3
                        generalize zs.getD i false = z at *
                        go_wp2_with (first | ((with_reducible refine here_load ?_); first | refine ldR H rfl _ _ rfl rfl (by kernel_rfl) ?_ | refine ldS H rfl _ _ rfl rfl (by rfl) ?_ | refine ldSG H (by rfl) _ _ rfl rfl (by rfl) ?_ | refine ldRG H (by rfl) _ _ rfl rfl (by kernel_rfl) ?_) | ((with_reducible refine here_store ?_); first | (refine stR H rfl _ _ _ rfl rfl rfl (by rfl) (by rfl) (by kernel_rfl) ?_; clear H; intro wx H) | (refine stS H rfl _ _ _ rfl rfl _ rfl (by rfl) (by rfl) (by rfl) ?_; clear H; intro wx H)) | ((with_reducible refine here_alloc ?_); first | (refine wpList_alloc_st H rfl 37 rfl _ q_zero ?_; clear H; intro gq8 wx H) | (refine wpList_alloc_st H rfl 48 rfl _ ans_zero ?_; clear H; intro ga8 wx H) | (refine wpList_alloc_st H rfl 44 rfl _ ev_zero ?_; clear H; intro ge8 wx H) | (refine wpList_alloc_st H rfl 58 rfl _ ber_zero ?_; clear H; intro gr8 wx H)) | ((with_reducible refine here_box ?_); refine wpList_box_st H rfl _ _ rfl _ rfl ?_; clear H; intro gb8 wx H))
                        go_meet
                        exact ⟨_, rfl, rfl, rfl, rfl, rfl, rfl, rfl, rfl, H.subm _⟩
                      · have f1 : ¬ (i : Int) < (n3 : Int) := by omega
                        have f2 := decide_eq_false f1
                        clear hi3
                        go_wp2_with (first | ((with_reducible refine here_load ?_); first | refine ldR H rfl _ _ rfl rfl (by kernel_rfl) ?_ | refine ldS H rfl _ _ rfl rfl (by rfl) ?_ | refine ldSG H (by rfl) _ _ rfl rfl (by rfl) ?_ | refine ldRG H (by rfl) _ _ rfl rfl (by kernel_rfl) ?_) | ((with_reducible refine here_store ?_); first | (refine stR H rfl _ _ _ rfl rfl rfl (by rfl) (by rfl) (by kernel_rfl) ?_; clear H; intro wx H) | (refine stS H rfl _ _ _ rfl rfl _ rfl (by rfl) (by rfl) (by rfl) ?_; clear H; intro wx H)) | ((with_reducible refine here_alloc ?_); first | (refine wpList_alloc_st H rfl 37 rfl _ q_zero ?_; clear H; intro gq8 wx H) | (refine wpList_alloc_st H rfl 48 rfl _ ans_zero ?_; clear H; intro ga8 wx H) | (refine wpList_alloc_st H rfl 44 rfl _ ev_zero ?_; clear H; intro ge8 wx H) | (refine wpList_alloc_st H rfl 58 rfl _ ber_zero ?_; clear H; intro gr8 wx H)) | ((with_reducible refine here_box ?_); refine wpList_box_st H rfl _ _ rfl _ rfl ?_; clear H; intro gb8 wx H))
                        go_meet
                        exact ⟨_, rfl, rfl, rfl, rfl, rfl, rfl, rfl, rfl, H.subm _⟩
                  case rest =>
                    clear H
                    obtain ⟨tw, rfl, rfl, rfl, rfl, rfl, rfl, rfl, rfl, H⟩ := hcut
                    go_upto_if 152 with fail
                    go_cut [16, 17, 24, 29] (fun s16 s17 s24 s29 wx => s16 = .int .i64 a' ∧ s17 = .int .i64 i ∧ s24 = .pointer (some ⟨gr24, 0, none⟩) ∧ s29 = .pointer (some ⟨gr29, 0, none⟩) ∧ St w wx (.bl gr24 58 #[.int .i64 ro2, .int .i64 q, .int .i64 0, .int .i64 3, .int .i64 r2, .slice A6 ms' c6] :: evIt A6 fs' :: evIt A7 pt :: .bl gr29 58 #[.int .i64 1, .int .i64 (q + 1), .int .i64 0, .int .i64 0, .int .i64 0, .slice A8 (ms' + 1) c8] :: evIt A8 (fs' ++ [(⟨4, 0, 0, 0, 0, 0⟩ : Ev)]) :: .bl grx 58 #[.int .i64 ro, .int .i64 q, .int .i64 0, .int .i64 3, .int .i64 r, .slice A' ms' c'] :: evIt A' fs' :: .bl gr3 58 #[.int .i64 4, .int .i64 (q + 1), .int .i64 1, .int .i64 0, .int .i64 0, .slice B1 j d1] :: evIt B1 (fs'.take j) :: .bl g8 58 #[.int .i64 0, .int .i64 0, .int .i64 0, .int .i64 0, .int .i64 0, .slice none 0 0] :: .bl g9 58 #[.int .i64 0, .int .i64 0, .int .i64 0, .int .i64 0, .int .i64 0, .slice none 0 0] :: I))
                    case first =>
                      as_aux_lemma =>
                        cases tw
                        · go_wp2_with (first | (go_at_call 48; with_reducible refine (CI2.out _ _ H A8 c8 hc8 A7 c7 hc7 inferInstance inferInstance).mono ?_; clear H; rintro ed wy ⟨A10, c10, rfl, hc10, H⟩) | fail | fail | (first | ((with_reducible refine here_load ?_); first | refine ldR H rfl _ _ rfl rfl (by kernel_rfl) ?_ | refine ldS H rfl _ _ rfl rfl (by rfl) ?_ | refine ldSG H (by rfl) _ _ rfl rfl (by rfl) ?_ | refine ldRG H (by rfl) _ _ rfl rfl (by kernel_rfl) ?_) | ((with_reducible refine here_store ?_); first | (refine stR H rfl _ _ _ rfl rfl rfl (by rfl) (by rfl) (by kernel_rfl) ?_; clear H; intro wx H) | (refine stS H rfl _ _ _ rfl rfl _ rfl (by rfl) (by rfl) (by rfl) ?_; clear H; intro wx H)) | ((with_reducible refine here_alloc ?_); first | (refine wpList_alloc_st H rfl 37 rfl _ q_zero ?_; clear H; intro gq9 wx H) | (refine wpList_alloc_st H rfl 48 rfl _ ans_zero ?_; clear H; intro ga9 wx H) | (refine wpList_alloc_st H rfl 44 rfl _ ev_zero ?_; clear H; intro ge9 wx H) | (refine wpList_alloc_st H rfl 58 rfl _ ber_zero ?_; clear H; intro gr9 wx H)) | ((with_reducible refine here_box ?_); refine wpList_box_st H rfl _ _ rfl _ rfl ?_; clear H; intro gb9 wx H)))
                          go_meet
                          exact ⟨rfl, rfl, rfl, rfl, H.subm _⟩
                        · go_wp2_with (first | (go_at_call 48; with_reducible refine (CI2.out _ _ H A8 c8 hc8 A7 c7 hc7 inferInstance inferInstance).mono ?_; clear H; rintro ed wy ⟨A10, c10, rfl, hc10, H⟩) | fail | fail | (first | ((with_reducible refine here_load ?_); first | refine ldR H rfl _ _ rfl rfl (by kernel_rfl) ?_ | refine ldS H rfl _ _ rfl rfl (by rfl) ?_ | refine ldSG H (by rfl) _ _ rfl rfl (by rfl) ?_ | refine ldRG H (by rfl) _ _ rfl rfl (by kernel_rfl) ?_) | ((with_reducible refine here_store ?_); first | (refine stR H rfl _ _ _ rfl rfl rfl (by rfl) (by rfl) (by kernel_rfl) ?_; clear H; intro wx H) | (refine stS H rfl _ _ _ rfl rfl _ rfl (by rfl) (by rfl) (by rfl) ?_; clear H; intro wx H)) | ((with_reducible refine here_alloc ?_); first | (refine wpList_alloc_st H rfl 37 rfl _ q_zero ?_; clear H; intro gq9 wx H) | (refine wpList_alloc_st H rfl 48 rfl _ ans_zero ?_; clear H; intro ga9 wx H) | (refine wpList_alloc_st H rfl 44 rfl _ ev_zero ?_; clear H; intro ge9 wx H) | (refine wpList_alloc_st H rfl 58 rfl _ ber_zero ?_; clear H; intro gr9 wx H)) | ((with_reducible refine here_box ?_); refine wpList_box_st H rfl _ _ rfl _ rfl ?_; clear H; intro gb9 wx H)))
                          go_meet
                          exact ⟨rfl, rfl, rfl, rfl, H.subm _⟩
                    case rest =>
                      as_aux_lemma =>
                        clear H
                        obtain ⟨rfl, rfl, rfl, rfl, H⟩ := hcut
                        have h3 : ro2 = 3 ∧ r2 = 0 := by have := HHO.out; have := HL2.out; omega
                        obtain ⟨h31, h32⟩ := h3
                        subst h31 h32
                        go_wp2_with (first | fail | (first | ((with_reducible refine here_load ?_); first | refine ldR H rfl _ _ rfl rfl (by kernel_rfl) ?_ | refine ldS H rfl _ _ rfl rfl (by rfl) ?_ | refine ldSG H (by rfl) _ _ rfl rfl (by rfl) ?_ | refine ldRG H (by rfl) _ _ rfl rfl (by kernel_rfl) ?_) | ((with_reducible refine here_store ?_); first | (refine stR H rfl _ _ _ rfl rfl rfl (by rfl) (by rfl) (by kernel_rfl) ?_; clear H; intro wx H) | (refine stS H rfl _ _ _ rfl rfl _ rfl (by rfl) (by rfl) (by rfl) ?_; clear H; intro wx H)) | ((with_reducible refine here_alloc ?_); first | (refine wpList_alloc_st H rfl 37 rfl _ q_zero ?_; clear H; intro gq10 wx H) | (refine wpList_alloc_st H rfl 48 rfl _ ans_zero ?_; clear H; intro ga10 wx H) | (refine wpList_alloc_st H rfl 44 rfl _ ev_zero ?_; clear H; intro ge10 wx H) | (refine wpList_alloc_st H rfl 58 rfl _ ber_zero ?_; clear H; intro gr10 wx H)) | ((with_reducible refine here_box ?_); refine wpList_box_st H rfl _ _ rfl _ rfl ?_; clear H; intro gb10 wx H)))
                        go_roundw
                        case rel =>
                          exact ⟨i + 1, a', 3, 0, fs', ms', j, A6, c6, A8, c8, rfl, by go_num, HFS'.out, hc6, .inr ⟨by omega, HOK2.out, by have := HMM.out; omega, hc8, H.subm _⟩⟩
                        case measure => simp [intOf] <;> omega
      · as_aux_lemma =>
          have e1 : (i : Int) < 200 := by omega
          have e2 := decide_eq_true e1
          have HFS := Lib.hid hfs
          have HOK := Lib.hid hok
          clear hfs hok
          go_upto_region 30 with (first | ((with_reducible refine here_load ?_); first | refine ldR H rfl _ _ rfl rfl (by kernel_rfl) ?_ | refine ldS H rfl _ _ rfl rfl (by rfl) ?_ | refine ldSG H (by rfl) _ _ rfl rfl (by rfl) ?_ | refine ldRG H (by rfl) _ _ rfl rfl (by kernel_rfl) ?_) | ((with_reducible refine here_store ?_); first | (refine stR H rfl _ _ _ rfl rfl rfl (by rfl) (by rfl) (by kernel_rfl) ?_; clear H; intro wx H) | (refine stS H rfl _ _ _ rfl rfl _ rfl (by rfl) (by rfl) (by rfl) ?_; clear H; intro wx H)) | ((with_reducible refine here_alloc ?_); first | (refine wpList_alloc_st H rfl 37 rfl _ q_zero ?_; clear H; intro gq5 wx H) | (refine wpList_alloc_st H rfl 48 rfl _ ans_zero ?_; clear H; intro ga5 wx H) | (refine wpList_alloc_st H rfl 44 rfl _ ev_zero ?_; clear H; intro ge5 wx H) | (refine wpList_alloc_st H rfl 58 rfl _ ber_zero ?_; clear H; intro gr5 wx H)) | ((with_reducible refine here_box ?_); refine wpList_box_st H rfl _ _ rfl _ rfl ?_; clear H; intro gb5 wx H))
          (try simp only [Act.put])
          refine startS (H.subm (.bl grx 58 #[.int .i64 3, .int .i64 q, .int .i64 0, .int .i64 3, .int .i64 0, .slice A1 ms c1] :: evIt A1 fs :: .bl gr3 58 #[.int .i64 1, .int .i64 (q + 1), .int .i64 0, .int .i64 0, .int .i64 0, .slice B1 ((ms + 1)) d1] :: evIt B1 (fs ++ [⟨4, 0, 0, 0, 0, 0⟩]) :: I)) (by kernel_rfl) (fun HS => ?_)
          replace H := H.drew
          refine takeRow_st (i := 0) 58 _ rfl rfl rfl row_Berth (by kernel_rfl) (by kernel_rfl) (by kernel_rfl) (by kernel_rfl) (fun _ _ _ _ h => h) (by rfl) HS ?_
          (try simp only [Act.put, List.setIfInBounds_toArray, List.set_cons_zero, List.set_cons_succ])
          refine takeRow_st (i := 1) 58 _ rfl rfl rfl row_Berth (by kernel_rfl) (by kernel_rfl) (by kernel_rfl) (by kernel_rfl) (fun _ _ _ _ h => h) (by rfl) HS ?_
          (try simp only [Act.put, List.setIfInBounds_toArray, List.set_cons_zero, List.set_cons_succ])
          refine takeV (i := 2) (v := ?_) rfl (by kernel_rfl) (by kernel_rfl) (by kernel_rfl) (fun _ _ _ h => h) (by rfl) ?_ HS ?_
          rotate_left
          · (intro W hW; go_simp; try with_reducible rfl)
          (try simp only [Act.put, List.setIfInBounds_toArray, List.set_cons_zero, List.set_cons_succ])
          refine take1_st (i := 3) 3 _ rfl rfl rfl sc_int _ (by rfl) (by kernel_rfl) (by kernel_rfl) (by kernel_rfl) (fun _ _ _ _ h => h) (by rfl) HS ?_
          (try simp only [Act.put, List.setIfInBounds_toArray, List.set_cons_zero, List.set_cons_succ])
          refine takeV (i := 4) (v := ?_) rfl (by kernel_rfl) (by kernel_rfl) (by kernel_rfl) (fun _ _ _ h => h) (by rfl) ?_ HS ?_
          rotate_left
          · (intro W hW; go_simp; try with_reducible rfl)
          (try simp only [Act.put, List.setIfInBounds_toArray, List.set_cons_zero, List.set_cons_succ])
          refine branchH [5] (by kernel_rfl) (by kernel_rfl) (AllStep.cons ?_ AllStep.nil)
          refine stepH_do (i := 5) rfl (by rfl) ?_
          refine wp_store_st H 58 _ _ rfl rfl rfl (by kernel_rfl) (by rfl) (by kernel_rfl) ?_
          clear H
          intro wx H
          replace HS := HS.of H
          refine ⟨HS, ?_⟩
          (try simp only [Act.put])
          refine branchH [6] (by kernel_rfl) (by kernel_rfl) (AllStep.cons ?_ AllStep.nil)
          refine stepH_do (i := 6) rfl (by rfl) ?_
          refine wp_store_st H 58 _ _ rfl rfl rfl (by kernel_rfl) (by rfl) (by kernel_rfl) ?_
          clear H
          intro wx H
          replace HS := HS.of H
          refine ⟨HS, ?_⟩
          (try simp only [Act.put])
          refine takeAssign (i := 7) rfl rfl _ (by rfl) (by kernel_rfl) (by kernel_rfl) (by kernel_rfl) (fun _ _ _ _ h => h) (by rfl) HS ?_
          (try simp only [Act.put, List.setIfInBounds_toArray, List.set_cons_zero, List.set_cons_succ])
          refine doneH (by kernel_rfl) ?_
          go_wp2_with fail
          have l4 : (loadVar 58 ⟨g8, 0, none⟩).run Try.prog wx = .ok (.agg #[.int .i64 3, .int .i64 q, .int .i64 0, .int .i64 3, .int .i64 0, .slice A1 ms c1]) wx := H.loadRow 58 g8 row_Berth (P := Try.prog) (by kernel_rfl)
          have l5 : (loadVar 58 ⟨g9, 0, none⟩).run Try.prog wx = .ok (.agg #[.int .i64 1, .int .i64 (q + 1), .int .i64 0, .int .i64 0, .int .i64 0, .slice B1 ((ms + 1)) d1]) wx := H.loadRow 58 g9 row_Berth (P := Try.prog) (by kernel_rfl)
          exact bodyPost_ret (v := .tuple #[.agg #[.int .i64 3, .int .i64 q, .int .i64 0, .int .i64 3, .int .i64 0, .slice A1 ms c1], .agg #[.int .i64 1, .int .i64 (q + 1), .int .i64 0, .int .i64 0, .int .i64 0, .slice B1 ((ms + 1)) d1], .bool true]) (by simp [results, Try.results23, asAddr, l4, l5]) rfl (HF.out _ _ _ _ _ _ _ HFS.out hms HOK.out hc1 hd1 (H.subm _))


end Go.Proofs.Ytjmncbfmjeeneaa

namespace Go.Proofs.Ytjmncbfmjeeneaa
open Go.RowKit

def impOf (q ep peer : Int) (es : List Ev) : List Rc := ⟨4, q, ep, peer, Ev.zero⟩ :: es.map (fun e => ⟨5, q, ep, 0, e⟩)
theorem impOf_len (q ep peer : Int) (es : List Ev) : (impOf q ep peer es).length = es.length + 1 := by simp [impOf]
theorem impOf_snoc (q ep peer : Int) (es : List Ev) (i : Nat) (hi : i < es.length) : impOf q ep peer (es.take i) ++ [⟨5, q, ep, 0, es.getD i .zero0⟩] = impOf q ep peer (es.take (i + 1)) := by
  rw [take_ev es i hi]
  simp [impOf]
theorem impOf_at (q ep peer : Int) (es : List Ev) (i : Nat) (hi : i < es.length) : (impOf q ep peer es).getD (i + 1) rc0 = ⟨5, q, ep, 0, es.getD i .zero0⟩ := by
  simp [impOf, List.getD, List.getElem?_eq_getElem hi]
theorem impS_at (ep fr : Int) (es : List Ev) (i : Nat) (h : 0 < i) : impS ep fr es i = ⟨4, ep, fr, 0, 0, es.take (i - 1)⟩ := by
  cases i with
  | zero => omega
  | succ i => rfl
theorem imp_chain (q : Nat) (hq : q < 4) (ep peer : Int) (es : List Ev) (m : Nat) (hb : (⟨4, ep, peer, 0, 0, es⟩ : BM).Ok m) (hm : m ≤ 150) (h1 : 1 ≤ ep) (h2 : ep ≤ 1048576) (h3 : 0 ≤ peer ∧ peer < 5) : Chain q (impOf q ep peer es) (impS ep peer es) := by
  intro i hi
  rw [impOf_len] at hi
  have hcut : ∀ k, (⟨4, ep, peer, 0, 0, es.take k⟩ : BM).Ok m := fun k => hb.cut k (.inr ⟨h1, h2, .inr (.inr (.inr ⟨rfl, h3.1, h3.2, rfl, rfl⟩))⟩) rfl
  cases i with
  | zero =>
    refine ⟨rfl, ?_⟩
    exact fits_begin BM.zero 0 q ep peer BM.zero_ok (by omega) rfl h3 (by omega) (by show (0 : Int) < ep; omega) h1 h2
  | succ i =>
    have hi' : i < es.length := by omega
    rw [impOf_at _ _ _ _ _ hi']
    refine ⟨rfl, ?_⟩
    unfold impS
    dsimp only
    have h4 := hcut (i + 1)
    rw [← take_sn es i hi'] at h4 ⊢
    refine fits_import ep peer (es.take i) _ m q (hcut i) hm h4 ?_ (by omega) h1 h2
    refine hb.chk _ ?_
    show es.getD i .zero0 ∈ es
    rw [List.getD, List.getElem?_eq_getElem hi']
    exact List.getElem_mem hi'
theorem act_chain (q : Nat) (hq : q < 4) (ep peer : Int) (es : List Ev) (m : Nat) (hb : (⟨4, ep, peer, 0, 0, es⟩ : BM).Ok m) (hm : m < 150) (h1 : 1 ≤ ep) (h2 : ep ≤ 1048576) (h3 : 0 ≤ peer ∧ peer < 5) :
    ∃ s : Nat → BM, s (es.length + 2) = ⟨1, ep, 0, 0, 0, es ++ [⟨4, 0, 0, 0, 0, 0⟩]⟩ ∧ Chain q (impOf q ep peer es ++ [⟨6, q, ep, 0, Ev.zero⟩]) s ∧ s 0 = BM.zero := by
  refine ⟨_, ?_, (imp_chain q hq ep peer es m hb (by omega) h1 h2 h3).snoc ⟨6, q, ep, 0, Ev.zero⟩ ⟨1, ep, 0, 0, 0, es ++ [⟨4, 0, 0, 0, 0, 0⟩]⟩ rfl ?_, rfl⟩
  · rw [if_neg (by rw [impOf_len]; omega)]
  · rw [impOf_len, impS_at _ _ _ _ (by omega), Nat.add_sub_cancel, List.take_length]
    have h4 : (⟨1, ep, 0, 0, 0, es⟩ : BM).Ok m := hb.same (.inr ⟨h1, h2, .inl ⟨rfl, rfl, rfl, rfl⟩⟩) rfl
    exact fits_activate ep peer es (m + 1) q (hb.more (by omega)) (by omega) (h4.brk (by show (1 : Int) ≠ 0; decide)).2.2 (by omega) h1 h2

end Go.Proofs.Ytjmncbfmjeeneaa

namespace Go.Proofs.Ytjmncbfmjeeneaa
open Go.RowKit

set_option maxRecDepth 100000 in
set_option maxHeartbeats 8000000 in
theorem rebuildMove_walk (ep : Int) (A : Option Addr) (n c : Nat) (rows : List (List Int)) (A2 : Option Addr) (n2 c2 : Nat) (rows2 : List (List Int)) (qq : Int) (w : World) (h0 : Is64 ep) (h : IsRows 4 32 w A n c rows) (h2 : IsRows 4 32 w A2 n2 c2 rows2) (h4 : Is64 qq) :
    Calls Try.prog 8 #[.int .i64 ep, .slice A n c, .slice A2 n2 c2, .int .i64 qq] w fun e w' => e = .returned (.bool true) ∧ Below w.heap.size w w' := by
  have H := St.start w
  have MV0 := fun W J (H : St w W J) => moved_st (w := w) (w1 := W) (I := J) ep A n c rows A2 n2 c2 rows2 none 0 0 [] h0 h h2 ⟨rfl, Nat.le_refl _, by omega, Reads.none_⟩ H
  have p0 := pick_lo ep 1000 (by omega)
  have p1 := pick_hi ep 1000 (by omega)
  obtain ⟨q, hq⟩ : ∃ q, 1 + pick ep 1000 = q := ⟨_, rfl⟩
  rw [hq] at MV0
  have hq1 : 1 ≤ q := by omega
  have hq2 : q ≤ 1000 := by omega
  have MV := Lib.hid MV0
  clear hq p0 p1 MV0
  have PK := Lib.hid (fun W => (picked_any qq 4 W (h4).1 (h4).2 (by omega) (by omega)).mono (fun e w' h => (⟨h.1, h.2.symm⟩ : e = .returned (.int .i64 (pick qq 4)) ∧ w' = W)))
  have k_l := pick_lo qq 4 (by omega)
  have k_h := pick_hi qq 4 (by omega)
  obtain ⟨k_, hk_⟩ : ∃ x, pick qq 4 = x := ⟨_, rfl⟩
  rw [hk_] at PK k_l k_h
  clear hk_
  obtain ⟨k, rfl⟩ : ∃ x : Nat, k_ = (x : Int) := ⟨k_.toNat, by omega⟩
  have hk : k < 4 := by omega
  have w1 : IntKind.i64.wrap (q + 1) = q + 1 := IntWalk.i64_in _ (by omega)
  have hk0 : (0 : Int) ≤ (k : Int) := by omega
  have hk4 : (k : Int) < 4 := by omega
  clear h0 h h2 h4
  go_enter Try.func8, Try.ntmps8
  go_upto_region 2 with (first | (go_at_call 23; (with_reducible refine (MV.out _ _ H).mono ?_); clear H; rintro ed wy ⟨fs, m, Af, cf, Bf, df, rfl, hm, hm40, hok, hcf, hdf, H⟩) | ((with_reducible refine here_allocAt 9 ?_); refine wpList_alloc_st H rfl 58 rfl _ ber_zero ?_; clear H; intro grs wx H) | ((with_reducible refine here_allocAt 10 ?_); refine wpList_alloc_st H rfl 58 rfl _ ber_zero ?_; clear H; intro grt wx H) | (first | ((with_reducible refine here_load ?_); first | refine ldR H rfl _ _ rfl rfl (by kernel_rfl) ?_ | refine ldS H rfl _ _ rfl rfl (by rfl) ?_ | refine ldSG H (by rfl) _ _ rfl rfl (by rfl) ?_ | refine ldRG H (by rfl) _ _ rfl rfl (by kernel_rfl) ?_) | ((with_reducible refine here_store ?_); first | (refine stR H rfl _ _ _ rfl rfl rfl (by rfl) (by rfl) (by kernel_rfl) ?_; clear H; intro wx H) | (refine stS H rfl _ _ _ rfl rfl _ rfl (by rfl) (by rfl) (by rfl) ?_; clear H; intro wx H)) | ((with_reducible refine here_alloc ?_); first | (refine wpList_alloc_st H rfl 37 rfl _ q_zero ?_; clear H; intro gqx wx H) | (refine wpList_alloc_st H rfl 48 rfl _ ans_zero ?_; clear H; intro gax wx H) | (refine wpList_alloc_st H rfl 44 rfl _ ev_zero ?_; clear H; intro gex wx H) | (refine wpList_alloc_st H rfl 58 rfl _ ber_zero ?_; clear H; intro grx wx H)) | ((with_reducible refine here_box ?_); refine wpList_box_st H rfl _ _ rfl _ rfl ?_; clear H; intro gbx wx H)))
  (try simp only [Act.put])
  replace H : St w wx [.bl grs 58 #[.int .i64 3, .int .i64 q, .int .i64 0, .int .i64 3, .int .i64 0, .slice Af m cf], .bl grt 58 #[.int .i64 1, .int .i64 (q + 1), .int .i64 0, .int .i64 0, .int .i64 0, .slice Bf (m + 1) df], evIt Af fs, evIt Bf (fs ++ [(⟨4, 0, 0, 0, 0, 0⟩ : Ev)])] := H.subm _
  have HL := Lib.hid hm
  have HX := Lib.hid hok
  have HL2 := Lib.hid (show (fs ++ [(⟨4, 0, 0, 0, 0, 0⟩ : Ev)]).length = m + 1 from by rw [List.length_append, HL.out]; rfl)
  clear hm hok
  have HXT := Lib.hid (show (⟨4, q + 1, 1, 0, 0, fs⟩ : BM).Ok 40 from HX.out.same (by unfold BM.Shape; dsimp only; omega) rfl)
  have HX1 := Lib.hid (show (⟨1, q, 0, 0, 0, fs⟩ : BM).Ok 40 from HX.out.same (by unfold BM.Shape; dsimp only; omega) rfl)
  have HLH := Lib.hid (show (histOf (k : Int) q fs).length = m + 1 from by rw [histOf_len, HL.out])
  have HLI := Lib.hid (show (impOf (k : Int) (q + 1) 1 fs).length = m + 1 from by rw [impOf_len, HL.out])
  have HLA := Lib.hid (show (impOf (k : Int) (q + 1) 1 fs ++ [(⟨6, (k : Int), q + 1, 0, Ev.zero⟩ : Rc)]).length = m + 2 from by rw [List.length_append, HLI.out]; rfl)
  obtain ⟨s1, hs1, hc1, h10⟩ : ∃ s1 : Nat → BM, s1 (m + 2) = ⟨3, q, 0, 3, 0, fs⟩ ∧ Chain k (histOf (k : Int) q fs ++ [(⟨3, (k : Int), q, 3, Ev.zero⟩ : Rc)]) s1 ∧ s1 0 = BM.zero := ⟨_, by rw [if_neg (by rw [HLH.out]; omega)], seal_chain k hk q 3 fs 40 HX1.out (by omega) hq1 (by omega) (by omega), rfl⟩
  obtain ⟨rs, hrs⟩ : ∃ rs, histOf (k : Int) q fs ++ [(⟨3, (k : Int), q, 3, Ev.zero⟩ : Rc)] = rs := ⟨_, rfl⟩
  have HLR := Lib.hid (show rs.length = m + 2 from by rw [← hrs, List.length_append, HLH.out]; rfl)
  have CR := Lib.hid (fun W J (H : St w W J) A c (hc : m ≤ c) (hI : Has J (evIt A fs)) => records_to (h := hI) (w0 := w) (w := W) (I := J) k 3 q 0 3 0 fs A m c (m + 2) (rs) (by rw [← hrs]; rfl) HLR.out HL.out (by omega) hc H)
  rw [hrs] at hc1
  clear hrs
  have HLG := Lib.hid (show (rs ++ [(⟨7, (k : Int), q, 0, Ev.zero⟩ : Rc)]).length = m + 3 from by rw [List.length_append, HLR.out]; rfl)
  have CA2 := Lib.hid (fun W J (H : St w W J) A c (hc : m + 2 ≤ c) (hI : Has J (rcIt A (rs))) => all_one (h := hI) (w0 := w) (w := W) (I := J) k hk (rs) (s1) 3 q 0 3 0 fs m (m + 2) HL.out HLR.out (by omega) hc1 h10 hs1 A c hc H)
  have CA3 := Lib.hid (fun W J (H : St w W J) A c (hc : m + 3 ≤ c) (hI : Has J (rcIt A (rs ++ [(⟨7, (k : Int), q, 0, Ev.zero⟩ : Rc)]))) => all_one (h := hI) (w0 := w) (w := W) (I := J) k hk (rs ++ [(⟨7, (k : Int), q, 0, Ev.zero⟩ : Rc)]) (fun i => if i ≤ rs.length then s1 i else ⟨0, q, 0, 0, 0, []⟩) 0 q 0 0 0 [] 0 (m + 3) rfl HLG.out (by omega) (hc1.snoc (⟨7, (k : Int), q, 0, Ev.zero⟩ : Rc) ⟨0, q, 0, 0, 0, []⟩ rfl (by rw [HLR.out, hs1]; exact fits_forget q fs 3 40 k HX.out (by omega) ⟨hk0, hk4⟩ hq1 (by omega))) (by rw [if_pos (by omega)]; exact h10) (by rw [if_neg (by rw [HLR.out]; omega)]) A c hc H)
  obtain ⟨s2, hs2, hc2, h20⟩ := act_chain k hk (q + 1) 1 fs 40 HXT.out (by omega) (by omega) (by omega) (by omega)
  rw [HL.out] at hs2
  have CA1 := Lib.hid (fun W J (H : St w W J) A c (hc : m + 2 ≤ c) (hI : Has J (rcIt A (impOf (k : Int) (q + 1) 1 fs ++ [(⟨6, (k : Int), q + 1, 0, Ev.zero⟩ : Rc)]))) => all_one (h := hI) (w0 := w) (w := W) (I := J) k hk (impOf (k : Int) (q + 1) 1 fs ++ [(⟨6, (k : Int), q + 1, 0, Ev.zero⟩ : Rc)]) (s2) 1 (q + 1) 0 0 0 (fs ++ [(⟨4, 0, 0, 0, 0, 0⟩ : Ev)]) (m + 1) (m + 2) HL2.out HLA.out (by omega) hc2 h20 hs2 A c hc H)
  clear hs1 hc1 h10 hs2 hc2 h20
  go_upto_region 3 with (first | (go_at_call 10; with_reducible refine (PK.out _).mono ?_; rintro ed wy ⟨rfl, rfl⟩) | (first | ((with_reducible refine here_load ?_); first | refine ldR H rfl _ _ rfl rfl (by kernel_rfl) ?_ | refine ldS H rfl _ _ rfl rfl (by rfl) ?_ | refine ldSG H (by rfl) _ _ rfl rfl (by rfl) ?_ | refine ldRG H (by rfl) _ _ rfl rfl (by kernel_rfl) ?_) | ((with_reducible refine here_store ?_); first | (refine stR H rfl _ _ _ rfl rfl rfl (by rfl) (by rfl) (by kernel_rfl) ?_; clear H; intro wx H) | (refine stS H rfl _ _ _ rfl rfl _ rfl (by rfl) (by rfl) (by rfl) ?_; clear H; intro wx H)) | ((with_reducible refine here_alloc ?_); first | (refine wpList_alloc_st H rfl 37 rfl _ q_zero ?_; clear H; intro gq2 wx H) | (refine wpList_alloc_st H rfl 48 rfl _ ans_zero ?_; clear H; intro ga2 wx H) | (refine wpList_alloc_st H rfl 44 rfl _ ev_zero ?_; clear H; intro ge2 wx H) | (refine wpList_alloc_st H rfl 58 rfl _ ber_zero ?_; clear H; intro gr2 wx H)) | ((with_reducible refine here_box ?_); refine wpList_box_st H rfl _ _ rfl _ rfl ?_; clear H; intro gb2 wx H)))
  (try simp only [Act.put])
  go_upto_region 5 with (first | ((with_reducible refine here_buildSlice ?_); refine wpList_buildSlice1_st H rfl 61 _ rfl 67 Try.underlying61 _ rfl _ rec_info2 (by rfl) (by rfl) ?_; clear H; intro gs wx H) | (first | ((with_reducible refine here_load ?_); first | refine ldR H rfl _ _ rfl rfl (by kernel_rfl) ?_ | refine ldS H rfl _ _ rfl rfl (by rfl) ?_ | refine ldSG H (by rfl) _ _ rfl rfl (by rfl) ?_ | refine ldRG H (by rfl) _ _ rfl rfl (by kernel_rfl) ?_) | ((with_reducible refine here_store ?_); first | (refine stR H rfl _ _ _ rfl rfl rfl (by rfl) (by rfl) (by kernel_rfl) ?_; clear H; intro wx H) | (refine stS H rfl _ _ _ rfl rfl _ rfl (by rfl) (by rfl) (by rfl) ?_; clear H; intro wx H)) | ((with_reducible refine here_alloc ?_); first | (refine wpList_alloc_st H rfl 37 rfl _ q_zero ?_; clear H; intro gq3 wx H) | (refine wpList_alloc_st H rfl 48 rfl _ ans_zero ?_; clear H; intro ga3 wx H) | (refine wpList_alloc_st H rfl 44 rfl _ ev_zero ?_; clear H; intro ge3 wx H) | (refine wpList_alloc_st H rfl 58 rfl _ ber_zero ?_; clear H; intro gr3 wx H)) | ((with_reducible refine here_box ?_); refine wpList_box_st H rfl _ _ rfl _ rfl ?_; clear H; intro gb3 wx H)))
  replace H := H.ownB (s := 10) rfl
  go_loopw [13, 14] (fun s13 s14 wr => ∃ (i : Nat) (A5 : Option Addr) (c5 : Nat), i ≤ m ∧ s14 = .int .i64 i ∧ s13 = .slice A5 (i + 1) c5 ∧ i + 1 ≤ c5 ∧ c5 ≤ maxLen ∧ St w wr [.ow 67 10 (.slice A5 (i + 1) c5) (i + 1) (rcCells (impOf (k : Int) (q + 1) 1 (fs.take i))), .bl grs 58 #[.int .i64 3, .int .i64 q, .int .i64 0, .int .i64 3, .int .i64 0, .slice Af m cf], .bl grt 58 #[.int .i64 1, .int .i64 (q + 1), .int .i64 0, .int .i64 0, .int .i64 0, .slice Bf (m + 1) df], evIt Af fs, evIt Bf (fs ++ [(⟨4, 0, 0, 0, 0, 0⟩ : Ev)])]) (fun _ s14 _ => m - (intOf s14).toNat)
  case atStart => exact ⟨0, _, 1, by omega, rfl, rfl, by omega, by simp only [maxLen]; omega, H⟩
  case round =>
    clear H
    obtain ⟨i, A5, c5, hi, rfl, rfl, hc5, hc5', H⟩ := hrel
    have w2 : IntKind.i64.wrap ((i : Int) + 1) = (i : Int) + 1 := IntWalk.i64_in _ (by omega)
    by_cases hlt : i < m
    · obtain ⟨b8, off, hA8, hb8, _⟩ := qevAt (H.get (evIt Bf (fs ++ [(⟨4, 0, 0, 0, 0, 0⟩ : Ev)]))) rfl (show i < (fs ++ [(⟨4, 0, 0, 0, 0, 0⟩ : Ev)]).length by rw [HL2.out]; omega)
      subst hA8
      have QA := Lib.hid (fun W (hW : Reads W W.heap.size 6 (some ⟨b8, off, none⟩) (fs ++ [(⟨4, 0, 0, 0, 0, 0⟩ : Ev)]).length (qevCells (fs ++ [(⟨4, 0, 0, 0, 0, 0⟩ : Ev)]))) => qevAt hW rfl (show i < (fs ++ [(⟨4, 0, 0, 0, 0, 0⟩ : Ev)]).length by rw [HL2.out]; omega))
      have HSN := Lib.hid (impOf_snoc (k : Int) (q + 1) 1 fs i (by rw [HL.out]; exact hlt))
      have HGD := Lib.hid (show (fs ++ [(⟨4, 0, 0, 0, 0, 0⟩ : Ev)]).getD i .zero0 = fs.getD i .zero0 from getD_left (by rw [HL.out]; exact hlt))
      rw [HGD.out] at QA
      obtain ⟨e, he⟩ : ∃ e, fs.getD i .zero0 = e := ⟨_, rfl⟩
      rw [he] at HSN QA
      obtain ⟨e0, e1, e2, e3, e4, e5⟩ := e
      have k5 : (0 : Int) ≤ (i : Int) := by omega
      have k6 : (i : Int) + 1 < (m : Int) + 1 := by omega
      have k7 := decide_eq_true k6
      have k8 : (i : Int) < (m : Int) + 1 := by omega
      have k9 : (m : Int) + 1 ≤ (df : Int) := by omega
      have HLT := Lib.hid hlt
      clear hb8 he hlt
      go_upto_region 7 with (first | ((with_reducible refine here_load ?_); first | refine ldR H rfl _ _ rfl rfl (by kernel_rfl) ?_ | refine ldS H rfl _ _ rfl rfl (by rfl) ?_ | refine ldSG H (by rfl) _ _ rfl rfl (by rfl) ?_ | refine ldRG H (by rfl) _ _ rfl rfl (by kernel_rfl) ?_) | ((with_reducible refine here_store ?_); first | (refine stR H rfl _ _ _ rfl rfl rfl (by rfl) (by rfl) (by kernel_rfl) ?_; clear H; intro wx H) | (refine stS H rfl _ _ _ rfl rfl _ rfl (by rfl) (by rfl) (by rfl) ?_; clear H; intro wx H)) | ((with_reducible refine here_alloc ?_); first | (refine wpList_alloc_st H rfl 37 rfl _ q_zero ?_; clear H; intro gq5 wx H) | (refine wpList_alloc_st H rfl 48 rfl _ ans_zero ?_; clear H; intro ga5 wx H) | (refine wpList_alloc_st H rfl 44 rfl _ ev_zero ?_; clear H; intro ge5 wx H) | (refine wpList_alloc_st H rfl 58 rfl _ ber_zero ?_; clear H; intro gr5 wx H)) | ((with_reducible refine here_box ?_); refine wpList_box_st H rfl _ _ rfl _ rfl ?_; clear H; intro gb5 wx H))
      (try simp only [Act.put])
      refine startS (H.subm (.bl grs 58 #[.int .i64 3, .int .i64 q, .int .i64 0, .int .i64 3, .int .i64 0, .slice Af m cf] :: .bl grt 58 #[.int .i64 1, .int .i64 (q + 1), .int .i64 0, .int .i64 0, .int .i64 0, .slice (some ⟨b8, off, none⟩) (m + 1) df] :: evIt Af fs :: evIt (some ⟨b8, off, none⟩) (fs ++ [(⟨4, 0, 0, 0, 0, 0⟩ : Ev)]) :: [])) (by kernel_rfl) (fun HS => ?_)
      replace H := H.drew
      refine takeMove (i := 0) rfl rfl _ (by rfl) (by kernel_rfl) (by kernel_rfl) (by kernel_rfl) (fun _ _ _ _ h => h) (by rfl) HS ?_
      (try simp only [Act.put, List.setIfInBounds_toArray, List.set_cons_zero, List.set_cons_succ])
      refine takeMove (i := 1) rfl rfl _ (by rfl) (by kernel_rfl) (by kernel_rfl) (by kernel_rfl) (fun _ _ _ _ h => h) (by rfl) HS ?_
      (try simp only [Act.put, List.setIfInBounds_toArray, List.set_cons_zero, List.set_cons_succ])
      refine takeV (i := 2) (v := ?_) rfl (by kernel_rfl) (by kernel_rfl) (by kernel_rfl) (fun _ _ _ h => h) (by rfl) ?_ HS ?_
      rotate_left
      · (intro W hW; go_simp; try with_reducible rfl)
      (try simp only [Act.put, List.setIfInBounds_toArray, List.set_cons_zero, List.set_cons_succ])
      refine take1_st (i := 3) 3 _ rfl rfl rfl sc_int _ (by rfl) (by kernel_rfl) (by kernel_rfl) (by kernel_rfl) (fun _ _ _ _ h => h) (by rfl) HS ?_
      (try simp only [Act.put, List.setIfInBounds_toArray, List.set_cons_zero, List.set_cons_succ])
      refine takeV (i := 4) (v := ?_) rfl (by kernel_rfl) (by kernel_rfl) (by kernel_rfl) (fun _ _ _ h => h) (by rfl) ?_ HS ?_
      rotate_left
      · (intro W hW; go_simp; try with_reducible rfl)
      (try simp only [Act.put, List.setIfInBounds_toArray, List.set_cons_zero, List.set_cons_succ])
      refine take1_st (i := 5) 23 _ rfl rfl rfl sc_Evs _ (by rfl) (by kernel_rfl) (by kernel_rfl) (by kernel_rfl) (fun _ _ _ _ h => h) (by rfl) HS ?_
      (try simp only [Act.put, List.setIfInBounds_toArray, List.set_cons_zero, List.set_cons_succ])
      refine takeMove (i := 6) rfl rfl _ (by rfl) (by kernel_rfl) (by kernel_rfl) (by kernel_rfl) (fun _ _ _ _ h => h) (by rfl) HS ?_
      (try simp only [Act.put, List.setIfInBounds_toArray, List.set_cons_zero, List.set_cons_succ])
      refine takeV (i := 7) (v := ?_) rfl (by kernel_rfl) (by kernel_rfl) (by kernel_rfl) (fun _ _ _ h => h) (by rfl) ?_ HS ?_
      rotate_left
      · (intro W hW; go_simp; try with_reducible rfl)
      (try simp only [Act.put, List.setIfInBounds_toArray, List.set_cons_zero, List.set_cons_succ])
      refine takeV (i := 8) (v := .agg #[.int .i64 e0, .int .i64 e1, .int .i64 e2, .int .i64 e3, .int .i64 e4, .int .i64 e5]) rfl (by kernel_rfl) (by kernel_rfl) (by kernel_rfl) (fun _ _ _ h => h) (by rfl) ?_ HS ?_
      · intro W hW
        obtain ⟨b9, off9, hA9, _, q0, q1, q2, q3, q4, q5⟩ := QA.out W (hW.get (evIt (some ⟨b8, off, none⟩) (fs ++ [(⟨4, 0, 0, 0, 0, 0⟩ : Ev)])))
        obtain ⟨rfl, rfl⟩ : b8 = b9 ∧ off = off9 := by cases hA9; exact ⟨rfl, rfl⟩
        dsimp only at q0 q1 q2 q3 q4 q5
        go_simp
        try with_reducible rfl
      (try simp only [Act.put, List.setIfInBounds_toArray, List.set_cons_zero, List.set_cons_succ])
      refine takeV (i := 9) (v := ?_) rfl (by kernel_rfl) (by kernel_rfl) (by kernel_rfl) (fun _ _ _ h => h) (by rfl) ?_ HS ?_
      rotate_left
      · (intro W hW; go_simp; try with_reducible rfl)
      (try simp only [Act.put, List.setIfInBounds_toArray, List.set_cons_zero, List.set_cons_succ])
      refine branchH [10] (by kernel_rfl) (by kernel_rfl) (AllStep.cons ?_ AllStep.nil)
      refine stepH_do (i := 10) rfl (by rfl) ?_
      refine wp_buildSlice1_st H 61 _ rfl 67 Try.underlying61 _ rfl _ rec_info2 (by rfl) (by rfl) ?_
      clear H
      intro gs wx H
      replace HS := HS.of H
      refine ⟨HS, ?_⟩
      (try simp only [Act.put, List.setIfInBounds_toArray, List.set_cons_zero, List.set_cons_succ])
      refine branchH [11] (by kernel_rfl) (by kernel_rfl) (AllStep.cons ?_ AllStep.nil)
      refine stepH_do (i := 11) rfl (by rfl) ?_
      refine wp_appendB_st (v := .slice A5 (i + 1) c5) H _ _ 61 rfl rfl rfl Try.underlying61 _ _ rec_info (by rfl) (by rfl) (by rfl) (by kernel_rfl) (by simp only [maxLen]; omega) (by omega) ?_
      clear H
      intro A8 c8 wx hc8 hc8' H
      replace H := (show St w wx (.ow 67 10 (.slice A8 (i + 1 + 1) c8) (i + 1 + 1) (rcCells (impOf (k : Int) (q + 1) 1 (fs.take (i + 1)))) :: _) from by rw [← HSN.out, ← rcCells_snoc]; exact H.tail)
      replace HS := HS.of H
      refine ⟨HS, ?_⟩
      (try simp only [Act.put, List.setIfInBounds_toArray, List.set_cons_zero, List.set_cons_succ])
      refine takeAssign (i := 12) rfl rfl _ (by rfl) (by kernel_rfl) (by kernel_rfl) (by kernel_rfl) (fun _ _ _ _ h => h) (by rfl) HS ?_
      (try simp only [Act.put, List.setIfInBounds_toArray, List.set_cons_zero, List.set_cons_succ])
      refine doneH (by kernel_rfl) ?_
      go_wp2_with (first | ((with_reducible refine here_load ?_); first | refine ldR H rfl _ _ rfl rfl (by kernel_rfl) ?_ | refine ldS H rfl _ _ rfl rfl (by rfl) ?_ | refine ldSG H (by rfl) _ _ rfl rfl (by rfl) ?_ | refine ldRG H (by rfl) _ _ rfl rfl (by kernel_rfl) ?_) | ((with_reducible refine here_store ?_); first | (refine stR H rfl _ _ _ rfl rfl rfl (by rfl) (by rfl) (by kernel_rfl) ?_; clear H; intro wx H) | (refine stS H rfl _ _ _ rfl rfl _ rfl (by rfl) (by rfl) (by rfl) ?_; clear H; intro wx H)) | ((with_reducible refine here_alloc ?_); first | (refine wpList_alloc_st H rfl 37 rfl _ q_zero ?_; clear H; intro gq8 wx H) | (refine wpList_alloc_st H rfl 48 rfl _ ans_zero ?_; clear H; intro ga8 wx H) | (refine wpList_alloc_st H rfl 44 rfl _ ev_zero ?_; clear H; intro ge8 wx H) | (refine wpList_alloc_st H rfl 58 rfl _ ber_zero ?_; clear H; intro gr8 wx H)) | ((with_reducible refine here_box ?_); refine wpList_box_st H rfl _ _ rfl _ rfl ?_; clear H; intro gb8 wx H))
      go_roundw
      case rel => exact ⟨i + 1, A8, c8, by have := HLT.out; omega, by go_num, rfl, hc8, hc8', H⟩
      case measure => have := HLT.out; simp [intOf] <;> omega
    · obtain rfl : i = m := by omega
      have hlt2 : ¬ (i : Int) + 1 < (i : Int) + 1 := by omega
      have k7 := decide_eq_false hlt2
      have HTA := Lib.hid (show fs.take i = fs from List.take_of_length_le (Nat.le_of_eq HL.out))
      rw [HTA.out] at H
      clear hlt hi
      go_upto_region 9 with (first | ((with_reducible refine here_buildSlice ?_); refine wpList_buildSlice1_st H rfl 61 _ rfl 67 Try.underlying61 _ rfl _ rec_info2 (by rfl) (by rfl) ?_; clear H; intro gs wx H) | ((with_reducible refine here_call ?_); refine wpList_appendB_st (v := .slice A5 (i + 1) c5) H rfl _ _ 61 rfl rfl rfl Try.underlying61 _ _ rec_info (by rfl) (by rfl) (by rfl) (by kernel_rfl) (by simp only [maxLen]; omega) (by omega) ?_; clear H; intro A8 c8 wx hc8 hc8' H) | (first | ((with_reducible refine here_load ?_); first | refine ldR H rfl _ _ rfl rfl (by kernel_rfl) ?_ | refine ldS H rfl _ _ rfl rfl (by rfl) ?_ | refine ldSG H (by rfl) _ _ rfl rfl (by rfl) ?_ | refine ldRG H (by rfl) _ _ rfl rfl (by kernel_rfl) ?_) | ((with_reducible refine here_store ?_); first | (refine stR H rfl _ _ _ rfl rfl rfl (by rfl) (by rfl) (by kernel_rfl) ?_; clear H; intro wx H) | (refine stS H rfl _ _ _ rfl rfl _ rfl (by rfl) (by rfl) (by rfl) ?_; clear H; intro wx H)) | ((with_reducible refine here_alloc ?_); first | (refine wpList_alloc_st H rfl 37 rfl _ q_zero ?_; clear H; intro gq9 wx H) | (refine wpList_alloc_st H rfl 48 rfl _ ans_zero ?_; clear H; intro ga9 wx H) | (refine wpList_alloc_st H rfl 44 rfl _ ev_zero ?_; clear H; intro ge9 wx H) | (refine wpList_alloc_st H rfl 58 rfl _ ber_zero ?_; clear H; intro gr9 wx H)) | ((with_reducible refine here_box ?_); refine wpList_box_st H rfl _ _ rfl _ rfl ?_; clear H; intro gb9 wx H)))
      (try simp only [Act.put])
      replace H := St.frzRc (rs := impOf (k : Int) (q + 1) 1 fs ++ [(⟨6, (k : Int), q + 1, 0, Ev.zero⟩ : Rc)]) (by rw [← rcCells_snoc]; exact H.tail) HLA.out
      go_upto_region 10 with (first | (go_at_call 18; (with_reducible refine (CA1.out _ _ H A8 c8 hc8 inferInstance).mono ?_); clear H; rintro ed wy ⟨go1, Aa, ca, cs1, rfl, hc1, hz1, hx1, hr1, he1, hv1, H⟩) | (first | ((with_reducible refine here_load ?_); first | refine ldR H rfl _ _ rfl rfl (by kernel_rfl) ?_ | refine ldS H rfl _ _ rfl rfl (by rfl) ?_ | refine ldSG H (by rfl) _ _ rfl rfl (by rfl) ?_ | refine ldRG H (by rfl) _ _ rfl rfl (by kernel_rfl) ?_) | ((with_reducible refine here_store ?_); first | (refine stR H rfl _ _ _ rfl rfl rfl (by rfl) (by rfl) (by kernel_rfl) ?_; clear H; intro wx H) | (refine stS H rfl _ _ _ rfl rfl _ rfl (by rfl) (by rfl) (by rfl) ?_; clear H; intro wx H)) | ((with_reducible refine here_alloc ?_); first | (refine wpList_alloc_st H rfl 37 rfl _ q_zero ?_; clear H; intro gq10 wx H) | (refine wpList_alloc_st H rfl 48 rfl _ ans_zero ?_; clear H; intro ga10 wx H) | (refine wpList_alloc_st H rfl 44 rfl _ ev_zero ?_; clear H; intro ge10 wx H) | (refine wpList_alloc_st H rfl 58 rfl _ ber_zero ?_; clear H; intro gr10 wx H)) | ((with_reducible refine here_box ?_); refine wpList_box_st H rfl _ _ rfl _ rfl ?_; clear H; intro gb10 wx H)))
      (try simp only [Act.put])
      have HX1b := Lib.hid hx1
      have HR1 := Lib.hid (show cs1.toList[k * 6]? = some (.int .i64 1) from by rw [hr1 k hk, if_pos rfl])
      clear hx1 hr1 he1 hv1
      go_upto_region 11 with (first | (go_at_call 17; (with_reducible refine (CR.out _ _ H Af cf hcf inferInstance).mono ?_); clear H; rintro ed wy ⟨Ar, cr, rfl, hcr, hcr', H⟩; replace H := H.frzRc HLR.out) | (go_at_call 18; (with_reducible refine (CA2.out _ _ H Ar cr hcr inferInstance).mono ?_); clear H; rintro ed wy ⟨go2, Ab, cb, cs2, rfl, hc2, hz2, hx2, hr2, he2, hv2, H⟩) | (first | ((with_reducible refine here_load ?_); first | refine ldR H rfl _ _ rfl rfl (by kernel_rfl) ?_ | refine ldS H rfl _ _ rfl rfl (by rfl) ?_ | refine ldSG H (by rfl) _ _ rfl rfl (by rfl) ?_ | refine ldRG H (by rfl) _ _ rfl rfl (by kernel_rfl) ?_) | ((with_reducible refine here_store ?_); first | (refine stR H rfl _ _ _ rfl rfl rfl (by rfl) (by rfl) (by kernel_rfl) ?_; clear H; intro wx H) | (refine stS H rfl _ _ _ rfl rfl _ rfl (by rfl) (by rfl) (by rfl) ?_; clear H; intro wx H)) | ((with_reducible refine here_alloc ?_); first | (refine wpList_alloc_st H rfl 37 rfl _ q_zero ?_; clear H; intro gq11 wx H) | (refine wpList_alloc_st H rfl 48 rfl _ ans_zero ?_; clear H; intro ga11 wx H) | (refine wpList_alloc_st H rfl 44 rfl _ ev_zero ?_; clear H; intro ge11 wx H) | (refine wpList_alloc_st H rfl 58 rfl _ ber_zero ?_; clear H; intro gr11 wx H)) | ((with_reducible refine here_box ?_); refine wpList_box_st H rfl _ _ rfl _ rfl ?_; clear H; intro gb11 wx H)))
      (try simp only [Act.put])
      have HX2 := Lib.hid hx2
      have HR2 := Lib.hid (show cs2.toList[k * 6]? = some (.int .i64 3) from by rw [hr2 k hk, if_pos rfl])
      clear hx2 hr2 he2 hv2
      refine startS (H.subm (.bl go1 58 cs1 :: evIt Aa (fs ++ [(⟨4, 0, 0, 0, 0, 0⟩ : Ev)]) :: .bl go2 58 cs2 :: evIt Ab fs :: .bl grs 58 #[.int .i64 3, .int .i64 q, .int .i64 0, .int .i64 3, .int .i64 0, .slice Af i cf] :: .bl grt 58 #[.int .i64 1, .int .i64 (q + 1), .int .i64 0, .int .i64 0, .int .i64 0, .slice Bf (i + 1) df] :: evIt Af fs :: evIt Bf (fs ++ [(⟨4, 0, 0, 0, 0, 0⟩ : Ev)]) :: [])) (by kernel_rfl) (fun HS => ?_)
      replace H := H.drew
      refine takeMove (i := 0) rfl rfl _ (by rfl) (by kernel_rfl) (by kernel_rfl) (by kernel_rfl) (fun _ _ _ _ h => h) (by rfl) HS ?_
      (try simp only [Act.put, List.setIfInBounds_toArray, List.set_cons_zero, List.set_cons_succ])
      refine takeRow_st (i := 1) 58 _ rfl rfl rfl row_Berth (by kernel_rfl) (by kernel_rfl) (by kernel_rfl) (by kernel_rfl) (fun _ _ _ _ h => h) (by rfl) HS ?_
      (try simp only [Act.put, List.setIfInBounds_toArray, List.set_cons_zero, List.set_cons_succ])
      refine takeMove (i := 3) rfl rfl _ (by rfl) (by kernel_rfl) (by kernel_rfl) (by kernel_rfl) (fun _ _ _ _ h => h) (by rfl) HS ?_
      (try simp only [Act.put, List.setIfInBounds_toArray, List.set_cons_zero, List.set_cons_succ])
      refine takeV (i := 4) (v := ?_) rfl (by kernel_rfl) (by kernel_rfl) (by kernel_rfl) (fun _ _ _ h => h) (by rfl) ?_ HS ?_
      rotate_left
      · (intro W hW; go_simp; try with_reducible rfl)
      (try simp only [Act.put, List.setIfInBounds_toArray, List.set_cons_zero, List.set_cons_succ])
      refine take1_st (i := 5) 3 _ rfl rfl rfl sc_int _ (by rfl) (by kernel_rfl) (by kernel_rfl) (by kernel_rfl) (fun _ _ _ _ h => h) (by rfl) HS ?_
      (try simp only [Act.put, List.setIfInBounds_toArray, List.set_cons_zero, List.set_cons_succ])
      refine takeV (i := 6) (v := ?_) rfl (by kernel_rfl) (by kernel_rfl) (by kernel_rfl) (fun _ _ _ h => h) (by rfl) ?_ HS ?_
      rotate_left
      · (intro W hW; go_simp; try with_reducible rfl)
      (try simp only [Act.put, List.setIfInBounds_toArray, List.set_cons_zero, List.set_cons_succ])
      refine branchH [2, 7] (by kernel_rfl) (by kernel_rfl) (AllStep.cons ?_ (AllStep.cons ?_ AllStep.nil))
      · refine stepH_do (i := 2) rfl (by rfl) ?_
        refine wp_call_st rfl Try.func17 (by kernel_rfl) (by kernel_rfl) _ ?_ ((CR.out _ _ H Af cf hcf inferInstance).mono ?_)
        · rfl
        clear H
        rintro ed wy ⟨Ar3, cr3, rfl, hcr3, hcr3', H⟩
        replace HS := HS.of H
        refine ⟨_, rfl, HS, ?_⟩
        (try simp only [Act.put, List.setIfInBounds_toArray, List.set_cons_zero, List.set_cons_succ])
        refine branchH [7] (by kernel_rfl) (by kernel_rfl) (AllStep.cons ?_ AllStep.nil)
        refine stepH_do (i := 7) rfl (by rfl) ?_
        refine wp_buildSlice1_st H 61 _ rfl 67 Try.underlying61 _ rfl _ rec_info2 (by rfl) (by rfl) ?_
        clear H
        intro gs wx H
        replace HS := HS.of H
        refine ⟨HS, ?_⟩
        (try simp only [Act.put, List.setIfInBounds_toArray, List.set_cons_zero, List.set_cons_succ])
        refine branchH [8] (by kernel_rfl) (by kernel_rfl) (AllStep.cons ?_ AllStep.nil)
        refine stepH_do (i := 8) rfl (by rfl) ?_
        refine wp_appendB_st (v := .slice Ar3 (i + 2) cr3) H _ _ 61 rfl rfl rfl Try.underlying61 _ _ rec_info (by rfl) (by rfl) (by rfl) (by kernel_rfl) (by simp only [maxLen]; omega) (by omega) ?_
        clear H
        intro A6 c6 wx hc6 hc6' H
        replace H := St.frzRc (rs := rs ++ [(⟨7, (k : Int), q, 0, Ev.zero⟩ : Rc)]) (by rw [← rcCells_snoc]; exact H.subm (.ow 67 10 (.slice A6 (i + 2 + 1) c6) (i + 2 + 1) (rcCells rs ++ (#[.int .i64 7, .int .i64 k, .int .i64 q, .int .i64 0, .int .i64 0, .int .i64 0, .int .i64 0, .int .i64 0, .int .i64 0, .int .i64 0] : Array Value).toList) :: .bl go1 58 cs1 :: evIt Aa (fs ++ [(⟨4, 0, 0, 0, 0, 0⟩ : Ev)]) :: .bl go2 58 cs2 :: evIt Ab fs :: .bl grs 58 #[.int .i64 3, .int .i64 q, .int .i64 0, .int .i64 3, .int .i64 0, .slice Af i cf] :: .bl grt 58 #[.int .i64 1, .int .i64 (q + 1), .int .i64 0, .int .i64 0, .int .i64 0, .slice Bf (i + 1) df] :: evIt Af fs :: evIt Bf (fs ++ [(⟨4, 0, 0, 0, 0, 0⟩ : Ev)]) :: [])) HLG.out
        replace HS := HS.of H
        refine ⟨HS, ?_⟩
        (try simp only [Act.put, List.setIfInBounds_toArray, List.set_cons_zero, List.set_cons_succ])
        refine branchH [9] (by kernel_rfl) (by kernel_rfl) (AllStep.cons ?_ AllStep.nil)
        refine stepH_do (i := 9) rfl (by rfl) ?_
        refine wp_call_st rfl Try.func18 (by kernel_rfl) (by kernel_rfl) _ ?_ ((CA3.out _ _ H A6 c6 hc6 inferInstance).mono ?_)
        · rfl
        clear H
        rintro ed wy ⟨go3, Ac, cc, cs3, rfl, hc3, hz3, hx3, hr3, he3, hv3, H⟩
        have HX3 := Lib.hid hx3
        have HR3 := Lib.hid (show cs3.toList[k * 6]? = some (.int .i64 0) from by rw [hr3 k hk, if_pos rfl])
        clear hx3 hr3 he3 hv3
        replace HS := HS.of H
        refine ⟨_, rfl, HS, ?_⟩
        (try simp only [Act.put, List.setIfInBounds_toArray, List.set_cons_zero, List.set_cons_succ])
        refine takeMove (i := 10) rfl rfl _ (by rfl) (by kernel_rfl) (by kernel_rfl) (by kernel_rfl) (fun _ _ _ _ h => h) (by rfl) HS ?_
        (try simp only [Act.put, List.setIfInBounds_toArray, List.set_cons_zero, List.set_cons_succ])
        refine takeExtract (i := 11) rfl rfl _ _ (by rfl) (by rfl) (by kernel_rfl) (by kernel_rfl) (by kernel_rfl) (fun _ _ _ _ h => h) (by rfl) HS ?_
        (try simp only [Act.put, List.setIfInBounds_toArray, List.set_cons_zero, List.set_cons_succ])
        refine takeExtract (i := 12) rfl rfl _ _ (by rfl) (by rfl) (by kernel_rfl) (by kernel_rfl) (by kernel_rfl) (fun _ _ _ _ h => h) (by rfl) HS ?_
        (try simp only [Act.put, List.setIfInBounds_toArray, List.set_cons_zero, List.set_cons_succ])
        refine takeExtract (i := 13) rfl rfl _ _ (by rfl) (by rfl) (by kernel_rfl) (by kernel_rfl) (by kernel_rfl) (fun _ _ _ _ h => h) (by rfl) HS ?_
        (try simp only [Act.put, List.setIfInBounds_toArray, List.set_cons_zero, List.set_cons_succ])
        refine takeAssign (i := 14) rfl rfl _ (by rfl) (by kernel_rfl) (by kernel_rfl) (by kernel_rfl) (fun _ _ _ _ h => h) (by rfl) HS ?_
        (try simp only [Act.put, List.setIfInBounds_toArray, List.set_cons_zero, List.set_cons_succ])
        refine takeAssign (i := 15) rfl rfl _ (by rfl) (by kernel_rfl) (by kernel_rfl) (by kernel_rfl) (fun _ _ _ _ h => h) (by rfl) HS ?_
        (try simp only [Act.put, List.setIfInBounds_toArray, List.set_cons_zero, List.set_cons_succ])
        refine takeAssign (i := 16) rfl rfl _ (by rfl) (by kernel_rfl) (by kernel_rfl) (by kernel_rfl) (fun _ _ _ _ h => h) (by rfl) HS ?_
        (try simp only [Act.put, List.setIfInBounds_toArray, List.set_cons_zero, List.set_cons_succ])
        refine doneH (by kernel_rfl) ?_
        go_upto_region 12 with fail
        refine startS (H.subm (.bl go3 58 cs3 :: .bl go1 58 cs1 :: evIt Aa (fs ++ [(⟨4, 0, 0, 0, 0, 0⟩ : Ev)]) :: .bl go2 58 cs2 :: evIt Ab fs :: .bl grs 58 #[.int .i64 3, .int .i64 q, .int .i64 0, .int .i64 3, .int .i64 0, .slice Af i cf] :: .bl grt 58 #[.int .i64 1, .int .i64 (q + 1), .int .i64 0, .int .i64 0, .int .i64 0, .slice Bf (i + 1) df] :: evIt Af fs :: evIt Bf (fs ++ [(⟨4, 0, 0, 0, 0, 0⟩ : Ev)]) :: [])) (by kernel_rfl) (fun HS => ?_)
        replace H := H.drew
        refine takeMove (i := 0) rfl rfl _ (by rfl) (by kernel_rfl) (by kernel_rfl) (by kernel_rfl) (fun _ _ _ _ h => h) (by rfl) HS ?_
        (try simp only [Act.put, List.setIfInBounds_toArray, List.set_cons_zero, List.set_cons_succ])
        refine takeMove (i := 1) rfl rfl _ (by rfl) (by kernel_rfl) (by kernel_rfl) (by kernel_rfl) (fun _ _ _ _ h => h) (by rfl) HS ?_
        (try simp only [Act.put, List.setIfInBounds_toArray, List.set_cons_zero, List.set_cons_succ])
        refine takeMove (i := 2) rfl rfl _ (by rfl) (by kernel_rfl) (by kernel_rfl) (by kernel_rfl) (fun _ _ _ _ h => h) (by rfl) HS ?_
        (try simp only [Act.put, List.setIfInBounds_toArray, List.set_cons_zero, List.set_cons_succ])
        refine takeV (i := 3) (v := ?_) rfl (by kernel_rfl) (by kernel_rfl) (by kernel_rfl) (fun _ _ _ h => h) (by rfl) ?_ HS ?_
        rotate_left
        · (intro W hW; go_simp; try with_reducible rfl)
        (try simp only [Act.put, List.setIfInBounds_toArray, List.set_cons_zero, List.set_cons_succ])
        refine takeV (i := 4) (v := ?_) rfl (by kernel_rfl) (by kernel_rfl) (by kernel_rfl) (fun _ _ _ h => h) (by rfl) ?_ HS ?_
        rotate_left
        · (intro W hW; go_simp; try with_reducible rfl)
        (try simp only [Act.put, List.setIfInBounds_toArray, List.set_cons_zero, List.set_cons_succ])
        refine takeMove (i := 5) rfl rfl _ (by rfl) (by kernel_rfl) (by kernel_rfl) (by kernel_rfl) (fun _ _ _ _ h => h) (by rfl) HS ?_
        (try simp only [Act.put, List.setIfInBounds_toArray, List.set_cons_zero, List.set_cons_succ])
        refine takeMove (i := 6) rfl rfl _ (by rfl) (by kernel_rfl) (by kernel_rfl) (by kernel_rfl) (fun _ _ _ _ h => h) (by rfl) HS ?_
        (try simp only [Act.put, List.setIfInBounds_toArray, List.set_cons_zero, List.set_cons_succ])
        refine takeV (i := 7) (v := ?_) rfl (by kernel_rfl) (by kernel_rfl) (by kernel_rfl) (fun _ _ _ h => h) (by rfl) ?_ HS ?_
        rotate_left
        · (intro W hW; go_simp; try with_reducible rfl)
        (try simp only [Act.put, List.setIfInBounds_toArray, List.set_cons_zero, List.set_cons_succ])
        refine takeV (i := 8) (v := ?_) rfl (by kernel_rfl) (by kernel_rfl) (by kernel_rfl) (fun _ _ _ h => h) (by rfl) ?_ HS ?_
        rotate_left
        · (intro W hW; go_simp; try with_reducible rfl)
        (try simp only [Act.put, List.setIfInBounds_toArray, List.set_cons_zero, List.set_cons_succ])
        refine takeMove (i := 9) rfl rfl _ (by rfl) (by kernel_rfl) (by kernel_rfl) (by kernel_rfl) (fun _ _ _ _ h => h) (by rfl) HS ?_
        (try simp only [Act.put, List.setIfInBounds_toArray, List.set_cons_zero, List.set_cons_succ])
        refine takeMove (i := 10) rfl rfl _ (by rfl) (by kernel_rfl) (by kernel_rfl) (by kernel_rfl) (fun _ _ _ _ h => h) (by rfl) HS ?_
        (try simp only [Act.put, List.setIfInBounds_toArray, List.set_cons_zero, List.set_cons_succ])
        refine takeV (i := 11) (v := ?_) rfl (by kernel_rfl) (by kernel_rfl) (by kernel_rfl) (fun _ _ _ h => h) (by rfl) ?_ HS ?_
        rotate_left
        · (intro W hW; go_simp; try with_reducible rfl)
        (try simp only [Act.put, List.setIfInBounds_toArray, List.set_cons_zero, List.set_cons_succ])
        refine takeV (i := 12) (v := ?_) rfl (by kernel_rfl) (by kernel_rfl) (by kernel_rfl) (fun _ _ _ h => h) (by rfl) ?_ HS ?_
        rotate_left
        · (intro W hW; go_simp; try with_reducible rfl)
        (try simp only [Act.put, List.setIfInBounds_toArray, List.set_cons_zero, List.set_cons_succ])
        refine takeMove (i := 13) rfl rfl _ (by rfl) (by kernel_rfl) (by kernel_rfl) (by kernel_rfl) (fun _ _ _ _ h => h) (by rfl) HS ?_
        (try simp only [Act.put, List.setIfInBounds_toArray, List.set_cons_zero, List.set_cons_succ])
        refine takeMove (i := 14) rfl rfl _ (by rfl) (by kernel_rfl) (by kernel_rfl) (by kernel_rfl) (fun _ _ _ _ h => h) (by rfl) HS ?_
        (try simp only [Act.put, List.setIfInBounds_toArray, List.set_cons_zero, List.set_cons_succ])
        refine takeV (i := 15) (v := ?_) rfl (by kernel_rfl) (by kernel_rfl) (by kernel_rfl) (fun _ _ _ h => h) (by rfl) ?_ HS ?_
        rotate_left
        · (intro W hW; go_simp; try with_reducible rfl)
        (try simp only [Act.put, List.setIfInBounds_toArray, List.set_cons_zero, List.set_cons_succ])
        refine takeV (i := 16) (v := ?_) rfl (by kernel_rfl) (by kernel_rfl) (by kernel_rfl) (fun _ _ _ h => h) (by rfl) ?_ HS ?_
        rotate_left
        · (intro W hW; go_simp; try with_reducible rfl)
        (try simp only [Act.put, List.setIfInBounds_toArray, List.set_cons_zero, List.set_cons_succ])
        refine takeV (i := 17) (v := ?_) rfl (by kernel_rfl) (by kernel_rfl) (by kernel_rfl) (fun _ _ _ h => h) (by rfl) ?_ HS ?_
        rotate_left
        · (intro W hW; go_simp; try with_reducible rfl)
        (try simp only [Act.put, List.setIfInBounds_toArray, List.set_cons_zero, List.set_cons_succ])
        refine takeMove (i := 18) rfl rfl _ (by rfl) (by kernel_rfl) (by kernel_rfl) (by kernel_rfl) (fun _ _ _ _ h => h) (by rfl) HS ?_
        (try simp only [Act.put, List.setIfInBounds_toArray, List.set_cons_zero, List.set_cons_succ])
        refine takeMove (i := 19) rfl rfl _ (by rfl) (by kernel_rfl) (by kernel_rfl) (by kernel_rfl) (fun _ _ _ _ h => h) (by rfl) HS ?_
        (try simp only [Act.put, List.setIfInBounds_toArray, List.set_cons_zero, List.set_cons_succ])
        refine takeV (i := 20) (v := ?_) rfl (by kernel_rfl) (by kernel_rfl) (by kernel_rfl) (fun _ _ _ h => h) (by rfl) ?_ HS ?_
        rotate_left
        · (intro W hW; go_simp; try with_reducible rfl)
        (try simp only [Act.put, List.setIfInBounds_toArray, List.set_cons_zero, List.set_cons_succ])
        refine takeV (i := 21) (v := ?_) rfl (by kernel_rfl) (by kernel_rfl) (by kernel_rfl) (fun _ _ _ h => h) (by rfl) ?_ HS ?_
        rotate_left
        · (intro W hW; go_simp; try with_reducible rfl)
        (try simp only [Act.put, List.setIfInBounds_toArray, List.set_cons_zero, List.set_cons_succ])
        refine takeV (i := 22) (v := ?_) rfl (by kernel_rfl) (by kernel_rfl) (by kernel_rfl) (fun _ _ _ h => h) (by rfl) ?_ HS ?_
        rotate_left
        · (intro W hW; go_simp; try with_reducible rfl)
        (try simp only [Act.put, List.setIfInBounds_toArray, List.set_cons_zero, List.set_cons_succ])
        refine takeMove (i := 23) rfl rfl _ (by rfl) (by kernel_rfl) (by kernel_rfl) (by kernel_rfl) (fun _ _ _ _ h => h) (by rfl) HS ?_
        (try simp only [Act.put, List.setIfInBounds_toArray, List.set_cons_zero, List.set_cons_succ])
        refine takeMove (i := 24) rfl rfl _ (by rfl) (by kernel_rfl) (by kernel_rfl) (by kernel_rfl) (fun _ _ _ _ h => h) (by rfl) HS ?_
        (try simp only [Act.put, List.setIfInBounds_toArray, List.set_cons_zero, List.set_cons_succ])
        refine takeV (i := 25) (v := ?_) rfl (by kernel_rfl) (by kernel_rfl) (by kernel_rfl) (fun _ _ _ h => h) (by rfl) ?_ HS ?_
        rotate_left
        · (intro W hW; go_simp; try with_reducible rfl)
        (try simp only [Act.put, List.setIfInBounds_toArray, List.set_cons_zero, List.set_cons_succ])
        refine takeV (i := 26) (v := ?_) rfl (by kernel_rfl) (by kernel_rfl) (by kernel_rfl) (fun _ _ _ h => h) (by rfl) ?_ HS ?_
        rotate_left
        · (intro W hW; go_simp; try with_reducible rfl)
        (try simp only [Act.put, List.setIfInBounds_toArray, List.set_cons_zero, List.set_cons_succ])
        refine takeV (i := 27) (v := ?_) rfl (by kernel_rfl) (by kernel_rfl) (by kernel_rfl) (fun _ _ _ h => h) (by rfl) ?_ HS ?_
        rotate_left
        · (intro W hW; go_simp; try with_reducible rfl)
        (try simp only [Act.put, List.setIfInBounds_toArray, List.set_cons_zero, List.set_cons_succ])
        refine takeMove (i := 28) rfl rfl _ (by rfl) (by kernel_rfl) (by kernel_rfl) (by kernel_rfl) (fun _ _ _ _ h => h) (by rfl) HS ?_
        (try simp only [Act.put, List.setIfInBounds_toArray, List.set_cons_zero, List.set_cons_succ])
        refine takeMove (i := 29) rfl rfl _ (by rfl) (by kernel_rfl) (by kernel_rfl) (by kernel_rfl) (fun _ _ _ _ h => h) (by rfl) HS ?_
        (try simp only [Act.put, List.setIfInBounds_toArray, List.set_cons_zero, List.set_cons_succ])
        refine takeMove (i := 30) rfl rfl _ (by rfl) (by kernel_rfl) (by kernel_rfl) (by kernel_rfl) (fun _ _ _ _ h => h) (by rfl) HS ?_
        (try simp only [Act.put, List.setIfInBounds_toArray, List.set_cons_zero, List.set_cons_succ])
        refine takeV (i := 31) (v := ?_) rfl (by kernel_rfl) (by kernel_rfl) (by kernel_rfl) (fun _ _ _ h => h) (by rfl) ?_ HS ?_
        rotate_left
        · (intro W hW; go_simp; try with_reducible rfl)
        (try simp only [Act.put, List.setIfInBounds_toArray, List.set_cons_zero, List.set_cons_succ])
        refine takePart_st (i := 32) (p := k * 6) 58 _ rfl rfl rfl row_Berth (by kernel_rfl) (by rw [hz1, Nat.ble_eq]; omega) _ HX1b.out (by kernel_rfl) (by kernel_rfl) (by kernel_rfl) (fun _ _ _ _ h => h) (by rfl) HS ?_
        (try simp only [Act.put, List.setIfInBounds_toArray, List.set_cons_zero, List.set_cons_succ])
        refine takeRow_st (i := 33) 58 _ rfl rfl rfl row_Berth (by kernel_rfl) (by kernel_rfl) (by kernel_rfl) (by kernel_rfl) (fun _ _ _ _ h => h) (by rfl) HS ?_
        (try simp only [Act.put, List.setIfInBounds_toArray, List.set_cons_zero, List.set_cons_succ])
        refine branchH [34] (by kernel_rfl) (by kernel_rfl) (AllStep.cons ?_ AllStep.nil)
        refine stepH_do (i := 34) rfl (by rfl) ?_
        refine wp_call_st rfl Try.func20 (by kernel_rfl) (by kernel_rfl) _ ?_ ((sameBerth_st (1) (q + 1) (0) (0) (0) (fs ++ [(⟨4, 0, 0, 0, 0, 0⟩ : Ev)]) Aa Bf (i + 1) ca df HL2.out H (by omega) hc1 hdf).mono ?_)
        · rfl
        clear H
        rintro ed wy ⟨rfl, H⟩
        replace HS := HS.of H
        refine ⟨_, rfl, HS, ?_⟩
        (try simp only [Act.put, List.setIfInBounds_toArray, List.set_cons_zero, List.set_cons_succ])
        refine takeV (i := 35) (v := ?_) rfl (by kernel_rfl) (by kernel_rfl) (by kernel_rfl) (fun _ _ _ h => h) (by rfl) ?_ HS ?_
        rotate_left
        · (intro W hW; go_simp; try with_reducible rfl)
        (try simp only [Act.put, List.setIfInBounds_toArray, List.set_cons_zero, List.set_cons_succ])
        refine takeMove (i := 36) rfl rfl _ (by rfl) (by kernel_rfl) (by kernel_rfl) (by kernel_rfl) (fun _ _ _ _ h => h) (by rfl) HS ?_
        (try simp only [Act.put, List.setIfInBounds_toArray, List.set_cons_zero, List.set_cons_succ])
        refine takeMove (i := 37) rfl rfl _ (by rfl) (by kernel_rfl) (by kernel_rfl) (by kernel_rfl) (fun _ _ _ _ h => h) (by rfl) HS ?_
        (try simp only [Act.put, List.setIfInBounds_toArray, List.set_cons_zero, List.set_cons_succ])
        refine takeMove (i := 38) rfl rfl _ (by rfl) (by kernel_rfl) (by kernel_rfl) (by kernel_rfl) (fun _ _ _ _ h => h) (by rfl) HS ?_
        (try simp only [Act.put, List.setIfInBounds_toArray, List.set_cons_zero, List.set_cons_succ])
        refine takeV (i := 39) (v := ?_) rfl (by kernel_rfl) (by kernel_rfl) (by kernel_rfl) (fun _ _ _ h => h) (by rfl) ?_ HS ?_
        rotate_left
        · (intro W hW; go_simp; try with_reducible rfl)
        (try simp only [Act.put, List.setIfInBounds_toArray, List.set_cons_zero, List.set_cons_succ])
        refine takePart_st (i := 40) (p := k * 6) 58 _ rfl rfl rfl row_Berth (by kernel_rfl) (by rw [hz2, Nat.ble_eq]; omega) _ HX2.out (by kernel_rfl) (by kernel_rfl) (by kernel_rfl) (fun _ _ _ _ h => h) (by rfl) HS ?_
        (try simp only [Act.put, List.setIfInBounds_toArray, List.set_cons_zero, List.set_cons_succ])
        refine takeRow_st (i := 41) 58 _ rfl rfl rfl row_Berth (by kernel_rfl) (by kernel_rfl) (by kernel_rfl) (by kernel_rfl) (fun _ _ _ _ h => h) (by rfl) HS ?_
        (try simp only [Act.put, List.setIfInBounds_toArray, List.set_cons_zero, List.set_cons_succ])
        refine branchH [42] (by kernel_rfl) (by kernel_rfl) (AllStep.cons ?_ AllStep.nil)
        refine stepH_do (i := 42) rfl (by rfl) ?_
        refine wp_call_st rfl Try.func20 (by kernel_rfl) (by kernel_rfl) _ ?_ ((sameBerth_st (3) (q) (0) (3) (0) fs Ab Af i cb cf HL.out H (by omega) hc2 hcf).mono ?_)
        · rfl
        clear H
        rintro ed wy ⟨rfl, H⟩
        replace HS := HS.of H
        refine ⟨_, rfl, HS, ?_⟩
        (try simp only [Act.put, List.setIfInBounds_toArray, List.set_cons_zero, List.set_cons_succ])
        refine takeV (i := 43) (v := ?_) rfl (by kernel_rfl) (by kernel_rfl) (by kernel_rfl) (fun _ _ _ h => h) (by rfl) ?_ HS ?_
        rotate_left
        · (intro W hW; go_simp; try with_reducible rfl)
        (try simp only [Act.put, List.setIfInBounds_toArray, List.set_cons_zero, List.set_cons_succ])
        refine takeMove (i := 44) rfl rfl _ (by rfl) (by kernel_rfl) (by kernel_rfl) (by kernel_rfl) (fun _ _ _ _ h => h) (by rfl) HS ?_
        (try simp only [Act.put, List.setIfInBounds_toArray, List.set_cons_zero, List.set_cons_succ])
        refine takeMove (i := 45) rfl rfl _ (by rfl) (by kernel_rfl) (by kernel_rfl) (by kernel_rfl) (fun _ _ _ _ h => h) (by rfl) HS ?_
        (try simp only [Act.put, List.setIfInBounds_toArray, List.set_cons_zero, List.set_cons_succ])
        refine takeMove (i := 46) rfl rfl _ (by rfl) (by kernel_rfl) (by kernel_rfl) (by kernel_rfl) (fun _ _ _ _ h => h) (by rfl) HS ?_
        (try simp only [Act.put, List.setIfInBounds_toArray, List.set_cons_zero, List.set_cons_succ])
        refine takeV (i := 47) (v := ?_) rfl (by kernel_rfl) (by kernel_rfl) (by kernel_rfl) (fun _ _ _ h => h) (by rfl) ?_ HS ?_
        rotate_left
        · (intro W hW; go_simp; try with_reducible rfl)
        (try simp only [Act.put, List.setIfInBounds_toArray, List.set_cons_zero, List.set_cons_succ])
        refine takeV (i := 48) (v := ?_) rfl (by kernel_rfl) (by kernel_rfl) (by kernel_rfl) (fun _ _ _ h => h) (by rfl) ?_ HS ?_
        rotate_left
        · (intro W hW; go_simp; try with_reducible rfl)
        (try simp only [Act.put, List.setIfInBounds_toArray, List.set_cons_zero, List.set_cons_succ])
        refine take1_st (i := 49) 3 _ rfl rfl rfl sc_int _ HR3.out (by kernel_rfl) (by kernel_rfl) (by kernel_rfl) (fun _ _ _ _ h => h) (by rfl) HS ?_
        (try simp only [Act.put, List.setIfInBounds_toArray, List.set_cons_zero, List.set_cons_succ])
        refine takeV (i := 50) (v := ?_) rfl (by kernel_rfl) (by kernel_rfl) (by kernel_rfl) (fun _ _ _ h => h) (by rfl) ?_ HS ?_
        rotate_left
        · (intro W hW; go_simp; try with_reducible rfl)
        (try simp only [Act.put, List.setIfInBounds_toArray, List.set_cons_zero, List.set_cons_succ])
        refine takeV (i := 51) (v := ?_) rfl (by kernel_rfl) (by kernel_rfl) (by kernel_rfl) (fun _ _ _ h => h) (by rfl) ?_ HS ?_
        rotate_left
        · (intro W hW; go_simp; try with_reducible rfl)
        (try simp only [Act.put, List.setIfInBounds_toArray, List.set_cons_zero, List.set_cons_succ])
        refine takeAssign (i := 52) rfl rfl _ (by rfl) (by kernel_rfl) (by kernel_rfl) (by kernel_rfl) (fun _ _ _ _ h => h) (by rfl) HS ?_
        (try simp only [Act.put, List.setIfInBounds_toArray, List.set_cons_zero, List.set_cons_succ])
        refine doneH (by kernel_rfl) ?_
        go_wp2_with fail
        go_ret
        exact ⟨rfl, H.bel⟩
      · refine stepH_do (i := 7) rfl (by rfl) ?_
        refine wp_buildSlice1_st H 61 _ rfl 67 Try.underlying61 _ rfl _ rec_info2 (by rfl) (by rfl) ?_
        clear H
        intro gs wx H
        replace HS := HS.of H
        refine ⟨HS, ?_⟩
        (try simp only [Act.put, List.setIfInBounds_toArray, List.set_cons_zero, List.set_cons_succ])
        refine branchH [2] (by kernel_rfl) (by kernel_rfl) (AllStep.cons ?_ AllStep.nil)
        refine stepH_do (i := 2) rfl (by rfl) ?_
        refine wp_call_st rfl Try.func17 (by kernel_rfl) (by kernel_rfl) _ ?_ ((CR.out _ _ H Af cf hcf inferInstance).mono ?_)
        · rfl
        clear H
        rintro ed wy ⟨Ar3, cr3, rfl, hcr3, hcr3', H⟩
        replace HS := HS.of H
        refine ⟨_, rfl, HS, ?_⟩
        (try simp only [Act.put, List.setIfInBounds_toArray, List.set_cons_zero, List.set_cons_succ])
        refine branchH [8] (by kernel_rfl) (by kernel_rfl) (AllStep.cons ?_ AllStep.nil)
        refine stepH_do (i := 8) rfl (by rfl) ?_
        refine wp_appendB_st (v := .slice Ar3 (i + 2) cr3) H _ _ 61 rfl rfl rfl Try.underlying61 _ _ rec_info (by rfl) (by rfl) (by rfl) (by kernel_rfl) (by simp only [maxLen]; omega) (by omega) ?_
        clear H
        intro A6 c6 wx hc6 hc6' H
        replace H := St.frzRc (rs := rs ++ [(⟨7, (k : Int), q, 0, Ev.zero⟩ : Rc)]) (by rw [← rcCells_snoc]; exact H.subm (.ow 67 10 (.slice A6 (i + 2 + 1) c6) (i + 2 + 1) (rcCells rs ++ (#[.int .i64 7, .int .i64 k, .int .i64 q, .int .i64 0, .int .i64 0, .int .i64 0, .int .i64 0, .int .i64 0, .int .i64 0, .int .i64 0] : Array Value).toList) :: .bl go1 58 cs1 :: evIt Aa (fs ++ [(⟨4, 0, 0, 0, 0, 0⟩ : Ev)]) :: .bl go2 58 cs2 :: evIt Ab fs :: .bl grs 58 #[.int .i64 3, .int .i64 q, .int .i64 0, .int .i64 3, .int .i64 0, .slice Af i cf] :: .bl grt 58 #[.int .i64 1, .int .i64 (q + 1), .int .i64 0, .int .i64 0, .int .i64 0, .slice Bf (i + 1) df] :: evIt Af fs :: evIt Bf (fs ++ [(⟨4, 0, 0, 0, 0, 0⟩ : Ev)]) :: [])) HLG.out
        replace HS := HS.of H
        refine ⟨HS, ?_⟩
        (try simp only [Act.put, List.setIfInBounds_toArray, List.set_cons_zero, List.set_cons_succ])
        refine branchH [9] (by kernel_rfl) (by kernel_rfl) (AllStep.cons ?_ AllStep.nil)
        refine stepH_do (i := 9) rfl (by rfl) ?_
        refine wp_call_st rfl Try.func18 (by kernel_rfl) (by kernel_rfl) _ ?_ ((CA3.out _ _ H A6 c6 hc6 inferInstance).mono ?_)
        · rfl
        clear H
        rintro ed wy ⟨go3, Ac, cc, cs3, rfl, hc3, hz3, hx3, hr3, he3, hv3, H⟩
        have HX3 := Lib.hid hx3
        have HR3 := Lib.hid (show cs3.toList[k * 6]? = some (.int .i64 0) from by rw [hr3 k hk, if_pos rfl])
        clear hx3 hr3 he3 hv3
        replace HS := HS.of H
        refine ⟨_, rfl, HS, ?_⟩
        (try simp only [Act.put, List.setIfInBounds_toArray, List.set_cons_zero, List.set_cons_succ])
        refine takeMove (i := 10) rfl rfl _ (by rfl) (by kernel_rfl) (by kernel_rfl) (by kernel_rfl) (fun _ _ _ _ h => h) (by rfl) HS ?_
        (try simp only [Act.put, List.setIfInBounds_toArray, List.set_cons_zero, List.set_cons_succ])
        refine takeExtract (i := 11) rfl rfl _ _ (by rfl) (by rfl) (by kernel_rfl) (by kernel_rfl) (by kernel_rfl) (fun _ _ _ _ h => h) (by rfl) HS ?_
        (try simp only [Act.put, List.setIfInBounds_toArray, List.set_cons_zero, List.set_cons_succ])
        refine takeExtract (i := 12) rfl rfl _ _ (by rfl) (by rfl) (by kernel_rfl) (by kernel_rfl) (by kernel_rfl) (fun _ _ _ _ h => h) (by rfl) HS ?_
        (try simp only [Act.put, List.setIfInBounds_toArray, List.set_cons_zero, List.set_cons_succ])
        refine takeExtract (i := 13) rfl rfl _ _ (by rfl) (by rfl) (by kernel_rfl) (by kernel_rfl) (by kernel_rfl) (fun _ _ _ _ h => h) (by rfl) HS ?_
        (try simp only [Act.put, List.setIfInBounds_toArray, List.set_cons_zero, List.set_cons_succ])
        refine takeAssign (i := 14) rfl rfl _ (by rfl) (by kernel_rfl) (by kernel_rfl) (by kernel_rfl) (fun _ _ _ _ h => h) (by rfl) HS ?_
        (try simp only [Act.put, List.setIfInBounds_toArray, List.set_cons_zero, List.set_cons_succ])
        refine takeAssign (i := 15) rfl rfl _ (by rfl) (by kernel_rfl) (by kernel_rfl) (by kernel_rfl) (fun _ _ _ _ h => h) (by rfl) HS ?_
        (try simp only [Act.put, List.setIfInBounds_toArray, List.set_cons_zero, List.set_cons_succ])
        refine takeAssign (i := 16) rfl rfl _ (by rfl) (by kernel_rfl) (by kernel_rfl) (by kernel_rfl) (fun _ _ _ _ h => h) (by rfl) HS ?_
        (try simp only [Act.put, List.setIfInBounds_toArray, List.set_cons_zero, List.set_cons_succ])
        refine doneH (by kernel_rfl) ?_
        go_upto_region 12 with fail
        refine startS (H.subm (.bl go3 58 cs3 :: .bl go1 58 cs1 :: evIt Aa (fs ++ [(⟨4, 0, 0, 0, 0, 0⟩ : Ev)]) :: .bl go2 58 cs2 :: evIt Ab fs :: .bl grs 58 #[.int .i64 3, .int .i64 q, .int .i64 0, .int .i64 3, .int .i64 0, .slice Af i cf] :: .bl grt 58 #[.int .i64 1, .int .i64 (q + 1), .int .i64 0, .int .i64 0, .int .i64 0, .slice Bf (i + 1) df] :: evIt Af fs :: evIt Bf (fs ++ [(⟨4, 0, 0, 0, 0, 0⟩ : Ev)]) :: [])) (by kernel_rfl) (fun HS => ?_)
        replace H := H.drew
        refine takeMove (i := 0) rfl rfl _ (by rfl) (by kernel_rfl) (by kernel_rfl) (by kernel_rfl) (fun _ _ _ _ h => h) (by rfl) HS ?_
        (try simp only [Act.put, List.setIfInBounds_toArray, List.set_cons_zero, List.set_cons_succ])
        refine takeMove (i := 1) rfl rfl _ (by rfl) (by kernel_rfl) (by kernel_rfl) (by kernel_rfl) (fun _ _ _ _ h => h) (by rfl) HS ?_
        (try simp only [Act.put, List.setIfInBounds_toArray, List.set_cons_zero, List.set_cons_succ])
        refine takeMove (i := 2) rfl rfl _ (by rfl) (by kernel_rfl) (by kernel_rfl) (by kernel_rfl) (fun _ _ _ _ h => h) (by rfl) HS ?_
        (try simp only [Act.put, List.setIfInBounds_toArray, List.set_cons_zero, List.set_cons_succ])
        refine takeV (i := 3) (v := ?_) rfl (by kernel_rfl) (by kernel_rfl) (by kernel_rfl) (fun _ _ _ h => h) (by rfl) ?_ HS ?_
        rotate_left
        · (intro W hW; go_simp; try with_reducible rfl)
        (try simp only [Act.put, List.setIfInBounds_toArray, List.set_cons_zero, List.set_cons_succ])
        refine takeV (i := 4) (v := ?_) rfl (by kernel_rfl) (by kernel_rfl) (by kernel_rfl) (fun _ _ _ h => h) (by rfl) ?_ HS ?_
        rotate_left
        · (intro W hW; go_simp; try with_reducible rfl)
        (try simp only [Act.put, List.setIfInBounds_toArray, List.set_cons_zero, List.set_cons_succ])
        refine takeMove (i := 5) rfl rfl _ (by rfl) (by kernel_rfl) (by kernel_rfl) (by kernel_rfl) (fun _ _ _ _ h => h) (by rfl) HS ?_
        (try simp only [Act.put, List.setIfInBounds_toArray, List.set_cons_zero, List.set_cons_succ])
        refine takeMove (i := 6) rfl rfl _ (by rfl) (by kernel_rfl) (by kernel_rfl) (by kernel_rfl) (fun _ _ _ _ h => h) (by rfl) HS ?_
        (try simp only [Act.put, List.setIfInBounds_toArray, List.set_cons_zero, List.set_cons_succ])
        refine takeV (i := 7) (v := ?_) rfl (by kernel_rfl) (by kernel_rfl) (by kernel_rfl) (fun _ _ _ h => h) (by rfl) ?_ HS ?_
        rotate_left
        · (intro W hW; go_simp; try with_reducible rfl)
        (try simp only [Act.put, List.setIfInBounds_toArray, List.set_cons_zero, List.set_cons_succ])
        refine takeV (i := 8) (v := ?_) rfl (by kernel_rfl) (by kernel_rfl) (by kernel_rfl) (fun _ _ _ h => h) (by rfl) ?_ HS ?_
        rotate_left
        · (intro W hW; go_simp; try with_reducible rfl)
        (try simp only [Act.put, List.setIfInBounds_toArray, List.set_cons_zero, List.set_cons_succ])
        refine takeMove (i := 9) rfl rfl _ (by rfl) (by kernel_rfl) (by kernel_rfl) (by kernel_rfl) (fun _ _ _ _ h => h) (by rfl) HS ?_
        (try simp only [Act.put, List.setIfInBounds_toArray, List.set_cons_zero, List.set_cons_succ])
        refine takeMove (i := 10) rfl rfl _ (by rfl) (by kernel_rfl) (by kernel_rfl) (by kernel_rfl) (fun _ _ _ _ h => h) (by rfl) HS ?_
        (try simp only [Act.put, List.setIfInBounds_toArray, List.set_cons_zero, List.set_cons_succ])
        refine takeV (i := 11) (v := ?_) rfl (by kernel_rfl) (by kernel_rfl) (by kernel_rfl) (fun _ _ _ h => h) (by rfl) ?_ HS ?_
        rotate_left
        · (intro W hW; go_simp; try with_reducible rfl)
        (try simp only [Act.put, List.setIfInBounds_toArray, List.set_cons_zero, List.set_cons_succ])
        refine takeV (i := 12) (v := ?_) rfl (by kernel_rfl) (by kernel_rfl) (by kernel_rfl) (fun _ _ _ h => h) (by rfl) ?_ HS ?_
        rotate_left
        · (intro W hW; go_simp; try with_reducible rfl)
        (try simp only [Act.put, List.setIfInBounds_toArray, List.set_cons_zero, List.set_cons_succ])
        refine takeMove (i := 13) rfl rfl _ (by rfl) (by kernel_rfl) (by kernel_rfl) (by kernel_rfl) (fun _ _ _ _ h => h) (by rfl) HS ?_
        (try simp only [Act.put, List.setIfInBounds_toArray, List.set_cons_zero, List.set_cons_succ])
        refine takeMove (i := 14) rfl rfl _ (by rfl) (by kernel_rfl) (by kernel_rfl) (by kernel_rfl) (fun _ _ _ _ h => h) (by rfl) HS ?_
        (try simp only [Act.put, List.setIfInBounds_toArray, List.set_cons_zero, List.set_cons_succ])
        refine takeV (i := 15) (v := ?_) rfl (by kernel_rfl) (by kernel_rfl) (by kernel_rfl) (fun _ _ _ h => h) (by rfl) ?_ HS ?_
        rotate_left
        · (intro W hW; go_simp; try with_reducible rfl)
        (try simp only [Act.put, List.setIfInBounds_toArray, List.set_cons_zero, List.set_cons_succ])
        refine takeV (i := 16) (v := ?_) rfl (by kernel_rfl) (by kernel_rfl) (by kernel_rfl) (fun _ _ _ h => h) (by rfl) ?_ HS ?_
        rotate_left
        · (intro W hW; go_simp; try with_reducible rfl)
        (try simp only [Act.put, List.setIfInBounds_toArray, List.set_cons_zero, List.set_cons_succ])
        refine takeV (i := 17) (v := ?_) rfl (by kernel_rfl) (by kernel_rfl) (by kernel_rfl) (fun _ _ _ h => h) (by rfl) ?_ HS ?_
        rotate_left
        · (intro W hW; go_simp; try with_reducible rfl)
        (try simp only [Act.put, List.setIfInBounds_toArray, List.set_cons_zero, List.set_cons_succ])
        refine takeMove (i := 18) rfl rfl _ (by rfl) (by kernel_rfl) (by kernel_rfl) (by kernel_rfl) (fun _ _ _ _ h => h) (by rfl) HS ?_
        (try simp only [Act.put, List.setIfInBounds_toArray, List.set_cons_zero, List.set_cons_succ])
        refine takeMove (i := 19) rfl rfl _ (by rfl) (by kernel_rfl) (by kernel_rfl) (by kernel_rfl) (fun _ _ _ _ h => h) (by rfl) HS ?_
        (try simp only [Act.put, List.setIfInBounds_toArray, List.set_cons_zero, List.set_cons_succ])
        refine takeV (i := 20) (v := ?_) rfl (by kernel_rfl) (by kernel_rfl) (by kernel_rfl) (fun _ _ _ h => h) (by rfl) ?_ HS ?_
        rotate_left
        · (intro W hW; go_simp; try with_reducible rfl)
        (try simp only [Act.put, List.setIfInBounds_toArray, List.set_cons_zero, List.set_cons_succ])
        refine takeV (i := 21) (v := ?_) rfl (by kernel_rfl) (by kernel_rfl) (by kernel_rfl) (fun _ _ _ h => h) (by rfl) ?_ HS ?_
        rotate_left
        · (intro W hW; go_simp; try with_reducible rfl)
        (try simp only [Act.put, List.setIfInBounds_toArray, List.set_cons_zero, List.set_cons_succ])
        refine takeV (i := 22) (v := ?_) rfl (by kernel_rfl) (by kernel_rfl) (by kernel_rfl) (fun _ _ _ h => h) (by rfl) ?_ HS ?_
        rotate_left
        · (intro W hW; go_simp; try with_reducible rfl)
        (try simp only [Act.put, List.setIfInBounds_toArray, List.set_cons_zero, List.set_cons_succ])
        refine takeMove (i := 23) rfl rfl _ (by rfl) (by kernel_rfl) (by kernel_rfl) (by kernel_rfl) (fun _ _ _ _ h => h) (by rfl) HS ?_
        (try simp only [Act.put, List.setIfInBounds_toArray, List.set_cons_zero, List.set_cons_succ])
        refine takeMove (i := 24) rfl rfl _ (by rfl) (by kernel_rfl) (by kernel_rfl) (by kernel_rfl) (fun _ _ _ _ h => h) (by rfl) HS ?_
        (try simp only [Act.put, List.setIfInBounds_toArray, List.set_cons_zero, List.set_cons_succ])
        refine takeV (i := 25) (v := ?_) rfl (by kernel_rfl) (by kernel_rfl) (by kernel_rfl) (fun _ _ _ h => h) (by rfl) ?_ HS ?_
        rotate_left
        · (intro W hW; go_simp; try with_reducible rfl)
        (try simp only [Act.put, List.setIfInBounds_toArray, List.set_cons_zero, List.set_cons_succ])
        refine takeV (i := 26) (v := ?_) rfl (by kernel_rfl) (by kernel_rfl) (by kernel_rfl) (fun _ _ _ h => h) (by rfl) ?_ HS ?_
        rotate_left
        · (intro W hW; go_simp; try with_reducible rfl)
        (try simp only [Act.put, List.setIfInBounds_toArray, List.set_cons_zero, List.set_cons_succ])
        refine takeV (i := 27) (v := ?_) rfl (by kernel_rfl) (by kernel_rfl) (by kernel_rfl) (fun _ _ _ h => h) (by rfl) ?_ HS ?_
        rotate_left
        · (intro W hW; go_simp; try with_reducible rfl)
        (try simp only [Act.put, List.setIfInBounds_toArray, List.set_cons_zero, List.set_cons_succ])
        refine takeMove (i := 28) rfl rfl _ (by rfl) (by kernel_rfl) (by kernel_rfl) (by kernel_rfl) (fun _ _ _ _ h => h) (by rfl) HS ?_
        (try simp only [Act.put, List.setIfInBounds_toArray, List.set_cons_zero, List.set_cons_succ])
        refine takeMove (i := 29) rfl rfl _ (by rfl) (by kernel_rfl) (by kernel_rfl) (by kernel_rfl) (fun _ _ _ _ h => h) (by rfl) HS ?_
        (try simp only [Act.put, List.setIfInBounds_toArray, List.set_cons_zero, List.set_cons_succ])
        refine takeMove (i := 30) rfl rfl _ (by rfl) (by kernel_rfl) (by kernel_rfl) (by kernel_rfl) (fun _ _ _ _ h => h) (by rfl) HS ?_
        (try simp only [Act.put, List.setIfInBounds_toArray, List.set_cons_zero, List.set_cons_succ])
        refine takeV (i := 31) (v := ?_) rfl (by kernel_rfl) (by kernel_rfl) (by kernel_rfl) (fun _ _ _ h => h) (by rfl) ?_ HS ?_
        rotate_left
        · (intro W hW; go_simp; try with_reducible rfl)
        (try simp only [Act.put, List.setIfInBounds_toArray, List.set_cons_zero, List.set_cons_succ])
        refine takePart_st (i := 32) (p := k * 6) 58 _ rfl rfl rfl row_Berth (by kernel_rfl) (by rw [hz1, Nat.ble_eq]; omega) _ HX1b.out (by kernel_rfl) (by kernel_rfl) (by kernel_rfl) (fun _ _ _ _ h => h) (by rfl) HS ?_
        (try simp only [Act.put, List.setIfInBounds_toArray, List.set_cons_zero, List.set_cons_succ])
        refine takeRow_st (i := 33) 58 _ rfl rfl rfl row_Berth (by kernel_rfl) (by kernel_rfl) (by kernel_rfl) (by kernel_rfl) (fun _ _ _ _ h => h) (by rfl) HS ?_
        (try simp only [Act.put, List.setIfInBounds_toArray, List.set_cons_zero, List.set_cons_succ])
        refine branchH [34] (by kernel_rfl) (by kernel_rfl) (AllStep.cons ?_ AllStep.nil)
        refine stepH_do (i := 34) rfl (by rfl) ?_
        refine wp_call_st rfl Try.func20 (by kernel_rfl) (by kernel_rfl) _ ?_ ((sameBerth_st (1) (q + 1) (0) (0) (0) (fs ++ [(⟨4, 0, 0, 0, 0, 0⟩ : Ev)]) Aa Bf (i + 1) ca df HL2.out H (by omega) hc1 hdf).mono ?_)
        · rfl
        clear H
        rintro ed wy ⟨rfl, H⟩
        replace HS := HS.of H
        refine ⟨_, rfl, HS, ?_⟩
        (try simp only [Act.put, List.setIfInBounds_toArray, List.set_cons_zero, List.set_cons_succ])
        refine takeV (i := 35) (v := ?_) rfl (by kernel_rfl) (by kernel_rfl) (by kernel_rfl) (fun _ _ _ h => h) (by rfl) ?_ HS ?_
        rotate_left
        · (intro W hW; go_simp; try with_reducible rfl)
        (try simp only [Act.put, List.setIfInBounds_toArray, List.set_cons_zero, List.set_cons_succ])
        refine takeMove (i := 36) rfl rfl _ (by rfl) (by kernel_rfl) (by kernel_rfl) (by kernel_rfl) (fun _ _ _ _ h => h) (by rfl) HS ?_
        (try simp only [Act.put, List.setIfInBounds_toArray, List.set_cons_zero, List.set_cons_succ])
        refine takeMove (i := 37) rfl rfl _ (by rfl) (by kernel_rfl) (by kernel_rfl) (by kernel_rfl) (fun _ _ _ _ h => h) (by rfl) HS ?_
        (try simp only [Act.put, List.setIfInBounds_toArray, List.set_cons_zero, List.set_cons_succ])
        refine takeMove (i := 38) rfl rfl _ (by rfl) (by kernel_rfl) (by kernel_rfl) (by kernel_rfl) (fun _ _ _ _ h => h) (by rfl) HS ?_
        (try simp only [Act.put, List.setIfInBounds_toArray, List.set_cons_zero, List.set_cons_succ])
        refine takeV (i := 39) (v := ?_) rfl (by kernel_rfl) (by kernel_rfl) (by kernel_rfl) (fun _ _ _ h => h) (by rfl) ?_ HS ?_
        rotate_left
        · (intro W hW; go_simp; try with_reducible rfl)
        (try simp only [Act.put, List.setIfInBounds_toArray, List.set_cons_zero, List.set_cons_succ])
        refine takePart_st (i := 40) (p := k * 6) 58 _ rfl rfl rfl row_Berth (by kernel_rfl) (by rw [hz2, Nat.ble_eq]; omega) _ HX2.out (by kernel_rfl) (by kernel_rfl) (by kernel_rfl) (fun _ _ _ _ h => h) (by rfl) HS ?_
        (try simp only [Act.put, List.setIfInBounds_toArray, List.set_cons_zero, List.set_cons_succ])
        refine takeRow_st (i := 41) 58 _ rfl rfl rfl row_Berth (by kernel_rfl) (by kernel_rfl) (by kernel_rfl) (by kernel_rfl) (fun _ _ _ _ h => h) (by rfl) HS ?_
        (try simp only [Act.put, List.setIfInBounds_toArray, List.set_cons_zero, List.set_cons_succ])
        refine branchH [42] (by kernel_rfl) (by kernel_rfl) (AllStep.cons ?_ AllStep.nil)
        refine stepH_do (i := 42) rfl (by rfl) ?_
        refine wp_call_st rfl Try.func20 (by kernel_rfl) (by kernel_rfl) _ ?_ ((sameBerth_st (3) (q) (0) (3) (0) fs Ab Af i cb cf HL.out H (by omega) hc2 hcf).mono ?_)
        · rfl
        clear H
        rintro ed wy ⟨rfl, H⟩
        replace HS := HS.of H
        refine ⟨_, rfl, HS, ?_⟩
        (try simp only [Act.put, List.setIfInBounds_toArray, List.set_cons_zero, List.set_cons_succ])
        refine takeV (i := 43) (v := ?_) rfl (by kernel_rfl) (by kernel_rfl) (by kernel_rfl) (fun _ _ _ h => h) (by rfl) ?_ HS ?_
        rotate_left
        · (intro W hW; go_simp; try with_reducible rfl)
        (try simp only [Act.put, List.setIfInBounds_toArray, List.set_cons_zero, List.set_cons_succ])
        refine takeMove (i := 44) rfl rfl _ (by rfl) (by kernel_rfl) (by kernel_rfl) (by kernel_rfl) (fun _ _ _ _ h => h) (by rfl) HS ?_
        (try simp only [Act.put, List.setIfInBounds_toArray, List.set_cons_zero, List.set_cons_succ])
        refine takeMove (i := 45) rfl rfl _ (by rfl) (by kernel_rfl) (by kernel_rfl) (by kernel_rfl) (fun _ _ _ _ h => h) (by rfl) HS ?_
        (try simp only [Act.put, List.setIfInBounds_toArray, List.set_cons_zero, List.set_cons_succ])
        refine takeMove (i := 46) rfl rfl _ (by rfl) (by kernel_rfl) (by kernel_rfl) (by kernel_rfl) (fun _ _ _ _ h => h) (by rfl) HS ?_
        (try simp only [Act.put, List.setIfInBounds_toArray, List.set_cons_zero, List.set_cons_succ])
        refine takeV (i := 47) (v := ?_) rfl (by kernel_rfl) (by kernel_rfl) (by kernel_rfl) (fun _ _ _ h => h) (by rfl) ?_ HS ?_
        rotate_left
        · (intro W hW; go_simp; try with_reducible rfl)
        (try simp only [Act.put, List.setIfInBounds_toArray, List.set_cons_zero, List.set_cons_succ])
        refine takeV (i := 48) (v := ?_) rfl (by kernel_rfl) (by kernel_rfl) (by kernel_rfl) (fun _ _ _ h => h) (by rfl) ?_ HS ?_
        rotate_left
        · (intro W hW; go_simp; try with_reducible rfl)
        (try simp only [Act.put, List.setIfInBounds_toArray, List.set_cons_zero, List.set_cons_succ])
        refine take1_st (i := 49) 3 _ rfl rfl rfl sc_int _ HR3.out (by kernel_rfl) (by kernel_rfl) (by kernel_rfl) (fun _ _ _ _ h => h) (by rfl) HS ?_
        (try simp only [Act.put, List.setIfInBounds_toArray, List.set_cons_zero, List.set_cons_succ])
        refine takeV (i := 50) (v := ?_) rfl (by kernel_rfl) (by kernel_rfl) (by kernel_rfl) (fun _ _ _ h => h) (by rfl) ?_ HS ?_
        rotate_left
        · (intro W hW; go_simp; try with_reducible rfl)
        (try simp only [Act.put, List.setIfInBounds_toArray, List.set_cons_zero, List.set_cons_succ])
        refine takeV (i := 51) (v := ?_) rfl (by kernel_rfl) (by kernel_rfl) (by kernel_rfl) (fun _ _ _ h => h) (by rfl) ?_ HS ?_
        rotate_left
        · (intro W hW; go_simp; try with_reducible rfl)
        (try simp only [Act.put, List.setIfInBounds_toArray, List.set_cons_zero, List.set_cons_succ])
        refine takeAssign (i := 52) rfl rfl _ (by rfl) (by kernel_rfl) (by kernel_rfl) (by kernel_rfl) (fun _ _ _ _ h => h) (by rfl) HS ?_
        (try simp only [Act.put, List.setIfInBounds_toArray, List.set_cons_zero, List.set_cons_succ])
        refine doneH (by kernel_rfl) ?_
        go_wp2_with fail
        go_ret
        exact ⟨rfl, H.bel⟩



end Go.Proofs.Ytjmncbfmjeeneaa

namespace Go.Proofs.Ytjmncbfmjeeneaa.lawRebuildMove
open Go.ChangeShapes Go.WideShapes Go.ChangeAt Go.RowKit Go.Joins
open Go.ChangeMaps (open_string shut_string)
set_option linter.unusedVariables false

theorem own : ownKnob Try.prog.godebug = none := by kernel_rfl
theorem laidOut : laidOutB Try.prog = true := by kernel_rfl

set_option maxRecDepth 100000 in
theorem lifted (os : Os) (started : os.Started) (H : Type) (enc : TypeId × Value → H) :
    ReturnsInHanded {} Try.checked os 8 .any (Rows.rebuildMoveSpec.pre6 enc Try.prog Try.f8 Rows.rebuildMoveRow.domain false) (Rows.rebuildMoveSpec.post enc Try.prog Try.f8 false true false false) := by
  refine returnsInHanded_of_change_sized (C := Try.checked) own started (by kernel_rfl) Try.func8
    (ChangeSpec.witness6 (enc := enc) (C := Try.checked) false ⟨#[], #[.int .i64 0, .slice none 0 0, .slice none 0 0, .int .i64 0], []⟩ 12 (by kernel_rfl) (by kernel_rfl) (by kernel_rfl) (by kernel_rfl)) ?_
  intro W base args ds gs before hval0 hW hcnd hsz0 _
  have hval : ∀ (j : Nat) t v, Try.f8.params[j]? = some t → args[j]? = some v → Value.okWide Try.prog W .any base t v := hval0
  have hsz : (DataW.weightsEach Try.prog (Try.f8.params.toList ++ Rows.rebuildMoveSpec.plain.varTypes Try.prog) (ds ++ gs)).all (· ≤ reachBytes) = true := hsz0
  have hW' := hW
  obtain ⟨p, q, hA0, hV, rfl, hfz, hnd⟩ := hW
  have hA : DataW.TrodAll enc Try.prog W 0 (fun _ => true) true Try.f8.params.toList args.toList ds p := hA0
  rw [Try.params8] at hA hval hsz
  obtain ⟨v0, vs0, d0, ds0, p0, q0, hargs, rfl, rfl, h0, r0⟩ := trodAll_cons hA
  obtain ⟨v1, vs1, d1, ds1, p1, q1, rfl, rfl, rfl, h1, r1⟩ := trodAll_cons r0
  obtain ⟨v2, vs2, d2, ds2, p2, q2, rfl, rfl, rfl, h2, r2⟩ := trodAll_cons r1
  obtain ⟨v3, vs3, d3, ds3, p3, q3, rfl, rfl, rfl, h3, r3⟩ := trodAll_cons r2
  obtain ⟨rfl, rfl, rfl⟩ := trodAll_nil r3
  obtain rfl : args = #[v0, v1, v2, v3] := by cases args; simp_all
  obtain ⟨rfl, rfl⟩ := trodVars_none hV
  have k0 := h0
  have lt0 : ∀ x ∈ p0, x.block < W.heap.size := by obtain ⟨m, hm⟩ := k0; exact DataW.trod_lt m _ _ _ hm
  obtain ⟨a0, rfl, rfl, rfl, w0⟩ := open_int Try.underlying3 (hval 0 3 v0 rfl rfl) h0
  have b0 := is64_of_wf w0
  have k1 := h1
  have lt1 : ∀ x ∈ p1, x.block < W.heap.size := by obtain ⟨m, hm⟩ := k1; exact DataW.trod_lt m _ _ _ hm
  obtain ⟨A1, n1, c1, z1, rfl, b1⟩ := view_rows (ti := 3) (B := 32) Try.underlying56 Try.underlying101 (by kernel_rfl) (by kernel_rfl) (by kernel_rfl) (by intro j f h; match j, h with | 0, h => (simp at h; subst h; rfl) | 1, h => (simp at h; subst h; rfl) | 2, h => (simp at h; subst h; rfl) | 3, h => (simp at h; subst h; rfl) | j + 4, h => simp at h) Try.underlying3 (by decide) (hval 1 56 v1 rfl rfl) h1 hsz (j := 1) rfl rfl
  have k2 := h2
  have lt2 : ∀ x ∈ p2, x.block < W.heap.size := by obtain ⟨m, hm⟩ := k2; exact DataW.trod_lt m _ _ _ hm
  obtain ⟨A2, n2, c2, z2, rfl, b2⟩ := view_rows (ti := 3) (B := 32) Try.underlying56 Try.underlying101 (by kernel_rfl) (by kernel_rfl) (by kernel_rfl) (by intro j f h; match j, h with | 0, h => (simp at h; subst h; rfl) | 1, h => (simp at h; subst h; rfl) | 2, h => (simp at h; subst h; rfl) | 3, h => (simp at h; subst h; rfl) | j + 4, h => simp at h) Try.underlying3 (by decide) (hval 2 56 v2 rfl rfl) h2 hsz (j := 2) rfl rfl
  have k3 := h3
  have lt3 : ∀ x ∈ p3, x.block < W.heap.size := by obtain ⟨m, hm⟩ := k3; exact DataW.trod_lt m _ _ _ hm
  obtain ⟨a3, rfl, rfl, rfl, w3⟩ := open_int Try.underlying3 (hval 3 3 v3 rfl rfl) h3
  have b3 := is64_of_wf w3
  clear hA0 hval0 hsz0
  refine (rebuildMove_walk a0 A1 n1 c1 z1 A2 n2 c2 z2 a3 W b0 b1 b2 b3).mono fun e W' ⟨he, bel⟩ => ?_
  subst he
  exact ⟨_, rfl, _, _, _, [], _, [], hW', trodAll_mk1 (shut_bool Try.underlying4 _), (trodAll_cons_mk (Below.trod laidOut (by kernel_rfl) (of_decide_eq_true (by kernel_rfl)) k0 bel lt0) (trodAll_cons_mk (Below.trod laidOut (by kernel_rfl) (of_decide_eq_true (by kernel_rfl)) k1 bel lt1) (trodAll_cons_mk (Below.trod laidOut (by kernel_rfl) (of_decide_eq_true (by kernel_rfl)) k2 bel lt2) (trodAll_cons_mk (Below.trod laidOut (by kernel_rfl) (of_decide_eq_true (by kernel_rfl)) k3 bel lt3) trodAll_mk0)))), rfl, bel.frame _, fun h => by cases h⟩

theorem over : Rows.rebuildMoveRow.holds Try.pinned (OpenSpec.ofChange Rows.rebuildMoveSpec) :=
  OpenClaim.holds_of_wide 8 Try.f8 rfl rfl rfl rfl rfl rfl rfl ⟨rfl, rfl, rfl, rfl, rfl⟩ rfl rfl rfl rfl rfl (by kernel_rfl) Try.func8 (by kernel_rfl)
    (of_decide_eq_true (by kernel_rfl)) (by unfold Func.isWrapper; first | (rw [if_pos (by decide +kernel)]; kernel_rfl) | (rw [if_neg (by decide +kernel)]; exact ⟨rfl, rfl⟩))
    (fun os started H enc _ => lifted os started H enc)

theorem proved : Rows.RebuildMoveSaid := over
#print axioms proved
end Go.Proofs.Ytjmncbfmjeeneaa.lawRebuildMove
