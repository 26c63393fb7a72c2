/- moved: a queue that goes from one berth to another one while it is used. -/
import Derived.Test.YtjgbkicnagcmdaaBL
namespace Go.Proofs.Ytjgbkicnagcmdaa
open Go.RowKit

theorem ppost_to {P : Program} {f : FuncId} {args : Array Value} {w W : World} {J : List It} {es : List Ev} {last last' : Bool} {p : Nat} (hl : es.length = p) (hb : last = last') (h : Calls P f args W (PPost w J es last)) :
    Calls P f args W (fun ed w' => ∃ A c, ed = .returned (.tuple #[.slice A p c, .bool last', .int .i64 0]) ∧ p ≤ c ∧ St w w' (evIt A es :: J)) := by
  subst hl hb
  exact h
theorem here_allocAt (d : Nat) {P : Program} {ops : Array Oper} {rest : List Oper} {ty : TypeId} {t : TypeId} {p : String} {af : Array Edge} {gd : Option (Nat × Bool)} {a : Act} {w : World} {Q : Exit → Act → World → Prop} (h : wpList P ops Q (⟨some d, .alloc ty, t, p, af, gd⟩ :: rest) a w) : wpList P ops Q (⟨some d, .alloc ty, t, p, af, gd⟩ :: rest) a w := h
/-- the source's state while the queue is on its way: behind i rounds, j of its events are there -/
def MvR (q ro r : Int) (i : Nat) (fs : List Ev) (ms j e : Nat) : Prop :=
  (⟨ro, q, 0, 3, r, fs⟩ : BM).Ok 40 ∧ j ≤ ms ∧ ((ro = 2 ∧ r = i ∧ i ≤ 4 ∧ ms ≤ 30 + i + e) ∨ (ro = 3 ∧ r = 0 ∧ 1 ≤ i ∧ i ≤ 5 + j ∧ ms ≤ 35))
theorem MvR.more {q ro r : Int} {i : Nat} {fs : List Ev} {ms j e : Nat} (h : MvR q ro r i fs ms j e) : MvR q ro r i fs ms j (e + 1) := ⟨h.1, h.2.1, by have := h.2.2; omega⟩
/-- an event is served -/
theorem MvR.serve {q ro r : Int} {i : Nat} {fs : List Ev} {ms j : Nat} (h : MvR q ro r i fs ms j 0) (hl : fs.length = ms) (x : Ev) (hx : x.check = 0) :
    ∃ fs' a b, (⟨ro, q, 0, 3, r, fs⟩ : BM).serve x = (⟨ro, q, 0, 3, r, fs'⟩, a, b) ∧ MvR q ro r i fs' fs'.length j 1 ∧ fs'.take j = fs.take j := by
  obtain ⟨h1, h2, h3⟩ := h
  have h4 := h1.serve x hx
  have hlen := BM.serve_len ⟨ro, q, 0, 3, r, fs⟩ x
  have hq1 : 1 ≤ q ∧ q ≤ 1048576 := by
    rcases h1.shape with h | h
    · have := h.1
      dsimp only at this
      omega
    · exact ⟨h.1, h.2.1⟩
  unfold BM.serve at h4 hlen ⊢
  dsimp only at h4 hlen ⊢
  rcases h3 with ⟨rfl, e2, e3, e4⟩ | ⟨rfl, e2, e3, e4, e5⟩
  · rw [if_neg (by decide), if_pos (by decide)] at h4 ⊢
    split
    · next hc =>
      rw [if_pos hc] at h4
      refine ⟨_, _, _, rfl, ⟨⟨h4.shape, h4.chk, ?_, h4.told⟩, ?_, .inl ⟨rfl, e2, e3, ?_⟩⟩, ?_⟩
      · simp; omega
      · simp; omega
      · simp; omega
      · rw [List.take_append_of_le_length (by omega)]
    · exact ⟨_, _, _, rfl, ⟨h1, by omega, .inl ⟨rfl, e2, e3, by omega⟩⟩, rfl⟩
  · rw [if_pos rfl]
    exact ⟨_, _, _, rfl, ⟨h1, by omega, .inr ⟨rfl, e2, e3, e4, by omega⟩⟩, rfl⟩
/-- the target tells how far it is -/
theorem MvR.caught {q ro r : Int} {i : Nat} {fs : List Ev} {ms j : Nat} (h : MvR q ro r i fs ms j 1) (hl : fs.length = ms) :
    ∃ ro2 r2, (⟨ro, q, 0, 3, r, fs⟩ : BM).caughtR j = (⟨ro2, q, 0, 3, r2, fs⟩, 0) ∧ (⟨ro2, q, 0, 3, r2, fs⟩ : BM).Ok 40 ∧ (ro2 = 2 ∨ ro2 = 3) ∧ ms ≤ 35 ∧ i ≤ 5 + j ∧
      ((ro2 = 2 ∧ r2 = ((i + 1 : Nat) : Int) ∧ i + 1 ≤ 4 ∧ ms ≤ 30 + (i + 1) ∧ j < ms) ∨ (ro2 = 3 ∧ r2 = 0)) := by
  obtain ⟨h1, h2, h3⟩ := h
  have h4 := h1.caughtR j
  unfold BM.caughtR BM.caught at h4 ⊢
  dsimp only at h4 ⊢
  rcases h3 with ⟨rfl, e2, e3, e4⟩ | ⟨rfl, e2, e3, e4, e5⟩
  · rw [if_neg (by omega), if_neg (by omega), if_neg (by omega)] at h4 ⊢
    split
    · next hc =>
      rw [if_pos hc] at h4
      exact ⟨_, _, rfl, h4, .inr rfl, by omega, by omega, .inr ⟨rfl, rfl⟩⟩
    · next hc =>
      rw [if_neg hc] at h4
      exact ⟨_, _, rfl, h4, .inl rfl, by omega, by omega, .inl ⟨rfl, by omega, by omega, by omega, by omega⟩⟩
  · rw [if_neg (by omega), if_neg (by omega), if_pos rfl] at h4 ⊢
    exact ⟨_, _, rfl, h4, .inr rfl, by omega, by omega, .inr ⟨rfl, e2⟩⟩
/-- what 'moved' gives -/
def MPost (w0 : World) (I : List It) (q : Int) (ed : Ending) (w' : World) : Prop :=
  ∃ (fs : List Ev) (m : Nat) (A : Option Addr) (c : Nat) (B : Option Addr) (d : Nat), ed = .returned (.tuple #[.agg #[.int .i64 3, .int .i64 q, .int .i64 0, .int .i64 3, .int .i64 0, .slice A m c], .agg #[.int .i64 1, .int .i64 (q + 1), .int .i64 0, .int .i64 0, .int .i64 0, .slice B (m + 1) d], .bool true]) ∧ fs.length = m ∧ m ≤ 40 ∧ (⟨3, q, 0, 3, 0, fs⟩ : BM).Ok 40 ∧ m ≤ c ∧ m + 1 ≤ d ∧ St w0 w' (evIt A fs :: evIt B (fs ++ [⟨4, 0, 0, 0, 0, 0⟩]) :: I)
set_option maxRecDepth 100000 in
set_option maxHeartbeats 8000000 in
theorem moved_st {w w1 : World} {I : List It} (ep : Int) (A : Option Addr) (n c : Nat) (rows : List (List Int)) (A2 : Option Addr) (n2 c2 : Nat) (rows2 : List (List Int)) (A3 : Option Addr) (n3 c3 : Nat) (zs : List Bool) (h0 : Is64 ep) (h : IsRows 4 32 w A n c rows) (h2 : IsRows 4 32 w A2 n2 c2 rows2) (h3 : IsBools 1 w A3 n3 c3 zs) (H : St w w1 I) :
    Calls Try.prog 32 #[.int .i64 ep, .slice A n c, .slice A2 n2 c2, .slice A3 n3 c3] w1 (MPost w I (1 + pick ep 1000)) := by
  have SV0 := fun W J (H : St w W J) => served_st (w0 := w) (w := W) (I := J) ep A n c 30 rows h0 h (by omega) H
  have p0 := pick_lo ep 1000 (by omega)
  have p1 := pick_hi ep 1000 (by omega)
  obtain ⟨q, hq⟩ : ∃ q, 1 + pick ep 1000 = q := ⟨_, rfl⟩
  rw [hq] at SV0 ⊢
  have hq1 : 1 ≤ q := by omega
  have hq2 : q ≤ 1000 := by omega
  clear hq p0 p1
  obtain ⟨es, hsv, hm0, hx0, hnb0⟩ := served_is q rows hq1 (by omega) (min n 30)
  rw [hsv] at SV0
  have hm : es.length ≤ 30 := by omega
  have HX := Lib.hid (hx0.more (show min n 30 ≤ 30 by omega))
  obtain ⟨m, hl⟩ : ∃ m, es.length = m := ⟨_, rfl⟩
  rw [hl] at hm
  have SV := Lib.hid (fun W J (H : St w W J) => (show Calls Try.prog 15 #[.int .i64 ep, .slice A n c, .int .i64 30] W (fun ed w' => ∃ A c, ed = .returned (.tuple #[.agg #[.int .i64 1, .int .i64 q, .int .i64 0, .int .i64 0, .int .i64 0, .slice A m c], .bool true]) ∧ m ≤ c ∧ St w w' (evIt A es :: J)) from vpost_to hl (SV0 W J H)))
  have HL := Lib.hid hl
  have HZ := Lib.hid (BM.zero_ok)
  have HNB := Lib.hid hnb0
  have HL0 := Lib.hid (show ([] : List Ev).length = 0 from rfl)
  clear SV0 hsv hm0 hx0 hl hnb0
  have C1 := Lib.hid (fun W J (H : St w W J) A c (hc : m ≤ c) (hI : Has J (evIt A es)) => (show Calls Try.prog 16 #[.agg #[.int .i64 1, .int .i64 q, .int .i64 0, .int .i64 0, .int .i64 0, .slice A m c], .int .i64 3] W (fun ed w' => ∃ A' c', ed = .returned (.tuple #[.agg #[.int .i64 2, .int .i64 q, .int .i64 0, .int .i64 3, .int .i64 0, .slice A' m c'], .int .i64 0]) ∧ m ≤ c' ∧ St w w' (evIt A' es :: J)) from by
    have h := go_st (h := hI) (w0 := w) (w := W) (I := J) ⟨1, q, 0, 0, 0, es⟩ A m c 30 3 HL.out HX.out (by omega) hc H
    rw [show BM.goR ⟨1, q, 0, 0, 0, es⟩ (3) = (⟨2, q, 0, 3, 0, es⟩, 0) from (by have hl := HL.out; unfold BM.goR; dsimp only; repeat (first | rw [if_pos (by omega)] | rw [if_neg (by omega)]); try rfl)] at h
    exact bpost_to HL.out h))
  have C2 := Lib.hid (fun W J (H : St w W J) A c (hc : 0 ≤ c) (hI : Has J (evIt A [])) => (show Calls Try.prog 30 #[.agg #[.int .i64 0, .int .i64 0, .int .i64 0, .int .i64 0, .int .i64 0, .slice A 0 c], .int .i64 (q + 1), .int .i64 1] W (fun ed w' => ∃ A' c', ed = .returned (.tuple #[.agg #[.int .i64 4, .int .i64 (q + 1), .int .i64 1, .int .i64 0, .int .i64 0, .slice A' 0 c'], .int .i64 0]) ∧ 0 ≤ c' ∧ St w w' (evIt A' [] :: J)) from by
    have h := begin_st (h := hI) (w0 := w) (w := W) (I := J) ⟨0, 0, 0, 0, 0, []⟩ A 0 c 0 (q + 1) 1 HL0.out HZ.out (by omega) hc H
    rw [show BM.beginR ⟨0, 0, 0, 0, 0, []⟩ (q + 1) (1) = (⟨4, q + 1, 1, 0, 0, []⟩, 0) from (by have hl := HL.out; unfold BM.beginR; dsimp only; repeat (first | rw [if_pos (by omega)] | rw [if_neg (by omega)]); try rfl)] at h
    exact bpost_to HL0.out h))
  have HYO := Lib.hid (show (⟨2, q, 0, 3, 0, es⟩ : BM).Ok 40 from (HX.out.more (by omega)).same (by unfold BM.Shape; dsimp only; omega) rfl)
  have w9 : IntKind.i64.wrap (q + 1) = q + 1 := IntWalk.i64_in _ (by omega)
  have HRW := Lib.hid h2
  have HBW := Lib.hid h3
  clear h0 h h2 h3
  have HF := Lib.hid (fun W fs ms A c B d (h1 : fs.length = ms) (h2 : ms ≤ 40) (h3 : (⟨3, q, 0, 3, 0, fs⟩ : BM).Ok 40) (h4 : ms ≤ c) (h5 : ms + 1 ≤ d) (h6 : St w W (evIt A fs :: evIt B (fs ++ [⟨4, 0, 0, 0, 0, 0⟩]) :: I)) => (show MPost w I q (.returned (.tuple #[.agg #[.int .i64 3, .int .i64 q, .int .i64 0, .int .i64 3, .int .i64 0, .slice A ms c], .agg #[.int .i64 1, .int .i64 (q + 1), .int .i64 0, .int .i64 0, .int .i64 0, .slice B (ms + 1) d], .bool true])) W from ⟨fs, ms, A, c, B, d, rfl, h1, h2, h3, h4, h5, h6⟩))
  generalize MPost w I q = POST at *
  go_enter Try.func32, Try.ntmps32
  go_upto_region 1 with (first | ((with_reducible refine here_allocAt 8 ?_); refine wpList_alloc_st H rfl 27 rfl _ ber_zero ?_; clear H; intro g8 wx H) | ((with_reducible refine here_allocAt 9 ?_); refine wpList_alloc_st H rfl 27 rfl _ ber_zero ?_; clear H; intro g9 wx H) | fail)
  (try simp only [Act.put])
  go_upto_region 2 with (first | (go_at_call 15; with_reducible refine (SV.out _ _ H).mono ?_; clear H; rintro ed wy ⟨Ax, cx, rfl, hcx, H⟩) | (first
      | ((with_reducible refine here_load ?_); first | (refine wpList_load_st H rfl 46 _ rfl rfl row_Queue (by kernel_rfl) ?_) | (refine wpList_load_st H rfl 50 _ rfl rfl row_Answer (by kernel_rfl) ?_) | (refine wpList_load_st H rfl 37 _ rfl rfl row_Event (by kernel_rfl) ?_) | (refine wpList_load_st H rfl 27 _ rfl rfl row_Berth (by kernel_rfl) ?_) | (refine wpList_load1_st H rfl 3 _ rfl rfl sc_int (by rfl) ?_) | (refine wpList_load1_stG H (by rfl) 3 _ rfl rfl sc_int (by rfl) ?_) | (refine wpList_load1_st H rfl 4 _ rfl rfl sc_bool (by rfl) ?_) | (refine wpList_load1_stG H (by rfl) 4 _ rfl rfl sc_bool (by rfl) ?_) | (refine wpList_load1_st H rfl 30 _ rfl rfl sc_Errno (by rfl) ?_) | (refine wpList_load1_stG H (by rfl) 30 _ rfl rfl sc_Errno (by rfl) ?_) | (refine wpList_load1_st H rfl 25 _ rfl rfl sc_Evs (by rfl) ?_) | (refine wpList_load1_stG H (by rfl) 25 _ rfl rfl sc_Evs (by rfl) ?_))
      | ((with_reducible refine here_store ?_); first | (refine wpList_store_st H rfl 46 _ _ rfl rfl rfl (by kernel_rfl) (by rfl) (by kernel_rfl) ?_; clear H; intro wx H) | (refine wpList_store_st H rfl 50 _ _ rfl rfl rfl (by kernel_rfl) (by rfl) (by kernel_rfl) ?_; clear H; intro wx H) | (refine wpList_store_st H rfl 37 _ _ rfl rfl rfl (by kernel_rfl) (by rfl) (by kernel_rfl) ?_; clear H; intro wx H) | (refine wpList_store_st H rfl 27 _ _ rfl rfl rfl (by kernel_rfl) (by rfl) (by kernel_rfl) ?_; clear H; intro wx H) | (refine wpList_store1_st H rfl 3 _ _ rfl rfl _ rfl (by rfl) s1_int (by rfl) (by rfl) ?_; clear H; intro wx H) | (refine wpList_store1_st H rfl 4 _ _ rfl rfl _ rfl (by rfl) s1_bool (by rfl) (by rfl) ?_; clear H; intro wx H) | (refine wpList_store1_st H rfl 30 _ _ rfl rfl _ rfl (by rfl) s1_Errno (by rfl) (by rfl) ?_; clear H; intro wx H) | (refine wpList_store1_st H rfl 25 _ _ rfl rfl _ rfl (by rfl) s1_Evs (by rfl) (by rfl) ?_; clear H; intro wx H))
      | ((with_reducible refine here_alloc ?_); first | (refine wpList_alloc_st H rfl 46 rfl _ q_zero ?_; clear H; intro gqx wx H) | (refine wpList_alloc_st H rfl 50 rfl _ ans_zero ?_; clear H; intro gax wx H) | (refine wpList_alloc_st H rfl 37 rfl _ ev_zero ?_; clear H; intro gex wx H) | (refine wpList_alloc_st H rfl 27 rfl _ ber_zero ?_; clear H; intro grx wx H))
      | ((with_reducible refine here_box ?_); first | (refine wpList_box_st H rfl _ _ rfl _ rfl ?_; clear H; intro gbx wx H))))
  (try simp only [Act.put])
  go_upto_region 3 with (first | (go_at_call 16; with_reducible refine (C1.out _ _ H Ax cx hcx inferInstance).mono ?_; clear H; rintro ed wy ⟨Ay, cy, rfl, hcy, H⟩) | (first
      | ((with_reducible refine here_load ?_); first | (refine wpList_load_st H rfl 46 _ rfl rfl row_Queue (by kernel_rfl) ?_) | (refine wpList_load_st H rfl 50 _ rfl rfl row_Answer (by kernel_rfl) ?_) | (refine wpList_load_st H rfl 37 _ rfl rfl row_Event (by kernel_rfl) ?_) | (refine wpList_load_st H rfl 27 _ rfl rfl row_Berth (by kernel_rfl) ?_) | (refine wpList_load1_st H rfl 3 _ rfl rfl sc_int (by rfl) ?_) | (refine wpList_load1_stG H (by rfl) 3 _ rfl rfl sc_int (by rfl) ?_) | (refine wpList_load1_st H rfl 4 _ rfl rfl sc_bool (by rfl) ?_) | (refine wpList_load1_stG H (by rfl) 4 _ rfl rfl sc_bool (by rfl) ?_) | (refine wpList_load1_st H rfl 30 _ rfl rfl sc_Errno (by rfl) ?_) | (refine wpList_load1_stG H (by rfl) 30 _ rfl rfl sc_Errno (by rfl) ?_) | (refine wpList_load1_st H rfl 25 _ rfl rfl sc_Evs (by rfl) ?_) | (refine wpList_load1_stG H (by rfl) 25 _ rfl rfl sc_Evs (by rfl) ?_))
      | ((with_reducible refine here_store ?_); first | (refine wpList_store_st H rfl 46 _ _ rfl rfl rfl (by kernel_rfl) (by rfl) (by kernel_rfl) ?_; clear H; intro wx H) | (refine wpList_store_st H rfl 50 _ _ rfl rfl rfl (by kernel_rfl) (by rfl) (by kernel_rfl) ?_; clear H; intro wx H) | (refine wpList_store_st H rfl 37 _ _ rfl rfl rfl (by kernel_rfl) (by rfl) (by kernel_rfl) ?_; clear H; intro wx H) | (refine wpList_store_st H rfl 27 _ _ rfl rfl rfl (by kernel_rfl) (by rfl) (by kernel_rfl) ?_; clear H; intro wx H) | (refine wpList_store1_st H rfl 3 _ _ rfl rfl _ rfl (by rfl) s1_int (by rfl) (by rfl) ?_; clear H; intro wx H) | (refine wpList_store1_st H rfl 4 _ _ rfl rfl _ rfl (by rfl) s1_bool (by rfl) (by rfl) ?_; clear H; intro wx H) | (refine wpList_store1_st H rfl 30 _ _ rfl rfl _ rfl (by rfl) s1_Errno (by rfl) (by rfl) ?_; clear H; intro wx H) | (refine wpList_store1_st H rfl 25 _ _ rfl rfl _ rfl (by rfl) s1_Evs (by rfl) (by rfl) ?_; clear H; intro wx H))
      | ((with_reducible refine here_alloc ?_); first | (refine wpList_alloc_st H rfl 46 rfl _ q_zero ?_; clear H; intro gq2 wx H) | (refine wpList_alloc_st H rfl 50 rfl _ ans_zero ?_; clear H; intro ga2 wx H) | (refine wpList_alloc_st H rfl 37 rfl _ ev_zero ?_; clear H; intro ge2 wx H) | (refine wpList_alloc_st H rfl 27 rfl _ ber_zero ?_; clear H; intro gr2 wx H))
      | ((with_reducible refine here_box ?_); first | (refine wpList_box_st H rfl _ _ rfl _ rfl ?_; clear H; intro gb2 wx H))))
  (try simp only [Act.put])
  go_upto_region 4 with (first | (go_at_call 30; replace H := H.noEv; with_reducible refine (C2.out _ _ H none 0 (Nat.le_refl _) inferInstance).mono ?_; clear H; rintro ed wy ⟨At, ct, rfl, hct, H⟩) | (first
      | ((with_reducible refine here_load ?_); first | (refine wpList_load_st H rfl 46 _ rfl rfl row_Queue (by kernel_rfl) ?_) | (refine wpList_load_st H rfl 50 _ rfl rfl row_Answer (by kernel_rfl) ?_) | (refine wpList_load_st H rfl 37 _ rfl rfl row_Event (by kernel_rfl) ?_) | (refine wpList_load_st H rfl 27 _ rfl rfl row_Berth (by kernel_rfl) ?_) | (refine wpList_load1_st H rfl 3 _ rfl rfl sc_int (by rfl) ?_) | (refine wpList_load1_stG H (by rfl) 3 _ rfl rfl sc_int (by rfl) ?_) | (refine wpList_load1_st H rfl 4 _ rfl rfl sc_bool (by rfl) ?_) | (refine wpList_load1_stG H (by rfl) 4 _ rfl rfl sc_bool (by rfl) ?_) | (refine wpList_load1_st H rfl 30 _ rfl rfl sc_Errno (by rfl) ?_) | (refine wpList_load1_stG H (by rfl) 30 _ rfl rfl sc_Errno (by rfl) ?_) | (refine wpList_load1_st H rfl 25 _ rfl rfl sc_Evs (by rfl) ?_) | (refine wpList_load1_stG H (by rfl) 25 _ rfl rfl sc_Evs (by rfl) ?_))
      | ((with_reducible refine here_store ?_); first | (refine wpList_store_st H rfl 46 _ _ rfl rfl rfl (by kernel_rfl) (by rfl) (by kernel_rfl) ?_; clear H; intro wx H) | (refine wpList_store_st H rfl 50 _ _ rfl rfl rfl (by kernel_rfl) (by rfl) (by kernel_rfl) ?_; clear H; intro wx H) | (refine wpList_store_st H rfl 37 _ _ rfl rfl rfl (by kernel_rfl) (by rfl) (by kernel_rfl) ?_; clear H; intro wx H) | (refine wpList_store_st H rfl 27 _ _ rfl rfl rfl (by kernel_rfl) (by rfl) (by kernel_rfl) ?_; clear H; intro wx H) | (refine wpList_store1_st H rfl 3 _ _ rfl rfl _ rfl (by rfl) s1_int (by rfl) (by rfl) ?_; clear H; intro wx H) | (refine wpList_store1_st H rfl 4 _ _ rfl rfl _ rfl (by rfl) s1_bool (by rfl) (by rfl) ?_; clear H; intro wx H) | (refine wpList_store1_st H rfl 30 _ _ rfl rfl _ rfl (by rfl) s1_Errno (by rfl) (by rfl) ?_; clear H; intro wx H) | (refine wpList_store1_st H rfl 25 _ _ rfl rfl _ rfl (by rfl) s1_Evs (by rfl) (by rfl) ?_; clear H; intro wx H))
      | ((with_reducible refine here_alloc ?_); first | (refine wpList_alloc_st H rfl 46 rfl _ q_zero ?_; clear H; intro gq3 wx H) | (refine wpList_alloc_st H rfl 50 rfl _ ans_zero ?_; clear H; intro ga3 wx H) | (refine wpList_alloc_st H rfl 37 rfl _ ev_zero ?_; clear H; intro ge3 wx H) | (refine wpList_alloc_st H rfl 27 rfl _ ber_zero ?_; clear H; intro gr3 wx H))
      | ((with_reducible refine here_box ?_); first | (refine wpList_box_st H rfl _ _ rfl _ rfl ?_; clear H; intro gb3 wx H))))
  (try simp only [Act.put])
  go_upto_region 8 with (first | (first
      | ((with_reducible refine here_load ?_); first | (refine wpList_load_st H rfl 46 _ rfl rfl row_Queue (by kernel_rfl) ?_) | (refine wpList_load_st H rfl 50 _ rfl rfl row_Answer (by kernel_rfl) ?_) | (refine wpList_load_st H rfl 37 _ rfl rfl row_Event (by kernel_rfl) ?_) | (refine wpList_load_st H rfl 27 _ rfl rfl row_Berth (by kernel_rfl) ?_) | (refine wpList_load1_st H rfl 3 _ rfl rfl sc_int (by rfl) ?_) | (refine wpList_load1_stG H (by rfl) 3 _ rfl rfl sc_int (by rfl) ?_) | (refine wpList_load1_st H rfl 4 _ rfl rfl sc_bool (by rfl) ?_) | (refine wpList_load1_stG H (by rfl) 4 _ rfl rfl sc_bool (by rfl) ?_) | (refine wpList_load1_st H rfl 30 _ rfl rfl sc_Errno (by rfl) ?_) | (refine wpList_load1_stG H (by rfl) 30 _ rfl rfl sc_Errno (by rfl) ?_) | (refine wpList_load1_st H rfl 25 _ rfl rfl sc_Evs (by rfl) ?_) | (refine wpList_load1_stG H (by rfl) 25 _ rfl rfl sc_Evs (by rfl) ?_))
      | ((with_reducible refine here_store ?_); first | (refine wpList_store_st H rfl 46 _ _ rfl rfl rfl (by kernel_rfl) (by rfl) (by kernel_rfl) ?_; clear H; intro wx H) | (refine wpList_store_st H rfl 50 _ _ rfl rfl rfl (by kernel_rfl) (by rfl) (by kernel_rfl) ?_; clear H; intro wx H) | (refine wpList_store_st H rfl 37 _ _ rfl rfl rfl (by kernel_rfl) (by rfl) (by kernel_rfl) ?_; clear H; intro wx H) | (refine wpList_store_st H rfl 27 _ _ rfl rfl rfl (by kernel_rfl) (by rfl) (by kernel_rfl) ?_; clear H; intro wx H) | (refine wpList_store1_st H rfl 3 _ _ rfl rfl _ rfl (by rfl) s1_int (by rfl) (by rfl) ?_; clear H; intro wx H) | (refine wpList_store1_st H rfl 4 _ _ rfl rfl _ rfl (by rfl) s1_bool (by rfl) (by rfl) ?_; clear H; intro wx H) | (refine wpList_store1_st H rfl 30 _ _ rfl rfl _ rfl (by rfl) s1_Errno (by rfl) (by rfl) ?_; clear H; intro wx H) | (refine wpList_store1_st H rfl 25 _ _ rfl rfl _ rfl (by rfl) s1_Evs (by rfl) (by rfl) ?_; clear H; intro wx H))
      | ((with_reducible refine here_alloc ?_); first | (refine wpList_alloc_st H rfl 46 rfl _ q_zero ?_; clear H; intro gq4 wx H) | (refine wpList_alloc_st H rfl 50 rfl _ ans_zero ?_; clear H; intro ga4 wx H) | (refine wpList_alloc_st H rfl 37 rfl _ ev_zero ?_; clear H; intro ge4 wx H) | (refine wpList_alloc_st H rfl 27 rfl _ ber_zero ?_; clear H; intro gr4 wx H))
      | ((with_reducible refine here_box ?_); first | (refine wpList_box_st H rfl _ _ rfl _ rfl ?_; clear H; intro gb4 wx H))))
  (try simp only [Act.put])
  go_loopw [16, 17] (fun s16 s17 wr => ∃ (i a : Nat) (ro r : Int) (fs : List Ev) (ms j : Nat) (A1 : Option Addr) (c1 : Nat) (B1 : Option Addr) (d1 : Nat), s16 = .int .i64 a ∧ s17 = .int .i64 i ∧ fs.length = ms ∧ ms ≤ c1 ∧ ((MvR q ro r i fs ms j 0 ∧ j ≤ d1 ∧ St w wr (.bl grx 27 #[.int .i64 ro, .int .i64 q, .int .i64 0, .int .i64 3, .int .i64 r, .slice A1 ms c1] :: evIt A1 fs :: .bl gr3 27 #[.int .i64 4, .int .i64 (q + 1), .int .i64 1, .int .i64 0, .int .i64 0, .slice B1 j d1] :: evIt B1 (fs.take j) :: .bl g8 27 #[.int .i64 0, .int .i64 0, .int .i64 0, .int .i64 0, .int .i64 0, .slice none 0 0] :: .bl g9 27 #[.int .i64 0, .int .i64 0, .int .i64 0, .int .i64 0, .int .i64 0, .slice none 0 0] :: I)) ∨ (i ≤ 50 ∧ (⟨3, q, 0, 3, 0, fs⟩ : BM).Ok 40 ∧ ms ≤ 40 ∧ ms + 1 ≤ d1 ∧ St w wr (.bl grx 27 #[.int .i64 3, .int .i64 q, .int .i64 0, .int .i64 3, .int .i64 0, .slice A1 ms c1] :: evIt A1 fs :: .bl gr3 27 #[.int .i64 1, .int .i64 (q + 1), .int .i64 0, .int .i64 0, .int .i64 0, .slice B1 ((ms + 1)) d1] :: evIt B1 (fs ++ [⟨4, 0, 0, 0, 0, 0⟩]) :: .bl g8 27 #[.int .i64 0, .int .i64 0, .int .i64 0, .int .i64 0, .int .i64 0, .slice none 0 0] :: .bl g9 27 #[.int .i64 0, .int .i64 0, .int .i64 0, .int .i64 0, .int .i64 0, .slice none 0 0] :: I)))) (fun _ s17 _ => 200 - (intOf s17).toNat)
  case atStart => exact ⟨0, 0, 2, 0, es, m, 0, Ay, cy, At, ct, rfl, rfl, HL.out, hcy, .inl ⟨⟨HYO.out, by omega, .inl ⟨rfl, rfl, by omega, by omega⟩⟩, by omega, (by rw [List.take_zero]; exact H.subm _)⟩⟩
  case round =>
    as_aux_lemma =>
      clear H
      obtain ⟨i, a, ro, r, fs, ms, j, A1, c1, B1, d1, rfl, rfl, hfs, hc1, hor⟩ := hrel
      rcases hor with ⟨hmv, hd1, H⟩ | ⟨hi, hok, hms, hd1, H⟩
      · as_aux_lemma =>
          have hq := hmv.2.2
          have hjm := hmv.2.1
          have e1 : (i : Int) < 200 := by omega
          have e2 := decide_eq_true e1
          have i1 : IntKind.i64.wrap ((i : Int) + 1) = (i : Int) + 1 := IntWalk.i64_in _ (by omega)
          have HMV := Lib.hid hmv
          have HFS := Lib.hid hfs
          clear hmv hq hfs
          go_upto_region 10 with (first
              | ((with_reducible refine here_load ?_); first | (refine wpList_load_st H rfl 46 _ rfl rfl row_Queue (by kernel_rfl) ?_) | (refine wpList_load_st H rfl 50 _ rfl rfl row_Answer (by kernel_rfl) ?_) | (refine wpList_load_st H rfl 37 _ rfl rfl row_Event (by kernel_rfl) ?_) | (refine wpList_load_st H rfl 27 _ rfl rfl row_Berth (by kernel_rfl) ?_) | (refine wpList_load1_st H rfl 3 _ rfl rfl sc_int (by rfl) ?_) | (refine wpList_load1_stG H (by rfl) 3 _ rfl rfl sc_int (by rfl) ?_) | (refine wpList_load1_st H rfl 4 _ rfl rfl sc_bool (by rfl) ?_) | (refine wpList_load1_stG H (by rfl) 4 _ rfl rfl sc_bool (by rfl) ?_) | (refine wpList_load1_st H rfl 30 _ rfl rfl sc_Errno (by rfl) ?_) | (refine wpList_load1_stG H (by rfl) 30 _ rfl rfl sc_Errno (by rfl) ?_) | (refine wpList_load1_st H rfl 25 _ rfl rfl sc_Evs (by rfl) ?_) | (refine wpList_load1_stG H (by rfl) 25 _ rfl rfl sc_Evs (by rfl) ?_))
              | ((with_reducible refine here_store ?_); first | (refine wpList_store_st H rfl 46 _ _ rfl rfl rfl (by kernel_rfl) (by rfl) (by kernel_rfl) ?_; clear H; intro wx H) | (refine wpList_store_st H rfl 50 _ _ rfl rfl rfl (by kernel_rfl) (by rfl) (by kernel_rfl) ?_; clear H; intro wx H) | (refine wpList_store_st H rfl 37 _ _ rfl rfl rfl (by kernel_rfl) (by rfl) (by kernel_rfl) ?_; clear H; intro wx H) | (refine wpList_store_st H rfl 27 _ _ rfl rfl rfl (by kernel_rfl) (by rfl) (by kernel_rfl) ?_; clear H; intro wx H) | (refine wpList_store1_st H rfl 3 _ _ rfl rfl _ rfl (by rfl) s1_int (by rfl) (by rfl) ?_; clear H; intro wx H) | (refine wpList_store1_st H rfl 4 _ _ rfl rfl _ rfl (by rfl) s1_bool (by rfl) (by rfl) ?_; clear H; intro wx H) | (refine wpList_store1_st H rfl 30 _ _ rfl rfl _ rfl (by rfl) s1_Errno (by rfl) (by rfl) ?_; clear H; intro wx H) | (refine wpList_store1_st H rfl 25 _ _ rfl rfl _ rfl (by rfl) s1_Evs (by rfl) (by rfl) ?_; clear H; intro wx H))
              | ((with_reducible refine here_alloc ?_); first | (refine wpList_alloc_st H rfl 46 rfl _ q_zero ?_; clear H; intro gq5 wx H) | (refine wpList_alloc_st H rfl 50 rfl _ ans_zero ?_; clear H; intro ga5 wx H) | (refine wpList_alloc_st H rfl 37 rfl _ ev_zero ?_; clear H; intro ge5 wx H) | (refine wpList_alloc_st H rfl 27 rfl _ ber_zero ?_; clear H; intro gr5 wx H))
              | ((with_reducible refine here_box ?_); first | (refine wpList_box_st H rfl _ _ rfl _ rfl ?_; clear H; intro gb5 wx H)))
          go_cut [16, 17, 80] (fun s16 s17 s80 wx => s16 = .int .i64 a ∧ s17 = .int .i64 i ∧ s80 = .bool (decide (a < n2 ∧ a < 20)) ∧ St w wx (.bl grx 27 #[.int .i64 ro, .int .i64 q, .int .i64 0, .int .i64 3, .int .i64 r, .slice A1 ms c1] :: evIt A1 fs :: .bl gr3 27 #[.int .i64 4, .int .i64 (q + 1), .int .i64 1, .int .i64 0, .int .i64 0, .slice B1 j d1] :: evIt B1 (fs.take j) :: .bl g8 27 #[.int .i64 0, .int .i64 0, .int .i64 0, .int .i64 0, .int .i64 0, .slice none 0 0] :: .bl g9 27 #[.int .i64 0, .int .i64 0, .int .i64 0, .int .i64 0, .int .i64 0, .slice none 0 0] :: I))
          case first =>
            have hor : ¬ (a : Int) < (n2 : Int) ∨ ((a : Int) < (n2 : Int) ∧ ¬ (a : Int) < 20) ∨ ((a : Int) < (n2 : Int) ∧ (a : Int) < 20) := by omega
            rcases hor with ho | ⟨ho, ho2⟩ | ⟨ho, ho2⟩
            · have ho3 := decide_eq_false ho
              have ho5 : decide (a < n2 ∧ a < 20) = false := decide_eq_false (by omega)
              go_wp2_with (first
              | ((with_reducible refine here_load ?_); first | (refine wpList_load_st H rfl 46 _ rfl rfl row_Queue (by kernel_rfl) ?_) | (refine wpList_load_st H rfl 50 _ rfl rfl row_Answer (by kernel_rfl) ?_) | (refine wpList_load_st H rfl 37 _ rfl rfl row_Event (by kernel_rfl) ?_) | (refine wpList_load_st H rfl 27 _ rfl rfl row_Berth (by kernel_rfl) ?_) | (refine wpList_load1_st H rfl 3 _ rfl rfl sc_int (by rfl) ?_) | (refine wpList_load1_stG H (by rfl) 3 _ rfl rfl sc_int (by rfl) ?_) | (refine wpList_load1_st H rfl 4 _ rfl rfl sc_bool (by rfl) ?_) | (refine wpList_load1_stG H (by rfl) 4 _ rfl rfl sc_bool (by rfl) ?_) | (refine wpList_load1_st H rfl 30 _ rfl rfl sc_Errno (by rfl) ?_) | (refine wpList_load1_stG H (by rfl) 30 _ rfl rfl sc_Errno (by rfl) ?_) | (refine wpList_load1_st H rfl 25 _ rfl rfl sc_Evs (by rfl) ?_) | (refine wpList_load1_stG H (by rfl) 25 _ rfl rfl sc_Evs (by rfl) ?_))
              | ((with_reducible refine here_store ?_); first | (refine wpList_store_st H rfl 46 _ _ rfl rfl rfl (by kernel_rfl) (by rfl) (by kernel_rfl) ?_; clear H; intro wx H) | (refine wpList_store_st H rfl 50 _ _ rfl rfl rfl (by kernel_rfl) (by rfl) (by kernel_rfl) ?_; clear H; intro wx H) | (refine wpList_store_st H rfl 37 _ _ rfl rfl rfl (by kernel_rfl) (by rfl) (by kernel_rfl) ?_; clear H; intro wx H) | (refine wpList_store_st H rfl 27 _ _ rfl rfl rfl (by kernel_rfl) (by rfl) (by kernel_rfl) ?_; clear H; intro wx H) | (refine wpList_store1_st H rfl 3 _ _ rfl rfl _ rfl (by rfl) s1_int (by rfl) (by rfl) ?_; clear H; intro wx H) | (refine wpList_store1_st H rfl 4 _ _ rfl rfl _ rfl (by rfl) s1_bool (by rfl) (by rfl) ?_; clear H; intro wx H) | (refine wpList_store1_st H rfl 30 _ _ rfl rfl _ rfl (by rfl) s1_Errno (by rfl) (by rfl) ?_; clear H; intro wx H) | (refine wpList_store1_st H rfl 25 _ _ rfl rfl _ rfl (by rfl) s1_Evs (by rfl) (by rfl) ?_; clear H; intro wx H))
              | ((with_reducible refine here_alloc ?_); first | (refine wpList_alloc_st H rfl 46 rfl _ q_zero ?_; clear H; intro gq6 wx H) | (refine wpList_alloc_st H rfl 50 rfl _ ans_zero ?_; clear H; intro ga6 wx H) | (refine wpList_alloc_st H rfl 37 rfl _ ev_zero ?_; clear H; intro ge6 wx H) | (refine wpList_alloc_st H rfl 27 rfl _ ber_zero ?_; clear H; intro gr6 wx H))
              | ((with_reducible refine here_box ?_); first | (refine wpList_box_st H rfl _ _ rfl _ rfl ?_; clear H; intro gb6 wx H)))
              go_meet
              exact ⟨rfl, rfl, congrArg Value.bool ho5.symm, H.subm _⟩
            · have ho3 := decide_eq_true ho
              have ho4 := decide_eq_false ho2
              have ho5 : decide (a < n2 ∧ a < 20) = false := decide_eq_false (by omega)
              go_wp2_with (first
              | ((with_reducible refine here_load ?_); first | (refine wpList_load_st H rfl 46 _ rfl rfl row_Queue (by kernel_rfl) ?_) | (refine wpList_load_st H rfl 50 _ rfl rfl row_Answer (by kernel_rfl) ?_) | (refine wpList_load_st H rfl 37 _ rfl rfl row_Event (by kernel_rfl) ?_) | (refine wpList_load_st H rfl 27 _ rfl rfl row_Berth (by kernel_rfl) ?_) | (refine wpList_load1_st H rfl 3 _ rfl rfl sc_int (by rfl) ?_) | (refine wpList_load1_stG H (by rfl) 3 _ rfl rfl sc_int (by rfl) ?_) | (refine wpList_load1_st H rfl 4 _ rfl rfl sc_bool (by rfl) ?_) | (refine wpList_load1_stG H (by rfl) 4 _ rfl rfl sc_bool (by rfl) ?_) | (refine wpList_load1_st H rfl 30 _ rfl rfl sc_Errno (by rfl) ?_) | (refine wpList_load1_stG H (by rfl) 30 _ rfl rfl sc_Errno (by rfl) ?_) | (refine wpList_load1_st H rfl 25 _ rfl rfl sc_Evs (by rfl) ?_) | (refine wpList_load1_stG H (by rfl) 25 _ rfl rfl sc_Evs (by rfl) ?_))
              | ((with_reducible refine here_store ?_); first | (refine wpList_store_st H rfl 46 _ _ rfl rfl rfl (by kernel_rfl) (by rfl) (by kernel_rfl) ?_; clear H; intro wx H) | (refine wpList_store_st H rfl 50 _ _ rfl rfl rfl (by kernel_rfl) (by rfl) (by kernel_rfl) ?_; clear H; intro wx H) | (refine wpList_store_st H rfl 37 _ _ rfl rfl rfl (by kernel_rfl) (by rfl) (by kernel_rfl) ?_; clear H; intro wx H) | (refine wpList_store_st H rfl 27 _ _ rfl rfl rfl (by kernel_rfl) (by rfl) (by kernel_rfl) ?_; clear H; intro wx H) | (refine wpList_store1_st H rfl 3 _ _ rfl rfl _ rfl (by rfl) s1_int (by rfl) (by rfl) ?_; clear H; intro wx H) | (refine wpList_store1_st H rfl 4 _ _ rfl rfl _ rfl (by rfl) s1_bool (by rfl) (by rfl) ?_; clear H; intro wx H) | (refine wpList_store1_st H rfl 30 _ _ rfl rfl _ rfl (by rfl) s1_Errno (by rfl) (by rfl) ?_; clear H; intro wx H) | (refine wpList_store1_st H rfl 25 _ _ rfl rfl _ rfl (by rfl) s1_Evs (by rfl) (by rfl) ?_; clear H; intro wx H))
              | ((with_reducible refine here_alloc ?_); first | (refine wpList_alloc_st H rfl 46 rfl _ q_zero ?_; clear H; intro gq6 wx H) | (refine wpList_alloc_st H rfl 50 rfl _ ans_zero ?_; clear H; intro ga6 wx H) | (refine wpList_alloc_st H rfl 37 rfl _ ev_zero ?_; clear H; intro ge6 wx H) | (refine wpList_alloc_st H rfl 27 rfl _ ber_zero ?_; clear H; intro gr6 wx H))
              | ((with_reducible refine here_box ?_); first | (refine wpList_box_st H rfl _ _ rfl _ rfl ?_; clear H; intro gb6 wx H)))
              go_meet
              exact ⟨rfl, rfl, congrArg Value.bool ho5.symm, H.subm _⟩
            · have ho3 := decide_eq_true ho
              have ho4 := decide_eq_true ho2
              have ho5 : decide (a < n2 ∧ a < 20) = true := decide_eq_true (by omega)
              go_wp2_with (first
              | ((with_reducible refine here_load ?_); first | (refine wpList_load_st H rfl 46 _ rfl rfl row_Queue (by kernel_rfl) ?_) | (refine wpList_load_st H rfl 50 _ rfl rfl row_Answer (by kernel_rfl) ?_) | (refine wpList_load_st H rfl 37 _ rfl rfl row_Event (by kernel_rfl) ?_) | (refine wpList_load_st H rfl 27 _ rfl rfl row_Berth (by kernel_rfl) ?_) | (refine wpList_load1_st H rfl 3 _ rfl rfl sc_int (by rfl) ?_) | (refine wpList_load1_stG H (by rfl) 3 _ rfl rfl sc_int (by rfl) ?_) | (refine wpList_load1_st H rfl 4 _ rfl rfl sc_bool (by rfl) ?_) | (refine wpList_load1_stG H (by rfl) 4 _ rfl rfl sc_bool (by rfl) ?_) | (refine wpList_load1_st H rfl 30 _ rfl rfl sc_Errno (by rfl) ?_) | (refine wpList_load1_stG H (by rfl) 30 _ rfl rfl sc_Errno (by rfl) ?_) | (refine wpList_load1_st H rfl 25 _ rfl rfl sc_Evs (by rfl) ?_) | (refine wpList_load1_stG H (by rfl) 25 _ rfl rfl sc_Evs (by rfl) ?_))
              | ((with_reducible refine here_store ?_); first | (refine wpList_store_st H rfl 46 _ _ rfl rfl rfl (by kernel_rfl) (by rfl) (by kernel_rfl) ?_; clear H; intro wx H) | (refine wpList_store_st H rfl 50 _ _ rfl rfl rfl (by kernel_rfl) (by rfl) (by kernel_rfl) ?_; clear H; intro wx H) | (refine wpList_store_st H rfl 37 _ _ rfl rfl rfl (by kernel_rfl) (by rfl) (by kernel_rfl) ?_; clear H; intro wx H) | (refine wpList_store_st H rfl 27 _ _ rfl rfl rfl (by kernel_rfl) (by rfl) (by kernel_rfl) ?_; clear H; intro wx H) | (refine wpList_store1_st H rfl 3 _ _ rfl rfl _ rfl (by rfl) s1_int (by rfl) (by rfl) ?_; clear H; intro wx H) | (refine wpList_store1_st H rfl 4 _ _ rfl rfl _ rfl (by rfl) s1_bool (by rfl) (by rfl) ?_; clear H; intro wx H) | (refine wpList_store1_st H rfl 30 _ _ rfl rfl _ rfl (by rfl) s1_Errno (by rfl) (by rfl) ?_; clear H; intro wx H) | (refine wpList_store1_st H rfl 25 _ _ rfl rfl _ rfl (by rfl) s1_Evs (by rfl) (by rfl) ?_; clear H; intro wx H))
              | ((with_reducible refine here_alloc ?_); first | (refine wpList_alloc_st H rfl 46 rfl _ q_zero ?_; clear H; intro gq6 wx H) | (refine wpList_alloc_st H rfl 50 rfl _ ans_zero ?_; clear H; intro ga6 wx H) | (refine wpList_alloc_st H rfl 37 rfl _ ev_zero ?_; clear H; intro ge6 wx H) | (refine wpList_alloc_st H rfl 27 rfl _ ber_zero ?_; clear H; intro gr6 wx H))
              | ((with_reducible refine here_box ?_); first | (refine wpList_box_st H rfl _ _ rfl _ rfl ?_; clear H; intro gb6 wx H)))
              go_meet
              exact ⟨rfl, rfl, congrArg Value.bool ho5.symm, H.subm _⟩
          case rest =>
            clear H
            obtain ⟨rfl, rfl, rfl, H⟩ := hcut
            obtain ⟨gd, hgd⟩ : ∃ b, decide (a < n2 ∧ a < 20) = b := ⟨_, rfl⟩
            have HGD := Lib.hid hgd
            rw [hgd]
            clear hgd
            go_upto_if 80 with fail
            go_cut [16, 17] (fun s16 s17 wx => ∃ (a' : Nat) (fs' : List Ev) (ms' : Nat) (A' : Option Addr) (c' : Nat), s16 = .int .i64 a' ∧ s17 = .int .i64 i ∧ fs'.length = ms' ∧ ms' ≤ c' ∧ fs'.take j = fs.take j ∧ MvR q ro r i fs' ms' j 1 ∧ St w wx (.bl grx 27 #[.int .i64 ro, .int .i64 q, .int .i64 0, .int .i64 3, .int .i64 r, .slice A' ms' c'] :: evIt A' fs' :: .bl gr3 27 #[.int .i64 4, .int .i64 (q + 1), .int .i64 1, .int .i64 0, .int .i64 0, .slice B1 j d1] :: evIt B1 (fs.take j) :: .bl g8 27 #[.int .i64 0, .int .i64 0, .int .i64 0, .int .i64 0, .int .i64 0, .slice none 0 0] :: .bl g9 27 #[.int .i64 0, .int .i64 0, .int .i64 0, .int .i64 0, .int .i64 0, .slice none 0 0] :: I))
            case first =>
              as_aux_lemma =>
                cases gd
                rotate_left
                · have ha : a < n2 ∧ a < 20 := of_decide_eq_true HGD.out
                  obtain ⟨hl, hnc, hcbig, hr, hs⟩ := HRW.out
                  obtain ⟨b8, off, rfl, hb8, g1, l1⟩ := row4q hl hs hr ha.1
                  have q0 := (H.bel.cell (p := ⟨b8, off + a * 4, none⟩) hb8).trans (g1 0 (by omega))
                  have q1 := (H.bel.cell (p := ⟨b8, off + a * 4 + 1, none⟩) hb8).trans (g1 1 (by omega))
                  have q2 := (H.bel.cell (p := ⟨b8, off + a * 4 + 2, none⟩) hb8).trans (g1 2 (by omega))
                  have q3 := (H.bel.cell (p := ⟨b8, off + a * 4 + 3, none⟩) hb8).trans (g1 3 (by omega))
                  have EC := Lib.hid (fun W => event_any _ _ _ _ W (l1 0) (l1 1) (l1 2) (l1 3))
                  have hck := evOf_chk ((rows2.getD a []).getD 0 0) ((rows2.getD a []).getD 1 0) ((rows2.getD a []).getD 2 0) ((rows2.getD a []).getD 3 0)
                  generalize evOf ((rows2.getD a []).getD 0 0) ((rows2.getD a []).getD 1 0) ((rows2.getD a []).getD 2 0) ((rows2.getD a []).getD 3 0) = ev at *
                  generalize (rows2.getD a []).getD 0 0 = z0 at *
                  generalize (rows2.getD a []).getD 1 0 = z1 at *
                  generalize (rows2.getD a []).getD 2 0 = z2 at *
                  generalize (rows2.getD a []).getD 3 0 = z3 at *
                  have f1 : (a : Int) < (n2 : Int) := by omega
                  have f2 := decide_eq_true f1
                  have f3 : (a : Int) < 20 := by omega
                  have f4 := decide_eq_true f3
                  have f5 : (0 : Int) ≤ (a : Int) := by omega
                  have f6 : (n2 : Int) ≤ (c2 : Int) := by omega
                  have i2 : IntKind.i64.wrap ((a : Int) + 1) = (a : Int) + 1 := IntWalk.i64_in _ (by omega)
                  clear g1 l1 hl hnc hcbig hr hs hb8 ha
                  by_cases hk4 : ev.kind = 4
                  · obtain ⟨x0, x1, x2, x3, x4, x5⟩ := ev
                    dsimp only at hk4
                    subst hk4
                    unfold Ev.val at EC
                    go_wp2_with (first | (go_at_call 18; refine (EC.out _).mono ?_; rintro ed wy ⟨rfl, hb9⟩; replace H := H.below hb9; clear hb9 q0 q1 q2 q3) | (first
                    | ((with_reducible refine here_load ?_); first | (refine wpList_load_st H rfl 46 _ rfl rfl row_Queue (by kernel_rfl) ?_) | (refine wpList_load_st H rfl 50 _ rfl rfl row_Answer (by kernel_rfl) ?_) | (refine wpList_load_st H rfl 37 _ rfl rfl row_Event (by kernel_rfl) ?_) | (refine wpList_load_st H rfl 27 _ rfl rfl row_Berth (by kernel_rfl) ?_) | (refine wpList_load1_st H rfl 3 _ rfl rfl sc_int (by rfl) ?_) | (refine wpList_load1_stG H (by rfl) 3 _ rfl rfl sc_int (by rfl) ?_) | (refine wpList_load1_st H rfl 4 _ rfl rfl sc_bool (by rfl) ?_) | (refine wpList_load1_stG H (by rfl) 4 _ rfl rfl sc_bool (by rfl) ?_) | (refine wpList_load1_st H rfl 30 _ rfl rfl sc_Errno (by rfl) ?_) | (refine wpList_load1_stG H (by rfl) 30 _ rfl rfl sc_Errno (by rfl) ?_) | (refine wpList_load1_st H rfl 25 _ rfl rfl sc_Evs (by rfl) ?_) | (refine wpList_load1_stG H (by rfl) 25 _ rfl rfl sc_Evs (by rfl) ?_))
                    | ((with_reducible refine here_store ?_); first | (refine wpList_store_st H rfl 46 _ _ rfl rfl rfl (by kernel_rfl) (by rfl) (by kernel_rfl) ?_; clear H; intro wx H) | (refine wpList_store_st H rfl 50 _ _ rfl rfl rfl (by kernel_rfl) (by rfl) (by kernel_rfl) ?_; clear H; intro wx H) | (refine wpList_store_st H rfl 37 _ _ rfl rfl rfl (by kernel_rfl) (by rfl) (by kernel_rfl) ?_; clear H; intro wx H) | (refine wpList_store_st H rfl 27 _ _ rfl rfl rfl (by kernel_rfl) (by rfl) (by kernel_rfl) ?_; clear H; intro wx H) | (refine wpList_store1_st H rfl 3 _ _ rfl rfl _ rfl (by rfl) s1_int (by rfl) (by rfl) ?_; clear H; intro wx H) | (refine wpList_store1_st H rfl 4 _ _ rfl rfl _ rfl (by rfl) s1_bool (by rfl) (by rfl) ?_; clear H; intro wx H) | (refine wpList_store1_st H rfl 30 _ _ rfl rfl _ rfl (by rfl) s1_Errno (by rfl) (by rfl) ?_; clear H; intro wx H) | (refine wpList_store1_st H rfl 25 _ _ rfl rfl _ rfl (by rfl) s1_Evs (by rfl) (by rfl) ?_; clear H; intro wx H))
                    | ((with_reducible refine here_alloc ?_); first | (refine wpList_alloc_st H rfl 46 rfl _ q_zero ?_; clear H; intro gq6 wx H) | (refine wpList_alloc_st H rfl 50 rfl _ ans_zero ?_; clear H; intro ga6 wx H) | (refine wpList_alloc_st H rfl 37 rfl _ ev_zero ?_; clear H; intro ge6 wx H) | (refine wpList_alloc_st H rfl 27 rfl _ ber_zero ?_; clear H; intro gr6 wx H))
                    | ((with_reducible refine here_box ?_); first | (refine wpList_box_st H rfl _ _ rfl _ rfl ?_; clear H; intro gb6 wx H))))
                    go_meet
                    exact ⟨a + 1, fs, ms, A1, c1, by go_num, rfl, HFS.out, hc1, rfl, HMV.out.more, H.subm _⟩
                  · obtain ⟨fs', ⟨a0, a1, a2, a3⟩, chg, hsv, hmv', htk⟩ := HMV.out.serve HFS.out ev hck
                    obtain ⟨x0, x1, x2, x3, x4, x5⟩ := ev
                    have k1 : ((x0 : Int) == 4) = false := by simpa using hk4
                    have k2 : decide ((x0 : Int) = 4) = false := by simpa using hk4
                    obtain ⟨ms', hms'⟩ : ∃ k, fs'.length = k := ⟨_, rfl⟩
                    have HMS := Lib.hid hms'
                    have HTK := Lib.hid htk
                    rw [hms'] at hmv'
                    have HMV' := Lib.hid hmv'
                    have HOKM := Lib.hid HMV.out.1
                    have CSV := Lib.hid (fun W J (H : St w W J) A c (hc : ms ≤ c) (hI : Has J (evIt A fs)) => (show Calls Try.prog 21 #[.agg #[.int .i64 ro, .int .i64 q, .int .i64 0, .int .i64 3, .int .i64 r, .slice A ms c], .agg #[.int .i64 x0, .int .i64 x1, .int .i64 x2, .int .i64 x3, .int .i64 x4, .int .i64 x5]] W (fun ed w' => ∃ A' c', ed = .returned (.tuple #[.agg #[.int .i64 ro, .int .i64 q, .int .i64 0, .int .i64 3, .int .i64 r, .slice A' ms' c'], .agg #[.int .i64 a0, .int .i64 a1, .int .i64 a2, .int .i64 a3], .bool chg, .int .i64 0]) ∧ ms' ≤ c' ∧ St w w' (evIt A' fs' :: J)) from by
                      have h := serve_st (h := hI) (w0 := w) (w := W) (I := J) ⟨ro, q, 0, 3, r, fs⟩ ⟨x0, x1, x2, x3, x4, x5⟩ A ms c 40 HFS.out HOKM.out (by omega) hc hck hk4 H
                      rw [hsv] at h
                      exact spost_to HMS.out h))
                    unfold Ev.val at EC
                    dsimp only at EC
                    clear hsv hmv' htk hms' hk4 hck
                    go_wp2_with (first | (go_at_call 18; refine (EC.out _).mono ?_; rintro ed wy ⟨rfl, hb9⟩; replace H := H.below hb9; clear hb9 q0 q1 q2 q3) | (go_at_call 21; with_reducible refine (CSV.out _ _ H A1 c1 hc1 inferInstance).mono ?_; clear H; rintro ed wy ⟨A9, c9, rfl, hc9, H⟩) | (first
                    | ((with_reducible refine here_load ?_); first | (refine wpList_load_st H rfl 46 _ rfl rfl row_Queue (by kernel_rfl) ?_) | (refine wpList_load_st H rfl 50 _ rfl rfl row_Answer (by kernel_rfl) ?_) | (refine wpList_load_st H rfl 37 _ rfl rfl row_Event (by kernel_rfl) ?_) | (refine wpList_load_st H rfl 27 _ rfl rfl row_Berth (by kernel_rfl) ?_) | (refine wpList_load1_st H rfl 3 _ rfl rfl sc_int (by rfl) ?_) | (refine wpList_load1_stG H (by rfl) 3 _ rfl rfl sc_int (by rfl) ?_) | (refine wpList_load1_st H rfl 4 _ rfl rfl sc_bool (by rfl) ?_) | (refine wpList_load1_stG H (by rfl) 4 _ rfl rfl sc_bool (by rfl) ?_) | (refine wpList_load1_st H rfl 30 _ rfl rfl sc_Errno (by rfl) ?_) | (refine wpList_load1_stG H (by rfl) 30 _ rfl rfl sc_Errno (by rfl) ?_) | (refine wpList_load1_st H rfl 25 _ rfl rfl sc_Evs (by rfl) ?_) | (refine wpList_load1_stG H (by rfl) 25 _ rfl rfl sc_Evs (by rfl) ?_))
                    | ((with_reducible refine here_store ?_); first | (refine wpList_store_st H rfl 46 _ _ rfl rfl rfl (by kernel_rfl) (by rfl) (by kernel_rfl) ?_; clear H; intro wx H) | (refine wpList_store_st H rfl 50 _ _ rfl rfl rfl (by kernel_rfl) (by rfl) (by kernel_rfl) ?_; clear H; intro wx H) | (refine wpList_store_st H rfl 37 _ _ rfl rfl rfl (by kernel_rfl) (by rfl) (by kernel_rfl) ?_; clear H; intro wx H) | (refine wpList_store_st H rfl 27 _ _ rfl rfl rfl (by kernel_rfl) (by rfl) (by kernel_rfl) ?_; clear H; intro wx H) | (refine wpList_store1_st H rfl 3 _ _ rfl rfl _ rfl (by rfl) s1_int (by rfl) (by rfl) ?_; clear H; intro wx H) | (refine wpList_store1_st H rfl 4 _ _ rfl rfl _ rfl (by rfl) s1_bool (by rfl) (by rfl) ?_; clear H; intro wx H) | (refine wpList_store1_st H rfl 30 _ _ rfl rfl _ rfl (by rfl) s1_Errno (by rfl) (by rfl) ?_; clear H; intro wx H) | (refine wpList_store1_st H rfl 25 _ _ rfl rfl _ rfl (by rfl) s1_Evs (by rfl) (by rfl) ?_; clear H; intro wx H))
                    | ((with_reducible refine here_alloc ?_); first | (refine wpList_alloc_st H rfl 46 rfl _ q_zero ?_; clear H; intro gq6 wx H) | (refine wpList_alloc_st H rfl 50 rfl _ ans_zero ?_; clear H; intro ga6 wx H) | (refine wpList_alloc_st H rfl 37 rfl _ ev_zero ?_; clear H; intro ge6 wx H) | (refine wpList_alloc_st H rfl 27 rfl _ ber_zero ?_; clear H; intro gr6 wx H))
                    | ((with_reducible refine here_box ?_); first | (refine wpList_box_st H rfl _ _ rfl _ rfl ?_; clear H; intro gb6 wx H))))
                    go_meet
                    exact ⟨a + 1, fs', ms', A9, c9, by go_num, rfl, HMS.out, hc9, HTK.out, HMV'.out, H.subm _⟩
                · go_wp2_with (first
                    | ((with_reducible refine here_load ?_); first | (refine wpList_load_st H rfl 46 _ rfl rfl row_Queue (by kernel_rfl) ?_) | (refine wpList_load_st H rfl 50 _ rfl rfl row_Answer (by kernel_rfl) ?_) | (refine wpList_load_st H rfl 37 _ rfl rfl row_Event (by kernel_rfl) ?_) | (refine wpList_load_st H rfl 27 _ rfl rfl row_Berth (by kernel_rfl) ?_) | (refine wpList_load1_st H rfl 3 _ rfl rfl sc_int (by rfl) ?_) | (refine wpList_load1_stG H (by rfl) 3 _ rfl rfl sc_int (by rfl) ?_) | (refine wpList_load1_st H rfl 4 _ rfl rfl sc_bool (by rfl) ?_) | (refine wpList_load1_stG H (by rfl) 4 _ rfl rfl sc_bool (by rfl) ?_) | (refine wpList_load1_st H rfl 30 _ rfl rfl sc_Errno (by rfl) ?_) | (refine wpList_load1_stG H (by rfl) 30 _ rfl rfl sc_Errno (by rfl) ?_) | (refine wpList_load1_st H rfl 25 _ rfl rfl sc_Evs (by rfl) ?_) | (refine wpList_load1_stG H (by rfl) 25 _ rfl rfl sc_Evs (by rfl) ?_))
                    | ((with_reducible refine here_store ?_); first | (refine wpList_store_st H rfl 46 _ _ rfl rfl rfl (by kernel_rfl) (by rfl) (by kernel_rfl) ?_; clear H; intro wx H) | (refine wpList_store_st H rfl 50 _ _ rfl rfl rfl (by kernel_rfl) (by rfl) (by kernel_rfl) ?_; clear H; intro wx H) | (refine wpList_store_st H rfl 37 _ _ rfl rfl rfl (by kernel_rfl) (by rfl) (by kernel_rfl) ?_; clear H; intro wx H) | (refine wpList_store_st H rfl 27 _ _ rfl rfl rfl (by kernel_rfl) (by rfl) (by kernel_rfl) ?_; clear H; intro wx H) | (refine wpList_store1_st H rfl 3 _ _ rfl rfl _ rfl (by rfl) s1_int (by rfl) (by rfl) ?_; clear H; intro wx H) | (refine wpList_store1_st H rfl 4 _ _ rfl rfl _ rfl (by rfl) s1_bool (by rfl) (by rfl) ?_; clear H; intro wx H) | (refine wpList_store1_st H rfl 30 _ _ rfl rfl _ rfl (by rfl) s1_Errno (by rfl) (by rfl) ?_; clear H; intro wx H) | (refine wpList_store1_st H rfl 25 _ _ rfl rfl _ rfl (by rfl) s1_Evs (by rfl) (by rfl) ?_; clear H; intro wx H))
                    | ((with_reducible refine here_alloc ?_); first | (refine wpList_alloc_st H rfl 46 rfl _ q_zero ?_; clear H; intro gq6 wx H) | (refine wpList_alloc_st H rfl 50 rfl _ ans_zero ?_; clear H; intro ga6 wx H) | (refine wpList_alloc_st H rfl 37 rfl _ ev_zero ?_; clear H; intro ge6 wx H) | (refine wpList_alloc_st H rfl 27 rfl _ ber_zero ?_; clear H; intro gr6 wx H))
                    | ((with_reducible refine here_box ?_); first | (refine wpList_box_st H rfl _ _ rfl _ rfl ?_; clear H; intro gb6 wx H)))
                  go_meet
                  exact ⟨a, fs, ms, A1, c1, rfl, rfl, HFS.out, hc1, rfl, HMV.out.more, H.subm _⟩
            case rest =>
              clear H
              obtain ⟨a', fs', ms', A', c', rfl, rfl, hfs', hc', htk, hmv', H⟩ := hcut
              have hjm' := hmv'.2.1
              obtain ⟨ro2, r2, hct, hok2, hro, hms35, hij, hout⟩ := hmv'.caught hfs'
              have HOKM := Lib.hid hmv'.1
              have HOK2 := Lib.hid hok2
              have HFS' := Lib.hid hfs'
              obtain ⟨p, hp⟩ : ∃ p, min 3 (ms' - j) = p := ⟨_, rfl⟩
              obtain ⟨pt, hpt⟩ : ∃ pt, (fs'.drop j).take 3 = pt := ⟨_, rfl⟩
              have HPT := Lib.hid (show pt.length = p by rw [← hpt]; simp; omega)
              have HTJ := Lib.hid (show (fs'.take j).length = j by rw [List.length_take, hfs']; omega)
              have HCAT := Lib.hid (show fs'.take j ++ pt = fs'.take (j + p) by
                rw [← hpt, ← List.take_append_drop j (fs'.take (j + p)), List.take_take, List.drop_take, Nat.min_eq_left (by omega), Nat.add_sub_cancel_left]
                congr 1
                rw [List.take_eq_take_iff, List.length_drop]
                omega)
              have HPTK := Lib.hid (show (fs'.drop j).take p = pt by
                rw [← hpt, List.take_eq_take_iff, List.length_drop]
                omega)
              rw [← htk] at H
              obtain ⟨lst, hlst⟩ : ∃ l, BM.partEnd ⟨ro2, q, 0, 3, r2, fs'⟩ j = l := ⟨_, rfl⟩
              have hls : (lst = true → ro2 = 3 ∧ j + p = ms') ∧ (lst = false → (ro2 = 2 ∧ j < ms') ∨ (ro2 = 3 ∧ p = 3 ∧ j + 3 < ms')) := by
                rw [← hlst]
                unfold BM.partEnd
                dsimp only
                rw [hfs']
                constructor
                · intro h
                  simp only [Bool.and_eq_true, beq_iff_eq] at h
                  omega
                · intro h
                  rw [Bool.and_eq_false_iff] at h
                  simp only [beq_eq_false_iff_ne] at h
                  omega
              have HLS := Lib.hid hlst
              have HHO := Lib.hid hout
              have HSH := Lib.hid (show 1 ≤ q ∧ q ≤ 1000 from ⟨hq1, hq2⟩)
              have CC := Lib.hid (fun W J (H : St w W J) A c (hc : ms' ≤ c) (hI : Has J (evIt A fs')) => (show Calls Try.prog 27 #[.agg #[.int .i64 ro, .int .i64 q, .int .i64 0, .int .i64 3, .int .i64 r, .slice A ms' c], .int .i64 j] W (fun ed w' => ∃ A' c', ed = .returned (.tuple #[.agg #[.int .i64 ro2, .int .i64 q, .int .i64 0, .int .i64 3, .int .i64 r2, .slice A' ms' c'], .int .i64 0]) ∧ ms' ≤ c' ∧ St w w' (evIt A' fs' :: J)) from by
                have h := caught_st (h := hI) (w0 := w) (w := W) (I := J) ⟨ro, q, 0, 3, r, fs'⟩ A ms' c 40 j HFS'.out HOKM.out (by omega) hc H
                rw [hct] at h
                exact bpost_to HFS'.out h))
              have CP := Lib.hid (fun W J (H : St w W J) A c (hc : ms' ≤ c) (hI : Has J (evIt A fs')) => (show Calls Try.prog 29 #[.agg #[.int .i64 ro2, .int .i64 q, .int .i64 0, .int .i64 3, .int .i64 r2, .slice A ms' c], .int .i64 j] W (fun ed w' => ∃ A' c', ed = .returned (.tuple #[.slice A' p c', .bool lst, .int .i64 0]) ∧ p ≤ c' ∧ St w w' (evIt A' pt :: J)) from by
                have h := part_st (h := hI) (w0 := w) (w := W) (I := J) ⟨ro2, q, 0, 3, r2, fs'⟩ A ms' c 40 j HFS'.out HOK2.out (by omega) hc hro hjm' H
                exact ppost_to HPT.out HLS.out (by rw [← hpt]; exact h)))
              clear hct hmv' hok2 hfs' htk
              cases lst
              · as_aux_lemma =>
                  obtain hl2 := hls.2 rfl
                  clear hls
                  have HTP := Lib.hid (show (fs'.take (j + p)).length = j + p by rw [List.length_take, HFS'.out]; omega)
                  have HOT := Lib.hid (show (⟨4, q + 1, 1, 0, 0, (fs'.take j)⟩ : BM).Ok 40 from HOK2.out.cut j (by unfold BM.Shape; dsimp only; omega) rfl)
                  have HOP := Lib.hid (show (⟨4, q + 1, 1, 0, 0, (fs'.take (j + p))⟩ : BM).Ok 40 from HOK2.out.cut (j + p) (by unfold BM.Shape; dsimp only; omega) rfl)
                  have CI1 := Lib.hid (fun W J (H : St w W J) A c (hc : j ≤ c) B d (hd : p ≤ d) (hI : Has J (evIt A (fs'.take j))) (hI2 : Has J (evIt B pt)) => (show Calls Try.prog 31 #[.agg #[.int .i64 4, .int .i64 (q + 1), .int .i64 1, .int .i64 0, .int .i64 0, .slice A j c], .int .i64 (q + 1), .int .i64 j, .slice B p d, .bool false] W (fun ed w' => ∃ A' c', ed = .returned (.tuple #[.agg #[.int .i64 4, .int .i64 (q + 1), .int .i64 1, .int .i64 0, .int .i64 0, .slice A' (j + p) c'], .int .i64 0]) ∧ j + p ≤ c' ∧ St w w' (evIt A' (fs'.take (j + p)) :: J)) from by
                    have h := import_on (h := hI) (h2 := hI2) (w0 := w) (w := W) (I := J) (q + 1) 1 0 0 (fs'.take j) pt A B j c p d 40 j 0 40 HTJ.out HPT.out HOT.out (by omega) (by omega) hc hd (Nat.le_refl _) (by omega) (by simp) (by rw [List.drop_zero, HCAT.out]; exact HOP.out) (by omega) H
                    rw [show fs'.take j ++ pt.drop 0 = fs'.take (j + p) from by rw [List.drop_zero, HCAT.out]] at h
                    exact bpost_to HTP.out h))
                  have CI2 := Lib.hid (fun W J (H : St w W J) A c (hc : j + p ≤ c) B d (hd : p ≤ d) (hI : Has J (evIt A (fs'.take (j + p)))) (hI2 : Has J (evIt B pt)) => (show Calls Try.prog 31 #[.agg #[.int .i64 4, .int .i64 (q + 1), .int .i64 1, .int .i64 0, .int .i64 0, .slice A (j + p) c], .int .i64 (q + 1), .int .i64 j, .slice B p d, .bool false] W (fun ed w' => ∃ A' c', ed = .returned (.tuple #[.agg #[.int .i64 4, .int .i64 (q + 1), .int .i64 1, .int .i64 0, .int .i64 0, .slice A' (j + p) c'], .int .i64 0]) ∧ j + p ≤ c' ∧ St w w' (evIt A' (fs'.take (j + p)) :: J)) from by
                    have h := import_on (h := hI) (h2 := hI2) (w0 := w) (w := W) (I := J) (q + 1) 1 0 0 (fs'.take (j + p)) pt A B (j + p) c p d 40 j p 40 HTP.out HPT.out HOP.out (by omega) (by omega) hc hd (by omega) (by omega) (by rw [List.drop_take, Nat.add_sub_cancel_left, List.take_take, Nat.min_self, List.drop_zero, HPTK.out, List.take_of_length_le (Nat.le_of_eq HPT.out)]) (by rw [show pt.drop p = [] from List.drop_eq_nil_of_le (Nat.le_of_eq HPT.out), List.append_nil]; exact HOP.out) (by omega) H
                    rw [show fs'.take (j + p) ++ pt.drop p = fs'.take (j + p) from by rw [List.drop_eq_nil_of_le (Nat.le_of_eq HPT.out), List.append_nil]] at h
                    exact bpost_to HTP.out h))
                  have hi40 : i ≤ 40 := by omega
                  have HL2 := Lib.hid hl2
                  have HMM := Lib.hid (show j ≤ ms' ∧ ms' ≤ 35 ∧ i ≤ 5 + j ∧ min 3 (ms' - j) = p from ⟨hjm', hms35, hij, hp⟩)
                  clear hl2 hout hro hp hpt hlst hij hjm' hms35 hjm
                  go_upto_region 24 with (first | ((with_reducible refine here_allocAt 24 ?_); refine wpList_alloc_st H rfl 27 rfl _ ber_zero ?_; clear H; intro gr24 wx H) | ((with_reducible refine here_allocAt 29 ?_); refine wpList_alloc_st H rfl 27 rfl _ ber_zero ?_; clear H; intro gr29 wx H) | (go_at_call 27; with_reducible refine (CC.out _ _ H A' c' hc' inferInstance).mono ?_; clear H; rintro ed wy ⟨A6, c6, rfl, hc6, H⟩) | (go_at_call 29; with_reducible refine (CP.out _ _ H A6 c6 hc6 inferInstance).mono ?_; clear H; rintro ed wy ⟨A7, c7, rfl, hc7, H⟩) | (go_at_call 31; with_reducible refine (CI1.out _ _ H B1 d1 hd1 A7 c7 hc7 inferInstance inferInstance).mono ?_; clear H; rintro ed wy ⟨A8, c8, rfl, hc8, H⟩) | (first
                      | ((with_reducible refine here_load ?_); first | (refine wpList_load_st H rfl 46 _ rfl rfl row_Queue (by kernel_rfl) ?_) | (refine wpList_load_st H rfl 50 _ rfl rfl row_Answer (by kernel_rfl) ?_) | (refine wpList_load_st H rfl 37 _ rfl rfl row_Event (by kernel_rfl) ?_) | (refine wpList_load_st H rfl 27 _ rfl rfl row_Berth (by kernel_rfl) ?_) | (refine wpList_load1_st H rfl 3 _ rfl rfl sc_int (by rfl) ?_) | (refine wpList_load1_stG H (by rfl) 3 _ rfl rfl sc_int (by rfl) ?_) | (refine wpList_load1_st H rfl 4 _ rfl rfl sc_bool (by rfl) ?_) | (refine wpList_load1_stG H (by rfl) 4 _ rfl rfl sc_bool (by rfl) ?_) | (refine wpList_load1_st H rfl 30 _ rfl rfl sc_Errno (by rfl) ?_) | (refine wpList_load1_stG H (by rfl) 30 _ rfl rfl sc_Errno (by rfl) ?_) | (refine wpList_load1_st H rfl 25 _ rfl rfl sc_Evs (by rfl) ?_) | (refine wpList_load1_stG H (by rfl) 25 _ rfl rfl sc_Evs (by rfl) ?_))
                      | ((with_reducible refine here_store ?_); first | (refine wpList_store_st H rfl 46 _ _ rfl rfl rfl (by kernel_rfl) (by rfl) (by kernel_rfl) ?_; clear H; intro wx H) | (refine wpList_store_st H rfl 50 _ _ rfl rfl rfl (by kernel_rfl) (by rfl) (by kernel_rfl) ?_; clear H; intro wx H) | (refine wpList_store_st H rfl 37 _ _ rfl rfl rfl (by kernel_rfl) (by rfl) (by kernel_rfl) ?_; clear H; intro wx H) | (refine wpList_store_st H rfl 27 _ _ rfl rfl rfl (by kernel_rfl) (by rfl) (by kernel_rfl) ?_; clear H; intro wx H) | (refine wpList_store1_st H rfl 3 _ _ rfl rfl _ rfl (by rfl) s1_int (by rfl) (by rfl) ?_; clear H; intro wx H) | (refine wpList_store1_st H rfl 4 _ _ rfl rfl _ rfl (by rfl) s1_bool (by rfl) (by rfl) ?_; clear H; intro wx H) | (refine wpList_store1_st H rfl 30 _ _ rfl rfl _ rfl (by rfl) s1_Errno (by rfl) (by rfl) ?_; clear H; intro wx H) | (refine wpList_store1_st H rfl 25 _ _ rfl rfl _ rfl (by rfl) s1_Evs (by rfl) (by rfl) ?_; clear H; intro wx H))
                      | ((with_reducible refine here_alloc ?_); first | (refine wpList_alloc_st H rfl 46 rfl _ q_zero ?_; clear H; intro gq7 wx H) | (refine wpList_alloc_st H rfl 50 rfl _ ans_zero ?_; clear H; intro ga7 wx H) | (refine wpList_alloc_st H rfl 37 rfl _ ev_zero ?_; clear H; intro ge7 wx H) | (refine wpList_alloc_st H rfl 27 rfl _ ber_zero ?_; clear H; intro gr7 wx H))
                      | ((with_reducible refine here_box ?_); first | (refine wpList_box_st H rfl _ _ rfl _ rfl ?_; clear H; intro gb7 wx H))))
                  go_cut [16, 17, 24, 29, 23, 26, 27, 152] (fun s16 s17 s24 s29 s23 s26 s27 s152 wx => ∃ tw : Bool, s16 = .int .i64 a' ∧ s17 = .int .i64 i ∧ s24 = .pointer (some ⟨gr24, 0, none⟩) ∧ s29 = .pointer (some ⟨gr29, 0, none⟩) ∧ s23 = .int .i64 j ∧ s26 = .slice A7 p c7 ∧ s27 = .bool false ∧ s152 = .bool tw ∧ St w wx (.bl gr24 27 #[.int .i64 ro2, .int .i64 q, .int .i64 0, .int .i64 3, .int .i64 r2, .slice A6 ms' c6] :: evIt A6 fs' :: evIt A7 pt :: .bl gr29 27 #[.int .i64 4, .int .i64 (q + 1), .int .i64 1, .int .i64 0, .int .i64 0, .slice A8 (j + p) c8] :: evIt A8 (fs'.take (j + p)) :: .bl grx 27 #[.int .i64 ro, .int .i64 q, .int .i64 0, .int .i64 3, .int .i64 r, .slice A' ms' c'] :: evIt A' fs' :: .bl gr3 27 #[.int .i64 4, .int .i64 (q + 1), .int .i64 1, .int .i64 0, .int .i64 0, .slice B1 j d1] :: evIt B1 (fs'.take j) :: .bl g8 27 #[.int .i64 0, .int .i64 0, .int .i64 0, .int .i64 0, .int .i64 0, .slice none 0 0] :: .bl g9 27 #[.int .i64 0, .int .i64 0, .int .i64 0, .int .i64 0, .int .i64 0, .slice none 0 0] :: I))
                  case first =>
                    as_aux_lemma =>
                      by_cases hi3 : i < n3
                      · obtain ⟨hl3, hnc3, hcb3, hr3⟩ := HBW.out
                        obtain ⟨b8, off, rfl, hb8, hcl⟩ := hr3.plain (by omega) (by omega)
                        have hz : zs[i]? = some (zs.getD i false) := by rw [List.getElem?_eq_getElem (show i < zs.length by omega)]; simp [List.getD, List.getElem?_eq_getElem (show i < zs.length by omega)]
                        have q0 := (H.bel.cell (p := ⟨b8, off + i, none⟩) hb8).trans (hcl i _ (by rw [List.getElem?_map, hz]; rfl))
                        have f1 : (i : Int) < (n3 : Int) := by omega
                        have f2 := decide_eq_true f1
                        have f3 : (0 : Int) ≤ (i : Int) := by omega
                        have f4 : (n3 : Int) ≤ (c3 : Int) := by omega
                        clear hl3 hnc3 hcb3 hr3 hb8 hcl hz hi3
                        generalize zs.getD i false = z at *
                        go_wp2_with (first
                            | ((with_reducible refine here_load ?_); first | (refine wpList_load_st H rfl 46 _ rfl rfl row_Queue (by kernel_rfl) ?_) | (refine wpList_load_st H rfl 50 _ rfl rfl row_Answer (by kernel_rfl) ?_) | (refine wpList_load_st H rfl 37 _ rfl rfl row_Event (by kernel_rfl) ?_) | (refine wpList_load_st H rfl 27 _ rfl rfl row_Berth (by kernel_rfl) ?_) | (refine wpList_load1_st H rfl 3 _ rfl rfl sc_int (by rfl) ?_) | (refine wpList_load1_stG H (by rfl) 3 _ rfl rfl sc_int (by rfl) ?_) | (refine wpList_load1_st H rfl 4 _ rfl rfl sc_bool (by rfl) ?_) | (refine wpList_load1_stG H (by rfl) 4 _ rfl rfl sc_bool (by rfl) ?_) | (refine wpList_load1_st H rfl 30 _ rfl rfl sc_Errno (by rfl) ?_) | (refine wpList_load1_stG H (by rfl) 30 _ rfl rfl sc_Errno (by rfl) ?_) | (refine wpList_load1_st H rfl 25 _ rfl rfl sc_Evs (by rfl) ?_) | (refine wpList_load1_stG H (by rfl) 25 _ rfl rfl sc_Evs (by rfl) ?_))
                            | ((with_reducible refine here_store ?_); first | (refine wpList_store_st H rfl 46 _ _ rfl rfl rfl (by kernel_rfl) (by rfl) (by kernel_rfl) ?_; clear H; intro wx H) | (refine wpList_store_st H rfl 50 _ _ rfl rfl rfl (by kernel_rfl) (by rfl) (by kernel_rfl) ?_; clear H; intro wx H) | (refine wpList_store_st H rfl 37 _ _ rfl rfl rfl (by kernel_rfl) (by rfl) (by kernel_rfl) ?_; clear H; intro wx H) | (refine wpList_store_st H rfl 27 _ _ rfl rfl rfl (by kernel_rfl) (by rfl) (by kernel_rfl) ?_; clear H; intro wx H) | (refine wpList_store1_st H rfl 3 _ _ rfl rfl _ rfl (by rfl) s1_int (by rfl) (by rfl) ?_; clear H; intro wx H) | (refine wpList_store1_st H rfl 4 _ _ rfl rfl _ rfl (by rfl) s1_bool (by rfl) (by rfl) ?_; clear H; intro wx H) | (refine wpList_store1_st H rfl 30 _ _ rfl rfl _ rfl (by rfl) s1_Errno (by rfl) (by rfl) ?_; clear H; intro wx H) | (refine wpList_store1_st H rfl 25 _ _ rfl rfl _ rfl (by rfl) s1_Evs (by rfl) (by rfl) ?_; clear H; intro wx H))
                            | ((with_reducible refine here_alloc ?_); first | (refine wpList_alloc_st H rfl 46 rfl _ q_zero ?_; clear H; intro gq8 wx H) | (refine wpList_alloc_st H rfl 50 rfl _ ans_zero ?_; clear H; intro ga8 wx H) | (refine wpList_alloc_st H rfl 37 rfl _ ev_zero ?_; clear H; intro ge8 wx H) | (refine wpList_alloc_st H rfl 27 rfl _ ber_zero ?_; clear H; intro gr8 wx H))
                            | ((with_reducible refine here_box ?_); first | (refine wpList_box_st H rfl _ _ rfl _ rfl ?_; clear H; intro gb8 wx H)))
                        go_meet
                        exact ⟨_, rfl, rfl, rfl, rfl, rfl, rfl, rfl, rfl, H.subm _⟩
                      · have f1 : ¬ (i : Int) < (n3 : Int) := by omega
                        have f2 := decide_eq_false f1
                        clear hi3
                        go_wp2_with (first
                            | ((with_reducible refine here_load ?_); first | (refine wpList_load_st H rfl 46 _ rfl rfl row_Queue (by kernel_rfl) ?_) | (refine wpList_load_st H rfl 50 _ rfl rfl row_Answer (by kernel_rfl) ?_) | (refine wpList_load_st H rfl 37 _ rfl rfl row_Event (by kernel_rfl) ?_) | (refine wpList_load_st H rfl 27 _ rfl rfl row_Berth (by kernel_rfl) ?_) | (refine wpList_load1_st H rfl 3 _ rfl rfl sc_int (by rfl) ?_) | (refine wpList_load1_stG H (by rfl) 3 _ rfl rfl sc_int (by rfl) ?_) | (refine wpList_load1_st H rfl 4 _ rfl rfl sc_bool (by rfl) ?_) | (refine wpList_load1_stG H (by rfl) 4 _ rfl rfl sc_bool (by rfl) ?_) | (refine wpList_load1_st H rfl 30 _ rfl rfl sc_Errno (by rfl) ?_) | (refine wpList_load1_stG H (by rfl) 30 _ rfl rfl sc_Errno (by rfl) ?_) | (refine wpList_load1_st H rfl 25 _ rfl rfl sc_Evs (by rfl) ?_) | (refine wpList_load1_stG H (by rfl) 25 _ rfl rfl sc_Evs (by rfl) ?_))
                            | ((with_reducible refine here_store ?_); first | (refine wpList_store_st H rfl 46 _ _ rfl rfl rfl (by kernel_rfl) (by rfl) (by kernel_rfl) ?_; clear H; intro wx H) | (refine wpList_store_st H rfl 50 _ _ rfl rfl rfl (by kernel_rfl) (by rfl) (by kernel_rfl) ?_; clear H; intro wx H) | (refine wpList_store_st H rfl 37 _ _ rfl rfl rfl (by kernel_rfl) (by rfl) (by kernel_rfl) ?_; clear H; intro wx H) | (refine wpList_store_st H rfl 27 _ _ rfl rfl rfl (by kernel_rfl) (by rfl) (by kernel_rfl) ?_; clear H; intro wx H) | (refine wpList_store1_st H rfl 3 _ _ rfl rfl _ rfl (by rfl) s1_int (by rfl) (by rfl) ?_; clear H; intro wx H) | (refine wpList_store1_st H rfl 4 _ _ rfl rfl _ rfl (by rfl) s1_bool (by rfl) (by rfl) ?_; clear H; intro wx H) | (refine wpList_store1_st H rfl 30 _ _ rfl rfl _ rfl (by rfl) s1_Errno (by rfl) (by rfl) ?_; clear H; intro wx H) | (refine wpList_store1_st H rfl 25 _ _ rfl rfl _ rfl (by rfl) s1_Evs (by rfl) (by rfl) ?_; clear H; intro wx H))
                            | ((with_reducible refine here_alloc ?_); first | (refine wpList_alloc_st H rfl 46 rfl _ q_zero ?_; clear H; intro gq8 wx H) | (refine wpList_alloc_st H rfl 50 rfl _ ans_zero ?_; clear H; intro ga8 wx H) | (refine wpList_alloc_st H rfl 37 rfl _ ev_zero ?_; clear H; intro ge8 wx H) | (refine wpList_alloc_st H rfl 27 rfl _ ber_zero ?_; clear H; intro gr8 wx H))
                            | ((with_reducible refine here_box ?_); first | (refine wpList_box_st H rfl _ _ rfl _ rfl ?_; clear H; intro gb8 wx H)))
                        go_meet
                        exact ⟨_, rfl, rfl, rfl, rfl, rfl, rfl, rfl, rfl, H.subm _⟩
                  case rest =>
                    clear H
                    obtain ⟨tw, rfl, rfl, rfl, rfl, rfl, rfl, rfl, rfl, H⟩ := hcut
                    go_upto_if 152 with fail
                    go_cut [16, 17, 24, 29] (fun s16 s17 s24 s29 wx => s16 = .int .i64 a' ∧ s17 = .int .i64 i ∧ s24 = .pointer (some ⟨gr24, 0, none⟩) ∧ s29 = .pointer (some ⟨gr29, 0, none⟩) ∧ St w wx (.bl gr24 27 #[.int .i64 ro2, .int .i64 q, .int .i64 0, .int .i64 3, .int .i64 r2, .slice A6 ms' c6] :: evIt A6 fs' :: evIt A7 pt :: .bl gr29 27 #[.int .i64 4, .int .i64 (q + 1), .int .i64 1, .int .i64 0, .int .i64 0, .slice A8 (j + p) c8] :: evIt A8 (fs'.take (j + p)) :: .bl grx 27 #[.int .i64 ro, .int .i64 q, .int .i64 0, .int .i64 3, .int .i64 r, .slice A' ms' c'] :: evIt A' fs' :: .bl gr3 27 #[.int .i64 4, .int .i64 (q + 1), .int .i64 1, .int .i64 0, .int .i64 0, .slice B1 j d1] :: evIt B1 (fs'.take j) :: .bl g8 27 #[.int .i64 0, .int .i64 0, .int .i64 0, .int .i64 0, .int .i64 0, .slice none 0 0] :: .bl g9 27 #[.int .i64 0, .int .i64 0, .int .i64 0, .int .i64 0, .int .i64 0, .slice none 0 0] :: I))
                    case first =>
                      as_aux_lemma =>
                        cases tw
                        · go_wp2_with (first | (go_at_call 31; with_reducible refine (CI2.out _ _ H A8 c8 hc8 A7 c7 hc7 inferInstance inferInstance).mono ?_; clear H; rintro ed wy ⟨A10, c10, rfl, hc10, H⟩) | (go_at_call 25; with_reducible refine (sameEv_st ((fs'.take (j + p))) A10 A8 (j + p) c10 c8 HTP.out H (by have := HMM.out; omega) hc10 hc8).mono ?_; clear H; rintro ed wy ⟨rfl, H⟩) | ((with_reducible refine here_load ?_); first | refine wpList_loadPart_stG H (by rfl) 27 _ rfl rfl row_Berth (by kernel_rfl) (by rfl) _ (arr6_all _ _ _ _ _ _) ?_ | refine wpList_loadPart_stG H (by rfl) 50 _ rfl rfl row_Answer (by kernel_rfl) (by rfl) _ (arr4_all _ _ _ _) ?_ | refine wpList_loadPart_stG H (by rfl) 46 _ rfl rfl row_Queue (by kernel_rfl) (by rfl) _ (qArr_all _ _ _ _ _) ?_) | (first
                              | ((with_reducible refine here_load ?_); first | (refine wpList_load_st H rfl 46 _ rfl rfl row_Queue (by kernel_rfl) ?_) | (refine wpList_load_st H rfl 50 _ rfl rfl row_Answer (by kernel_rfl) ?_) | (refine wpList_load_st H rfl 37 _ rfl rfl row_Event (by kernel_rfl) ?_) | (refine wpList_load_st H rfl 27 _ rfl rfl row_Berth (by kernel_rfl) ?_) | (refine wpList_load1_st H rfl 3 _ rfl rfl sc_int (by rfl) ?_) | (refine wpList_load1_stG H (by rfl) 3 _ rfl rfl sc_int (by rfl) ?_) | (refine wpList_load1_st H rfl 4 _ rfl rfl sc_bool (by rfl) ?_) | (refine wpList_load1_stG H (by rfl) 4 _ rfl rfl sc_bool (by rfl) ?_) | (refine wpList_load1_st H rfl 30 _ rfl rfl sc_Errno (by rfl) ?_) | (refine wpList_load1_stG H (by rfl) 30 _ rfl rfl sc_Errno (by rfl) ?_) | (refine wpList_load1_st H rfl 25 _ rfl rfl sc_Evs (by rfl) ?_) | (refine wpList_load1_stG H (by rfl) 25 _ rfl rfl sc_Evs (by rfl) ?_))
                              | ((with_reducible refine here_store ?_); first | (refine wpList_store_st H rfl 46 _ _ rfl rfl rfl (by kernel_rfl) (by rfl) (by kernel_rfl) ?_; clear H; intro wx H) | (refine wpList_store_st H rfl 50 _ _ rfl rfl rfl (by kernel_rfl) (by rfl) (by kernel_rfl) ?_; clear H; intro wx H) | (refine wpList_store_st H rfl 37 _ _ rfl rfl rfl (by kernel_rfl) (by rfl) (by kernel_rfl) ?_; clear H; intro wx H) | (refine wpList_store_st H rfl 27 _ _ rfl rfl rfl (by kernel_rfl) (by rfl) (by kernel_rfl) ?_; clear H; intro wx H) | (refine wpList_store1_st H rfl 3 _ _ rfl rfl _ rfl (by rfl) s1_int (by rfl) (by rfl) ?_; clear H; intro wx H) | (refine wpList_store1_st H rfl 4 _ _ rfl rfl _ rfl (by rfl) s1_bool (by rfl) (by rfl) ?_; clear H; intro wx H) | (refine wpList_store1_st H rfl 30 _ _ rfl rfl _ rfl (by rfl) s1_Errno (by rfl) (by rfl) ?_; clear H; intro wx H) | (refine wpList_store1_st H rfl 25 _ _ rfl rfl _ rfl (by rfl) s1_Evs (by rfl) (by rfl) ?_; clear H; intro wx H))
                              | ((with_reducible refine here_alloc ?_); first | (refine wpList_alloc_st H rfl 46 rfl _ q_zero ?_; clear H; intro gq9 wx H) | (refine wpList_alloc_st H rfl 50 rfl _ ans_zero ?_; clear H; intro ga9 wx H) | (refine wpList_alloc_st H rfl 37 rfl _ ev_zero ?_; clear H; intro ge9 wx H) | (refine wpList_alloc_st H rfl 27 rfl _ ber_zero ?_; clear H; intro gr9 wx H))
                              | ((with_reducible refine here_box ?_); first | (refine wpList_box_st H rfl _ _ rfl _ rfl ?_; clear H; intro gb9 wx H))))
                          go_meet
                          exact ⟨rfl, rfl, rfl, rfl, H.subm _⟩
                        · go_wp2_with (first | (go_at_call 31; with_reducible refine (CI2.out _ _ H A8 c8 hc8 A7 c7 hc7 inferInstance inferInstance).mono ?_; clear H; rintro ed wy ⟨A10, c10, rfl, hc10, H⟩) | (go_at_call 25; with_reducible refine (sameEv_st ((fs'.take (j + p))) A10 A8 (j + p) c10 c8 HTP.out H (by have := HMM.out; omega) hc10 hc8).mono ?_; clear H; rintro ed wy ⟨rfl, H⟩) | ((with_reducible refine here_load ?_); first | refine wpList_loadPart_stG H (by rfl) 27 _ rfl rfl row_Berth (by kernel_rfl) (by rfl) _ (arr6_all _ _ _ _ _ _) ?_ | refine wpList_loadPart_stG H (by rfl) 50 _ rfl rfl row_Answer (by kernel_rfl) (by rfl) _ (arr4_all _ _ _ _) ?_ | refine wpList_loadPart_stG H (by rfl) 46 _ rfl rfl row_Queue (by kernel_rfl) (by rfl) _ (qArr_all _ _ _ _ _) ?_) | (first
                              | ((with_reducible refine here_load ?_); first | (refine wpList_load_st H rfl 46 _ rfl rfl row_Queue (by kernel_rfl) ?_) | (refine wpList_load_st H rfl 50 _ rfl rfl row_Answer (by kernel_rfl) ?_) | (refine wpList_load_st H rfl 37 _ rfl rfl row_Event (by kernel_rfl) ?_) | (refine wpList_load_st H rfl 27 _ rfl rfl row_Berth (by kernel_rfl) ?_) | (refine wpList_load1_st H rfl 3 _ rfl rfl sc_int (by rfl) ?_) | (refine wpList_load1_stG H (by rfl) 3 _ rfl rfl sc_int (by rfl) ?_) | (refine wpList_load1_st H rfl 4 _ rfl rfl sc_bool (by rfl) ?_) | (refine wpList_load1_stG H (by rfl) 4 _ rfl rfl sc_bool (by rfl) ?_) | (refine wpList_load1_st H rfl 30 _ rfl rfl sc_Errno (by rfl) ?_) | (refine wpList_load1_stG H (by rfl) 30 _ rfl rfl sc_Errno (by rfl) ?_) | (refine wpList_load1_st H rfl 25 _ rfl rfl sc_Evs (by rfl) ?_) | (refine wpList_load1_stG H (by rfl) 25 _ rfl rfl sc_Evs (by rfl) ?_))
                              | ((with_reducible refine here_store ?_); first | (refine wpList_store_st H rfl 46 _ _ rfl rfl rfl (by kernel_rfl) (by rfl) (by kernel_rfl) ?_; clear H; intro wx H) | (refine wpList_store_st H rfl 50 _ _ rfl rfl rfl (by kernel_rfl) (by rfl) (by kernel_rfl) ?_; clear H; intro wx H) | (refine wpList_store_st H rfl 37 _ _ rfl rfl rfl (by kernel_rfl) (by rfl) (by kernel_rfl) ?_; clear H; intro wx H) | (refine wpList_store_st H rfl 27 _ _ rfl rfl rfl (by kernel_rfl) (by rfl) (by kernel_rfl) ?_; clear H; intro wx H) | (refine wpList_store1_st H rfl 3 _ _ rfl rfl _ rfl (by rfl) s1_int (by rfl) (by rfl) ?_; clear H; intro wx H) | (refine wpList_store1_st H rfl 4 _ _ rfl rfl _ rfl (by rfl) s1_bool (by rfl) (by rfl) ?_; clear H; intro wx H) | (refine wpList_store1_st H rfl 30 _ _ rfl rfl _ rfl (by rfl) s1_Errno (by rfl) (by rfl) ?_; clear H; intro wx H) | (refine wpList_store1_st H rfl 25 _ _ rfl rfl _ rfl (by rfl) s1_Evs (by rfl) (by rfl) ?_; clear H; intro wx H))
                              | ((with_reducible refine here_alloc ?_); first | (refine wpList_alloc_st H rfl 46 rfl _ q_zero ?_; clear H; intro gq9 wx H) | (refine wpList_alloc_st H rfl 50 rfl _ ans_zero ?_; clear H; intro ga9 wx H) | (refine wpList_alloc_st H rfl 37 rfl _ ev_zero ?_; clear H; intro ge9 wx H) | (refine wpList_alloc_st H rfl 27 rfl _ ber_zero ?_; clear H; intro gr9 wx H))
                              | ((with_reducible refine here_box ?_); first | (refine wpList_box_st H rfl _ _ rfl _ rfl ?_; clear H; intro gb9 wx H))))
                          go_meet
                          exact ⟨rfl, rfl, rfl, rfl, H.subm _⟩
                    case rest =>
                      as_aux_lemma =>
                        clear H
                        obtain ⟨rfl, rfl, rfl, rfl, H⟩ := hcut
                        go_wp2_with (first | ((with_reducible refine here_load ?_); first | refine wpList_loadPart_stG H (by rfl) 27 _ rfl rfl row_Berth (by kernel_rfl) (by rfl) _ (arr6_all _ _ _ _ _ _) ?_ | refine wpList_loadPart_stG H (by rfl) 50 _ rfl rfl row_Answer (by kernel_rfl) (by rfl) _ (arr4_all _ _ _ _) ?_ | refine wpList_loadPart_stG H (by rfl) 46 _ rfl rfl row_Queue (by kernel_rfl) (by rfl) _ (qArr_all _ _ _ _ _) ?_) | (first
                            | ((with_reducible refine here_load ?_); first | (refine wpList_load_st H rfl 46 _ rfl rfl row_Queue (by kernel_rfl) ?_) | (refine wpList_load_st H rfl 50 _ rfl rfl row_Answer (by kernel_rfl) ?_) | (refine wpList_load_st H rfl 37 _ rfl rfl row_Event (by kernel_rfl) ?_) | (refine wpList_load_st H rfl 27 _ rfl rfl row_Berth (by kernel_rfl) ?_) | (refine wpList_load1_st H rfl 3 _ rfl rfl sc_int (by rfl) ?_) | (refine wpList_load1_stG H (by rfl) 3 _ rfl rfl sc_int (by rfl) ?_) | (refine wpList_load1_st H rfl 4 _ rfl rfl sc_bool (by rfl) ?_) | (refine wpList_load1_stG H (by rfl) 4 _ rfl rfl sc_bool (by rfl) ?_) | (refine wpList_load1_st H rfl 30 _ rfl rfl sc_Errno (by rfl) ?_) | (refine wpList_load1_stG H (by rfl) 30 _ rfl rfl sc_Errno (by rfl) ?_) | (refine wpList_load1_st H rfl 25 _ rfl rfl sc_Evs (by rfl) ?_) | (refine wpList_load1_stG H (by rfl) 25 _ rfl rfl sc_Evs (by rfl) ?_))
                            | ((with_reducible refine here_store ?_); first | (refine wpList_store_st H rfl 46 _ _ rfl rfl rfl (by kernel_rfl) (by rfl) (by kernel_rfl) ?_; clear H; intro wx H) | (refine wpList_store_st H rfl 50 _ _ rfl rfl rfl (by kernel_rfl) (by rfl) (by kernel_rfl) ?_; clear H; intro wx H) | (refine wpList_store_st H rfl 37 _ _ rfl rfl rfl (by kernel_rfl) (by rfl) (by kernel_rfl) ?_; clear H; intro wx H) | (refine wpList_store_st H rfl 27 _ _ rfl rfl rfl (by kernel_rfl) (by rfl) (by kernel_rfl) ?_; clear H; intro wx H) | (refine wpList_store1_st H rfl 3 _ _ rfl rfl _ rfl (by rfl) s1_int (by rfl) (by rfl) ?_; clear H; intro wx H) | (refine wpList_store1_st H rfl 4 _ _ rfl rfl _ rfl (by rfl) s1_bool (by rfl) (by rfl) ?_; clear H; intro wx H) | (refine wpList_store1_st H rfl 30 _ _ rfl rfl _ rfl (by rfl) s1_Errno (by rfl) (by rfl) ?_; clear H; intro wx H) | (refine wpList_store1_st H rfl 25 _ _ rfl rfl _ rfl (by rfl) s1_Evs (by rfl) (by rfl) ?_; clear H; intro wx H))
                            | ((with_reducible refine here_alloc ?_); first | (refine wpList_alloc_st H rfl 46 rfl _ q_zero ?_; clear H; intro gq10 wx H) | (refine wpList_alloc_st H rfl 50 rfl _ ans_zero ?_; clear H; intro ga10 wx H) | (refine wpList_alloc_st H rfl 37 rfl _ ev_zero ?_; clear H; intro ge10 wx H) | (refine wpList_alloc_st H rfl 27 rfl _ ber_zero ?_; clear H; intro gr10 wx H))
                            | ((with_reducible refine here_box ?_); first | (refine wpList_box_st H rfl _ _ rfl _ rfl ?_; clear H; intro gb10 wx H))))
                        go_roundw
                        case rel =>
                          exact ⟨i + 1, a', ro2, r2, fs', ms', j + p, A6, c6, A8, c8, rfl, by go_num, HFS'.out, hc6, .inl ⟨⟨HOK2.out, by have := HMM.out; omega, by have := HMM.out; have := HHO.out; have := HL2.out; omega⟩, hc8, H.subm _⟩⟩
                        case measure => simp [intOf] <;> omega
              · as_aux_lemma =>
                  obtain ⟨hl1, hl2⟩ := hls.1 rfl
                  clear hls
                  have HL1 := Lib.hid (show (fs' ++ [(⟨4, 0, 0, 0, 0, 0⟩ : Ev)]).length = ms' + 1 from by rw [List.length_append, HFS'.out]; rfl)
                  have HALL := Lib.hid (show fs'.take j ++ pt.drop 0 = fs' from by rw [List.drop_zero, HCAT.out, hl2]; exact List.take_of_length_le (Nat.le_of_eq HFS'.out))
                  have HOT := Lib.hid (show (⟨4, q + 1, 1, 0, 0, (fs'.take j)⟩ : BM).Ok 40 from HOK2.out.cut j (by unfold BM.Shape; dsimp only; omega) rfl)
                  have HOU := Lib.hid (show (⟨1, q + 1, 0, 0, 0, (fs' ++ [(⟨4, 0, 0, 0, 0, 0⟩ : Ev)])⟩ : BM).Ok 41 from ((show (⟨1, q + 1, 0, 0, 0, fs'⟩ : BM).Ok 40 from HOK2.out.same (by unfold BM.Shape; dsimp only; omega) rfl).brk (show (1 : Int) ≠ 0 by decide)).2.2)
                  have CI1 := Lib.hid (fun W J (H : St w W J) A c (hc : j ≤ c) B d (hd : p ≤ d) (hI : Has J (evIt A (fs'.take j))) (hI2 : Has J (evIt B pt)) => (show Calls Try.prog 31 #[.agg #[.int .i64 4, .int .i64 (q + 1), .int .i64 1, .int .i64 0, .int .i64 0, .slice A j c], .int .i64 (q + 1), .int .i64 j, .slice B p d, .bool true] W (fun ed w' => ∃ A' c', ed = .returned (.tuple #[.agg #[.int .i64 1, .int .i64 (q + 1), .int .i64 0, .int .i64 0, .int .i64 0, .slice A' (ms' + 1) c'], .int .i64 0]) ∧ ms' + 1 ≤ c' ∧ St w w' (evIt A' (fs' ++ [(⟨4, 0, 0, 0, 0, 0⟩ : Ev)]) :: J)) from by
                    have h := import_last (h := hI) (h2 := hI2) (w0 := w) (w := W) (I := J) (q + 1) 1 0 0 (fs'.take j) pt A B j c p d 40 j 0 41 HTJ.out HPT.out HOT.out (by omega) (by omega) hc hd (Nat.le_refl _) (by omega) (by simp) (by omega) (by rw [HALL.out]; exact HOU.out) (by omega) H
                    rw [HALL.out] at h
                    exact bpost_to HL1.out h))
                  have CI2 := Lib.hid (fun W J (H : St w W J) A c (hc : ms' + 1 ≤ c) B d (hd : p ≤ d) (hI : Has J (evIt A (fs' ++ [(⟨4, 0, 0, 0, 0, 0⟩ : Ev)]))) (hI2 : Has J (evIt B pt)) => (show Calls Try.prog 31 #[.agg #[.int .i64 1, .int .i64 (q + 1), .int .i64 0, .int .i64 0, .int .i64 0, .slice A (ms' + 1) c], .int .i64 (q + 1), .int .i64 j, .slice B p d, .bool true] W (fun ed w' => ∃ A' c', ed = .returned (.tuple #[.agg #[.int .i64 0, .int .i64 0, .int .i64 0, .int .i64 0, .int .i64 0, .slice A' 0 c'], .int .i64 7]) ∧ 0 ≤ c' ∧ St w w' (evIt A' [] :: J)) from by
                    have h := import_none1 (h := hI) (h2 := hI2) (w0 := w) (w := W) (I := J) (q + 1) 0 0 0 (q + 1) j (fs' ++ [(⟨4, 0, 0, 0, 0, 0⟩ : Ev)]) pt A B (ms' + 1) c p d 41 true HL1.out HPT.out HOU.out (by omega) (by omega) hc hd  H
                    exact bpost_to HL0.out h))
                  have hi40 : i ≤ 40 := by omega
                  have HL2 := Lib.hid hl1
                  have HMM := Lib.hid (show j ≤ ms' ∧ ms' ≤ 35 ∧ i ≤ 5 + j from ⟨hjm', hms35, hij⟩)
                  clear hl1 hl2 hout hro hp hpt hlst hij hjm' hms35 hjm
                  go_upto_region 24 with (first | ((with_reducible refine here_allocAt 24 ?_); refine wpList_alloc_st H rfl 27 rfl _ ber_zero ?_; clear H; intro gr24 wx H) | ((with_reducible refine here_allocAt 29 ?_); refine wpList_alloc_st H rfl 27 rfl _ ber_zero ?_; clear H; intro gr29 wx H) | (go_at_call 27; with_reducible refine (CC.out _ _ H A' c' hc' inferInstance).mono ?_; clear H; rintro ed wy ⟨A6, c6, rfl, hc6, H⟩) | (go_at_call 29; with_reducible refine (CP.out _ _ H A6 c6 hc6 inferInstance).mono ?_; clear H; rintro ed wy ⟨A7, c7, rfl, hc7, H⟩) | (go_at_call 31; with_reducible refine (CI1.out _ _ H B1 d1 hd1 A7 c7 hc7 inferInstance inferInstance).mono ?_; clear H; rintro ed wy ⟨A8, c8, rfl, hc8, H⟩) | (first
                      | ((with_reducible refine here_load ?_); first | (refine wpList_load_st H rfl 46 _ rfl rfl row_Queue (by kernel_rfl) ?_) | (refine wpList_load_st H rfl 50 _ rfl rfl row_Answer (by kernel_rfl) ?_) | (refine wpList_load_st H rfl 37 _ rfl rfl row_Event (by kernel_rfl) ?_) | (refine wpList_load_st H rfl 27 _ rfl rfl row_Berth (by kernel_rfl) ?_) | (refine wpList_load1_st H rfl 3 _ rfl rfl sc_int (by rfl) ?_) | (refine wpList_load1_stG H (by rfl) 3 _ rfl rfl sc_int (by rfl) ?_) | (refine wpList_load1_st H rfl 4 _ rfl rfl sc_bool (by rfl) ?_) | (refine wpList_load1_stG H (by rfl) 4 _ rfl rfl sc_bool (by rfl) ?_) | (refine wpList_load1_st H rfl 30 _ rfl rfl sc_Errno (by rfl) ?_) | (refine wpList_load1_stG H (by rfl) 30 _ rfl rfl sc_Errno (by rfl) ?_) | (refine wpList_load1_st H rfl 25 _ rfl rfl sc_Evs (by rfl) ?_) | (refine wpList_load1_stG H (by rfl) 25 _ rfl rfl sc_Evs (by rfl) ?_))
                      | ((with_reducible refine here_store ?_); first | (refine wpList_store_st H rfl 46 _ _ rfl rfl rfl (by kernel_rfl) (by rfl) (by kernel_rfl) ?_; clear H; intro wx H) | (refine wpList_store_st H rfl 50 _ _ rfl rfl rfl (by kernel_rfl) (by rfl) (by kernel_rfl) ?_; clear H; intro wx H) | (refine wpList_store_st H rfl 37 _ _ rfl rfl rfl (by kernel_rfl) (by rfl) (by kernel_rfl) ?_; clear H; intro wx H) | (refine wpList_store_st H rfl 27 _ _ rfl rfl rfl (by kernel_rfl) (by rfl) (by kernel_rfl) ?_; clear H; intro wx H) | (refine wpList_store1_st H rfl 3 _ _ rfl rfl _ rfl (by rfl) s1_int (by rfl) (by rfl) ?_; clear H; intro wx H) | (refine wpList_store1_st H rfl 4 _ _ rfl rfl _ rfl (by rfl) s1_bool (by rfl) (by rfl) ?_; clear H; intro wx H) | (refine wpList_store1_st H rfl 30 _ _ rfl rfl _ rfl (by rfl) s1_Errno (by rfl) (by rfl) ?_; clear H; intro wx H) | (refine wpList_store1_st H rfl 25 _ _ rfl rfl _ rfl (by rfl) s1_Evs (by rfl) (by rfl) ?_; clear H; intro wx H))
                      | ((with_reducible refine here_alloc ?_); first | (refine wpList_alloc_st H rfl 46 rfl _ q_zero ?_; clear H; intro gq7 wx H) | (refine wpList_alloc_st H rfl 50 rfl _ ans_zero ?_; clear H; intro ga7 wx H) | (refine wpList_alloc_st H rfl 37 rfl _ ev_zero ?_; clear H; intro ge7 wx H) | (refine wpList_alloc_st H rfl 27 rfl _ ber_zero ?_; clear H; intro gr7 wx H))
                      | ((with_reducible refine here_box ?_); first | (refine wpList_box_st H rfl _ _ rfl _ rfl ?_; clear H; intro gb7 wx H))))
                  go_cut [16, 17, 24, 29, 23, 26, 27, 152] (fun s16 s17 s24 s29 s23 s26 s27 s152 wx => ∃ tw : Bool, s16 = .int .i64 a' ∧ s17 = .int .i64 i ∧ s24 = .pointer (some ⟨gr24, 0, none⟩) ∧ s29 = .pointer (some ⟨gr29, 0, none⟩) ∧ s23 = .int .i64 j ∧ s26 = .slice A7 p c7 ∧ s27 = .bool true ∧ s152 = .bool tw ∧ St w wx (.bl gr24 27 #[.int .i64 ro2, .int .i64 q, .int .i64 0, .int .i64 3, .int .i64 r2, .slice A6 ms' c6] :: evIt A6 fs' :: evIt A7 pt :: .bl gr29 27 #[.int .i64 1, .int .i64 (q + 1), .int .i64 0, .int .i64 0, .int .i64 0, .slice A8 (ms' + 1) c8] :: evIt A8 (fs' ++ [(⟨4, 0, 0, 0, 0, 0⟩ : Ev)]) :: .bl grx 27 #[.int .i64 ro, .int .i64 q, .int .i64 0, .int .i64 3, .int .i64 r, .slice A' ms' c'] :: evIt A' fs' :: .bl gr3 27 #[.int .i64 4, .int .i64 (q + 1), .int .i64 1, .int .i64 0, .int .i64 0, .slice B1 j d1] :: evIt B1 (fs'.take j) :: .bl g8 27 #[.int .i64 0, .int .i64 0, .int .i64 0, .int .i64 0, .int .i64 0, .slice none 0 0] :: .bl g9 27 #[.int .i64 0, .int .i64 0, .int .i64 0, .int .i64 0, .int .i64 0, .slice none 0 0] :: I))
                  case first =>
                    as_aux_lemma =>
                      by_cases hi3 : i < n3
                      · obtain ⟨hl3, hnc3, hcb3, hr3⟩ := HBW.out
                        obtain ⟨b8, off, rfl, hb8, hcl⟩ := hr3.plain (by omega) (by omega)
                        have hz : zs[i]? = some (zs.getD i false) := by rw [List.getElem?_eq_getElem (show i < zs.length by omega)]; simp [List.getD, List.getElem?_eq_getElem (show i < zs.length by omega)]
                        have q0 := (H.bel.cell (p := ⟨b8, off + i, none⟩) hb8).trans (hcl i _ (by rw [List.getElem?_map, hz]; rfl))
                        have f1 : (i : Int) < (n3 : Int) := by omega
                        have f2 := decide_eq_true f1
                        have f3 : (0 : Int) ≤ (i : Int) := by omega
                        have f4 : (n3 : Int) ≤ (c3 : Int) := by omega
                        clear hl3 hnc3 hcb3 hr3 hb8 hcl hz hi3
                        generalize zs.getD i false = z at *
                        go_wp2_with (first
                            | ((with_reducible refine here_load ?_); first | (refine wpList_load_st H rfl 46 _ rfl rfl row_Queue (by kernel_rfl) ?_) | (refine wpList_load_st H rfl 50 _ rfl rfl row_Answer (by kernel_rfl) ?_) | (refine wpList_load_st H rfl 37 _ rfl rfl row_Event (by kernel_rfl) ?_) | (refine wpList_load_st H rfl 27 _ rfl rfl row_Berth (by kernel_rfl) ?_) | (refine wpList_load1_st H rfl 3 _ rfl rfl sc_int (by rfl) ?_) | (refine wpList_load1_stG H (by rfl) 3 _ rfl rfl sc_int (by rfl) ?_) | (refine wpList_load1_st H rfl 4 _ rfl rfl sc_bool (by rfl) ?_) | (refine wpList_load1_stG H (by rfl) 4 _ rfl rfl sc_bool (by rfl) ?_) | (refine wpList_load1_st H rfl 30 _ rfl rfl sc_Errno (by rfl) ?_) | (refine wpList_load1_stG H (by rfl) 30 _ rfl rfl sc_Errno (by rfl) ?_) | (refine wpList_load1_st H rfl 25 _ rfl rfl sc_Evs (by rfl) ?_) | (refine wpList_load1_stG H (by rfl) 25 _ rfl rfl sc_Evs (by rfl) ?_))
                            | ((with_reducible refine here_store ?_); first | (refine wpList_store_st H rfl 46 _ _ rfl rfl rfl (by kernel_rfl) (by rfl) (by kernel_rfl) ?_; clear H; intro wx H) | (refine wpList_store_st H rfl 50 _ _ rfl rfl rfl (by kernel_rfl) (by rfl) (by kernel_rfl) ?_; clear H; intro wx H) | (refine wpList_store_st H rfl 37 _ _ rfl rfl rfl (by kernel_rfl) (by rfl) (by kernel_rfl) ?_; clear H; intro wx H) | (refine wpList_store_st H rfl 27 _ _ rfl rfl rfl (by kernel_rfl) (by rfl) (by kernel_rfl) ?_; clear H; intro wx H) | (refine wpList_store1_st H rfl 3 _ _ rfl rfl _ rfl (by rfl) s1_int (by rfl) (by rfl) ?_; clear H; intro wx H) | (refine wpList_store1_st H rfl 4 _ _ rfl rfl _ rfl (by rfl) s1_bool (by rfl) (by rfl) ?_; clear H; intro wx H) | (refine wpList_store1_st H rfl 30 _ _ rfl rfl _ rfl (by rfl) s1_Errno (by rfl) (by rfl) ?_; clear H; intro wx H) | (refine wpList_store1_st H rfl 25 _ _ rfl rfl _ rfl (by rfl) s1_Evs (by rfl) (by rfl) ?_; clear H; intro wx H))
                            | ((with_reducible refine here_alloc ?_); first | (refine wpList_alloc_st H rfl 46 rfl _ q_zero ?_; clear H; intro gq8 wx H) | (refine wpList_alloc_st H rfl 50 rfl _ ans_zero ?_; clear H; intro ga8 wx H) | (refine wpList_alloc_st H rfl 37 rfl _ ev_zero ?_; clear H; intro ge8 wx H) | (refine wpList_alloc_st H rfl 27 rfl _ ber_zero ?_; clear H; intro gr8 wx H))
                            | ((with_reducible refine here_box ?_); first | (refine wpList_box_st H rfl _ _ rfl _ rfl ?_; clear H; intro gb8 wx H)))
                        go_meet
                        exact ⟨_, rfl, rfl, rfl, rfl, rfl, rfl, rfl, rfl, H.subm _⟩
                      · have f1 : ¬ (i : Int) < (n3 : Int) := by omega
                        have f2 := decide_eq_false f1
                        clear hi3
                        go_wp2_with (first
                            | ((with_reducible refine here_load ?_); first | (refine wpList_load_st H rfl 46 _ rfl rfl row_Queue (by kernel_rfl) ?_) | (refine wpList_load_st H rfl 50 _ rfl rfl row_Answer (by kernel_rfl) ?_) | (refine wpList_load_st H rfl 37 _ rfl rfl row_Event (by kernel_rfl) ?_) | (refine wpList_load_st H rfl 27 _ rfl rfl row_Berth (by kernel_rfl) ?_) | (refine wpList_load1_st H rfl 3 _ rfl rfl sc_int (by rfl) ?_) | (refine wpList_load1_stG H (by rfl) 3 _ rfl rfl sc_int (by rfl) ?_) | (refine wpList_load1_st H rfl 4 _ rfl rfl sc_bool (by rfl) ?_) | (refine wpList_load1_stG H (by rfl) 4 _ rfl rfl sc_bool (by rfl) ?_) | (refine wpList_load1_st H rfl 30 _ rfl rfl sc_Errno (by rfl) ?_) | (refine wpList_load1_stG H (by rfl) 30 _ rfl rfl sc_Errno (by rfl) ?_) | (refine wpList_load1_st H rfl 25 _ rfl rfl sc_Evs (by rfl) ?_) | (refine wpList_load1_stG H (by rfl) 25 _ rfl rfl sc_Evs (by rfl) ?_))
                            | ((with_reducible refine here_store ?_); first | (refine wpList_store_st H rfl 46 _ _ rfl rfl rfl (by kernel_rfl) (by rfl) (by kernel_rfl) ?_; clear H; intro wx H) | (refine wpList_store_st H rfl 50 _ _ rfl rfl rfl (by kernel_rfl) (by rfl) (by kernel_rfl) ?_; clear H; intro wx H) | (refine wpList_store_st H rfl 37 _ _ rfl rfl rfl (by kernel_rfl) (by rfl) (by kernel_rfl) ?_; clear H; intro wx H) | (refine wpList_store_st H rfl 27 _ _ rfl rfl rfl (by kernel_rfl) (by rfl) (by kernel_rfl) ?_; clear H; intro wx H) | (refine wpList_store1_st H rfl 3 _ _ rfl rfl _ rfl (by rfl) s1_int (by rfl) (by rfl) ?_; clear H; intro wx H) | (refine wpList_store1_st H rfl 4 _ _ rfl rfl _ rfl (by rfl) s1_bool (by rfl) (by rfl) ?_; clear H; intro wx H) | (refine wpList_store1_st H rfl 30 _ _ rfl rfl _ rfl (by rfl) s1_Errno (by rfl) (by rfl) ?_; clear H; intro wx H) | (refine wpList_store1_st H rfl 25 _ _ rfl rfl _ rfl (by rfl) s1_Evs (by rfl) (by rfl) ?_; clear H; intro wx H))
                            | ((with_reducible refine here_alloc ?_); first | (refine wpList_alloc_st H rfl 46 rfl _ q_zero ?_; clear H; intro gq8 wx H) | (refine wpList_alloc_st H rfl 50 rfl _ ans_zero ?_; clear H; intro ga8 wx H) | (refine wpList_alloc_st H rfl 37 rfl _ ev_zero ?_; clear H; intro ge8 wx H) | (refine wpList_alloc_st H rfl 27 rfl _ ber_zero ?_; clear H; intro gr8 wx H))
                            | ((with_reducible refine here_box ?_); first | (refine wpList_box_st H rfl _ _ rfl _ rfl ?_; clear H; intro gb8 wx H)))
                        go_meet
                        exact ⟨_, rfl, rfl, rfl, rfl, rfl, rfl, rfl, rfl, H.subm _⟩
                  case rest =>
                    clear H
                    obtain ⟨tw, rfl, rfl, rfl, rfl, rfl, rfl, rfl, rfl, H⟩ := hcut
                    go_upto_if 152 with fail
                    go_cut [16, 17, 24, 29] (fun s16 s17 s24 s29 wx => s16 = .int .i64 a' ∧ s17 = .int .i64 i ∧ s24 = .pointer (some ⟨gr24, 0, none⟩) ∧ s29 = .pointer (some ⟨gr29, 0, none⟩) ∧ St w wx (.bl gr24 27 #[.int .i64 ro2, .int .i64 q, .int .i64 0, .int .i64 3, .int .i64 r2, .slice A6 ms' c6] :: evIt A6 fs' :: evIt A7 pt :: .bl gr29 27 #[.int .i64 1, .int .i64 (q + 1), .int .i64 0, .int .i64 0, .int .i64 0, .slice A8 (ms' + 1) c8] :: evIt A8 (fs' ++ [(⟨4, 0, 0, 0, 0, 0⟩ : Ev)]) :: .bl grx 27 #[.int .i64 ro, .int .i64 q, .int .i64 0, .int .i64 3, .int .i64 r, .slice A' ms' c'] :: evIt A' fs' :: .bl gr3 27 #[.int .i64 4, .int .i64 (q + 1), .int .i64 1, .int .i64 0, .int .i64 0, .slice B1 j d1] :: evIt B1 (fs'.take j) :: .bl g8 27 #[.int .i64 0, .int .i64 0, .int .i64 0, .int .i64 0, .int .i64 0, .slice none 0 0] :: .bl g9 27 #[.int .i64 0, .int .i64 0, .int .i64 0, .int .i64 0, .int .i64 0, .slice none 0 0] :: I))
                    case first =>
                      as_aux_lemma =>
                        cases tw
                        · go_wp2_with (first | (go_at_call 31; with_reducible refine (CI2.out _ _ H A8 c8 hc8 A7 c7 hc7 inferInstance inferInstance).mono ?_; clear H; rintro ed wy ⟨A10, c10, rfl, hc10, H⟩) | fail | ((with_reducible refine here_load ?_); first | refine wpList_loadPart_stG H (by rfl) 27 _ rfl rfl row_Berth (by kernel_rfl) (by rfl) _ (arr6_all _ _ _ _ _ _) ?_ | refine wpList_loadPart_stG H (by rfl) 50 _ rfl rfl row_Answer (by kernel_rfl) (by rfl) _ (arr4_all _ _ _ _) ?_ | refine wpList_loadPart_stG H (by rfl) 46 _ rfl rfl row_Queue (by kernel_rfl) (by rfl) _ (qArr_all _ _ _ _ _) ?_) | (first
                              | ((with_reducible refine here_load ?_); first | (refine wpList_load_st H rfl 46 _ rfl rfl row_Queue (by kernel_rfl) ?_) | (refine wpList_load_st H rfl 50 _ rfl rfl row_Answer (by kernel_rfl) ?_) | (refine wpList_load_st H rfl 37 _ rfl rfl row_Event (by kernel_rfl) ?_) | (refine wpList_load_st H rfl 27 _ rfl rfl row_Berth (by kernel_rfl) ?_) | (refine wpList_load1_st H rfl 3 _ rfl rfl sc_int (by rfl) ?_) | (refine wpList_load1_stG H (by rfl) 3 _ rfl rfl sc_int (by rfl) ?_) | (refine wpList_load1_st H rfl 4 _ rfl rfl sc_bool (by rfl) ?_) | (refine wpList_load1_stG H (by rfl) 4 _ rfl rfl sc_bool (by rfl) ?_) | (refine wpList_load1_st H rfl 30 _ rfl rfl sc_Errno (by rfl) ?_) | (refine wpList_load1_stG H (by rfl) 30 _ rfl rfl sc_Errno (by rfl) ?_) | (refine wpList_load1_st H rfl 25 _ rfl rfl sc_Evs (by rfl) ?_) | (refine wpList_load1_stG H (by rfl) 25 _ rfl rfl sc_Evs (by rfl) ?_))
                              | ((with_reducible refine here_store ?_); first | (refine wpList_store_st H rfl 46 _ _ rfl rfl rfl (by kernel_rfl) (by rfl) (by kernel_rfl) ?_; clear H; intro wx H) | (refine wpList_store_st H rfl 50 _ _ rfl rfl rfl (by kernel_rfl) (by rfl) (by kernel_rfl) ?_; clear H; intro wx H) | (refine wpList_store_st H rfl 37 _ _ rfl rfl rfl (by kernel_rfl) (by rfl) (by kernel_rfl) ?_; clear H; intro wx H) | (refine wpList_store_st H rfl 27 _ _ rfl rfl rfl (by kernel_rfl) (by rfl) (by kernel_rfl) ?_; clear H; intro wx H) | (refine wpList_store1_st H rfl 3 _ _ rfl rfl _ rfl (by rfl) s1_int (by rfl) (by rfl) ?_; clear H; intro wx H) | (refine wpList_store1_st H rfl 4 _ _ rfl rfl _ rfl (by rfl) s1_bool (by rfl) (by rfl) ?_; clear H; intro wx H) | (refine wpList_store1_st H rfl 30 _ _ rfl rfl _ rfl (by rfl) s1_Errno (by rfl) (by rfl) ?_; clear H; intro wx H) | (refine wpList_store1_st H rfl 25 _ _ rfl rfl _ rfl (by rfl) s1_Evs (by rfl) (by rfl) ?_; clear H; intro wx H))
                              | ((with_reducible refine here_alloc ?_); first | (refine wpList_alloc_st H rfl 46 rfl _ q_zero ?_; clear H; intro gq9 wx H) | (refine wpList_alloc_st H rfl 50 rfl _ ans_zero ?_; clear H; intro ga9 wx H) | (refine wpList_alloc_st H rfl 37 rfl _ ev_zero ?_; clear H; intro ge9 wx H) | (refine wpList_alloc_st H rfl 27 rfl _ ber_zero ?_; clear H; intro gr9 wx H))
                              | ((with_reducible refine here_box ?_); first | (refine wpList_box_st H rfl _ _ rfl _ rfl ?_; clear H; intro gb9 wx H))))
                          go_meet
                          exact ⟨rfl, rfl, rfl, rfl, H.subm _⟩
                        · go_wp2_with (first | (go_at_call 31; with_reducible refine (CI2.out _ _ H A8 c8 hc8 A7 c7 hc7 inferInstance inferInstance).mono ?_; clear H; rintro ed wy ⟨A10, c10, rfl, hc10, H⟩) | fail | ((with_reducible refine here_load ?_); first | refine wpList_loadPart_stG H (by rfl) 27 _ rfl rfl row_Berth (by kernel_rfl) (by rfl) _ (arr6_all _ _ _ _ _ _) ?_ | refine wpList_loadPart_stG H (by rfl) 50 _ rfl rfl row_Answer (by kernel_rfl) (by rfl) _ (arr4_all _ _ _ _) ?_ | refine wpList_loadPart_stG H (by rfl) 46 _ rfl rfl row_Queue (by kernel_rfl) (by rfl) _ (qArr_all _ _ _ _ _) ?_) | (first
                              | ((with_reducible refine here_load ?_); first | (refine wpList_load_st H rfl 46 _ rfl rfl row_Queue (by kernel_rfl) ?_) | (refine wpList_load_st H rfl 50 _ rfl rfl row_Answer (by kernel_rfl) ?_) | (refine wpList_load_st H rfl 37 _ rfl rfl row_Event (by kernel_rfl) ?_) | (refine wpList_load_st H rfl 27 _ rfl rfl row_Berth (by kernel_rfl) ?_) | (refine wpList_load1_st H rfl 3 _ rfl rfl sc_int (by rfl) ?_) | (refine wpList_load1_stG H (by rfl) 3 _ rfl rfl sc_int (by rfl) ?_) | (refine wpList_load1_st H rfl 4 _ rfl rfl sc_bool (by rfl) ?_) | (refine wpList_load1_stG H (by rfl) 4 _ rfl rfl sc_bool (by rfl) ?_) | (refine wpList_load1_st H rfl 30 _ rfl rfl sc_Errno (by rfl) ?_) | (refine wpList_load1_stG H (by rfl) 30 _ rfl rfl sc_Errno (by rfl) ?_) | (refine wpList_load1_st H rfl 25 _ rfl rfl sc_Evs (by rfl) ?_) | (refine wpList_load1_stG H (by rfl) 25 _ rfl rfl sc_Evs (by rfl) ?_))
                              | ((with_reducible refine here_store ?_); first | (refine wpList_store_st H rfl 46 _ _ rfl rfl rfl (by kernel_rfl) (by rfl) (by kernel_rfl) ?_; clear H; intro wx H) | (refine wpList_store_st H rfl 50 _ _ rfl rfl rfl (by kernel_rfl) (by rfl) (by kernel_rfl) ?_; clear H; intro wx H) | (refine wpList_store_st H rfl 37 _ _ rfl rfl rfl (by kernel_rfl) (by rfl) (by kernel_rfl) ?_; clear H; intro wx H) | (refine wpList_store_st H rfl 27 _ _ rfl rfl rfl (by kernel_rfl) (by rfl) (by kernel_rfl) ?_; clear H; intro wx H) | (refine wpList_store1_st H rfl 3 _ _ rfl rfl _ rfl (by rfl) s1_int (by rfl) (by rfl) ?_; clear H; intro wx H) | (refine wpList_store1_st H rfl 4 _ _ rfl rfl _ rfl (by rfl) s1_bool (by rfl) (by rfl) ?_; clear H; intro wx H) | (refine wpList_store1_st H rfl 30 _ _ rfl rfl _ rfl (by rfl) s1_Errno (by rfl) (by rfl) ?_; clear H; intro wx H) | (refine wpList_store1_st H rfl 25 _ _ rfl rfl _ rfl (by rfl) s1_Evs (by rfl) (by rfl) ?_; clear H; intro wx H))
                              | ((with_reducible refine here_alloc ?_); first | (refine wpList_alloc_st H rfl 46 rfl _ q_zero ?_; clear H; intro gq9 wx H) | (refine wpList_alloc_st H rfl 50 rfl _ ans_zero ?_; clear H; intro ga9 wx H) | (refine wpList_alloc_st H rfl 37 rfl _ ev_zero ?_; clear H; intro ge9 wx H) | (refine wpList_alloc_st H rfl 27 rfl _ ber_zero ?_; clear H; intro gr9 wx H))
                              | ((with_reducible refine here_box ?_); first | (refine wpList_box_st H rfl _ _ rfl _ rfl ?_; clear H; intro gb9 wx H))))
                          go_meet
                          exact ⟨rfl, rfl, rfl, rfl, H.subm _⟩
                    case rest =>
                      as_aux_lemma =>
                        clear H
                        obtain ⟨rfl, rfl, rfl, rfl, H⟩ := hcut
                        have h3 : ro2 = 3 ∧ r2 = 0 := by have := HHO.out; have := HL2.out; omega
                        obtain ⟨h31, h32⟩ := h3
                        subst h31 h32
                        go_wp2_with (first | ((with_reducible refine here_load ?_); first | refine wpList_loadPart_stG H (by rfl) 27 _ rfl rfl row_Berth (by kernel_rfl) (by rfl) _ (arr6_all _ _ _ _ _ _) ?_ | refine wpList_loadPart_stG H (by rfl) 50 _ rfl rfl row_Answer (by kernel_rfl) (by rfl) _ (arr4_all _ _ _ _) ?_ | refine wpList_loadPart_stG H (by rfl) 46 _ rfl rfl row_Queue (by kernel_rfl) (by rfl) _ (qArr_all _ _ _ _ _) ?_) | (first
                            | ((with_reducible refine here_load ?_); first | (refine wpList_load_st H rfl 46 _ rfl rfl row_Queue (by kernel_rfl) ?_) | (refine wpList_load_st H rfl 50 _ rfl rfl row_Answer (by kernel_rfl) ?_) | (refine wpList_load_st H rfl 37 _ rfl rfl row_Event (by kernel_rfl) ?_) | (refine wpList_load_st H rfl 27 _ rfl rfl row_Berth (by kernel_rfl) ?_) | (refine wpList_load1_st H rfl 3 _ rfl rfl sc_int (by rfl) ?_) | (refine wpList_load1_stG H (by rfl) 3 _ rfl rfl sc_int (by rfl) ?_) | (refine wpList_load1_st H rfl 4 _ rfl rfl sc_bool (by rfl) ?_) | (refine wpList_load1_stG H (by rfl) 4 _ rfl rfl sc_bool (by rfl) ?_) | (refine wpList_load1_st H rfl 30 _ rfl rfl sc_Errno (by rfl) ?_) | (refine wpList_load1_stG H (by rfl) 30 _ rfl rfl sc_Errno (by rfl) ?_) | (refine wpList_load1_st H rfl 25 _ rfl rfl sc_Evs (by rfl) ?_) | (refine wpList_load1_stG H (by rfl) 25 _ rfl rfl sc_Evs (by rfl) ?_))
                            | ((with_reducible refine here_store ?_); first | (refine wpList_store_st H rfl 46 _ _ rfl rfl rfl (by kernel_rfl) (by rfl) (by kernel_rfl) ?_; clear H; intro wx H) | (refine wpList_store_st H rfl 50 _ _ rfl rfl rfl (by kernel_rfl) (by rfl) (by kernel_rfl) ?_; clear H; intro wx H) | (refine wpList_store_st H rfl 37 _ _ rfl rfl rfl (by kernel_rfl) (by rfl) (by kernel_rfl) ?_; clear H; intro wx H) | (refine wpList_store_st H rfl 27 _ _ rfl rfl rfl (by kernel_rfl) (by rfl) (by kernel_rfl) ?_; clear H; intro wx H) | (refine wpList_store1_st H rfl 3 _ _ rfl rfl _ rfl (by rfl) s1_int (by rfl) (by rfl) ?_; clear H; intro wx H) | (refine wpList_store1_st H rfl 4 _ _ rfl rfl _ rfl (by rfl) s1_bool (by rfl) (by rfl) ?_; clear H; intro wx H) | (refine wpList_store1_st H rfl 30 _ _ rfl rfl _ rfl (by rfl) s1_Errno (by rfl) (by rfl) ?_; clear H; intro wx H) | (refine wpList_store1_st H rfl 25 _ _ rfl rfl _ rfl (by rfl) s1_Evs (by rfl) (by rfl) ?_; clear H; intro wx H))
                            | ((with_reducible refine here_alloc ?_); first | (refine wpList_alloc_st H rfl 46 rfl _ q_zero ?_; clear H; intro gq10 wx H) | (refine wpList_alloc_st H rfl 50 rfl _ ans_zero ?_; clear H; intro ga10 wx H) | (refine wpList_alloc_st H rfl 37 rfl _ ev_zero ?_; clear H; intro ge10 wx H) | (refine wpList_alloc_st H rfl 27 rfl _ ber_zero ?_; clear H; intro gr10 wx H))
                            | ((with_reducible refine here_box ?_); first | (refine wpList_box_st H rfl _ _ rfl _ rfl ?_; clear H; intro gb10 wx H))))
                        go_roundw
                        case rel =>
                          exact ⟨i + 1, a', 3, 0, fs', ms', j, A6, c6, A8, c8, rfl, by go_num, HFS'.out, hc6, .inr ⟨by omega, HOK2.out, by have := HMM.out; omega, hc8, H.subm _⟩⟩
                        case measure => simp [intOf] <;> omega
      · as_aux_lemma =>
          have e1 : (i : Int) < 200 := by omega
          have e2 := decide_eq_true e1
          have HFS := Lib.hid hfs
          have HOK := Lib.hid hok
          clear hfs hok
          go_upto_region 30 with (first
              | ((with_reducible refine here_load ?_); first | (refine wpList_load_st H rfl 46 _ rfl rfl row_Queue (by kernel_rfl) ?_) | (refine wpList_load_st H rfl 50 _ rfl rfl row_Answer (by kernel_rfl) ?_) | (refine wpList_load_st H rfl 37 _ rfl rfl row_Event (by kernel_rfl) ?_) | (refine wpList_load_st H rfl 27 _ rfl rfl row_Berth (by kernel_rfl) ?_) | (refine wpList_load1_st H rfl 3 _ rfl rfl sc_int (by rfl) ?_) | (refine wpList_load1_stG H (by rfl) 3 _ rfl rfl sc_int (by rfl) ?_) | (refine wpList_load1_st H rfl 4 _ rfl rfl sc_bool (by rfl) ?_) | (refine wpList_load1_stG H (by rfl) 4 _ rfl rfl sc_bool (by rfl) ?_) | (refine wpList_load1_st H rfl 30 _ rfl rfl sc_Errno (by rfl) ?_) | (refine wpList_load1_stG H (by rfl) 30 _ rfl rfl sc_Errno (by rfl) ?_) | (refine wpList_load1_st H rfl 25 _ rfl rfl sc_Evs (by rfl) ?_) | (refine wpList_load1_stG H (by rfl) 25 _ rfl rfl sc_Evs (by rfl) ?_))
              | ((with_reducible refine here_store ?_); first | (refine wpList_store_st H rfl 46 _ _ rfl rfl rfl (by kernel_rfl) (by rfl) (by kernel_rfl) ?_; clear H; intro wx H) | (refine wpList_store_st H rfl 50 _ _ rfl rfl rfl (by kernel_rfl) (by rfl) (by kernel_rfl) ?_; clear H; intro wx H) | (refine wpList_store_st H rfl 37 _ _ rfl rfl rfl (by kernel_rfl) (by rfl) (by kernel_rfl) ?_; clear H; intro wx H) | (refine wpList_store_st H rfl 27 _ _ rfl rfl rfl (by kernel_rfl) (by rfl) (by kernel_rfl) ?_; clear H; intro wx H) | (refine wpList_store1_st H rfl 3 _ _ rfl rfl _ rfl (by rfl) s1_int (by rfl) (by rfl) ?_; clear H; intro wx H) | (refine wpList_store1_st H rfl 4 _ _ rfl rfl _ rfl (by rfl) s1_bool (by rfl) (by rfl) ?_; clear H; intro wx H) | (refine wpList_store1_st H rfl 30 _ _ rfl rfl _ rfl (by rfl) s1_Errno (by rfl) (by rfl) ?_; clear H; intro wx H) | (refine wpList_store1_st H rfl 25 _ _ rfl rfl _ rfl (by rfl) s1_Evs (by rfl) (by rfl) ?_; clear H; intro wx H))
              | ((with_reducible refine here_alloc ?_); first | (refine wpList_alloc_st H rfl 46 rfl _ q_zero ?_; clear H; intro gq5 wx H) | (refine wpList_alloc_st H rfl 50 rfl _ ans_zero ?_; clear H; intro ga5 wx H) | (refine wpList_alloc_st H rfl 37 rfl _ ev_zero ?_; clear H; intro ge5 wx H) | (refine wpList_alloc_st H rfl 27 rfl _ ber_zero ?_; clear H; intro gr5 wx H))
              | ((with_reducible refine here_box ?_); first | (refine wpList_box_st H rfl _ _ rfl _ rfl ?_; clear H; intro gb5 wx H)))
          (try simp only [Act.put])
          refine startS (H.subm (.bl grx 27 #[.int .i64 3, .int .i64 q, .int .i64 0, .int .i64 3, .int .i64 0, .slice A1 ms c1] :: evIt A1 fs :: .bl gr3 27 #[.int .i64 1, .int .i64 (q + 1), .int .i64 0, .int .i64 0, .int .i64 0, .slice B1 ((ms + 1)) d1] :: evIt B1 (fs ++ [⟨4, 0, 0, 0, 0, 0⟩]) :: I)) (by kernel_rfl) (fun HS => ?_)
          replace H := H.drew
          refine takeRow_st (i := 0) 27 _ rfl rfl rfl row_Berth (by kernel_rfl) (by kernel_rfl) (by kernel_rfl) (by kernel_rfl) (fun _ _ _ _ h => h) (by rfl) HS ?_
          (try simp only [Act.put, List.setIfInBounds_toArray, List.set_cons_zero, List.set_cons_succ])
          refine takeRow_st (i := 1) 27 _ rfl rfl rfl row_Berth (by kernel_rfl) (by kernel_rfl) (by kernel_rfl) (by kernel_rfl) (fun _ _ _ _ h => h) (by rfl) HS ?_
          (try simp only [Act.put, List.setIfInBounds_toArray, List.set_cons_zero, List.set_cons_succ])
          refine takeV (i := 2) (v := ?_) rfl (by kernel_rfl) (by kernel_rfl) (by kernel_rfl) (fun _ _ _ h => h) (by rfl) ?_ HS ?_
          rotate_left
          · (intro W hW; go_simp; try with_reducible rfl)
          (try simp only [Act.put, List.setIfInBounds_toArray, List.set_cons_zero, List.set_cons_succ])
          refine take1_st (i := 3) 3 _ rfl rfl rfl sc_int _ (by rfl) (by kernel_rfl) (by kernel_rfl) (by kernel_rfl) (fun _ _ _ _ h => h) (by rfl) HS ?_
          (try simp only [Act.put, List.setIfInBounds_toArray, List.set_cons_zero, List.set_cons_succ])
          refine takeV (i := 4) (v := ?_) rfl (by kernel_rfl) (by kernel_rfl) (by kernel_rfl) (fun _ _ _ h => h) (by rfl) ?_ HS ?_
          rotate_left
          · (intro W hW; go_simp; try with_reducible rfl)
          (try simp only [Act.put, List.setIfInBounds_toArray, List.set_cons_zero, List.set_cons_succ])
          refine branchH [5] (by kernel_rfl) (by kernel_rfl) (AllStep.cons ?_ AllStep.nil)
          refine stepH_do (i := 5) rfl (by rfl) ?_
          refine wp_store_st H 27 _ _ rfl rfl rfl (by kernel_rfl) (by rfl) (by kernel_rfl) ?_
          clear H
          intro wx H
          replace HS := HS.of H
          refine ⟨HS, ?_⟩
          (try simp only [Act.put])
          refine branchH [6] (by kernel_rfl) (by kernel_rfl) (AllStep.cons ?_ AllStep.nil)
          refine stepH_do (i := 6) rfl (by rfl) ?_
          refine wp_store_st H 27 _ _ rfl rfl rfl (by kernel_rfl) (by rfl) (by kernel_rfl) ?_
          clear H
          intro wx H
          replace HS := HS.of H
          refine ⟨HS, ?_⟩
          (try simp only [Act.put])
          refine takeAssign (i := 7) rfl rfl _ (by rfl) (by kernel_rfl) (by kernel_rfl) (by kernel_rfl) (fun _ _ _ _ h => h) (by rfl) HS ?_
          (try simp only [Act.put, List.setIfInBounds_toArray, List.set_cons_zero, List.set_cons_succ])
          refine doneH (by kernel_rfl) ?_
          go_wp2_with fail
          have l4 : (loadVar 27 ⟨g8, 0, none⟩).run Try.prog wx = .ok (.agg #[.int .i64 3, .int .i64 q, .int .i64 0, .int .i64 3, .int .i64 0, .slice A1 ms c1]) wx := H.loadRow 27 g8 row_Berth (P := Try.prog) (by kernel_rfl)
          have l5 : (loadVar 27 ⟨g9, 0, none⟩).run Try.prog wx = .ok (.agg #[.int .i64 1, .int .i64 (q + 1), .int .i64 0, .int .i64 0, .int .i64 0, .slice B1 ((ms + 1)) d1]) wx := H.loadRow 27 g9 row_Berth (P := Try.prog) (by kernel_rfl)
          exact bodyPost_ret (v := .tuple #[.agg #[.int .i64 3, .int .i64 q, .int .i64 0, .int .i64 3, .int .i64 0, .slice A1 ms c1], .agg #[.int .i64 1, .int .i64 (q + 1), .int .i64 0, .int .i64 0, .int .i64 0, .slice B1 ((ms + 1)) d1], .bool true]) (by simp [results, Try.results32, asAddr, l4, l5]) rfl (HF.out _ _ _ _ _ _ _ HFS.out hms HOK.out hc1 hd1 (H.subm _))


end Go.Proofs.Ytjgbkicnagcmdaa
