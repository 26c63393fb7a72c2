/- Berths: Make, Go, Caught, Begin, Forget, Wake. -/
import Derived.Test.YtjgbkicnagcmdaaBerP
namespace Go.Proofs.Ytjgbkicnagcmdaa
open Go.RowKit

theorem BPost.mk {w0 w : World} {I : List It} {r : BM × Int} {A : Option Addr} {n c : Nat} (hn : r.1.es.length = n) (hc : n ≤ c) (H : St w0 w (evIt A r.1.es :: I)) :
    BPost w0 I r (.returned (.tuple #[.agg (bArr r.1 A n c), .int .i64 r.2])) w := by
  subst hn
  exact ⟨A, c, rfl, hc, H⟩
/-- a block that is written no more -/
theorem St.frzB {w0 w : World} {I : List It} {g s : Nat} {t : TypeId} {cs : Array Value} (H : St w0 w (.bl g t cs :: I)) (hs : cs.size = s) : St w0 w (.rd s (some ⟨g, 0, none⟩) 1 cs.toList :: I) := by
  have hb := (H.all _ (List.mem_cons_self ..)).2
  refine ⟨H.bel, fun x hx => ?_, List.pairwise_cons.2 ⟨fun z hz _ k h1 h2 => ?_, (List.pairwise_cons.1 H.apart).2⟩⟩
  · rcases List.mem_cons.1 hx with rfl | hx
    · refine ⟨by simp [hs], fun _ => ⟨_, rfl, hb.lt, fun j u hu => ?_⟩⟩
      have hadd : (⟨g, 0, none⟩ : Addr).add j = ⟨g, j, none⟩ := by unfold Addr.add; split <;> simp_all
      rw [hadd, hb.cell, ← Array.getElem?_toList]
      exact hu
    · exact H.all x (List.mem_cons_of_mem _ hx)
  · refine (List.pairwise_cons.1 H.apart).1 z hz (.inl rfl) k ?_ h2
    simpa [It.area] using h1
/-- an event that stands in a slice of its own -/
theorem St.oneEv {w0 w : World} {I : List It} {g : Nat} {k p i b h n : Int} (H : St w0 w (.bl g 37 #[.int .i64 k, .int .i64 p, .int .i64 i, .int .i64 b, .int .i64 h, .int .i64 n] :: I)) : St w0 w (evIt (some ⟨g, 0, none⟩) [⟨k, p, i, b, h, n⟩] :: I) :=
  H.frzB (s := 6) rfl
set_option maxRecDepth 100000 in
set_option maxHeartbeats 8000000 in
theorem serving_st {w0 w : World} {I : List It} (b : BM) (A : Option Addr) (n c : Nat) (hs : b.Shape) (H : St w0 w I) :
    Calls Try.prog 45 #[.agg (bArr b A n c)] w (fun ed w' => ed = .returned (.bool (decide (b.role = 1 ∨ b.role = 2))) ∧ St w0 w' I) := by
  obtain ⟨role, ep, frm, dst, rounds, es⟩ := b
  unfold BM.Shape at hs
  unfold bArr
  dsimp only at hs ⊢
  have HR : role = 0 ∨ role = 1 ∨ role = 2 ∨ role = 3 ∨ role = 4 := by omega
  obtain ⟨v, hv⟩ : ∃ v, decide (role = 1 ∨ role = 2) = v := ⟨_, rfl⟩
  rw [hv]
  have HF := Lib.hid (show ∀ W, St w0 W I → (fun ed w' => ed = Ending.returned (.bool v) ∧ St w0 w' I) (Ending.returned (.bool v)) W from fun W h => ⟨rfl, h⟩)
  generalize (fun ed w' => ed = Ending.returned (.bool v) ∧ St w0 w' I) = POST at *
  clear hs
  rcases HR with rfl | rfl | rfl | rfl | rfl <;> subst hv
  · go_enter Try.func45, Try.ntmps45
    go_wp2_with (first
    | ((with_reducible refine here_load ?_); first | (refine wpList_load_st H rfl 46 _ rfl rfl row_Queue (by kernel_rfl) ?_) | (refine wpList_load_st H rfl 50 _ rfl rfl row_Answer (by kernel_rfl) ?_) | (refine wpList_load_st H rfl 37 _ rfl rfl row_Event (by kernel_rfl) ?_) | (refine wpList_load_st H rfl 27 _ rfl rfl row_Berth (by kernel_rfl) ?_) | (refine wpList_load1_st H rfl 3 _ rfl rfl sc_int (by rfl) ?_) | (refine wpList_load1_stG H (by rfl) 3 _ rfl rfl sc_int (by rfl) ?_) | (refine wpList_load1_st H rfl 4 _ rfl rfl sc_bool (by rfl) ?_) | (refine wpList_load1_stG H (by rfl) 4 _ rfl rfl sc_bool (by rfl) ?_) | (refine wpList_load1_st H rfl 30 _ rfl rfl sc_Errno (by rfl) ?_) | (refine wpList_load1_stG H (by rfl) 30 _ rfl rfl sc_Errno (by rfl) ?_) | (refine wpList_load1_st H rfl 25 _ rfl rfl sc_Evs (by rfl) ?_) | (refine wpList_load1_stG H (by rfl) 25 _ rfl rfl sc_Evs (by rfl) ?_))
    | ((with_reducible refine here_store ?_); first | (refine wpList_store_st H rfl 46 _ _ rfl rfl rfl (by kernel_rfl) (by rfl) (by kernel_rfl) ?_; clear H; intro wx H) | (refine wpList_store_st H rfl 50 _ _ rfl rfl rfl (by kernel_rfl) (by rfl) (by kernel_rfl) ?_; clear H; intro wx H) | (refine wpList_store_st H rfl 37 _ _ rfl rfl rfl (by kernel_rfl) (by rfl) (by kernel_rfl) ?_; clear H; intro wx H) | (refine wpList_store_st H rfl 27 _ _ rfl rfl rfl (by kernel_rfl) (by rfl) (by kernel_rfl) ?_; clear H; intro wx H) | (refine wpList_store1_st H rfl 3 _ _ rfl rfl _ rfl (by rfl) s1_int (by rfl) (by rfl) ?_; clear H; intro wx H) | (refine wpList_store1_st H rfl 4 _ _ rfl rfl _ rfl (by rfl) s1_bool (by rfl) (by rfl) ?_; clear H; intro wx H) | (refine wpList_store1_st H rfl 30 _ _ rfl rfl _ rfl (by rfl) s1_Errno (by rfl) (by rfl) ?_; clear H; intro wx H) | (refine wpList_store1_st H rfl 25 _ _ rfl rfl _ rfl (by rfl) s1_Evs (by rfl) (by rfl) ?_; clear H; intro wx H))
    | ((with_reducible refine here_alloc ?_); first | (refine wpList_alloc_st H rfl 46 rfl _ q_zero ?_; clear H; intro gq wx H) | (refine wpList_alloc_st H rfl 50 rfl _ ans_zero ?_; clear H; intro ga wx H) | (refine wpList_alloc_st H rfl 37 rfl _ ev_zero ?_; clear H; intro ge wx H) | (refine wpList_alloc_st H rfl 27 rfl _ ber_zero ?_; clear H; intro gr wx H))
    | ((with_reducible refine here_box ?_); first | (refine wpList_box_st H rfl _ _ rfl _ rfl ?_; clear H; intro gb wx H)))
    exact HF.out _ (H.subm _)
  · go_enter Try.func45, Try.ntmps45
    go_wp2_with (first
    | ((with_reducible refine here_load ?_); first | (refine wpList_load_st H rfl 46 _ rfl rfl row_Queue (by kernel_rfl) ?_) | (refine wpList_load_st H rfl 50 _ rfl rfl row_Answer (by kernel_rfl) ?_) | (refine wpList_load_st H rfl 37 _ rfl rfl row_Event (by kernel_rfl) ?_) | (refine wpList_load_st H rfl 27 _ rfl rfl row_Berth (by kernel_rfl) ?_) | (refine wpList_load1_st H rfl 3 _ rfl rfl sc_int (by rfl) ?_) | (refine wpList_load1_stG H (by rfl) 3 _ rfl rfl sc_int (by rfl) ?_) | (refine wpList_load1_st H rfl 4 _ rfl rfl sc_bool (by rfl) ?_) | (refine wpList_load1_stG H (by rfl) 4 _ rfl rfl sc_bool (by rfl) ?_) | (refine wpList_load1_st H rfl 30 _ rfl rfl sc_Errno (by rfl) ?_) | (refine wpList_load1_stG H (by rfl) 30 _ rfl rfl sc_Errno (by rfl) ?_) | (refine wpList_load1_st H rfl 25 _ rfl rfl sc_Evs (by rfl) ?_) | (refine wpList_load1_stG H (by rfl) 25 _ rfl rfl sc_Evs (by rfl) ?_))
    | ((with_reducible refine here_store ?_); first | (refine wpList_store_st H rfl 46 _ _ rfl rfl rfl (by kernel_rfl) (by rfl) (by kernel_rfl) ?_; clear H; intro wx H) | (refine wpList_store_st H rfl 50 _ _ rfl rfl rfl (by kernel_rfl) (by rfl) (by kernel_rfl) ?_; clear H; intro wx H) | (refine wpList_store_st H rfl 37 _ _ rfl rfl rfl (by kernel_rfl) (by rfl) (by kernel_rfl) ?_; clear H; intro wx H) | (refine wpList_store_st H rfl 27 _ _ rfl rfl rfl (by kernel_rfl) (by rfl) (by kernel_rfl) ?_; clear H; intro wx H) | (refine wpList_store1_st H rfl 3 _ _ rfl rfl _ rfl (by rfl) s1_int (by rfl) (by rfl) ?_; clear H; intro wx H) | (refine wpList_store1_st H rfl 4 _ _ rfl rfl _ rfl (by rfl) s1_bool (by rfl) (by rfl) ?_; clear H; intro wx H) | (refine wpList_store1_st H rfl 30 _ _ rfl rfl _ rfl (by rfl) s1_Errno (by rfl) (by rfl) ?_; clear H; intro wx H) | (refine wpList_store1_st H rfl 25 _ _ rfl rfl _ rfl (by rfl) s1_Evs (by rfl) (by rfl) ?_; clear H; intro wx H))
    | ((with_reducible refine here_alloc ?_); first | (refine wpList_alloc_st H rfl 46 rfl _ q_zero ?_; clear H; intro gq wx H) | (refine wpList_alloc_st H rfl 50 rfl _ ans_zero ?_; clear H; intro ga wx H) | (refine wpList_alloc_st H rfl 37 rfl _ ev_zero ?_; clear H; intro ge wx H) | (refine wpList_alloc_st H rfl 27 rfl _ ber_zero ?_; clear H; intro gr wx H))
    | ((with_reducible refine here_box ?_); first | (refine wpList_box_st H rfl _ _ rfl _ rfl ?_; clear H; intro gb wx H)))
    exact HF.out _ (H.subm _)
  · go_enter Try.func45, Try.ntmps45
    go_wp2_with (first
    | ((with_reducible refine here_load ?_); first | (refine wpList_load_st H rfl 46 _ rfl rfl row_Queue (by kernel_rfl) ?_) | (refine wpList_load_st H rfl 50 _ rfl rfl row_Answer (by kernel_rfl) ?_) | (refine wpList_load_st H rfl 37 _ rfl rfl row_Event (by kernel_rfl) ?_) | (refine wpList_load_st H rfl 27 _ rfl rfl row_Berth (by kernel_rfl) ?_) | (refine wpList_load1_st H rfl 3 _ rfl rfl sc_int (by rfl) ?_) | (refine wpList_load1_stG H (by rfl) 3 _ rfl rfl sc_int (by rfl) ?_) | (refine wpList_load1_st H rfl 4 _ rfl rfl sc_bool (by rfl) ?_) | (refine wpList_load1_stG H (by rfl) 4 _ rfl rfl sc_bool (by rfl) ?_) | (refine wpList_load1_st H rfl 30 _ rfl rfl sc_Errno (by rfl) ?_) | (refine wpList_load1_stG H (by rfl) 30 _ rfl rfl sc_Errno (by rfl) ?_) | (refine wpList_load1_st H rfl 25 _ rfl rfl sc_Evs (by rfl) ?_) | (refine wpList_load1_stG H (by rfl) 25 _ rfl rfl sc_Evs (by rfl) ?_))
    | ((with_reducible refine here_store ?_); first | (refine wpList_store_st H rfl 46 _ _ rfl rfl rfl (by kernel_rfl) (by rfl) (by kernel_rfl) ?_; clear H; intro wx H) | (refine wpList_store_st H rfl 50 _ _ rfl rfl rfl (by kernel_rfl) (by rfl) (by kernel_rfl) ?_; clear H; intro wx H) | (refine wpList_store_st H rfl 37 _ _ rfl rfl rfl (by kernel_rfl) (by rfl) (by kernel_rfl) ?_; clear H; intro wx H) | (refine wpList_store_st H rfl 27 _ _ rfl rfl rfl (by kernel_rfl) (by rfl) (by kernel_rfl) ?_; clear H; intro wx H) | (refine wpList_store1_st H rfl 3 _ _ rfl rfl _ rfl (by rfl) s1_int (by rfl) (by rfl) ?_; clear H; intro wx H) | (refine wpList_store1_st H rfl 4 _ _ rfl rfl _ rfl (by rfl) s1_bool (by rfl) (by rfl) ?_; clear H; intro wx H) | (refine wpList_store1_st H rfl 30 _ _ rfl rfl _ rfl (by rfl) s1_Errno (by rfl) (by rfl) ?_; clear H; intro wx H) | (refine wpList_store1_st H rfl 25 _ _ rfl rfl _ rfl (by rfl) s1_Evs (by rfl) (by rfl) ?_; clear H; intro wx H))
    | ((with_reducible refine here_alloc ?_); first | (refine wpList_alloc_st H rfl 46 rfl _ q_zero ?_; clear H; intro gq wx H) | (refine wpList_alloc_st H rfl 50 rfl _ ans_zero ?_; clear H; intro ga wx H) | (refine wpList_alloc_st H rfl 37 rfl _ ev_zero ?_; clear H; intro ge wx H) | (refine wpList_alloc_st H rfl 27 rfl _ ber_zero ?_; clear H; intro gr wx H))
    | ((with_reducible refine here_box ?_); first | (refine wpList_box_st H rfl _ _ rfl _ rfl ?_; clear H; intro gb wx H)))
    exact HF.out _ (H.subm _)
  · go_enter Try.func45, Try.ntmps45
    go_wp2_with (first
    | ((with_reducible refine here_load ?_); first | (refine wpList_load_st H rfl 46 _ rfl rfl row_Queue (by kernel_rfl) ?_) | (refine wpList_load_st H rfl 50 _ rfl rfl row_Answer (by kernel_rfl) ?_) | (refine wpList_load_st H rfl 37 _ rfl rfl row_Event (by kernel_rfl) ?_) | (refine wpList_load_st H rfl 27 _ rfl rfl row_Berth (by kernel_rfl) ?_) | (refine wpList_load1_st H rfl 3 _ rfl rfl sc_int (by rfl) ?_) | (refine wpList_load1_stG H (by rfl) 3 _ rfl rfl sc_int (by rfl) ?_) | (refine wpList_load1_st H rfl 4 _ rfl rfl sc_bool (by rfl) ?_) | (refine wpList_load1_stG H (by rfl) 4 _ rfl rfl sc_bool (by rfl) ?_) | (refine wpList_load1_st H rfl 30 _ rfl rfl sc_Errno (by rfl) ?_) | (refine wpList_load1_stG H (by rfl) 30 _ rfl rfl sc_Errno (by rfl) ?_) | (refine wpList_load1_st H rfl 25 _ rfl rfl sc_Evs (by rfl) ?_) | (refine wpList_load1_stG H (by rfl) 25 _ rfl rfl sc_Evs (by rfl) ?_))
    | ((with_reducible refine here_store ?_); first | (refine wpList_store_st H rfl 46 _ _ rfl rfl rfl (by kernel_rfl) (by rfl) (by kernel_rfl) ?_; clear H; intro wx H) | (refine wpList_store_st H rfl 50 _ _ rfl rfl rfl (by kernel_rfl) (by rfl) (by kernel_rfl) ?_; clear H; intro wx H) | (refine wpList_store_st H rfl 37 _ _ rfl rfl rfl (by kernel_rfl) (by rfl) (by kernel_rfl) ?_; clear H; intro wx H) | (refine wpList_store_st H rfl 27 _ _ rfl rfl rfl (by kernel_rfl) (by rfl) (by kernel_rfl) ?_; clear H; intro wx H) | (refine wpList_store1_st H rfl 3 _ _ rfl rfl _ rfl (by rfl) s1_int (by rfl) (by rfl) ?_; clear H; intro wx H) | (refine wpList_store1_st H rfl 4 _ _ rfl rfl _ rfl (by rfl) s1_bool (by rfl) (by rfl) ?_; clear H; intro wx H) | (refine wpList_store1_st H rfl 30 _ _ rfl rfl _ rfl (by rfl) s1_Errno (by rfl) (by rfl) ?_; clear H; intro wx H) | (refine wpList_store1_st H rfl 25 _ _ rfl rfl _ rfl (by rfl) s1_Evs (by rfl) (by rfl) ?_; clear H; intro wx H))
    | ((with_reducible refine here_alloc ?_); first | (refine wpList_alloc_st H rfl 46 rfl _ q_zero ?_; clear H; intro gq wx H) | (refine wpList_alloc_st H rfl 50 rfl _ ans_zero ?_; clear H; intro ga wx H) | (refine wpList_alloc_st H rfl 37 rfl _ ev_zero ?_; clear H; intro ge wx H) | (refine wpList_alloc_st H rfl 27 rfl _ ber_zero ?_; clear H; intro gr wx H))
    | ((with_reducible refine here_box ?_); first | (refine wpList_box_st H rfl _ _ rfl _ rfl ?_; clear H; intro gb wx H)))
    exact HF.out _ (H.subm _)
  · go_enter Try.func45, Try.ntmps45
    go_wp2_with (first
    | ((with_reducible refine here_load ?_); first | (refine wpList_load_st H rfl 46 _ rfl rfl row_Queue (by kernel_rfl) ?_) | (refine wpList_load_st H rfl 50 _ rfl rfl row_Answer (by kernel_rfl) ?_) | (refine wpList_load_st H rfl 37 _ rfl rfl row_Event (by kernel_rfl) ?_) | (refine wpList_load_st H rfl 27 _ rfl rfl row_Berth (by kernel_rfl) ?_) | (refine wpList_load1_st H rfl 3 _ rfl rfl sc_int (by rfl) ?_) | (refine wpList_load1_stG H (by rfl) 3 _ rfl rfl sc_int (by rfl) ?_) | (refine wpList_load1_st H rfl 4 _ rfl rfl sc_bool (by rfl) ?_) | (refine wpList_load1_stG H (by rfl) 4 _ rfl rfl sc_bool (by rfl) ?_) | (refine wpList_load1_st H rfl 30 _ rfl rfl sc_Errno (by rfl) ?_) | (refine wpList_load1_stG H (by rfl) 30 _ rfl rfl sc_Errno (by rfl) ?_) | (refine wpList_load1_st H rfl 25 _ rfl rfl sc_Evs (by rfl) ?_) | (refine wpList_load1_stG H (by rfl) 25 _ rfl rfl sc_Evs (by rfl) ?_))
    | ((with_reducible refine here_store ?_); first | (refine wpList_store_st H rfl 46 _ _ rfl rfl rfl (by kernel_rfl) (by rfl) (by kernel_rfl) ?_; clear H; intro wx H) | (refine wpList_store_st H rfl 50 _ _ rfl rfl rfl (by kernel_rfl) (by rfl) (by kernel_rfl) ?_; clear H; intro wx H) | (refine wpList_store_st H rfl 37 _ _ rfl rfl rfl (by kernel_rfl) (by rfl) (by kernel_rfl) ?_; clear H; intro wx H) | (refine wpList_store_st H rfl 27 _ _ rfl rfl rfl (by kernel_rfl) (by rfl) (by kernel_rfl) ?_; clear H; intro wx H) | (refine wpList_store1_st H rfl 3 _ _ rfl rfl _ rfl (by rfl) s1_int (by rfl) (by rfl) ?_; clear H; intro wx H) | (refine wpList_store1_st H rfl 4 _ _ rfl rfl _ rfl (by rfl) s1_bool (by rfl) (by rfl) ?_; clear H; intro wx H) | (refine wpList_store1_st H rfl 30 _ _ rfl rfl _ rfl (by rfl) s1_Errno (by rfl) (by rfl) ?_; clear H; intro wx H) | (refine wpList_store1_st H rfl 25 _ _ rfl rfl _ rfl (by rfl) s1_Evs (by rfl) (by rfl) ?_; clear H; intro wx H))
    | ((with_reducible refine here_alloc ?_); first | (refine wpList_alloc_st H rfl 46 rfl _ q_zero ?_; clear H; intro gq wx H) | (refine wpList_alloc_st H rfl 50 rfl _ ans_zero ?_; clear H; intro ga wx H) | (refine wpList_alloc_st H rfl 37 rfl _ ev_zero ?_; clear H; intro ge wx H) | (refine wpList_alloc_st H rfl 27 rfl _ ber_zero ?_; clear H; intro gr wx H))
    | ((with_reducible refine here_box ?_); first | (refine wpList_box_st H rfl _ _ rfl _ rfl ?_; clear H; intro gb wx H)))
    exact HF.out _ (H.subm _)

set_option maxRecDepth 100000 in
set_option maxHeartbeats 8000000 in
theorem make_st {w0 w : World} {I : List It} (b : BM) (A : Option Addr) (n c m : Nat) (ep : Int) (hl : b.es.length = n) (hb : b.Ok m) (hm : m ≤ 150) (hc : n ≤ c) (H : St w0 w I) [h : Has I (evIt A b.es)] :
    Calls Try.prog 23 #[.agg (bArr b A n c), .int .i64 ep] w (BPost w0 I (b.makeR ep)) := by
  have hn : n ≤ 150 := by have := hb.len; omega
  have HI := Lib.hid h
  have HB := Lib.hid hb
  have HL := Lib.hid hl
  have HS := hb.shape
  clear h hb hl
  have hfold : bArr b A n c = #[Value.int .i64 b.role, .int .i64 b.ep, .int .i64 b.frm, .int .i64 b.dst, .int .i64 b.rounds, .slice A n c] := rfl
  rw [hfold]
  obtain ⟨r, be, bf, bd, br, es⟩ := b
  unfold BM.Shape at HS
  dsimp only at HS HB HL HI ⊢
  by_cases h1 : ep < 1
  · skip
    have hR : BM.makeR ⟨r, be, bf, bd, br, es⟩ ep = (⟨0, 0, 0, 0, 0, []⟩, 2) := by
      (unfold BM.makeR; dsimp only; repeat (first | rw [if_pos (by omega)] | rw [if_neg (by omega)]); try rfl)
    rw [hR]
    clear hR
    have HF := Lib.hid (fun W (h2 : St w0 W I) => (BPost.mk (r := (⟨0, 0, 0, 0, 0, []⟩, 2)) (n := 0) (c := 0) (A := none) rfl (Nat.le_refl _) (h2.old (s := 6) (n := 0) (A := none) (xs := []) Reads.none_) : BPost w0 I (⟨0, 0, 0, 0, 0, []⟩, 2) (.returned (.tuple #[.agg #[.int .i64 0, .int .i64 0, .int .i64 0, .int .i64 0, .int .i64 0, .slice none 0 0], .int .i64 2])) W))
    generalize BPost w0 I (⟨0, 0, 0, 0, 0, []⟩, 2) = POST at *
    go_enter Try.func23, Try.ntmps23
    clear hfold
    skip
    go_wp2_with (first | (go_at_call 33; have h := HI.out; refine (check_st ⟨r, be, bf, bd, br, es⟩ A n c m HL.out HB.out hm hc H).mono ?_; clear H h; rintro ed wy ⟨rfl, H⟩) | (go_at_call 34; refine (node_any _ _).mono ?_; rintro ed wy ⟨rfl, rfl⟩) | (first
        | ((with_reducible refine here_load ?_); first | (refine wpList_load_st H rfl 46 _ rfl rfl row_Queue (by kernel_rfl) ?_) | (refine wpList_load_st H rfl 50 _ rfl rfl row_Answer (by kernel_rfl) ?_) | (refine wpList_load_st H rfl 37 _ rfl rfl row_Event (by kernel_rfl) ?_) | (refine wpList_load_st H rfl 27 _ rfl rfl row_Berth (by kernel_rfl) ?_) | (refine wpList_load1_st H rfl 3 _ rfl rfl sc_int (by rfl) ?_) | (refine wpList_load1_stG H (by rfl) 3 _ rfl rfl sc_int (by rfl) ?_) | (refine wpList_load1_st H rfl 4 _ rfl rfl sc_bool (by rfl) ?_) | (refine wpList_load1_stG H (by rfl) 4 _ rfl rfl sc_bool (by rfl) ?_) | (refine wpList_load1_st H rfl 30 _ rfl rfl sc_Errno (by rfl) ?_) | (refine wpList_load1_stG H (by rfl) 30 _ rfl rfl sc_Errno (by rfl) ?_) | (refine wpList_load1_st H rfl 25 _ rfl rfl sc_Evs (by rfl) ?_) | (refine wpList_load1_stG H (by rfl) 25 _ rfl rfl sc_Evs (by rfl) ?_))
        | ((with_reducible refine here_store ?_); first | (refine wpList_store_st H rfl 46 _ _ rfl rfl rfl (by kernel_rfl) (by rfl) (by kernel_rfl) ?_; clear H; intro wx H) | (refine wpList_store_st H rfl 50 _ _ rfl rfl rfl (by kernel_rfl) (by rfl) (by kernel_rfl) ?_; clear H; intro wx H) | (refine wpList_store_st H rfl 37 _ _ rfl rfl rfl (by kernel_rfl) (by rfl) (by kernel_rfl) ?_; clear H; intro wx H) | (refine wpList_store_st H rfl 27 _ _ rfl rfl rfl (by kernel_rfl) (by rfl) (by kernel_rfl) ?_; clear H; intro wx H) | (refine wpList_store1_st H rfl 3 _ _ rfl rfl _ rfl (by rfl) s1_int (by rfl) (by rfl) ?_; clear H; intro wx H) | (refine wpList_store1_st H rfl 4 _ _ rfl rfl _ rfl (by rfl) s1_bool (by rfl) (by rfl) ?_; clear H; intro wx H) | (refine wpList_store1_st H rfl 30 _ _ rfl rfl _ rfl (by rfl) s1_Errno (by rfl) (by rfl) ?_; clear H; intro wx H) | (refine wpList_store1_st H rfl 25 _ _ rfl rfl _ rfl (by rfl) s1_Evs (by rfl) (by rfl) ?_; clear H; intro wx H))
        | ((with_reducible refine here_alloc ?_); first | (refine wpList_alloc_st H rfl 46 rfl _ q_zero ?_; clear H; intro gq wx H) | (refine wpList_alloc_st H rfl 50 rfl _ ans_zero ?_; clear H; intro ga wx H) | (refine wpList_alloc_st H rfl 37 rfl _ ev_zero ?_; clear H; intro ge wx H) | (refine wpList_alloc_st H rfl 27 rfl _ ber_zero ?_; clear H; intro gr wx H))
        | ((with_reducible refine here_box ?_); first | (refine wpList_box_st H rfl _ _ rfl _ rfl ?_; clear H; intro gb wx H))))
    have l4 : (loadVar 27 ⟨gr, 0, none⟩).run Try.prog wx = .ok (.agg #[.int .i64 0, .int .i64 0, .int .i64 0, .int .i64 0, .int .i64 0, .slice none 0 0]) wx := H.loadRow 27 gr row_Berth (P := Try.prog) (by kernel_rfl)
    exact bodyPost_ret (v := .tuple #[.agg #[.int .i64 0, .int .i64 0, .int .i64 0, .int .i64 0, .int .i64 0, .slice none 0 0], .int .i64 2]) (by simp [results, Try.results23, asAddr, l4]) rfl (HF.out _ (H.subm _))
  by_cases h2 : 1048576 < ep
  · skip
    have hR : BM.makeR ⟨r, be, bf, bd, br, es⟩ ep = (⟨0, 0, 0, 0, 0, []⟩, 2) := by
      (unfold BM.makeR; dsimp only; repeat (first | rw [if_pos (by omega)] | rw [if_neg (by omega)]); try rfl)
    rw [hR]
    clear hR
    have HF := Lib.hid (fun W (h2 : St w0 W I) => (BPost.mk (r := (⟨0, 0, 0, 0, 0, []⟩, 2)) (n := 0) (c := 0) (A := none) rfl (Nat.le_refl _) (h2.old (s := 6) (n := 0) (A := none) (xs := []) Reads.none_) : BPost w0 I (⟨0, 0, 0, 0, 0, []⟩, 2) (.returned (.tuple #[.agg #[.int .i64 0, .int .i64 0, .int .i64 0, .int .i64 0, .int .i64 0, .slice none 0 0], .int .i64 2])) W))
    generalize BPost w0 I (⟨0, 0, 0, 0, 0, []⟩, 2) = POST at *
    go_enter Try.func23, Try.ntmps23
    clear hfold
    skip
    go_wp2_with (first | (go_at_call 33; have h := HI.out; refine (check_st ⟨r, be, bf, bd, br, es⟩ A n c m HL.out HB.out hm hc H).mono ?_; clear H h; rintro ed wy ⟨rfl, H⟩) | (go_at_call 34; refine (node_any _ _).mono ?_; rintro ed wy ⟨rfl, rfl⟩) | (first
        | ((with_reducible refine here_load ?_); first | (refine wpList_load_st H rfl 46 _ rfl rfl row_Queue (by kernel_rfl) ?_) | (refine wpList_load_st H rfl 50 _ rfl rfl row_Answer (by kernel_rfl) ?_) | (refine wpList_load_st H rfl 37 _ rfl rfl row_Event (by kernel_rfl) ?_) | (refine wpList_load_st H rfl 27 _ rfl rfl row_Berth (by kernel_rfl) ?_) | (refine wpList_load1_st H rfl 3 _ rfl rfl sc_int (by rfl) ?_) | (refine wpList_load1_stG H (by rfl) 3 _ rfl rfl sc_int (by rfl) ?_) | (refine wpList_load1_st H rfl 4 _ rfl rfl sc_bool (by rfl) ?_) | (refine wpList_load1_stG H (by rfl) 4 _ rfl rfl sc_bool (by rfl) ?_) | (refine wpList_load1_st H rfl 30 _ rfl rfl sc_Errno (by rfl) ?_) | (refine wpList_load1_stG H (by rfl) 30 _ rfl rfl sc_Errno (by rfl) ?_) | (refine wpList_load1_st H rfl 25 _ rfl rfl sc_Evs (by rfl) ?_) | (refine wpList_load1_stG H (by rfl) 25 _ rfl rfl sc_Evs (by rfl) ?_))
        | ((with_reducible refine here_store ?_); first | (refine wpList_store_st H rfl 46 _ _ rfl rfl rfl (by kernel_rfl) (by rfl) (by kernel_rfl) ?_; clear H; intro wx H) | (refine wpList_store_st H rfl 50 _ _ rfl rfl rfl (by kernel_rfl) (by rfl) (by kernel_rfl) ?_; clear H; intro wx H) | (refine wpList_store_st H rfl 37 _ _ rfl rfl rfl (by kernel_rfl) (by rfl) (by kernel_rfl) ?_; clear H; intro wx H) | (refine wpList_store_st H rfl 27 _ _ rfl rfl rfl (by kernel_rfl) (by rfl) (by kernel_rfl) ?_; clear H; intro wx H) | (refine wpList_store1_st H rfl 3 _ _ rfl rfl _ rfl (by rfl) s1_int (by rfl) (by rfl) ?_; clear H; intro wx H) | (refine wpList_store1_st H rfl 4 _ _ rfl rfl _ rfl (by rfl) s1_bool (by rfl) (by rfl) ?_; clear H; intro wx H) | (refine wpList_store1_st H rfl 30 _ _ rfl rfl _ rfl (by rfl) s1_Errno (by rfl) (by rfl) ?_; clear H; intro wx H) | (refine wpList_store1_st H rfl 25 _ _ rfl rfl _ rfl (by rfl) s1_Evs (by rfl) (by rfl) ?_; clear H; intro wx H))
        | ((with_reducible refine here_alloc ?_); first | (refine wpList_alloc_st H rfl 46 rfl _ q_zero ?_; clear H; intro gq wx H) | (refine wpList_alloc_st H rfl 50 rfl _ ans_zero ?_; clear H; intro ga wx H) | (refine wpList_alloc_st H rfl 37 rfl _ ev_zero ?_; clear H; intro ge wx H) | (refine wpList_alloc_st H rfl 27 rfl _ ber_zero ?_; clear H; intro gr wx H))
        | ((with_reducible refine here_box ?_); first | (refine wpList_box_st H rfl _ _ rfl _ rfl ?_; clear H; intro gb wx H))))
    have l4 : (loadVar 27 ⟨gr, 0, none⟩).run Try.prog wx = .ok (.agg #[.int .i64 0, .int .i64 0, .int .i64 0, .int .i64 0, .int .i64 0, .slice none 0 0]) wx := H.loadRow 27 gr row_Berth (P := Try.prog) (by kernel_rfl)
    exact bodyPost_ret (v := .tuple #[.agg #[.int .i64 0, .int .i64 0, .int .i64 0, .int .i64 0, .int .i64 0, .slice none 0 0], .int .i64 2]) (by simp [results, Try.results23, asAddr, l4]) rfl (HF.out _ (H.subm _))
  have HR : r = 0 ∨ r = 1 ∨ r = 2 ∨ r = 3 ∨ r = 4 := by omega
  rcases HR with rfl | rfl | rfl | rfl | rfl
  · skip
    by_cases h4 : ep ≤ be
    · skip
      have hR : BM.makeR ⟨0, be, bf, bd, br, es⟩ ep = (⟨0, 0, 0, 0, 0, []⟩, 15) := by
        (unfold BM.makeR; dsimp only; repeat (first | rw [if_pos (by omega)] | rw [if_neg (by omega)]); try rfl)
      rw [hR]
      clear hR
      have HF := Lib.hid (fun W (h2 : St w0 W I) => (BPost.mk (r := (⟨0, 0, 0, 0, 0, []⟩, 15)) (n := 0) (c := 0) (A := none) rfl (Nat.le_refl _) (h2.old (s := 6) (n := 0) (A := none) (xs := []) Reads.none_) : BPost w0 I (⟨0, 0, 0, 0, 0, []⟩, 15) (.returned (.tuple #[.agg #[.int .i64 0, .int .i64 0, .int .i64 0, .int .i64 0, .int .i64 0, .slice none 0 0], .int .i64 15])) W))
      generalize BPost w0 I (⟨0, 0, 0, 0, 0, []⟩, 15) = POST at *
      go_enter Try.func23, Try.ntmps23
      clear hfold
      skip
      go_wp2_with (first | (go_at_call 33; have h := HI.out; refine (check_st ⟨0, be, bf, bd, br, es⟩ A n c m HL.out HB.out hm hc H).mono ?_; clear H h; rintro ed wy ⟨rfl, H⟩) | (go_at_call 34; refine (node_any _ _).mono ?_; rintro ed wy ⟨rfl, rfl⟩) | (first
          | ((with_reducible refine here_load ?_); first | (refine wpList_load_st H rfl 46 _ rfl rfl row_Queue (by kernel_rfl) ?_) | (refine wpList_load_st H rfl 50 _ rfl rfl row_Answer (by kernel_rfl) ?_) | (refine wpList_load_st H rfl 37 _ rfl rfl row_Event (by kernel_rfl) ?_) | (refine wpList_load_st H rfl 27 _ rfl rfl row_Berth (by kernel_rfl) ?_) | (refine wpList_load1_st H rfl 3 _ rfl rfl sc_int (by rfl) ?_) | (refine wpList_load1_stG H (by rfl) 3 _ rfl rfl sc_int (by rfl) ?_) | (refine wpList_load1_st H rfl 4 _ rfl rfl sc_bool (by rfl) ?_) | (refine wpList_load1_stG H (by rfl) 4 _ rfl rfl sc_bool (by rfl) ?_) | (refine wpList_load1_st H rfl 30 _ rfl rfl sc_Errno (by rfl) ?_) | (refine wpList_load1_stG H (by rfl) 30 _ rfl rfl sc_Errno (by rfl) ?_) | (refine wpList_load1_st H rfl 25 _ rfl rfl sc_Evs (by rfl) ?_) | (refine wpList_load1_stG H (by rfl) 25 _ rfl rfl sc_Evs (by rfl) ?_))
          | ((with_reducible refine here_store ?_); first | (refine wpList_store_st H rfl 46 _ _ rfl rfl rfl (by kernel_rfl) (by rfl) (by kernel_rfl) ?_; clear H; intro wx H) | (refine wpList_store_st H rfl 50 _ _ rfl rfl rfl (by kernel_rfl) (by rfl) (by kernel_rfl) ?_; clear H; intro wx H) | (refine wpList_store_st H rfl 37 _ _ rfl rfl rfl (by kernel_rfl) (by rfl) (by kernel_rfl) ?_; clear H; intro wx H) | (refine wpList_store_st H rfl 27 _ _ rfl rfl rfl (by kernel_rfl) (by rfl) (by kernel_rfl) ?_; clear H; intro wx H) | (refine wpList_store1_st H rfl 3 _ _ rfl rfl _ rfl (by rfl) s1_int (by rfl) (by rfl) ?_; clear H; intro wx H) | (refine wpList_store1_st H rfl 4 _ _ rfl rfl _ rfl (by rfl) s1_bool (by rfl) (by rfl) ?_; clear H; intro wx H) | (refine wpList_store1_st H rfl 30 _ _ rfl rfl _ rfl (by rfl) s1_Errno (by rfl) (by rfl) ?_; clear H; intro wx H) | (refine wpList_store1_st H rfl 25 _ _ rfl rfl _ rfl (by rfl) s1_Evs (by rfl) (by rfl) ?_; clear H; intro wx H))
          | ((with_reducible refine here_alloc ?_); first | (refine wpList_alloc_st H rfl 46 rfl _ q_zero ?_; clear H; intro gq wx H) | (refine wpList_alloc_st H rfl 50 rfl _ ans_zero ?_; clear H; intro ga wx H) | (refine wpList_alloc_st H rfl 37 rfl _ ev_zero ?_; clear H; intro ge wx H) | (refine wpList_alloc_st H rfl 27 rfl _ ber_zero ?_; clear H; intro gr wx H))
          | ((with_reducible refine here_box ?_); first | (refine wpList_box_st H rfl _ _ rfl _ rfl ?_; clear H; intro gb wx H))))
      have l4 : (loadVar 27 ⟨gr, 0, none⟩).run Try.prog wx = .ok (.agg #[.int .i64 0, .int .i64 0, .int .i64 0, .int .i64 0, .int .i64 0, .slice none 0 0]) wx := H.loadRow 27 gr row_Berth (P := Try.prog) (by kernel_rfl)
      exact bodyPost_ret (v := .tuple #[.agg #[.int .i64 0, .int .i64 0, .int .i64 0, .int .i64 0, .int .i64 0, .slice none 0 0], .int .i64 15]) (by simp [results, Try.results23, asAddr, l4]) rfl (HF.out _ (H.subm _))
    · skip
      have hR : BM.makeR ⟨0, be, bf, bd, br, es⟩ ep = (⟨1, ep, 0, 0, 0, []⟩, 0) := by
        (unfold BM.makeR; dsimp only; repeat (first | rw [if_pos (by omega)] | rw [if_neg (by omega)]); try rfl)
      rw [hR]
      clear hR
      have HF := Lib.hid (fun W (h2 : St w0 W I) => (BPost.mk (r := (⟨1, ep, 0, 0, 0, []⟩, 0)) (n := 0) (c := 0) (A := none) rfl (Nat.le_refl _) (h2.old (s := 6) (n := 0) (A := none) (xs := []) Reads.none_) : BPost w0 I (⟨1, ep, 0, 0, 0, []⟩, 0) (.returned (.tuple #[.agg #[.int .i64 1, .int .i64 ep, .int .i64 0, .int .i64 0, .int .i64 0, .slice none 0 0], .int .i64 0])) W))
      generalize BPost w0 I (⟨1, ep, 0, 0, 0, []⟩, 0) = POST at *
      go_enter Try.func23, Try.ntmps23
      clear hfold
      skip
      go_wp2_with (first | (go_at_call 33; have h := HI.out; refine (check_st ⟨0, be, bf, bd, br, es⟩ A n c m HL.out HB.out hm hc H).mono ?_; clear H h; rintro ed wy ⟨rfl, H⟩) | (go_at_call 34; refine (node_any _ _).mono ?_; rintro ed wy ⟨rfl, rfl⟩) | (first
          | ((with_reducible refine here_load ?_); first | (refine wpList_load_st H rfl 46 _ rfl rfl row_Queue (by kernel_rfl) ?_) | (refine wpList_load_st H rfl 50 _ rfl rfl row_Answer (by kernel_rfl) ?_) | (refine wpList_load_st H rfl 37 _ rfl rfl row_Event (by kernel_rfl) ?_) | (refine wpList_load_st H rfl 27 _ rfl rfl row_Berth (by kernel_rfl) ?_) | (refine wpList_load1_st H rfl 3 _ rfl rfl sc_int (by rfl) ?_) | (refine wpList_load1_stG H (by rfl) 3 _ rfl rfl sc_int (by rfl) ?_) | (refine wpList_load1_st H rfl 4 _ rfl rfl sc_bool (by rfl) ?_) | (refine wpList_load1_stG H (by rfl) 4 _ rfl rfl sc_bool (by rfl) ?_) | (refine wpList_load1_st H rfl 30 _ rfl rfl sc_Errno (by rfl) ?_) | (refine wpList_load1_stG H (by rfl) 30 _ rfl rfl sc_Errno (by rfl) ?_) | (refine wpList_load1_st H rfl 25 _ rfl rfl sc_Evs (by rfl) ?_) | (refine wpList_load1_stG H (by rfl) 25 _ rfl rfl sc_Evs (by rfl) ?_))
          | ((with_reducible refine here_store ?_); first | (refine wpList_store_st H rfl 46 _ _ rfl rfl rfl (by kernel_rfl) (by rfl) (by kernel_rfl) ?_; clear H; intro wx H) | (refine wpList_store_st H rfl 50 _ _ rfl rfl rfl (by kernel_rfl) (by rfl) (by kernel_rfl) ?_; clear H; intro wx H) | (refine wpList_store_st H rfl 37 _ _ rfl rfl rfl (by kernel_rfl) (by rfl) (by kernel_rfl) ?_; clear H; intro wx H) | (refine wpList_store_st H rfl 27 _ _ rfl rfl rfl (by kernel_rfl) (by rfl) (by kernel_rfl) ?_; clear H; intro wx H) | (refine wpList_store1_st H rfl 3 _ _ rfl rfl _ rfl (by rfl) s1_int (by rfl) (by rfl) ?_; clear H; intro wx H) | (refine wpList_store1_st H rfl 4 _ _ rfl rfl _ rfl (by rfl) s1_bool (by rfl) (by rfl) ?_; clear H; intro wx H) | (refine wpList_store1_st H rfl 30 _ _ rfl rfl _ rfl (by rfl) s1_Errno (by rfl) (by rfl) ?_; clear H; intro wx H) | (refine wpList_store1_st H rfl 25 _ _ rfl rfl _ rfl (by rfl) s1_Evs (by rfl) (by rfl) ?_; clear H; intro wx H))
          | ((with_reducible refine here_alloc ?_); first | (refine wpList_alloc_st H rfl 46 rfl _ q_zero ?_; clear H; intro gq wx H) | (refine wpList_alloc_st H rfl 50 rfl _ ans_zero ?_; clear H; intro ga wx H) | (refine wpList_alloc_st H rfl 37 rfl _ ev_zero ?_; clear H; intro ge wx H) | (refine wpList_alloc_st H rfl 27 rfl _ ber_zero ?_; clear H; intro gr wx H))
          | ((with_reducible refine here_box ?_); first | (refine wpList_box_st H rfl _ _ rfl _ rfl ?_; clear H; intro gb wx H))))
      have l4 : (loadVar 27 ⟨gr, 0, none⟩).run Try.prog wx = .ok (.agg #[.int .i64 1, .int .i64 ep, .int .i64 0, .int .i64 0, .int .i64 0, .slice none 0 0]) wx := H.loadRow 27 gr row_Berth (P := Try.prog) (by kernel_rfl)
      exact bodyPost_ret (v := .tuple #[.agg #[.int .i64 1, .int .i64 ep, .int .i64 0, .int .i64 0, .int .i64 0, .slice none 0 0], .int .i64 0]) (by simp [results, Try.results23, asAddr, l4]) rfl (HF.out _ (H.subm _))
  · skip
    have hR : BM.makeR ⟨1, be, bf, bd, br, es⟩ ep = (⟨0, 0, 0, 0, 0, []⟩, 8) := by
      (unfold BM.makeR; dsimp only; repeat (first | rw [if_pos (by omega)] | rw [if_neg (by omega)]); try rfl)
    rw [hR]
    clear hR
    have HF := Lib.hid (fun W (h2 : St w0 W I) => (BPost.mk (r := (⟨0, 0, 0, 0, 0, []⟩, 8)) (n := 0) (c := 0) (A := none) rfl (Nat.le_refl _) (h2.old (s := 6) (n := 0) (A := none) (xs := []) Reads.none_) : BPost w0 I (⟨0, 0, 0, 0, 0, []⟩, 8) (.returned (.tuple #[.agg #[.int .i64 0, .int .i64 0, .int .i64 0, .int .i64 0, .int .i64 0, .slice none 0 0], .int .i64 8])) W))
    generalize BPost w0 I (⟨0, 0, 0, 0, 0, []⟩, 8) = POST at *
    go_enter Try.func23, Try.ntmps23
    clear hfold
    skip
    go_wp2_with (first | (go_at_call 33; have h := HI.out; refine (check_st ⟨1, be, bf, bd, br, es⟩ A n c m HL.out HB.out hm hc H).mono ?_; clear H h; rintro ed wy ⟨rfl, H⟩) | (go_at_call 34; refine (node_any _ _).mono ?_; rintro ed wy ⟨rfl, rfl⟩) | (first
        | ((with_reducible refine here_load ?_); first | (refine wpList_load_st H rfl 46 _ rfl rfl row_Queue (by kernel_rfl) ?_) | (refine wpList_load_st H rfl 50 _ rfl rfl row_Answer (by kernel_rfl) ?_) | (refine wpList_load_st H rfl 37 _ rfl rfl row_Event (by kernel_rfl) ?_) | (refine wpList_load_st H rfl 27 _ rfl rfl row_Berth (by kernel_rfl) ?_) | (refine wpList_load1_st H rfl 3 _ rfl rfl sc_int (by rfl) ?_) | (refine wpList_load1_stG H (by rfl) 3 _ rfl rfl sc_int (by rfl) ?_) | (refine wpList_load1_st H rfl 4 _ rfl rfl sc_bool (by rfl) ?_) | (refine wpList_load1_stG H (by rfl) 4 _ rfl rfl sc_bool (by rfl) ?_) | (refine wpList_load1_st H rfl 30 _ rfl rfl sc_Errno (by rfl) ?_) | (refine wpList_load1_stG H (by rfl) 30 _ rfl rfl sc_Errno (by rfl) ?_) | (refine wpList_load1_st H rfl 25 _ rfl rfl sc_Evs (by rfl) ?_) | (refine wpList_load1_stG H (by rfl) 25 _ rfl rfl sc_Evs (by rfl) ?_))
        | ((with_reducible refine here_store ?_); first | (refine wpList_store_st H rfl 46 _ _ rfl rfl rfl (by kernel_rfl) (by rfl) (by kernel_rfl) ?_; clear H; intro wx H) | (refine wpList_store_st H rfl 50 _ _ rfl rfl rfl (by kernel_rfl) (by rfl) (by kernel_rfl) ?_; clear H; intro wx H) | (refine wpList_store_st H rfl 37 _ _ rfl rfl rfl (by kernel_rfl) (by rfl) (by kernel_rfl) ?_; clear H; intro wx H) | (refine wpList_store_st H rfl 27 _ _ rfl rfl rfl (by kernel_rfl) (by rfl) (by kernel_rfl) ?_; clear H; intro wx H) | (refine wpList_store1_st H rfl 3 _ _ rfl rfl _ rfl (by rfl) s1_int (by rfl) (by rfl) ?_; clear H; intro wx H) | (refine wpList_store1_st H rfl 4 _ _ rfl rfl _ rfl (by rfl) s1_bool (by rfl) (by rfl) ?_; clear H; intro wx H) | (refine wpList_store1_st H rfl 30 _ _ rfl rfl _ rfl (by rfl) s1_Errno (by rfl) (by rfl) ?_; clear H; intro wx H) | (refine wpList_store1_st H rfl 25 _ _ rfl rfl _ rfl (by rfl) s1_Evs (by rfl) (by rfl) ?_; clear H; intro wx H))
        | ((with_reducible refine here_alloc ?_); first | (refine wpList_alloc_st H rfl 46 rfl _ q_zero ?_; clear H; intro gq wx H) | (refine wpList_alloc_st H rfl 50 rfl _ ans_zero ?_; clear H; intro ga wx H) | (refine wpList_alloc_st H rfl 37 rfl _ ev_zero ?_; clear H; intro ge wx H) | (refine wpList_alloc_st H rfl 27 rfl _ ber_zero ?_; clear H; intro gr wx H))
        | ((with_reducible refine here_box ?_); first | (refine wpList_box_st H rfl _ _ rfl _ rfl ?_; clear H; intro gb wx H))))
    have l4 : (loadVar 27 ⟨gr, 0, none⟩).run Try.prog wx = .ok (.agg #[.int .i64 0, .int .i64 0, .int .i64 0, .int .i64 0, .int .i64 0, .slice none 0 0]) wx := H.loadRow 27 gr row_Berth (P := Try.prog) (by kernel_rfl)
    exact bodyPost_ret (v := .tuple #[.agg #[.int .i64 0, .int .i64 0, .int .i64 0, .int .i64 0, .int .i64 0, .slice none 0 0], .int .i64 8]) (by simp [results, Try.results23, asAddr, l4]) rfl (HF.out _ (H.subm _))
  · skip
    have hR : BM.makeR ⟨2, be, bf, bd, br, es⟩ ep = (⟨0, 0, 0, 0, 0, []⟩, 8) := by
      (unfold BM.makeR; dsimp only; repeat (first | rw [if_pos (by omega)] | rw [if_neg (by omega)]); try rfl)
    rw [hR]
    clear hR
    have HF := Lib.hid (fun W (h2 : St w0 W I) => (BPost.mk (r := (⟨0, 0, 0, 0, 0, []⟩, 8)) (n := 0) (c := 0) (A := none) rfl (Nat.le_refl _) (h2.old (s := 6) (n := 0) (A := none) (xs := []) Reads.none_) : BPost w0 I (⟨0, 0, 0, 0, 0, []⟩, 8) (.returned (.tuple #[.agg #[.int .i64 0, .int .i64 0, .int .i64 0, .int .i64 0, .int .i64 0, .slice none 0 0], .int .i64 8])) W))
    generalize BPost w0 I (⟨0, 0, 0, 0, 0, []⟩, 8) = POST at *
    go_enter Try.func23, Try.ntmps23
    clear hfold
    skip
    go_wp2_with (first | (go_at_call 33; have h := HI.out; refine (check_st ⟨2, be, bf, bd, br, es⟩ A n c m HL.out HB.out hm hc H).mono ?_; clear H h; rintro ed wy ⟨rfl, H⟩) | (go_at_call 34; refine (node_any _ _).mono ?_; rintro ed wy ⟨rfl, rfl⟩) | (first
        | ((with_reducible refine here_load ?_); first | (refine wpList_load_st H rfl 46 _ rfl rfl row_Queue (by kernel_rfl) ?_) | (refine wpList_load_st H rfl 50 _ rfl rfl row_Answer (by kernel_rfl) ?_) | (refine wpList_load_st H rfl 37 _ rfl rfl row_Event (by kernel_rfl) ?_) | (refine wpList_load_st H rfl 27 _ rfl rfl row_Berth (by kernel_rfl) ?_) | (refine wpList_load1_st H rfl 3 _ rfl rfl sc_int (by rfl) ?_) | (refine wpList_load1_stG H (by rfl) 3 _ rfl rfl sc_int (by rfl) ?_) | (refine wpList_load1_st H rfl 4 _ rfl rfl sc_bool (by rfl) ?_) | (refine wpList_load1_stG H (by rfl) 4 _ rfl rfl sc_bool (by rfl) ?_) | (refine wpList_load1_st H rfl 30 _ rfl rfl sc_Errno (by rfl) ?_) | (refine wpList_load1_stG H (by rfl) 30 _ rfl rfl sc_Errno (by rfl) ?_) | (refine wpList_load1_st H rfl 25 _ rfl rfl sc_Evs (by rfl) ?_) | (refine wpList_load1_stG H (by rfl) 25 _ rfl rfl sc_Evs (by rfl) ?_))
        | ((with_reducible refine here_store ?_); first | (refine wpList_store_st H rfl 46 _ _ rfl rfl rfl (by kernel_rfl) (by rfl) (by kernel_rfl) ?_; clear H; intro wx H) | (refine wpList_store_st H rfl 50 _ _ rfl rfl rfl (by kernel_rfl) (by rfl) (by kernel_rfl) ?_; clear H; intro wx H) | (refine wpList_store_st H rfl 37 _ _ rfl rfl rfl (by kernel_rfl) (by rfl) (by kernel_rfl) ?_; clear H; intro wx H) | (refine wpList_store_st H rfl 27 _ _ rfl rfl rfl (by kernel_rfl) (by rfl) (by kernel_rfl) ?_; clear H; intro wx H) | (refine wpList_store1_st H rfl 3 _ _ rfl rfl _ rfl (by rfl) s1_int (by rfl) (by rfl) ?_; clear H; intro wx H) | (refine wpList_store1_st H rfl 4 _ _ rfl rfl _ rfl (by rfl) s1_bool (by rfl) (by rfl) ?_; clear H; intro wx H) | (refine wpList_store1_st H rfl 30 _ _ rfl rfl _ rfl (by rfl) s1_Errno (by rfl) (by rfl) ?_; clear H; intro wx H) | (refine wpList_store1_st H rfl 25 _ _ rfl rfl _ rfl (by rfl) s1_Evs (by rfl) (by rfl) ?_; clear H; intro wx H))
        | ((with_reducible refine here_alloc ?_); first | (refine wpList_alloc_st H rfl 46 rfl _ q_zero ?_; clear H; intro gq wx H) | (refine wpList_alloc_st H rfl 50 rfl _ ans_zero ?_; clear H; intro ga wx H) | (refine wpList_alloc_st H rfl 37 rfl _ ev_zero ?_; clear H; intro ge wx H) | (refine wpList_alloc_st H rfl 27 rfl _ ber_zero ?_; clear H; intro gr wx H))
        | ((with_reducible refine here_box ?_); first | (refine wpList_box_st H rfl _ _ rfl _ rfl ?_; clear H; intro gb wx H))))
    have l4 : (loadVar 27 ⟨gr, 0, none⟩).run Try.prog wx = .ok (.agg #[.int .i64 0, .int .i64 0, .int .i64 0, .int .i64 0, .int .i64 0, .slice none 0 0]) wx := H.loadRow 27 gr row_Berth (P := Try.prog) (by kernel_rfl)
    exact bodyPost_ret (v := .tuple #[.agg #[.int .i64 0, .int .i64 0, .int .i64 0, .int .i64 0, .int .i64 0, .slice none 0 0], .int .i64 8]) (by simp [results, Try.results23, asAddr, l4]) rfl (HF.out _ (H.subm _))
  · skip
    have hR : BM.makeR ⟨3, be, bf, bd, br, es⟩ ep = (⟨0, 0, 0, 0, 0, []⟩, 8) := by
      (unfold BM.makeR; dsimp only; repeat (first | rw [if_pos (by omega)] | rw [if_neg (by omega)]); try rfl)
    rw [hR]
    clear hR
    have HF := Lib.hid (fun W (h2 : St w0 W I) => (BPost.mk (r := (⟨0, 0, 0, 0, 0, []⟩, 8)) (n := 0) (c := 0) (A := none) rfl (Nat.le_refl _) (h2.old (s := 6) (n := 0) (A := none) (xs := []) Reads.none_) : BPost w0 I (⟨0, 0, 0, 0, 0, []⟩, 8) (.returned (.tuple #[.agg #[.int .i64 0, .int .i64 0, .int .i64 0, .int .i64 0, .int .i64 0, .slice none 0 0], .int .i64 8])) W))
    generalize BPost w0 I (⟨0, 0, 0, 0, 0, []⟩, 8) = POST at *
    go_enter Try.func23, Try.ntmps23
    clear hfold
    skip
    go_wp2_with (first | (go_at_call 33; have h := HI.out; refine (check_st ⟨3, be, bf, bd, br, es⟩ A n c m HL.out HB.out hm hc H).mono ?_; clear H h; rintro ed wy ⟨rfl, H⟩) | (go_at_call 34; refine (node_any _ _).mono ?_; rintro ed wy ⟨rfl, rfl⟩) | (first
        | ((with_reducible refine here_load ?_); first | (refine wpList_load_st H rfl 46 _ rfl rfl row_Queue (by kernel_rfl) ?_) | (refine wpList_load_st H rfl 50 _ rfl rfl row_Answer (by kernel_rfl) ?_) | (refine wpList_load_st H rfl 37 _ rfl rfl row_Event (by kernel_rfl) ?_) | (refine wpList_load_st H rfl 27 _ rfl rfl row_Berth (by kernel_rfl) ?_) | (refine wpList_load1_st H rfl 3 _ rfl rfl sc_int (by rfl) ?_) | (refine wpList_load1_stG H (by rfl) 3 _ rfl rfl sc_int (by rfl) ?_) | (refine wpList_load1_st H rfl 4 _ rfl rfl sc_bool (by rfl) ?_) | (refine wpList_load1_stG H (by rfl) 4 _ rfl rfl sc_bool (by rfl) ?_) | (refine wpList_load1_st H rfl 30 _ rfl rfl sc_Errno (by rfl) ?_) | (refine wpList_load1_stG H (by rfl) 30 _ rfl rfl sc_Errno (by rfl) ?_) | (refine wpList_load1_st H rfl 25 _ rfl rfl sc_Evs (by rfl) ?_) | (refine wpList_load1_stG H (by rfl) 25 _ rfl rfl sc_Evs (by rfl) ?_))
        | ((with_reducible refine here_store ?_); first | (refine wpList_store_st H rfl 46 _ _ rfl rfl rfl (by kernel_rfl) (by rfl) (by kernel_rfl) ?_; clear H; intro wx H) | (refine wpList_store_st H rfl 50 _ _ rfl rfl rfl (by kernel_rfl) (by rfl) (by kernel_rfl) ?_; clear H; intro wx H) | (refine wpList_store_st H rfl 37 _ _ rfl rfl rfl (by kernel_rfl) (by rfl) (by kernel_rfl) ?_; clear H; intro wx H) | (refine wpList_store_st H rfl 27 _ _ rfl rfl rfl (by kernel_rfl) (by rfl) (by kernel_rfl) ?_; clear H; intro wx H) | (refine wpList_store1_st H rfl 3 _ _ rfl rfl _ rfl (by rfl) s1_int (by rfl) (by rfl) ?_; clear H; intro wx H) | (refine wpList_store1_st H rfl 4 _ _ rfl rfl _ rfl (by rfl) s1_bool (by rfl) (by rfl) ?_; clear H; intro wx H) | (refine wpList_store1_st H rfl 30 _ _ rfl rfl _ rfl (by rfl) s1_Errno (by rfl) (by rfl) ?_; clear H; intro wx H) | (refine wpList_store1_st H rfl 25 _ _ rfl rfl _ rfl (by rfl) s1_Evs (by rfl) (by rfl) ?_; clear H; intro wx H))
        | ((with_reducible refine here_alloc ?_); first | (refine wpList_alloc_st H rfl 46 rfl _ q_zero ?_; clear H; intro gq wx H) | (refine wpList_alloc_st H rfl 50 rfl _ ans_zero ?_; clear H; intro ga wx H) | (refine wpList_alloc_st H rfl 37 rfl _ ev_zero ?_; clear H; intro ge wx H) | (refine wpList_alloc_st H rfl 27 rfl _ ber_zero ?_; clear H; intro gr wx H))
        | ((with_reducible refine here_box ?_); first | (refine wpList_box_st H rfl _ _ rfl _ rfl ?_; clear H; intro gb wx H))))
    have l4 : (loadVar 27 ⟨gr, 0, none⟩).run Try.prog wx = .ok (.agg #[.int .i64 0, .int .i64 0, .int .i64 0, .int .i64 0, .int .i64 0, .slice none 0 0]) wx := H.loadRow 27 gr row_Berth (P := Try.prog) (by kernel_rfl)
    exact bodyPost_ret (v := .tuple #[.agg #[.int .i64 0, .int .i64 0, .int .i64 0, .int .i64 0, .int .i64 0, .slice none 0 0], .int .i64 8]) (by simp [results, Try.results23, asAddr, l4]) rfl (HF.out _ (H.subm _))
  · skip
    have hR : BM.makeR ⟨4, be, bf, bd, br, es⟩ ep = (⟨0, 0, 0, 0, 0, []⟩, 8) := by
      (unfold BM.makeR; dsimp only; repeat (first | rw [if_pos (by omega)] | rw [if_neg (by omega)]); try rfl)
    rw [hR]
    clear hR
    have HF := Lib.hid (fun W (h2 : St w0 W I) => (BPost.mk (r := (⟨0, 0, 0, 0, 0, []⟩, 8)) (n := 0) (c := 0) (A := none) rfl (Nat.le_refl _) (h2.old (s := 6) (n := 0) (A := none) (xs := []) Reads.none_) : BPost w0 I (⟨0, 0, 0, 0, 0, []⟩, 8) (.returned (.tuple #[.agg #[.int .i64 0, .int .i64 0, .int .i64 0, .int .i64 0, .int .i64 0, .slice none 0 0], .int .i64 8])) W))
    generalize BPost w0 I (⟨0, 0, 0, 0, 0, []⟩, 8) = POST at *
    go_enter Try.func23, Try.ntmps23
    clear hfold
    skip
    go_wp2_with (first | (go_at_call 33; have h := HI.out; refine (check_st ⟨4, be, bf, bd, br, es⟩ A n c m HL.out HB.out hm hc H).mono ?_; clear H h; rintro ed wy ⟨rfl, H⟩) | (go_at_call 34; refine (node_any _ _).mono ?_; rintro ed wy ⟨rfl, rfl⟩) | (first
        | ((with_reducible refine here_load ?_); first | (refine wpList_load_st H rfl 46 _ rfl rfl row_Queue (by kernel_rfl) ?_) | (refine wpList_load_st H rfl 50 _ rfl rfl row_Answer (by kernel_rfl) ?_) | (refine wpList_load_st H rfl 37 _ rfl rfl row_Event (by kernel_rfl) ?_) | (refine wpList_load_st H rfl 27 _ rfl rfl row_Berth (by kernel_rfl) ?_) | (refine wpList_load1_st H rfl 3 _ rfl rfl sc_int (by rfl) ?_) | (refine wpList_load1_stG H (by rfl) 3 _ rfl rfl sc_int (by rfl) ?_) | (refine wpList_load1_st H rfl 4 _ rfl rfl sc_bool (by rfl) ?_) | (refine wpList_load1_stG H (by rfl) 4 _ rfl rfl sc_bool (by rfl) ?_) | (refine wpList_load1_st H rfl 30 _ rfl rfl sc_Errno (by rfl) ?_) | (refine wpList_load1_stG H (by rfl) 30 _ rfl rfl sc_Errno (by rfl) ?_) | (refine wpList_load1_st H rfl 25 _ rfl rfl sc_Evs (by rfl) ?_) | (refine wpList_load1_stG H (by rfl) 25 _ rfl rfl sc_Evs (by rfl) ?_))
        | ((with_reducible refine here_store ?_); first | (refine wpList_store_st H rfl 46 _ _ rfl rfl rfl (by kernel_rfl) (by rfl) (by kernel_rfl) ?_; clear H; intro wx H) | (refine wpList_store_st H rfl 50 _ _ rfl rfl rfl (by kernel_rfl) (by rfl) (by kernel_rfl) ?_; clear H; intro wx H) | (refine wpList_store_st H rfl 37 _ _ rfl rfl rfl (by kernel_rfl) (by rfl) (by kernel_rfl) ?_; clear H; intro wx H) | (refine wpList_store_st H rfl 27 _ _ rfl rfl rfl (by kernel_rfl) (by rfl) (by kernel_rfl) ?_; clear H; intro wx H) | (refine wpList_store1_st H rfl 3 _ _ rfl rfl _ rfl (by rfl) s1_int (by rfl) (by rfl) ?_; clear H; intro wx H) | (refine wpList_store1_st H rfl 4 _ _ rfl rfl _ rfl (by rfl) s1_bool (by rfl) (by rfl) ?_; clear H; intro wx H) | (refine wpList_store1_st H rfl 30 _ _ rfl rfl _ rfl (by rfl) s1_Errno (by rfl) (by rfl) ?_; clear H; intro wx H) | (refine wpList_store1_st H rfl 25 _ _ rfl rfl _ rfl (by rfl) s1_Evs (by rfl) (by rfl) ?_; clear H; intro wx H))
        | ((with_reducible refine here_alloc ?_); first | (refine wpList_alloc_st H rfl 46 rfl _ q_zero ?_; clear H; intro gq wx H) | (refine wpList_alloc_st H rfl 50 rfl _ ans_zero ?_; clear H; intro ga wx H) | (refine wpList_alloc_st H rfl 37 rfl _ ev_zero ?_; clear H; intro ge wx H) | (refine wpList_alloc_st H rfl 27 rfl _ ber_zero ?_; clear H; intro gr wx H))
        | ((with_reducible refine here_box ?_); first | (refine wpList_box_st H rfl _ _ rfl _ rfl ?_; clear H; intro gb wx H))))
    have l4 : (loadVar 27 ⟨gr, 0, none⟩).run Try.prog wx = .ok (.agg #[.int .i64 0, .int .i64 0, .int .i64 0, .int .i64 0, .int .i64 0, .slice none 0 0]) wx := H.loadRow 27 gr row_Berth (P := Try.prog) (by kernel_rfl)
    exact bodyPost_ret (v := .tuple #[.agg #[.int .i64 0, .int .i64 0, .int .i64 0, .int .i64 0, .int .i64 0, .slice none 0 0], .int .i64 8]) (by simp [results, Try.results23, asAddr, l4]) rfl (HF.out _ (H.subm _))
set_option maxRecDepth 100000 in
set_option maxHeartbeats 8000000 in
theorem go_st {w0 w : World} {I : List It} (b : BM) (A : Option Addr) (n c m : Nat) (dst : Int) (hl : b.es.length = n) (hb : b.Ok m) (hm : m ≤ 150) (hc : n ≤ c) (H : St w0 w I) [h : Has I (evIt A b.es)] :
    Calls Try.prog 16 #[.agg (bArr b A n c), .int .i64 dst] w (BPost w0 I (b.goR dst)) := by
  have hn : n ≤ 150 := by have := hb.len; omega
  have HI := Lib.hid h
  have HB := Lib.hid hb
  have HL := Lib.hid hl
  have HS := hb.shape
  clear h hb hl
  have hfold : bArr b A n c = #[Value.int .i64 b.role, .int .i64 b.ep, .int .i64 b.frm, .int .i64 b.dst, .int .i64 b.rounds, .slice A n c] := rfl
  rw [hfold]
  obtain ⟨r, be, bf, bd, br, es⟩ := b
  unfold BM.Shape at HS
  dsimp only at HS HB HL HI ⊢
  by_cases h1 : 0 ≤ dst ∧ dst < 5
  · have h2 := decide_eq_true h1
    have HR : r = 0 ∨ r = 1 ∨ r = 2 ∨ r = 3 ∨ r = 4 := by omega
    rcases HR with rfl | rfl | rfl | rfl | rfl
    · skip
      have hR : BM.goR ⟨0, be, bf, bd, br, es⟩ dst = (⟨0, 0, 0, 0, 0, []⟩, 7) := by
        (unfold BM.goR; dsimp only; repeat (first | rw [if_pos (by omega)] | rw [if_neg (by omega)]); try rfl)
      rw [hR]
      clear hR
      have HF := Lib.hid (fun W (h2 : St w0 W I) => (BPost.mk (r := (⟨0, 0, 0, 0, 0, []⟩, 7)) (n := 0) (c := 0) (A := none) rfl (Nat.le_refl _) (h2.old (s := 6) (n := 0) (A := none) (xs := []) Reads.none_) : BPost w0 I (⟨0, 0, 0, 0, 0, []⟩, 7) (.returned (.tuple #[.agg #[.int .i64 0, .int .i64 0, .int .i64 0, .int .i64 0, .int .i64 0, .slice none 0 0], .int .i64 7])) W))
      generalize BPost w0 I (⟨0, 0, 0, 0, 0, []⟩, 7) = POST at *
      go_enter Try.func16, Try.ntmps16
      clear hfold
      skip
      go_wp2_with (first | (go_at_call 33; have h := HI.out; refine (check_st ⟨0, be, bf, bd, br, es⟩ A n c m HL.out HB.out hm hc H).mono ?_; clear H h; rintro ed wy ⟨rfl, H⟩) | (go_at_call 34; refine (node_any _ _).mono ?_; rintro ed wy ⟨rfl, rfl⟩) | (first
          | ((with_reducible refine here_load ?_); first | (refine wpList_load_st H rfl 46 _ rfl rfl row_Queue (by kernel_rfl) ?_) | (refine wpList_load_st H rfl 50 _ rfl rfl row_Answer (by kernel_rfl) ?_) | (refine wpList_load_st H rfl 37 _ rfl rfl row_Event (by kernel_rfl) ?_) | (refine wpList_load_st H rfl 27 _ rfl rfl row_Berth (by kernel_rfl) ?_) | (refine wpList_load1_st H rfl 3 _ rfl rfl sc_int (by rfl) ?_) | (refine wpList_load1_stG H (by rfl) 3 _ rfl rfl sc_int (by rfl) ?_) | (refine wpList_load1_st H rfl 4 _ rfl rfl sc_bool (by rfl) ?_) | (refine wpList_load1_stG H (by rfl) 4 _ rfl rfl sc_bool (by rfl) ?_) | (refine wpList_load1_st H rfl 30 _ rfl rfl sc_Errno (by rfl) ?_) | (refine wpList_load1_stG H (by rfl) 30 _ rfl rfl sc_Errno (by rfl) ?_) | (refine wpList_load1_st H rfl 25 _ rfl rfl sc_Evs (by rfl) ?_) | (refine wpList_load1_stG H (by rfl) 25 _ rfl rfl sc_Evs (by rfl) ?_))
          | ((with_reducible refine here_store ?_); first | (refine wpList_store_st H rfl 46 _ _ rfl rfl rfl (by kernel_rfl) (by rfl) (by kernel_rfl) ?_; clear H; intro wx H) | (refine wpList_store_st H rfl 50 _ _ rfl rfl rfl (by kernel_rfl) (by rfl) (by kernel_rfl) ?_; clear H; intro wx H) | (refine wpList_store_st H rfl 37 _ _ rfl rfl rfl (by kernel_rfl) (by rfl) (by kernel_rfl) ?_; clear H; intro wx H) | (refine wpList_store_st H rfl 27 _ _ rfl rfl rfl (by kernel_rfl) (by rfl) (by kernel_rfl) ?_; clear H; intro wx H) | (refine wpList_store1_st H rfl 3 _ _ rfl rfl _ rfl (by rfl) s1_int (by rfl) (by rfl) ?_; clear H; intro wx H) | (refine wpList_store1_st H rfl 4 _ _ rfl rfl _ rfl (by rfl) s1_bool (by rfl) (by rfl) ?_; clear H; intro wx H) | (refine wpList_store1_st H rfl 30 _ _ rfl rfl _ rfl (by rfl) s1_Errno (by rfl) (by rfl) ?_; clear H; intro wx H) | (refine wpList_store1_st H rfl 25 _ _ rfl rfl _ rfl (by rfl) s1_Evs (by rfl) (by rfl) ?_; clear H; intro wx H))
          | ((with_reducible refine here_alloc ?_); first | (refine wpList_alloc_st H rfl 46 rfl _ q_zero ?_; clear H; intro gq wx H) | (refine wpList_alloc_st H rfl 50 rfl _ ans_zero ?_; clear H; intro ga wx H) | (refine wpList_alloc_st H rfl 37 rfl _ ev_zero ?_; clear H; intro ge wx H) | (refine wpList_alloc_st H rfl 27 rfl _ ber_zero ?_; clear H; intro gr wx H))
          | ((with_reducible refine here_box ?_); first | (refine wpList_box_st H rfl _ _ rfl _ rfl ?_; clear H; intro gb wx H))))
      have l4 : (loadVar 27 ⟨gr, 0, none⟩).run Try.prog wx = .ok (.agg #[.int .i64 0, .int .i64 0, .int .i64 0, .int .i64 0, .int .i64 0, .slice none 0 0]) wx := H.loadRow 27 gr row_Berth (P := Try.prog) (by kernel_rfl)
      exact bodyPost_ret (v := .tuple #[.agg #[.int .i64 0, .int .i64 0, .int .i64 0, .int .i64 0, .int .i64 0, .slice none 0 0], .int .i64 7]) (by simp [results, Try.results16, asAddr, l4]) rfl (HF.out _ (H.subm _))
    · skip
      by_cases h3 : be = 1048576
      · subst h3
        have hR : BM.goR ⟨1, 1048576, bf, bd, br, es⟩ dst = (⟨0, 0, 0, 0, 0, []⟩, 14) := by
          (unfold BM.goR; dsimp only; repeat (first | rw [if_pos (by omega)] | rw [if_neg (by omega)]); try rfl)
        rw [hR]
        clear hR
        have HF := Lib.hid (fun W (h2 : St w0 W I) => (BPost.mk (r := (⟨0, 0, 0, 0, 0, []⟩, 14)) (n := 0) (c := 0) (A := none) rfl (Nat.le_refl _) (h2.old (s := 6) (n := 0) (A := none) (xs := []) Reads.none_) : BPost w0 I (⟨0, 0, 0, 0, 0, []⟩, 14) (.returned (.tuple #[.agg #[.int .i64 0, .int .i64 0, .int .i64 0, .int .i64 0, .int .i64 0, .slice none 0 0], .int .i64 14])) W))
        generalize BPost w0 I (⟨0, 0, 0, 0, 0, []⟩, 14) = POST at *
        go_enter Try.func16, Try.ntmps16
        clear hfold
        skip
        go_wp2_with (first | (go_at_call 33; have h := HI.out; refine (check_st ⟨1, 1048576, bf, bd, br, es⟩ A n c m HL.out HB.out hm hc H).mono ?_; clear H h; rintro ed wy ⟨rfl, H⟩) | (go_at_call 34; refine (node_any _ _).mono ?_; rintro ed wy ⟨rfl, rfl⟩) | (first
            | ((with_reducible refine here_load ?_); first | (refine wpList_load_st H rfl 46 _ rfl rfl row_Queue (by kernel_rfl) ?_) | (refine wpList_load_st H rfl 50 _ rfl rfl row_Answer (by kernel_rfl) ?_) | (refine wpList_load_st H rfl 37 _ rfl rfl row_Event (by kernel_rfl) ?_) | (refine wpList_load_st H rfl 27 _ rfl rfl row_Berth (by kernel_rfl) ?_) | (refine wpList_load1_st H rfl 3 _ rfl rfl sc_int (by rfl) ?_) | (refine wpList_load1_stG H (by rfl) 3 _ rfl rfl sc_int (by rfl) ?_) | (refine wpList_load1_st H rfl 4 _ rfl rfl sc_bool (by rfl) ?_) | (refine wpList_load1_stG H (by rfl) 4 _ rfl rfl sc_bool (by rfl) ?_) | (refine wpList_load1_st H rfl 30 _ rfl rfl sc_Errno (by rfl) ?_) | (refine wpList_load1_stG H (by rfl) 30 _ rfl rfl sc_Errno (by rfl) ?_) | (refine wpList_load1_st H rfl 25 _ rfl rfl sc_Evs (by rfl) ?_) | (refine wpList_load1_stG H (by rfl) 25 _ rfl rfl sc_Evs (by rfl) ?_))
            | ((with_reducible refine here_store ?_); first | (refine wpList_store_st H rfl 46 _ _ rfl rfl rfl (by kernel_rfl) (by rfl) (by kernel_rfl) ?_; clear H; intro wx H) | (refine wpList_store_st H rfl 50 _ _ rfl rfl rfl (by kernel_rfl) (by rfl) (by kernel_rfl) ?_; clear H; intro wx H) | (refine wpList_store_st H rfl 37 _ _ rfl rfl rfl (by kernel_rfl) (by rfl) (by kernel_rfl) ?_; clear H; intro wx H) | (refine wpList_store_st H rfl 27 _ _ rfl rfl rfl (by kernel_rfl) (by rfl) (by kernel_rfl) ?_; clear H; intro wx H) | (refine wpList_store1_st H rfl 3 _ _ rfl rfl _ rfl (by rfl) s1_int (by rfl) (by rfl) ?_; clear H; intro wx H) | (refine wpList_store1_st H rfl 4 _ _ rfl rfl _ rfl (by rfl) s1_bool (by rfl) (by rfl) ?_; clear H; intro wx H) | (refine wpList_store1_st H rfl 30 _ _ rfl rfl _ rfl (by rfl) s1_Errno (by rfl) (by rfl) ?_; clear H; intro wx H) | (refine wpList_store1_st H rfl 25 _ _ rfl rfl _ rfl (by rfl) s1_Evs (by rfl) (by rfl) ?_; clear H; intro wx H))
            | ((with_reducible refine here_alloc ?_); first | (refine wpList_alloc_st H rfl 46 rfl _ q_zero ?_; clear H; intro gq wx H) | (refine wpList_alloc_st H rfl 50 rfl _ ans_zero ?_; clear H; intro ga wx H) | (refine wpList_alloc_st H rfl 37 rfl _ ev_zero ?_; clear H; intro ge wx H) | (refine wpList_alloc_st H rfl 27 rfl _ ber_zero ?_; clear H; intro gr wx H))
            | ((with_reducible refine here_box ?_); first | (refine wpList_box_st H rfl _ _ rfl _ rfl ?_; clear H; intro gb wx H))))
        have l4 : (loadVar 27 ⟨gr, 0, none⟩).run Try.prog wx = .ok (.agg #[.int .i64 0, .int .i64 0, .int .i64 0, .int .i64 0, .int .i64 0, .slice none 0 0]) wx := H.loadRow 27 gr row_Berth (P := Try.prog) (by kernel_rfl)
        exact bodyPost_ret (v := .tuple #[.agg #[.int .i64 0, .int .i64 0, .int .i64 0, .int .i64 0, .int .i64 0, .slice none 0 0], .int .i64 14]) (by simp [results, Try.results16, asAddr, l4]) rfl (HF.out _ (H.subm _))
      · skip
        have g1a : ((be : Int) == 1048576) = false := by simp; omega
        have g1b : decide ((be : Int) = 1048576) = false := by simp; omega
        have hR : BM.goR ⟨1, be, bf, bd, br, es⟩ dst = (⟨2, be, bf, dst, br, es⟩, 0) := by
          (unfold BM.goR; dsimp only; repeat (first | rw [if_pos (by omega)] | rw [if_neg (by omega)]); try rfl)
        rw [hR]
        clear hR
        have HF := Lib.hid (fun W A' c' (h1 : n ≤ c') (h2 : St w0 W (evIt A' es :: I)) => (BPost.mk (r := (⟨2, be, bf, dst, br, es⟩, 0)) HL.out h1 h2 : BPost w0 I (⟨2, be, bf, dst, br, es⟩, 0) (.returned (.tuple #[.agg #[.int .i64 2, .int .i64 be, .int .i64 bf, .int .i64 dst, .int .i64 br, .slice A' n c'], .int .i64 0])) W))
        generalize BPost w0 I (⟨2, be, bf, dst, br, es⟩, 0) = POST at *
        go_enter Try.func16, Try.ntmps16
        clear hfold
        skip
        go_wp2_with (first | (go_at_call 33; have h := HI.out; refine (check_st ⟨1, be, bf, bd, br, es⟩ A n c m HL.out HB.out hm hc H).mono ?_; clear H h; rintro ed wy ⟨rfl, H⟩) | (go_at_call 34; refine (node_any _ _).mono ?_; rintro ed wy ⟨rfl, rfl⟩) | (go_at_call 35; have h := HI.out; refine (with_nil ⟨2, be, bf, dst, br, es⟩ A n c HL.out (by omega) hc H).mono ?_; clear H h; rintro ed wy ⟨A9, c9, rfl, hc9, H⟩) | (first
            | ((with_reducible refine here_load ?_); first | (refine wpList_load_st H rfl 46 _ rfl rfl row_Queue (by kernel_rfl) ?_) | (refine wpList_load_st H rfl 50 _ rfl rfl row_Answer (by kernel_rfl) ?_) | (refine wpList_load_st H rfl 37 _ rfl rfl row_Event (by kernel_rfl) ?_) | (refine wpList_load_st H rfl 27 _ rfl rfl row_Berth (by kernel_rfl) ?_) | (refine wpList_load1_st H rfl 3 _ rfl rfl sc_int (by rfl) ?_) | (refine wpList_load1_stG H (by rfl) 3 _ rfl rfl sc_int (by rfl) ?_) | (refine wpList_load1_st H rfl 4 _ rfl rfl sc_bool (by rfl) ?_) | (refine wpList_load1_stG H (by rfl) 4 _ rfl rfl sc_bool (by rfl) ?_) | (refine wpList_load1_st H rfl 30 _ rfl rfl sc_Errno (by rfl) ?_) | (refine wpList_load1_stG H (by rfl) 30 _ rfl rfl sc_Errno (by rfl) ?_) | (refine wpList_load1_st H rfl 25 _ rfl rfl sc_Evs (by rfl) ?_) | (refine wpList_load1_stG H (by rfl) 25 _ rfl rfl sc_Evs (by rfl) ?_))
            | ((with_reducible refine here_store ?_); first | (refine wpList_store_st H rfl 46 _ _ rfl rfl rfl (by kernel_rfl) (by rfl) (by kernel_rfl) ?_; clear H; intro wx H) | (refine wpList_store_st H rfl 50 _ _ rfl rfl rfl (by kernel_rfl) (by rfl) (by kernel_rfl) ?_; clear H; intro wx H) | (refine wpList_store_st H rfl 37 _ _ rfl rfl rfl (by kernel_rfl) (by rfl) (by kernel_rfl) ?_; clear H; intro wx H) | (refine wpList_store_st H rfl 27 _ _ rfl rfl rfl (by kernel_rfl) (by rfl) (by kernel_rfl) ?_; clear H; intro wx H) | (refine wpList_store1_st H rfl 3 _ _ rfl rfl _ rfl (by rfl) s1_int (by rfl) (by rfl) ?_; clear H; intro wx H) | (refine wpList_store1_st H rfl 4 _ _ rfl rfl _ rfl (by rfl) s1_bool (by rfl) (by rfl) ?_; clear H; intro wx H) | (refine wpList_store1_st H rfl 30 _ _ rfl rfl _ rfl (by rfl) s1_Errno (by rfl) (by rfl) ?_; clear H; intro wx H) | (refine wpList_store1_st H rfl 25 _ _ rfl rfl _ rfl (by rfl) s1_Evs (by rfl) (by rfl) ?_; clear H; intro wx H))
            | ((with_reducible refine here_alloc ?_); first | (refine wpList_alloc_st H rfl 46 rfl _ q_zero ?_; clear H; intro gq wx H) | (refine wpList_alloc_st H rfl 50 rfl _ ans_zero ?_; clear H; intro ga wx H) | (refine wpList_alloc_st H rfl 37 rfl _ ev_zero ?_; clear H; intro ge wx H) | (refine wpList_alloc_st H rfl 27 rfl _ ber_zero ?_; clear H; intro gr wx H))
            | ((with_reducible refine here_box ?_); first | (refine wpList_box_st H rfl _ _ rfl _ rfl ?_; clear H; intro gb wx H))))
        have l4 : (loadVar 27 ⟨gr, 0, none⟩).run Try.prog wx = .ok (.agg #[.int .i64 2, .int .i64 be, .int .i64 bf, .int .i64 dst, .int .i64 br, .slice A9 n c9]) wx := H.loadRow 27 gr row_Berth (P := Try.prog) (by kernel_rfl)
        exact bodyPost_ret (v := .tuple #[.agg #[.int .i64 2, .int .i64 be, .int .i64 bf, .int .i64 dst, .int .i64 br, .slice A9 n c9], .int .i64 0]) (by simp [results, Try.results16, asAddr, l4]) rfl (HF.out _ _ _ hc9 (H.subm _))
    · skip
      have hR : BM.goR ⟨2, be, bf, bd, br, es⟩ dst = (⟨0, 0, 0, 0, 0, []⟩, 12) := by
        (unfold BM.goR; dsimp only; repeat (first | rw [if_pos (by omega)] | rw [if_neg (by omega)]); try rfl)
      rw [hR]
      clear hR
      have HF := Lib.hid (fun W (h2 : St w0 W I) => (BPost.mk (r := (⟨0, 0, 0, 0, 0, []⟩, 12)) (n := 0) (c := 0) (A := none) rfl (Nat.le_refl _) (h2.old (s := 6) (n := 0) (A := none) (xs := []) Reads.none_) : BPost w0 I (⟨0, 0, 0, 0, 0, []⟩, 12) (.returned (.tuple #[.agg #[.int .i64 0, .int .i64 0, .int .i64 0, .int .i64 0, .int .i64 0, .slice none 0 0], .int .i64 12])) W))
      generalize BPost w0 I (⟨0, 0, 0, 0, 0, []⟩, 12) = POST at *
      go_enter Try.func16, Try.ntmps16
      clear hfold
      skip
      go_wp2_with (first | (go_at_call 33; have h := HI.out; refine (check_st ⟨2, be, bf, bd, br, es⟩ A n c m HL.out HB.out hm hc H).mono ?_; clear H h; rintro ed wy ⟨rfl, H⟩) | (go_at_call 34; refine (node_any _ _).mono ?_; rintro ed wy ⟨rfl, rfl⟩) | (first
          | ((with_reducible refine here_load ?_); first | (refine wpList_load_st H rfl 46 _ rfl rfl row_Queue (by kernel_rfl) ?_) | (refine wpList_load_st H rfl 50 _ rfl rfl row_Answer (by kernel_rfl) ?_) | (refine wpList_load_st H rfl 37 _ rfl rfl row_Event (by kernel_rfl) ?_) | (refine wpList_load_st H rfl 27 _ rfl rfl row_Berth (by kernel_rfl) ?_) | (refine wpList_load1_st H rfl 3 _ rfl rfl sc_int (by rfl) ?_) | (refine wpList_load1_stG H (by rfl) 3 _ rfl rfl sc_int (by rfl) ?_) | (refine wpList_load1_st H rfl 4 _ rfl rfl sc_bool (by rfl) ?_) | (refine wpList_load1_stG H (by rfl) 4 _ rfl rfl sc_bool (by rfl) ?_) | (refine wpList_load1_st H rfl 30 _ rfl rfl sc_Errno (by rfl) ?_) | (refine wpList_load1_stG H (by rfl) 30 _ rfl rfl sc_Errno (by rfl) ?_) | (refine wpList_load1_st H rfl 25 _ rfl rfl sc_Evs (by rfl) ?_) | (refine wpList_load1_stG H (by rfl) 25 _ rfl rfl sc_Evs (by rfl) ?_))
          | ((with_reducible refine here_store ?_); first | (refine wpList_store_st H rfl 46 _ _ rfl rfl rfl (by kernel_rfl) (by rfl) (by kernel_rfl) ?_; clear H; intro wx H) | (refine wpList_store_st H rfl 50 _ _ rfl rfl rfl (by kernel_rfl) (by rfl) (by kernel_rfl) ?_; clear H; intro wx H) | (refine wpList_store_st H rfl 37 _ _ rfl rfl rfl (by kernel_rfl) (by rfl) (by kernel_rfl) ?_; clear H; intro wx H) | (refine wpList_store_st H rfl 27 _ _ rfl rfl rfl (by kernel_rfl) (by rfl) (by kernel_rfl) ?_; clear H; intro wx H) | (refine wpList_store1_st H rfl 3 _ _ rfl rfl _ rfl (by rfl) s1_int (by rfl) (by rfl) ?_; clear H; intro wx H) | (refine wpList_store1_st H rfl 4 _ _ rfl rfl _ rfl (by rfl) s1_bool (by rfl) (by rfl) ?_; clear H; intro wx H) | (refine wpList_store1_st H rfl 30 _ _ rfl rfl _ rfl (by rfl) s1_Errno (by rfl) (by rfl) ?_; clear H; intro wx H) | (refine wpList_store1_st H rfl 25 _ _ rfl rfl _ rfl (by rfl) s1_Evs (by rfl) (by rfl) ?_; clear H; intro wx H))
          | ((with_reducible refine here_alloc ?_); first | (refine wpList_alloc_st H rfl 46 rfl _ q_zero ?_; clear H; intro gq wx H) | (refine wpList_alloc_st H rfl 50 rfl _ ans_zero ?_; clear H; intro ga wx H) | (refine wpList_alloc_st H rfl 37 rfl _ ev_zero ?_; clear H; intro ge wx H) | (refine wpList_alloc_st H rfl 27 rfl _ ber_zero ?_; clear H; intro gr wx H))
          | ((with_reducible refine here_box ?_); first | (refine wpList_box_st H rfl _ _ rfl _ rfl ?_; clear H; intro gb wx H))))
      have l4 : (loadVar 27 ⟨gr, 0, none⟩).run Try.prog wx = .ok (.agg #[.int .i64 0, .int .i64 0, .int .i64 0, .int .i64 0, .int .i64 0, .slice none 0 0]) wx := H.loadRow 27 gr row_Berth (P := Try.prog) (by kernel_rfl)
      exact bodyPost_ret (v := .tuple #[.agg #[.int .i64 0, .int .i64 0, .int .i64 0, .int .i64 0, .int .i64 0, .slice none 0 0], .int .i64 12]) (by simp [results, Try.results16, asAddr, l4]) rfl (HF.out _ (H.subm _))
    · skip
      have hR : BM.goR ⟨3, be, bf, bd, br, es⟩ dst = (⟨0, 0, 0, 0, 0, []⟩, 12) := by
        (unfold BM.goR; dsimp only; repeat (first | rw [if_pos (by omega)] | rw [if_neg (by omega)]); try rfl)
      rw [hR]
      clear hR
      have HF := Lib.hid (fun W (h2 : St w0 W I) => (BPost.mk (r := (⟨0, 0, 0, 0, 0, []⟩, 12)) (n := 0) (c := 0) (A := none) rfl (Nat.le_refl _) (h2.old (s := 6) (n := 0) (A := none) (xs := []) Reads.none_) : BPost w0 I (⟨0, 0, 0, 0, 0, []⟩, 12) (.returned (.tuple #[.agg #[.int .i64 0, .int .i64 0, .int .i64 0, .int .i64 0, .int .i64 0, .slice none 0 0], .int .i64 12])) W))
      generalize BPost w0 I (⟨0, 0, 0, 0, 0, []⟩, 12) = POST at *
      go_enter Try.func16, Try.ntmps16
      clear hfold
      skip
      go_wp2_with (first | (go_at_call 33; have h := HI.out; refine (check_st ⟨3, be, bf, bd, br, es⟩ A n c m HL.out HB.out hm hc H).mono ?_; clear H h; rintro ed wy ⟨rfl, H⟩) | (go_at_call 34; refine (node_any _ _).mono ?_; rintro ed wy ⟨rfl, rfl⟩) | (first
          | ((with_reducible refine here_load ?_); first | (refine wpList_load_st H rfl 46 _ rfl rfl row_Queue (by kernel_rfl) ?_) | (refine wpList_load_st H rfl 50 _ rfl rfl row_Answer (by kernel_rfl) ?_) | (refine wpList_load_st H rfl 37 _ rfl rfl row_Event (by kernel_rfl) ?_) | (refine wpList_load_st H rfl 27 _ rfl rfl row_Berth (by kernel_rfl) ?_) | (refine wpList_load1_st H rfl 3 _ rfl rfl sc_int (by rfl) ?_) | (refine wpList_load1_stG H (by rfl) 3 _ rfl rfl sc_int (by rfl) ?_) | (refine wpList_load1_st H rfl 4 _ rfl rfl sc_bool (by rfl) ?_) | (refine wpList_load1_stG H (by rfl) 4 _ rfl rfl sc_bool (by rfl) ?_) | (refine wpList_load1_st H rfl 30 _ rfl rfl sc_Errno (by rfl) ?_) | (refine wpList_load1_stG H (by rfl) 30 _ rfl rfl sc_Errno (by rfl) ?_) | (refine wpList_load1_st H rfl 25 _ rfl rfl sc_Evs (by rfl) ?_) | (refine wpList_load1_stG H (by rfl) 25 _ rfl rfl sc_Evs (by rfl) ?_))
          | ((with_reducible refine here_store ?_); first | (refine wpList_store_st H rfl 46 _ _ rfl rfl rfl (by kernel_rfl) (by rfl) (by kernel_rfl) ?_; clear H; intro wx H) | (refine wpList_store_st H rfl 50 _ _ rfl rfl rfl (by kernel_rfl) (by rfl) (by kernel_rfl) ?_; clear H; intro wx H) | (refine wpList_store_st H rfl 37 _ _ rfl rfl rfl (by kernel_rfl) (by rfl) (by kernel_rfl) ?_; clear H; intro wx H) | (refine wpList_store_st H rfl 27 _ _ rfl rfl rfl (by kernel_rfl) (by rfl) (by kernel_rfl) ?_; clear H; intro wx H) | (refine wpList_store1_st H rfl 3 _ _ rfl rfl _ rfl (by rfl) s1_int (by rfl) (by rfl) ?_; clear H; intro wx H) | (refine wpList_store1_st H rfl 4 _ _ rfl rfl _ rfl (by rfl) s1_bool (by rfl) (by rfl) ?_; clear H; intro wx H) | (refine wpList_store1_st H rfl 30 _ _ rfl rfl _ rfl (by rfl) s1_Errno (by rfl) (by rfl) ?_; clear H; intro wx H) | (refine wpList_store1_st H rfl 25 _ _ rfl rfl _ rfl (by rfl) s1_Evs (by rfl) (by rfl) ?_; clear H; intro wx H))
          | ((with_reducible refine here_alloc ?_); first | (refine wpList_alloc_st H rfl 46 rfl _ q_zero ?_; clear H; intro gq wx H) | (refine wpList_alloc_st H rfl 50 rfl _ ans_zero ?_; clear H; intro ga wx H) | (refine wpList_alloc_st H rfl 37 rfl _ ev_zero ?_; clear H; intro ge wx H) | (refine wpList_alloc_st H rfl 27 rfl _ ber_zero ?_; clear H; intro gr wx H))
          | ((with_reducible refine here_box ?_); first | (refine wpList_box_st H rfl _ _ rfl _ rfl ?_; clear H; intro gb wx H))))
      have l4 : (loadVar 27 ⟨gr, 0, none⟩).run Try.prog wx = .ok (.agg #[.int .i64 0, .int .i64 0, .int .i64 0, .int .i64 0, .int .i64 0, .slice none 0 0]) wx := H.loadRow 27 gr row_Berth (P := Try.prog) (by kernel_rfl)
      exact bodyPost_ret (v := .tuple #[.agg #[.int .i64 0, .int .i64 0, .int .i64 0, .int .i64 0, .int .i64 0, .slice none 0 0], .int .i64 12]) (by simp [results, Try.results16, asAddr, l4]) rfl (HF.out _ (H.subm _))
    · skip
      have hR : BM.goR ⟨4, be, bf, bd, br, es⟩ dst = (⟨0, 0, 0, 0, 0, []⟩, 7) := by
        (unfold BM.goR; dsimp only; repeat (first | rw [if_pos (by omega)] | rw [if_neg (by omega)]); try rfl)
      rw [hR]
      clear hR
      have HF := Lib.hid (fun W (h2 : St w0 W I) => (BPost.mk (r := (⟨0, 0, 0, 0, 0, []⟩, 7)) (n := 0) (c := 0) (A := none) rfl (Nat.le_refl _) (h2.old (s := 6) (n := 0) (A := none) (xs := []) Reads.none_) : BPost w0 I (⟨0, 0, 0, 0, 0, []⟩, 7) (.returned (.tuple #[.agg #[.int .i64 0, .int .i64 0, .int .i64 0, .int .i64 0, .int .i64 0, .slice none 0 0], .int .i64 7])) W))
      generalize BPost w0 I (⟨0, 0, 0, 0, 0, []⟩, 7) = POST at *
      go_enter Try.func16, Try.ntmps16
      clear hfold
      skip
      go_wp2_with (first | (go_at_call 33; have h := HI.out; refine (check_st ⟨4, be, bf, bd, br, es⟩ A n c m HL.out HB.out hm hc H).mono ?_; clear H h; rintro ed wy ⟨rfl, H⟩) | (go_at_call 34; refine (node_any _ _).mono ?_; rintro ed wy ⟨rfl, rfl⟩) | (first
          | ((with_reducible refine here_load ?_); first | (refine wpList_load_st H rfl 46 _ rfl rfl row_Queue (by kernel_rfl) ?_) | (refine wpList_load_st H rfl 50 _ rfl rfl row_Answer (by kernel_rfl) ?_) | (refine wpList_load_st H rfl 37 _ rfl rfl row_Event (by kernel_rfl) ?_) | (refine wpList_load_st H rfl 27 _ rfl rfl row_Berth (by kernel_rfl) ?_) | (refine wpList_load1_st H rfl 3 _ rfl rfl sc_int (by rfl) ?_) | (refine wpList_load1_stG H (by rfl) 3 _ rfl rfl sc_int (by rfl) ?_) | (refine wpList_load1_st H rfl 4 _ rfl rfl sc_bool (by rfl) ?_) | (refine wpList_load1_stG H (by rfl) 4 _ rfl rfl sc_bool (by rfl) ?_) | (refine wpList_load1_st H rfl 30 _ rfl rfl sc_Errno (by rfl) ?_) | (refine wpList_load1_stG H (by rfl) 30 _ rfl rfl sc_Errno (by rfl) ?_) | (refine wpList_load1_st H rfl 25 _ rfl rfl sc_Evs (by rfl) ?_) | (refine wpList_load1_stG H (by rfl) 25 _ rfl rfl sc_Evs (by rfl) ?_))
          | ((with_reducible refine here_store ?_); first | (refine wpList_store_st H rfl 46 _ _ rfl rfl rfl (by kernel_rfl) (by rfl) (by kernel_rfl) ?_; clear H; intro wx H) | (refine wpList_store_st H rfl 50 _ _ rfl rfl rfl (by kernel_rfl) (by rfl) (by kernel_rfl) ?_; clear H; intro wx H) | (refine wpList_store_st H rfl 37 _ _ rfl rfl rfl (by kernel_rfl) (by rfl) (by kernel_rfl) ?_; clear H; intro wx H) | (refine wpList_store_st H rfl 27 _ _ rfl rfl rfl (by kernel_rfl) (by rfl) (by kernel_rfl) ?_; clear H; intro wx H) | (refine wpList_store1_st H rfl 3 _ _ rfl rfl _ rfl (by rfl) s1_int (by rfl) (by rfl) ?_; clear H; intro wx H) | (refine wpList_store1_st H rfl 4 _ _ rfl rfl _ rfl (by rfl) s1_bool (by rfl) (by rfl) ?_; clear H; intro wx H) | (refine wpList_store1_st H rfl 30 _ _ rfl rfl _ rfl (by rfl) s1_Errno (by rfl) (by rfl) ?_; clear H; intro wx H) | (refine wpList_store1_st H rfl 25 _ _ rfl rfl _ rfl (by rfl) s1_Evs (by rfl) (by rfl) ?_; clear H; intro wx H))
          | ((with_reducible refine here_alloc ?_); first | (refine wpList_alloc_st H rfl 46 rfl _ q_zero ?_; clear H; intro gq wx H) | (refine wpList_alloc_st H rfl 50 rfl _ ans_zero ?_; clear H; intro ga wx H) | (refine wpList_alloc_st H rfl 37 rfl _ ev_zero ?_; clear H; intro ge wx H) | (refine wpList_alloc_st H rfl 27 rfl _ ber_zero ?_; clear H; intro gr wx H))
          | ((with_reducible refine here_box ?_); first | (refine wpList_box_st H rfl _ _ rfl _ rfl ?_; clear H; intro gb wx H))))
      have l4 : (loadVar 27 ⟨gr, 0, none⟩).run Try.prog wx = .ok (.agg #[.int .i64 0, .int .i64 0, .int .i64 0, .int .i64 0, .int .i64 0, .slice none 0 0]) wx := H.loadRow 27 gr row_Berth (P := Try.prog) (by kernel_rfl)
      exact bodyPost_ret (v := .tuple #[.agg #[.int .i64 0, .int .i64 0, .int .i64 0, .int .i64 0, .int .i64 0, .slice none 0 0], .int .i64 7]) (by simp [results, Try.results16, asAddr, l4]) rfl (HF.out _ (H.subm _))
  · have h2 := decide_eq_false h1
    have hR : BM.goR ⟨r, be, bf, bd, br, es⟩ dst = (⟨0, 0, 0, 0, 0, []⟩, 2) := by
      (unfold BM.goR; dsimp only; repeat (first | rw [if_pos (by omega)] | rw [if_neg (by omega)]); try rfl)
    rw [hR]
    clear hR
    have HF := Lib.hid (fun W (h2 : St w0 W I) => (BPost.mk (r := (⟨0, 0, 0, 0, 0, []⟩, 2)) (n := 0) (c := 0) (A := none) rfl (Nat.le_refl _) (h2.old (s := 6) (n := 0) (A := none) (xs := []) Reads.none_) : BPost w0 I (⟨0, 0, 0, 0, 0, []⟩, 2) (.returned (.tuple #[.agg #[.int .i64 0, .int .i64 0, .int .i64 0, .int .i64 0, .int .i64 0, .slice none 0 0], .int .i64 2])) W))
    generalize BPost w0 I (⟨0, 0, 0, 0, 0, []⟩, 2) = POST at *
    go_enter Try.func16, Try.ntmps16
    clear hfold
    skip
    go_wp2_with (first | (go_at_call 33; have h := HI.out; refine (check_st ⟨r, be, bf, bd, br, es⟩ A n c m HL.out HB.out hm hc H).mono ?_; clear H h; rintro ed wy ⟨rfl, H⟩) | (go_at_call 34; refine (node_any _ _).mono ?_; rintro ed wy ⟨rfl, rfl⟩) | (first
        | ((with_reducible refine here_load ?_); first | (refine wpList_load_st H rfl 46 _ rfl rfl row_Queue (by kernel_rfl) ?_) | (refine wpList_load_st H rfl 50 _ rfl rfl row_Answer (by kernel_rfl) ?_) | (refine wpList_load_st H rfl 37 _ rfl rfl row_Event (by kernel_rfl) ?_) | (refine wpList_load_st H rfl 27 _ rfl rfl row_Berth (by kernel_rfl) ?_) | (refine wpList_load1_st H rfl 3 _ rfl rfl sc_int (by rfl) ?_) | (refine wpList_load1_stG H (by rfl) 3 _ rfl rfl sc_int (by rfl) ?_) | (refine wpList_load1_st H rfl 4 _ rfl rfl sc_bool (by rfl) ?_) | (refine wpList_load1_stG H (by rfl) 4 _ rfl rfl sc_bool (by rfl) ?_) | (refine wpList_load1_st H rfl 30 _ rfl rfl sc_Errno (by rfl) ?_) | (refine wpList_load1_stG H (by rfl) 30 _ rfl rfl sc_Errno (by rfl) ?_) | (refine wpList_load1_st H rfl 25 _ rfl rfl sc_Evs (by rfl) ?_) | (refine wpList_load1_stG H (by rfl) 25 _ rfl rfl sc_Evs (by rfl) ?_))
        | ((with_reducible refine here_store ?_); first | (refine wpList_store_st H rfl 46 _ _ rfl rfl rfl (by kernel_rfl) (by rfl) (by kernel_rfl) ?_; clear H; intro wx H) | (refine wpList_store_st H rfl 50 _ _ rfl rfl rfl (by kernel_rfl) (by rfl) (by kernel_rfl) ?_; clear H; intro wx H) | (refine wpList_store_st H rfl 37 _ _ rfl rfl rfl (by kernel_rfl) (by rfl) (by kernel_rfl) ?_; clear H; intro wx H) | (refine wpList_store_st H rfl 27 _ _ rfl rfl rfl (by kernel_rfl) (by rfl) (by kernel_rfl) ?_; clear H; intro wx H) | (refine wpList_store1_st H rfl 3 _ _ rfl rfl _ rfl (by rfl) s1_int (by rfl) (by rfl) ?_; clear H; intro wx H) | (refine wpList_store1_st H rfl 4 _ _ rfl rfl _ rfl (by rfl) s1_bool (by rfl) (by rfl) ?_; clear H; intro wx H) | (refine wpList_store1_st H rfl 30 _ _ rfl rfl _ rfl (by rfl) s1_Errno (by rfl) (by rfl) ?_; clear H; intro wx H) | (refine wpList_store1_st H rfl 25 _ _ rfl rfl _ rfl (by rfl) s1_Evs (by rfl) (by rfl) ?_; clear H; intro wx H))
        | ((with_reducible refine here_alloc ?_); first | (refine wpList_alloc_st H rfl 46 rfl _ q_zero ?_; clear H; intro gq wx H) | (refine wpList_alloc_st H rfl 50 rfl _ ans_zero ?_; clear H; intro ga wx H) | (refine wpList_alloc_st H rfl 37 rfl _ ev_zero ?_; clear H; intro ge wx H) | (refine wpList_alloc_st H rfl 27 rfl _ ber_zero ?_; clear H; intro gr wx H))
        | ((with_reducible refine here_box ?_); first | (refine wpList_box_st H rfl _ _ rfl _ rfl ?_; clear H; intro gb wx H))))
    have l4 : (loadVar 27 ⟨gr, 0, none⟩).run Try.prog wx = .ok (.agg #[.int .i64 0, .int .i64 0, .int .i64 0, .int .i64 0, .int .i64 0, .slice none 0 0]) wx := H.loadRow 27 gr row_Berth (P := Try.prog) (by kernel_rfl)
    exact bodyPost_ret (v := .tuple #[.agg #[.int .i64 0, .int .i64 0, .int .i64 0, .int .i64 0, .int .i64 0, .slice none 0 0], .int .i64 2]) (by simp [results, Try.results16, asAddr, l4]) rfl (HF.out _ (H.subm _))
set_option maxRecDepth 100000 in
set_option maxHeartbeats 8000000 in
theorem forget_st {w0 w : World} {I : List It} (b : BM) (A : Option Addr) (n c m : Nat) (ep : Int) (hl : b.es.length = n) (hb : b.Ok m) (hm : m ≤ 150) (hc : n ≤ c) (H : St w0 w I) [h : Has I (evIt A b.es)] :
    Calls Try.prog 24 #[.agg (bArr b A n c), .int .i64 ep] w (BPost w0 I (b.forgetR ep)) := by
  have hn : n ≤ 150 := by have := hb.len; omega
  have HI := Lib.hid h
  have HB := Lib.hid hb
  have HL := Lib.hid hl
  have HS := hb.shape
  clear h hb hl
  have hfold : bArr b A n c = #[Value.int .i64 b.role, .int .i64 b.ep, .int .i64 b.frm, .int .i64 b.dst, .int .i64 b.rounds, .slice A n c] := rfl
  rw [hfold]
  obtain ⟨r, be, bf, bd, br, es⟩ := b
  unfold BM.Shape at HS
  dsimp only at HS HB HL HI ⊢
  have HR : r = 0 ∨ r = 1 ∨ r = 2 ∨ r = 3 ∨ r = 4 := by omega
  rcases HR with rfl | rfl | rfl | rfl | rfl
  · skip
    have hR : BM.forgetR ⟨0, be, bf, bd, br, es⟩ ep = (⟨0, 0, 0, 0, 0, []⟩, 7) := by
      (unfold BM.forgetR; dsimp only; repeat (first | rw [if_pos (by omega)] | rw [if_neg (by omega)]); try rfl)
    rw [hR]
    clear hR
    have HF := Lib.hid (fun W (h2 : St w0 W I) => (BPost.mk (r := (⟨0, 0, 0, 0, 0, []⟩, 7)) (n := 0) (c := 0) (A := none) rfl (Nat.le_refl _) (h2.old (s := 6) (n := 0) (A := none) (xs := []) Reads.none_) : BPost w0 I (⟨0, 0, 0, 0, 0, []⟩, 7) (.returned (.tuple #[.agg #[.int .i64 0, .int .i64 0, .int .i64 0, .int .i64 0, .int .i64 0, .slice none 0 0], .int .i64 7])) W))
    generalize BPost w0 I (⟨0, 0, 0, 0, 0, []⟩, 7) = POST at *
    go_enter Try.func24, Try.ntmps24
    clear hfold
    skip
    go_wp2_with (first | (go_at_call 33; have h := HI.out; refine (check_st ⟨0, be, bf, bd, br, es⟩ A n c m HL.out HB.out hm hc H).mono ?_; clear H h; rintro ed wy ⟨rfl, H⟩) | (go_at_call 34; refine (node_any _ _).mono ?_; rintro ed wy ⟨rfl, rfl⟩) | (first
        | ((with_reducible refine here_load ?_); first | (refine wpList_load_st H rfl 46 _ rfl rfl row_Queue (by kernel_rfl) ?_) | (refine wpList_load_st H rfl 50 _ rfl rfl row_Answer (by kernel_rfl) ?_) | (refine wpList_load_st H rfl 37 _ rfl rfl row_Event (by kernel_rfl) ?_) | (refine wpList_load_st H rfl 27 _ rfl rfl row_Berth (by kernel_rfl) ?_) | (refine wpList_load1_st H rfl 3 _ rfl rfl sc_int (by rfl) ?_) | (refine wpList_load1_stG H (by rfl) 3 _ rfl rfl sc_int (by rfl) ?_) | (refine wpList_load1_st H rfl 4 _ rfl rfl sc_bool (by rfl) ?_) | (refine wpList_load1_stG H (by rfl) 4 _ rfl rfl sc_bool (by rfl) ?_) | (refine wpList_load1_st H rfl 30 _ rfl rfl sc_Errno (by rfl) ?_) | (refine wpList_load1_stG H (by rfl) 30 _ rfl rfl sc_Errno (by rfl) ?_) | (refine wpList_load1_st H rfl 25 _ rfl rfl sc_Evs (by rfl) ?_) | (refine wpList_load1_stG H (by rfl) 25 _ rfl rfl sc_Evs (by rfl) ?_))
        | ((with_reducible refine here_store ?_); first | (refine wpList_store_st H rfl 46 _ _ rfl rfl rfl (by kernel_rfl) (by rfl) (by kernel_rfl) ?_; clear H; intro wx H) | (refine wpList_store_st H rfl 50 _ _ rfl rfl rfl (by kernel_rfl) (by rfl) (by kernel_rfl) ?_; clear H; intro wx H) | (refine wpList_store_st H rfl 37 _ _ rfl rfl rfl (by kernel_rfl) (by rfl) (by kernel_rfl) ?_; clear H; intro wx H) | (refine wpList_store_st H rfl 27 _ _ rfl rfl rfl (by kernel_rfl) (by rfl) (by kernel_rfl) ?_; clear H; intro wx H) | (refine wpList_store1_st H rfl 3 _ _ rfl rfl _ rfl (by rfl) s1_int (by rfl) (by rfl) ?_; clear H; intro wx H) | (refine wpList_store1_st H rfl 4 _ _ rfl rfl _ rfl (by rfl) s1_bool (by rfl) (by rfl) ?_; clear H; intro wx H) | (refine wpList_store1_st H rfl 30 _ _ rfl rfl _ rfl (by rfl) s1_Errno (by rfl) (by rfl) ?_; clear H; intro wx H) | (refine wpList_store1_st H rfl 25 _ _ rfl rfl _ rfl (by rfl) s1_Evs (by rfl) (by rfl) ?_; clear H; intro wx H))
        | ((with_reducible refine here_alloc ?_); first | (refine wpList_alloc_st H rfl 46 rfl _ q_zero ?_; clear H; intro gq wx H) | (refine wpList_alloc_st H rfl 50 rfl _ ans_zero ?_; clear H; intro ga wx H) | (refine wpList_alloc_st H rfl 37 rfl _ ev_zero ?_; clear H; intro ge wx H) | (refine wpList_alloc_st H rfl 27 rfl _ ber_zero ?_; clear H; intro gr wx H))
        | ((with_reducible refine here_box ?_); first | (refine wpList_box_st H rfl _ _ rfl _ rfl ?_; clear H; intro gb wx H))))
    have l4 : (loadVar 27 ⟨gr, 0, none⟩).run Try.prog wx = .ok (.agg #[.int .i64 0, .int .i64 0, .int .i64 0, .int .i64 0, .int .i64 0, .slice none 0 0]) wx := H.loadRow 27 gr row_Berth (P := Try.prog) (by kernel_rfl)
    exact bodyPost_ret (v := .tuple #[.agg #[.int .i64 0, .int .i64 0, .int .i64 0, .int .i64 0, .int .i64 0, .slice none 0 0], .int .i64 7]) (by simp [results, Try.results24, asAddr, l4]) rfl (HF.out _ (H.subm _))
  · skip
    have hR : BM.forgetR ⟨1, be, bf, bd, br, es⟩ ep = (⟨0, 0, 0, 0, 0, []⟩, 7) := by
      (unfold BM.forgetR; dsimp only; repeat (first | rw [if_pos (by omega)] | rw [if_neg (by omega)]); try rfl)
    rw [hR]
    clear hR
    have HF := Lib.hid (fun W (h2 : St w0 W I) => (BPost.mk (r := (⟨0, 0, 0, 0, 0, []⟩, 7)) (n := 0) (c := 0) (A := none) rfl (Nat.le_refl _) (h2.old (s := 6) (n := 0) (A := none) (xs := []) Reads.none_) : BPost w0 I (⟨0, 0, 0, 0, 0, []⟩, 7) (.returned (.tuple #[.agg #[.int .i64 0, .int .i64 0, .int .i64 0, .int .i64 0, .int .i64 0, .slice none 0 0], .int .i64 7])) W))
    generalize BPost w0 I (⟨0, 0, 0, 0, 0, []⟩, 7) = POST at *
    go_enter Try.func24, Try.ntmps24
    clear hfold
    skip
    go_wp2_with (first | (go_at_call 33; have h := HI.out; refine (check_st ⟨1, be, bf, bd, br, es⟩ A n c m HL.out HB.out hm hc H).mono ?_; clear H h; rintro ed wy ⟨rfl, H⟩) | (go_at_call 34; refine (node_any _ _).mono ?_; rintro ed wy ⟨rfl, rfl⟩) | (first
        | ((with_reducible refine here_load ?_); first | (refine wpList_load_st H rfl 46 _ rfl rfl row_Queue (by kernel_rfl) ?_) | (refine wpList_load_st H rfl 50 _ rfl rfl row_Answer (by kernel_rfl) ?_) | (refine wpList_load_st H rfl 37 _ rfl rfl row_Event (by kernel_rfl) ?_) | (refine wpList_load_st H rfl 27 _ rfl rfl row_Berth (by kernel_rfl) ?_) | (refine wpList_load1_st H rfl 3 _ rfl rfl sc_int (by rfl) ?_) | (refine wpList_load1_stG H (by rfl) 3 _ rfl rfl sc_int (by rfl) ?_) | (refine wpList_load1_st H rfl 4 _ rfl rfl sc_bool (by rfl) ?_) | (refine wpList_load1_stG H (by rfl) 4 _ rfl rfl sc_bool (by rfl) ?_) | (refine wpList_load1_st H rfl 30 _ rfl rfl sc_Errno (by rfl) ?_) | (refine wpList_load1_stG H (by rfl) 30 _ rfl rfl sc_Errno (by rfl) ?_) | (refine wpList_load1_st H rfl 25 _ rfl rfl sc_Evs (by rfl) ?_) | (refine wpList_load1_stG H (by rfl) 25 _ rfl rfl sc_Evs (by rfl) ?_))
        | ((with_reducible refine here_store ?_); first | (refine wpList_store_st H rfl 46 _ _ rfl rfl rfl (by kernel_rfl) (by rfl) (by kernel_rfl) ?_; clear H; intro wx H) | (refine wpList_store_st H rfl 50 _ _ rfl rfl rfl (by kernel_rfl) (by rfl) (by kernel_rfl) ?_; clear H; intro wx H) | (refine wpList_store_st H rfl 37 _ _ rfl rfl rfl (by kernel_rfl) (by rfl) (by kernel_rfl) ?_; clear H; intro wx H) | (refine wpList_store_st H rfl 27 _ _ rfl rfl rfl (by kernel_rfl) (by rfl) (by kernel_rfl) ?_; clear H; intro wx H) | (refine wpList_store1_st H rfl 3 _ _ rfl rfl _ rfl (by rfl) s1_int (by rfl) (by rfl) ?_; clear H; intro wx H) | (refine wpList_store1_st H rfl 4 _ _ rfl rfl _ rfl (by rfl) s1_bool (by rfl) (by rfl) ?_; clear H; intro wx H) | (refine wpList_store1_st H rfl 30 _ _ rfl rfl _ rfl (by rfl) s1_Errno (by rfl) (by rfl) ?_; clear H; intro wx H) | (refine wpList_store1_st H rfl 25 _ _ rfl rfl _ rfl (by rfl) s1_Evs (by rfl) (by rfl) ?_; clear H; intro wx H))
        | ((with_reducible refine here_alloc ?_); first | (refine wpList_alloc_st H rfl 46 rfl _ q_zero ?_; clear H; intro gq wx H) | (refine wpList_alloc_st H rfl 50 rfl _ ans_zero ?_; clear H; intro ga wx H) | (refine wpList_alloc_st H rfl 37 rfl _ ev_zero ?_; clear H; intro ge wx H) | (refine wpList_alloc_st H rfl 27 rfl _ ber_zero ?_; clear H; intro gr wx H))
        | ((with_reducible refine here_box ?_); first | (refine wpList_box_st H rfl _ _ rfl _ rfl ?_; clear H; intro gb wx H))))
    have l4 : (loadVar 27 ⟨gr, 0, none⟩).run Try.prog wx = .ok (.agg #[.int .i64 0, .int .i64 0, .int .i64 0, .int .i64 0, .int .i64 0, .slice none 0 0]) wx := H.loadRow 27 gr row_Berth (P := Try.prog) (by kernel_rfl)
    exact bodyPost_ret (v := .tuple #[.agg #[.int .i64 0, .int .i64 0, .int .i64 0, .int .i64 0, .int .i64 0, .slice none 0 0], .int .i64 7]) (by simp [results, Try.results24, asAddr, l4]) rfl (HF.out _ (H.subm _))
  · skip
    have hR : BM.forgetR ⟨2, be, bf, bd, br, es⟩ ep = (⟨0, 0, 0, 0, 0, []⟩, 7) := by
      (unfold BM.forgetR; dsimp only; repeat (first | rw [if_pos (by omega)] | rw [if_neg (by omega)]); try rfl)
    rw [hR]
    clear hR
    have HF := Lib.hid (fun W (h2 : St w0 W I) => (BPost.mk (r := (⟨0, 0, 0, 0, 0, []⟩, 7)) (n := 0) (c := 0) (A := none) rfl (Nat.le_refl _) (h2.old (s := 6) (n := 0) (A := none) (xs := []) Reads.none_) : BPost w0 I (⟨0, 0, 0, 0, 0, []⟩, 7) (.returned (.tuple #[.agg #[.int .i64 0, .int .i64 0, .int .i64 0, .int .i64 0, .int .i64 0, .slice none 0 0], .int .i64 7])) W))
    generalize BPost w0 I (⟨0, 0, 0, 0, 0, []⟩, 7) = POST at *
    go_enter Try.func24, Try.ntmps24
    clear hfold
    skip
    go_wp2_with (first | (go_at_call 33; have h := HI.out; refine (check_st ⟨2, be, bf, bd, br, es⟩ A n c m HL.out HB.out hm hc H).mono ?_; clear H h; rintro ed wy ⟨rfl, H⟩) | (go_at_call 34; refine (node_any _ _).mono ?_; rintro ed wy ⟨rfl, rfl⟩) | (first
        | ((with_reducible refine here_load ?_); first | (refine wpList_load_st H rfl 46 _ rfl rfl row_Queue (by kernel_rfl) ?_) | (refine wpList_load_st H rfl 50 _ rfl rfl row_Answer (by kernel_rfl) ?_) | (refine wpList_load_st H rfl 37 _ rfl rfl row_Event (by kernel_rfl) ?_) | (refine wpList_load_st H rfl 27 _ rfl rfl row_Berth (by kernel_rfl) ?_) | (refine wpList_load1_st H rfl 3 _ rfl rfl sc_int (by rfl) ?_) | (refine wpList_load1_stG H (by rfl) 3 _ rfl rfl sc_int (by rfl) ?_) | (refine wpList_load1_st H rfl 4 _ rfl rfl sc_bool (by rfl) ?_) | (refine wpList_load1_stG H (by rfl) 4 _ rfl rfl sc_bool (by rfl) ?_) | (refine wpList_load1_st H rfl 30 _ rfl rfl sc_Errno (by rfl) ?_) | (refine wpList_load1_stG H (by rfl) 30 _ rfl rfl sc_Errno (by rfl) ?_) | (refine wpList_load1_st H rfl 25 _ rfl rfl sc_Evs (by rfl) ?_) | (refine wpList_load1_stG H (by rfl) 25 _ rfl rfl sc_Evs (by rfl) ?_))
        | ((with_reducible refine here_store ?_); first | (refine wpList_store_st H rfl 46 _ _ rfl rfl rfl (by kernel_rfl) (by rfl) (by kernel_rfl) ?_; clear H; intro wx H) | (refine wpList_store_st H rfl 50 _ _ rfl rfl rfl (by kernel_rfl) (by rfl) (by kernel_rfl) ?_; clear H; intro wx H) | (refine wpList_store_st H rfl 37 _ _ rfl rfl rfl (by kernel_rfl) (by rfl) (by kernel_rfl) ?_; clear H; intro wx H) | (refine wpList_store_st H rfl 27 _ _ rfl rfl rfl (by kernel_rfl) (by rfl) (by kernel_rfl) ?_; clear H; intro wx H) | (refine wpList_store1_st H rfl 3 _ _ rfl rfl _ rfl (by rfl) s1_int (by rfl) (by rfl) ?_; clear H; intro wx H) | (refine wpList_store1_st H rfl 4 _ _ rfl rfl _ rfl (by rfl) s1_bool (by rfl) (by rfl) ?_; clear H; intro wx H) | (refine wpList_store1_st H rfl 30 _ _ rfl rfl _ rfl (by rfl) s1_Errno (by rfl) (by rfl) ?_; clear H; intro wx H) | (refine wpList_store1_st H rfl 25 _ _ rfl rfl _ rfl (by rfl) s1_Evs (by rfl) (by rfl) ?_; clear H; intro wx H))
        | ((with_reducible refine here_alloc ?_); first | (refine wpList_alloc_st H rfl 46 rfl _ q_zero ?_; clear H; intro gq wx H) | (refine wpList_alloc_st H rfl 50 rfl _ ans_zero ?_; clear H; intro ga wx H) | (refine wpList_alloc_st H rfl 37 rfl _ ev_zero ?_; clear H; intro ge wx H) | (refine wpList_alloc_st H rfl 27 rfl _ ber_zero ?_; clear H; intro gr wx H))
        | ((with_reducible refine here_box ?_); first | (refine wpList_box_st H rfl _ _ rfl _ rfl ?_; clear H; intro gb wx H))))
    have l4 : (loadVar 27 ⟨gr, 0, none⟩).run Try.prog wx = .ok (.agg #[.int .i64 0, .int .i64 0, .int .i64 0, .int .i64 0, .int .i64 0, .slice none 0 0]) wx := H.loadRow 27 gr row_Berth (P := Try.prog) (by kernel_rfl)
    exact bodyPost_ret (v := .tuple #[.agg #[.int .i64 0, .int .i64 0, .int .i64 0, .int .i64 0, .int .i64 0, .slice none 0 0], .int .i64 7]) (by simp [results, Try.results24, asAddr, l4]) rfl (HF.out _ (H.subm _))
  · skip
    by_cases h4 : ep ≤ be
    · skip
      have hR : BM.forgetR ⟨3, be, bf, bd, br, es⟩ ep = (⟨0, 0, 0, 0, 0, []⟩, 15) := by
        (unfold BM.forgetR; dsimp only; repeat (first | rw [if_pos (by omega)] | rw [if_neg (by omega)]); try rfl)
      rw [hR]
      clear hR
      have HF := Lib.hid (fun W (h2 : St w0 W I) => (BPost.mk (r := (⟨0, 0, 0, 0, 0, []⟩, 15)) (n := 0) (c := 0) (A := none) rfl (Nat.le_refl _) (h2.old (s := 6) (n := 0) (A := none) (xs := []) Reads.none_) : BPost w0 I (⟨0, 0, 0, 0, 0, []⟩, 15) (.returned (.tuple #[.agg #[.int .i64 0, .int .i64 0, .int .i64 0, .int .i64 0, .int .i64 0, .slice none 0 0], .int .i64 15])) W))
      generalize BPost w0 I (⟨0, 0, 0, 0, 0, []⟩, 15) = POST at *
      go_enter Try.func24, Try.ntmps24
      clear hfold
      skip
      go_wp2_with (first | (go_at_call 33; have h := HI.out; refine (check_st ⟨3, be, bf, bd, br, es⟩ A n c m HL.out HB.out hm hc H).mono ?_; clear H h; rintro ed wy ⟨rfl, H⟩) | (go_at_call 34; refine (node_any _ _).mono ?_; rintro ed wy ⟨rfl, rfl⟩) | (first
          | ((with_reducible refine here_load ?_); first | (refine wpList_load_st H rfl 46 _ rfl rfl row_Queue (by kernel_rfl) ?_) | (refine wpList_load_st H rfl 50 _ rfl rfl row_Answer (by kernel_rfl) ?_) | (refine wpList_load_st H rfl 37 _ rfl rfl row_Event (by kernel_rfl) ?_) | (refine wpList_load_st H rfl 27 _ rfl rfl row_Berth (by kernel_rfl) ?_) | (refine wpList_load1_st H rfl 3 _ rfl rfl sc_int (by rfl) ?_) | (refine wpList_load1_stG H (by rfl) 3 _ rfl rfl sc_int (by rfl) ?_) | (refine wpList_load1_st H rfl 4 _ rfl rfl sc_bool (by rfl) ?_) | (refine wpList_load1_stG H (by rfl) 4 _ rfl rfl sc_bool (by rfl) ?_) | (refine wpList_load1_st H rfl 30 _ rfl rfl sc_Errno (by rfl) ?_) | (refine wpList_load1_stG H (by rfl) 30 _ rfl rfl sc_Errno (by rfl) ?_) | (refine wpList_load1_st H rfl 25 _ rfl rfl sc_Evs (by rfl) ?_) | (refine wpList_load1_stG H (by rfl) 25 _ rfl rfl sc_Evs (by rfl) ?_))
          | ((with_reducible refine here_store ?_); first | (refine wpList_store_st H rfl 46 _ _ rfl rfl rfl (by kernel_rfl) (by rfl) (by kernel_rfl) ?_; clear H; intro wx H) | (refine wpList_store_st H rfl 50 _ _ rfl rfl rfl (by kernel_rfl) (by rfl) (by kernel_rfl) ?_; clear H; intro wx H) | (refine wpList_store_st H rfl 37 _ _ rfl rfl rfl (by kernel_rfl) (by rfl) (by kernel_rfl) ?_; clear H; intro wx H) | (refine wpList_store_st H rfl 27 _ _ rfl rfl rfl (by kernel_rfl) (by rfl) (by kernel_rfl) ?_; clear H; intro wx H) | (refine wpList_store1_st H rfl 3 _ _ rfl rfl _ rfl (by rfl) s1_int (by rfl) (by rfl) ?_; clear H; intro wx H) | (refine wpList_store1_st H rfl 4 _ _ rfl rfl _ rfl (by rfl) s1_bool (by rfl) (by rfl) ?_; clear H; intro wx H) | (refine wpList_store1_st H rfl 30 _ _ rfl rfl _ rfl (by rfl) s1_Errno (by rfl) (by rfl) ?_; clear H; intro wx H) | (refine wpList_store1_st H rfl 25 _ _ rfl rfl _ rfl (by rfl) s1_Evs (by rfl) (by rfl) ?_; clear H; intro wx H))
          | ((with_reducible refine here_alloc ?_); first | (refine wpList_alloc_st H rfl 46 rfl _ q_zero ?_; clear H; intro gq wx H) | (refine wpList_alloc_st H rfl 50 rfl _ ans_zero ?_; clear H; intro ga wx H) | (refine wpList_alloc_st H rfl 37 rfl _ ev_zero ?_; clear H; intro ge wx H) | (refine wpList_alloc_st H rfl 27 rfl _ ber_zero ?_; clear H; intro gr wx H))
          | ((with_reducible refine here_box ?_); first | (refine wpList_box_st H rfl _ _ rfl _ rfl ?_; clear H; intro gb wx H))))
      have l4 : (loadVar 27 ⟨gr, 0, none⟩).run Try.prog wx = .ok (.agg #[.int .i64 0, .int .i64 0, .int .i64 0, .int .i64 0, .int .i64 0, .slice none 0 0]) wx := H.loadRow 27 gr row_Berth (P := Try.prog) (by kernel_rfl)
      exact bodyPost_ret (v := .tuple #[.agg #[.int .i64 0, .int .i64 0, .int .i64 0, .int .i64 0, .int .i64 0, .slice none 0 0], .int .i64 15]) (by simp [results, Try.results24, asAddr, l4]) rfl (HF.out _ (H.subm _))
    · skip
      have hR : BM.forgetR ⟨3, be, bf, bd, br, es⟩ ep = (⟨0, be, 0, 0, 0, []⟩, 0) := by
        (unfold BM.forgetR; dsimp only; repeat (first | rw [if_pos (by omega)] | rw [if_neg (by omega)]); try rfl)
      rw [hR]
      clear hR
      have HF := Lib.hid (fun W (h2 : St w0 W I) => (BPost.mk (r := (⟨0, be, 0, 0, 0, []⟩, 0)) (n := 0) (c := 0) (A := none) rfl (Nat.le_refl _) (h2.old (s := 6) (n := 0) (A := none) (xs := []) Reads.none_) : BPost w0 I (⟨0, be, 0, 0, 0, []⟩, 0) (.returned (.tuple #[.agg #[.int .i64 0, .int .i64 be, .int .i64 0, .int .i64 0, .int .i64 0, .slice none 0 0], .int .i64 0])) W))
      generalize BPost w0 I (⟨0, be, 0, 0, 0, []⟩, 0) = POST at *
      go_enter Try.func24, Try.ntmps24
      clear hfold
      skip
      go_wp2_with (first | (go_at_call 33; have h := HI.out; refine (check_st ⟨3, be, bf, bd, br, es⟩ A n c m HL.out HB.out hm hc H).mono ?_; clear H h; rintro ed wy ⟨rfl, H⟩) | (go_at_call 34; refine (node_any _ _).mono ?_; rintro ed wy ⟨rfl, rfl⟩) | (first
          | ((with_reducible refine here_load ?_); first | (refine wpList_load_st H rfl 46 _ rfl rfl row_Queue (by kernel_rfl) ?_) | (refine wpList_load_st H rfl 50 _ rfl rfl row_Answer (by kernel_rfl) ?_) | (refine wpList_load_st H rfl 37 _ rfl rfl row_Event (by kernel_rfl) ?_) | (refine wpList_load_st H rfl 27 _ rfl rfl row_Berth (by kernel_rfl) ?_) | (refine wpList_load1_st H rfl 3 _ rfl rfl sc_int (by rfl) ?_) | (refine wpList_load1_stG H (by rfl) 3 _ rfl rfl sc_int (by rfl) ?_) | (refine wpList_load1_st H rfl 4 _ rfl rfl sc_bool (by rfl) ?_) | (refine wpList_load1_stG H (by rfl) 4 _ rfl rfl sc_bool (by rfl) ?_) | (refine wpList_load1_st H rfl 30 _ rfl rfl sc_Errno (by rfl) ?_) | (refine wpList_load1_stG H (by rfl) 30 _ rfl rfl sc_Errno (by rfl) ?_) | (refine wpList_load1_st H rfl 25 _ rfl rfl sc_Evs (by rfl) ?_) | (refine wpList_load1_stG H (by rfl) 25 _ rfl rfl sc_Evs (by rfl) ?_))
          | ((with_reducible refine here_store ?_); first | (refine wpList_store_st H rfl 46 _ _ rfl rfl rfl (by kernel_rfl) (by rfl) (by kernel_rfl) ?_; clear H; intro wx H) | (refine wpList_store_st H rfl 50 _ _ rfl rfl rfl (by kernel_rfl) (by rfl) (by kernel_rfl) ?_; clear H; intro wx H) | (refine wpList_store_st H rfl 37 _ _ rfl rfl rfl (by kernel_rfl) (by rfl) (by kernel_rfl) ?_; clear H; intro wx H) | (refine wpList_store_st H rfl 27 _ _ rfl rfl rfl (by kernel_rfl) (by rfl) (by kernel_rfl) ?_; clear H; intro wx H) | (refine wpList_store1_st H rfl 3 _ _ rfl rfl _ rfl (by rfl) s1_int (by rfl) (by rfl) ?_; clear H; intro wx H) | (refine wpList_store1_st H rfl 4 _ _ rfl rfl _ rfl (by rfl) s1_bool (by rfl) (by rfl) ?_; clear H; intro wx H) | (refine wpList_store1_st H rfl 30 _ _ rfl rfl _ rfl (by rfl) s1_Errno (by rfl) (by rfl) ?_; clear H; intro wx H) | (refine wpList_store1_st H rfl 25 _ _ rfl rfl _ rfl (by rfl) s1_Evs (by rfl) (by rfl) ?_; clear H; intro wx H))
          | ((with_reducible refine here_alloc ?_); first | (refine wpList_alloc_st H rfl 46 rfl _ q_zero ?_; clear H; intro gq wx H) | (refine wpList_alloc_st H rfl 50 rfl _ ans_zero ?_; clear H; intro ga wx H) | (refine wpList_alloc_st H rfl 37 rfl _ ev_zero ?_; clear H; intro ge wx H) | (refine wpList_alloc_st H rfl 27 rfl _ ber_zero ?_; clear H; intro gr wx H))
          | ((with_reducible refine here_box ?_); first | (refine wpList_box_st H rfl _ _ rfl _ rfl ?_; clear H; intro gb wx H))))
      have l4 : (loadVar 27 ⟨gr, 0, none⟩).run Try.prog wx = .ok (.agg #[.int .i64 0, .int .i64 be, .int .i64 0, .int .i64 0, .int .i64 0, .slice none 0 0]) wx := H.loadRow 27 gr row_Berth (P := Try.prog) (by kernel_rfl)
      exact bodyPost_ret (v := .tuple #[.agg #[.int .i64 0, .int .i64 be, .int .i64 0, .int .i64 0, .int .i64 0, .slice none 0 0], .int .i64 0]) (by simp [results, Try.results24, asAddr, l4]) rfl (HF.out _ (H.subm _))
  · skip
    have hR : BM.forgetR ⟨4, be, bf, bd, br, es⟩ ep = (⟨0, 0, 0, 0, 0, []⟩, 7) := by
      (unfold BM.forgetR; dsimp only; repeat (first | rw [if_pos (by omega)] | rw [if_neg (by omega)]); try rfl)
    rw [hR]
    clear hR
    have HF := Lib.hid (fun W (h2 : St w0 W I) => (BPost.mk (r := (⟨0, 0, 0, 0, 0, []⟩, 7)) (n := 0) (c := 0) (A := none) rfl (Nat.le_refl _) (h2.old (s := 6) (n := 0) (A := none) (xs := []) Reads.none_) : BPost w0 I (⟨0, 0, 0, 0, 0, []⟩, 7) (.returned (.tuple #[.agg #[.int .i64 0, .int .i64 0, .int .i64 0, .int .i64 0, .int .i64 0, .slice none 0 0], .int .i64 7])) W))
    generalize BPost w0 I (⟨0, 0, 0, 0, 0, []⟩, 7) = POST at *
    go_enter Try.func24, Try.ntmps24
    clear hfold
    skip
    go_wp2_with (first | (go_at_call 33; have h := HI.out; refine (check_st ⟨4, be, bf, bd, br, es⟩ A n c m HL.out HB.out hm hc H).mono ?_; clear H h; rintro ed wy ⟨rfl, H⟩) | (go_at_call 34; refine (node_any _ _).mono ?_; rintro ed wy ⟨rfl, rfl⟩) | (first
        | ((with_reducible refine here_load ?_); first | (refine wpList_load_st H rfl 46 _ rfl rfl row_Queue (by kernel_rfl) ?_) | (refine wpList_load_st H rfl 50 _ rfl rfl row_Answer (by kernel_rfl) ?_) | (refine wpList_load_st H rfl 37 _ rfl rfl row_Event (by kernel_rfl) ?_) | (refine wpList_load_st H rfl 27 _ rfl rfl row_Berth (by kernel_rfl) ?_) | (refine wpList_load1_st H rfl 3 _ rfl rfl sc_int (by rfl) ?_) | (refine wpList_load1_stG H (by rfl) 3 _ rfl rfl sc_int (by rfl) ?_) | (refine wpList_load1_st H rfl 4 _ rfl rfl sc_bool (by rfl) ?_) | (refine wpList_load1_stG H (by rfl) 4 _ rfl rfl sc_bool (by rfl) ?_) | (refine wpList_load1_st H rfl 30 _ rfl rfl sc_Errno (by rfl) ?_) | (refine wpList_load1_stG H (by rfl) 30 _ rfl rfl sc_Errno (by rfl) ?_) | (refine wpList_load1_st H rfl 25 _ rfl rfl sc_Evs (by rfl) ?_) | (refine wpList_load1_stG H (by rfl) 25 _ rfl rfl sc_Evs (by rfl) ?_))
        | ((with_reducible refine here_store ?_); first | (refine wpList_store_st H rfl 46 _ _ rfl rfl rfl (by kernel_rfl) (by rfl) (by kernel_rfl) ?_; clear H; intro wx H) | (refine wpList_store_st H rfl 50 _ _ rfl rfl rfl (by kernel_rfl) (by rfl) (by kernel_rfl) ?_; clear H; intro wx H) | (refine wpList_store_st H rfl 37 _ _ rfl rfl rfl (by kernel_rfl) (by rfl) (by kernel_rfl) ?_; clear H; intro wx H) | (refine wpList_store_st H rfl 27 _ _ rfl rfl rfl (by kernel_rfl) (by rfl) (by kernel_rfl) ?_; clear H; intro wx H) | (refine wpList_store1_st H rfl 3 _ _ rfl rfl _ rfl (by rfl) s1_int (by rfl) (by rfl) ?_; clear H; intro wx H) | (refine wpList_store1_st H rfl 4 _ _ rfl rfl _ rfl (by rfl) s1_bool (by rfl) (by rfl) ?_; clear H; intro wx H) | (refine wpList_store1_st H rfl 30 _ _ rfl rfl _ rfl (by rfl) s1_Errno (by rfl) (by rfl) ?_; clear H; intro wx H) | (refine wpList_store1_st H rfl 25 _ _ rfl rfl _ rfl (by rfl) s1_Evs (by rfl) (by rfl) ?_; clear H; intro wx H))
        | ((with_reducible refine here_alloc ?_); first | (refine wpList_alloc_st H rfl 46 rfl _ q_zero ?_; clear H; intro gq wx H) | (refine wpList_alloc_st H rfl 50 rfl _ ans_zero ?_; clear H; intro ga wx H) | (refine wpList_alloc_st H rfl 37 rfl _ ev_zero ?_; clear H; intro ge wx H) | (refine wpList_alloc_st H rfl 27 rfl _ ber_zero ?_; clear H; intro gr wx H))
        | ((with_reducible refine here_box ?_); first | (refine wpList_box_st H rfl _ _ rfl _ rfl ?_; clear H; intro gb wx H))))
    have l4 : (loadVar 27 ⟨gr, 0, none⟩).run Try.prog wx = .ok (.agg #[.int .i64 0, .int .i64 0, .int .i64 0, .int .i64 0, .int .i64 0, .slice none 0 0]) wx := H.loadRow 27 gr row_Berth (P := Try.prog) (by kernel_rfl)
    exact bodyPost_ret (v := .tuple #[.agg #[.int .i64 0, .int .i64 0, .int .i64 0, .int .i64 0, .int .i64 0, .slice none 0 0], .int .i64 7]) (by simp [results, Try.results24, asAddr, l4]) rfl (HF.out _ (H.subm _))

end Go.Proofs.Ytjgbkicnagcmdaa
