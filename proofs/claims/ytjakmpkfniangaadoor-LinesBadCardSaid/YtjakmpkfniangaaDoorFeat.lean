/- Acts of raw numbers. -/
import Derived.Test.YtjakmpkfniangaaDoorReadL
import Derived.Test.YtjakmpkfniangaaDoorEvt
namespace Go.Proofs.YtjakmpkfniangaaDoor
open Go.RowKit

set_option linter.unusedVariables false
instance rowTy_Feat : RowTy 60 5 := ⟨by kernel_rfl, by kernel_rfl⟩
/-- an act that may be -/
def GoodAct (vs : List Int) : Prop := vs.length = 11 ∧ checkR vs = 0 ∧ I64s vs
theorem good_of {x0 x1 x2 x3 x4 x5 x6 x7 x8 x9 x10 : Int} (h : checkR [x0, x1, x2, x3, x4, x5, x6, x7, x8, x9, x10] = 0) (hb : ∀ v ∈ [x0, x1, x2, x3, x4, x5, x6, x7, x8, x9, x10], -9223372036854775808 ≤ v ∧ v ≤ 9223372036854775807) : GoodAct [x0, x1, x2, x3, x4, x5, x6, x7, x8, x9, x10] := ⟨rfl, h, hb⟩
/-- an event that a client may ask -/
def AskEv (e : Ev) : Prop := (e.kind = 1 ∧ 0 ≤ e.prod ∧ e.prod ≤ 3 ∧ 0 ≤ e.id ∧ e.id ≤ 1000 ∧ 0 ≤ e.body ∧ e.body ≤ 1000 ∧ e.hep = 0 ∧ e.hno = 0) ∨ ((e.kind = 2 ∨ e.kind = 4) ∧ e.prod = 0 ∧ e.id = 0 ∧ e.body = 0 ∧ e.hep = 0 ∧ e.hno = 0) ∨ (e.kind = 3 ∧ e.prod = 0 ∧ e.id = 0 ∧ e.body = 0 ∧ 0 ≤ e.hep ∧ e.hep ≤ 1000 ∧ 0 ≤ e.hno ∧ e.hno ≤ 1000)
theorem evOf_ask (k a b c : Int) : AskEv (evOf k a b c) := by
  have h1 := pick_lo a 2 (by omega)
  have h2 := pick_hi a 2 (by omega)
  have h3 := pick_lo b 24 (by omega)
  have h4 := pick_hi b 24 (by omega)
  have h5 := pick_lo c 1000 (by omega)
  have h6 := pick_hi c 1000 (by omega)
  have h7 := pick_lo a 3 (by omega)
  have h8 := pick_hi a 3 (by omega)
  have h9 := pick_lo b 6 (by omega)
  have h10 := pick_hi b 6 (by omega)
  unfold evOf AskEv
  split
  · exact .inl ⟨rfl, h1, (by show pick a 2 ≤ 3; omega), h3, (by show pick b 24 ≤ 1000; omega), h5, (by show pick c 1000 ≤ 1000; omega), rfl, rfl⟩
  · split
    · exact .inr (.inl ⟨.inl rfl, rfl, rfl, rfl, rfl, rfl⟩)
    · split
      · exact .inr (.inr ⟨rfl, rfl, rfl, rfl, h7, (by show pick a 3 ≤ 1000; omega), h9, (by show pick b 6 ≤ 1000; omega)⟩)
      · exact .inr (.inl ⟨.inr rfl, rfl, rfl, rfl, rfl, rfl⟩)
theorem good_0 (a b : Int) : GoodAct [1, pick b 5, pick a 4, 0, 0, 0, 0, 0, 0, 0, 0] := by
  have a4 := pick_lo a 4 (by omega)
  have a5 := pick_lo a 5 (by omega)
  have a6 := pick_lo a 100 (by omega)
  have a7 := pick_hi a 4 (by omega)
  have a8 := pick_hi a 5 (by omega)
  have a9 := pick_hi a 100 (by omega)
  have b5 := pick_lo b 5 (by omega)
  have b6 := pick_lo b 200 (by omega)
  have b8 := pick_hi b 5 (by omega)
  have b9 := pick_hi b 200 (by omega)
  refine good_of ?_ ?_
  · simp [checkR, formR, zeroed, slotBad]
    omega
  · intro v hv
    simp only [List.mem_cons, List.mem_nil_iff, or_false] at hv
    omega
theorem good_2 (a b : Int) : GoodAct [3, pick a 5, 0, 0, 0, 0, 0, 0, 0, 0, 0] := by
  have a4 := pick_lo a 4 (by omega)
  have a5 := pick_lo a 5 (by omega)
  have a6 := pick_lo a 100 (by omega)
  have a7 := pick_hi a 4 (by omega)
  have a8 := pick_hi a 5 (by omega)
  have a9 := pick_hi a 100 (by omega)
  have b5 := pick_lo b 5 (by omega)
  have b6 := pick_lo b 200 (by omega)
  have b8 := pick_hi b 5 (by omega)
  have b9 := pick_hi b 200 (by omega)
  refine good_of ?_ ?_
  · simp [checkR, formR, zeroed, slotBad]
    omega
  · intro v hv
    simp only [List.mem_cons, List.mem_nil_iff, or_false] at hv
    omega
theorem good_3 (a b : Int) : GoodAct [4, 0, 0, pick a 100, 0, 0, 0, 0, 0, 0, 0] := by
  have a4 := pick_lo a 4 (by omega)
  have a5 := pick_lo a 5 (by omega)
  have a6 := pick_lo a 100 (by omega)
  have a7 := pick_hi a 4 (by omega)
  have a8 := pick_hi a 5 (by omega)
  have a9 := pick_hi a 100 (by omega)
  have b5 := pick_lo b 5 (by omega)
  have b6 := pick_lo b 200 (by omega)
  have b8 := pick_hi b 5 (by omega)
  have b9 := pick_hi b 200 (by omega)
  refine good_of ?_ ?_
  · simp [checkR, formR, zeroed, slotBad]
    omega
  · intro v hv
    simp only [List.mem_cons, List.mem_nil_iff, or_false] at hv
    omega
theorem good_4 (a b : Int) : GoodAct [5, 0, 0, pick a 100, 0, 0, 0, 0, 0, 0, 0] := by
  have a4 := pick_lo a 4 (by omega)
  have a5 := pick_lo a 5 (by omega)
  have a6 := pick_lo a 100 (by omega)
  have a7 := pick_hi a 4 (by omega)
  have a8 := pick_hi a 5 (by omega)
  have a9 := pick_hi a 100 (by omega)
  have b5 := pick_lo b 5 (by omega)
  have b6 := pick_lo b 200 (by omega)
  have b8 := pick_hi b 5 (by omega)
  have b9 := pick_hi b 200 (by omega)
  refine good_of ?_ ?_
  · simp [checkR, formR, zeroed, slotBad]
    omega
  · intro v hv
    simp only [List.mem_cons, List.mem_nil_iff, or_false] at hv
    omega
theorem good_5 (a b : Int) : GoodAct [6, 0, 0, pick a 100, 0, 0, 0, 0, 0, 0, 0] := by
  have a4 := pick_lo a 4 (by omega)
  have a5 := pick_lo a 5 (by omega)
  have a6 := pick_lo a 100 (by omega)
  have a7 := pick_hi a 4 (by omega)
  have a8 := pick_hi a 5 (by omega)
  have a9 := pick_hi a 100 (by omega)
  have b5 := pick_lo b 5 (by omega)
  have b6 := pick_lo b 200 (by omega)
  have b8 := pick_hi b 5 (by omega)
  have b9 := pick_hi b 200 (by omega)
  refine good_of ?_ ?_
  · simp [checkR, formR, zeroed, slotBad]
    omega
  · intro v hv
    simp only [List.mem_cons, List.mem_nil_iff, or_false] at hv
    omega
theorem good_6 (a b : Int) : GoodAct [7, 0, 0, 0, 0, 0, 0, 0, 0, 0, 0] := by
  have a4 := pick_lo a 4 (by omega)
  have a5 := pick_lo a 5 (by omega)
  have a6 := pick_lo a 100 (by omega)
  have a7 := pick_hi a 4 (by omega)
  have a8 := pick_hi a 5 (by omega)
  have a9 := pick_hi a 100 (by omega)
  have b5 := pick_lo b 5 (by omega)
  have b6 := pick_lo b 200 (by omega)
  have b8 := pick_hi b 5 (by omega)
  have b9 := pick_hi b 200 (by omega)
  refine good_of ?_ ?_
  · simp [checkR, formR, zeroed]
  · intro v hv
    simp only [List.mem_cons, List.mem_nil_iff, or_false] at hv
    omega
theorem good_7 (a b : Int) : GoodAct [8, pick a 5, 0, 0, pick b 200, 0, 0, 0, 0, 0, 0] := by
  have a4 := pick_lo a 4 (by omega)
  have a5 := pick_lo a 5 (by omega)
  have a6 := pick_lo a 100 (by omega)
  have a7 := pick_hi a 4 (by omega)
  have a8 := pick_hi a 5 (by omega)
  have a9 := pick_hi a 100 (by omega)
  have b5 := pick_lo b 5 (by omega)
  have b6 := pick_lo b 200 (by omega)
  have b8 := pick_hi b 5 (by omega)
  have b9 := pick_hi b 200 (by omega)
  refine good_of ?_ ?_
  · simp [checkR, formR, zeroed, slotBad]
    omega
  · intro v hv
    simp only [List.mem_cons, List.mem_nil_iff, or_false] at hv
    omega
theorem good_8 (a b : Int) : GoodAct [9, pick a 5, 0, 0, 0, 0, 0, 0, 0, 0, 0] := by
  have a4 := pick_lo a 4 (by omega)
  have a5 := pick_lo a 5 (by omega)
  have a6 := pick_lo a 100 (by omega)
  have a7 := pick_hi a 4 (by omega)
  have a8 := pick_hi a 5 (by omega)
  have a9 := pick_hi a 100 (by omega)
  have b5 := pick_lo b 5 (by omega)
  have b6 := pick_lo b 200 (by omega)
  have b8 := pick_hi b 5 (by omega)
  have b9 := pick_hi b 200 (by omega)
  refine good_of ?_ ?_
  · simp [checkR, formR, zeroed, slotBad]
    omega
  · intro v hv
    simp only [List.mem_cons, List.mem_nil_iff, or_false] at hv
    omega
theorem good_9 (a b : Int) : GoodAct [10, pick b 5, pick a 4, 0, 0, 0, 0, 0, 0, 0, 0] := by
  have a4 := pick_lo a 4 (by omega)
  have a5 := pick_lo a 5 (by omega)
  have a6 := pick_lo a 100 (by omega)
  have a7 := pick_hi a 4 (by omega)
  have a8 := pick_hi a 5 (by omega)
  have a9 := pick_hi a 100 (by omega)
  have b5 := pick_lo b 5 (by omega)
  have b6 := pick_lo b 200 (by omega)
  have b8 := pick_hi b 5 (by omega)
  have b9 := pick_hi b 200 (by omega)
  refine good_of ?_ ?_
  · simp [checkR, formR, zeroed, slotBad]
    omega
  · intro v hv
    simp only [List.mem_cons, List.mem_nil_iff, or_false] at hv
    omega
theorem good_call {p q e0 e1 e2 e3 e4 e5 : Int} (hp : 0 ≤ p ∧ p < 5) (hq : 0 ≤ q ∧ q < 4) (he : AskEv ⟨e0, e1, e2, e3, e4, e5⟩) (h4 : e0 ≠ 4) : GoodAct [2, p, q, 0, 0, e0, e1, e2, e3, e4, e5] := by
  unfold AskEv at he
  dsimp only at he
  refine good_of ?_ ?_
  · rcases he with ⟨rfl, h2, h3, h4, h5, h6, h7, rfl, rfl⟩ | ⟨h1, rfl, rfl, rfl, rfl, rfl⟩ | ⟨rfl, rfl, rfl, rfl, h5, h6, h7, h8⟩
    · simp [checkR, formR, zeroed, slotBad]
      omega
    · obtain rfl : e0 = 2 := by omega
      simp [checkR, formR, zeroed, slotBad]
      omega
    · simp [checkR, formR, zeroed, slotBad]
      omega
  · intro v hv
    simp only [List.mem_cons, List.mem_nil_iff, or_false] at hv
    omega
theorem ask_break {e1 e2 e3 e4 e5 : Int} (he : AskEv ⟨4, e1, e2, e3, e4, e5⟩) : AskEv ⟨2, e1, e2, e3, e4, e5⟩ := by
  unfold AskEv at he ⊢
  dsimp only at he ⊢
  omega
theorem event_st {w0 w : World} {I : List It} (k a b c : Int) (h0 : Is64 k) (h1 : Is64 a) (h2 : Is64 b) (h3 : Is64 c) (H : St w0 w I) :
    Calls Tryd.prog 28 #[.agg #[.int .i64 k, .int .i64 a, .int .i64 b, .int .i64 c]] w (fun ed w' => ∃ e0 e1 e2 e3 e4 e5, AskEv ⟨e0, e1, e2, e3, e4, e5⟩ ∧ ed = .returned (.agg #[.int .i64 e0, .int .i64 e1, .int .i64 e2, .int .i64 e3, .int .i64 e4, .int .i64 e5]) ∧ St w0 w' I) :=
  (event_any k a b c w h0 h1 h2 h3).mono fun ed w' h => by
    obtain ⟨rfl, hb⟩ := h
    exact ⟨_, _, _, _, _, _, evOf_ask k a b c, rfl, H.below hb⟩
theorem is64_pick (n m : Int) (h0 : 0 < m) (h1 : m ≤ 1000000) : -9223372036854775808 ≤ pick n m ∧ pick n m ≤ 9223372036854775807 := by
  have := pick_lo n m h0
  have := pick_hi n m h0
  omega
theorem wrap_is64 (x : Int) : Is64 (wrap64 x) := by
  unfold wrap64 Is64
  omega
set_option maxRecDepth 100000 in
set_option maxHeartbeats 8000000 in
theorem act_st0 {w0 w : World} {I : List It} (k a b c d : Int) (hk : Is64 k) (ha : Is64 a) (hb : Is64 b) (hc : Is64 c) (hd : Is64 d) (H : St w0 w I) :
    Calls Tryd.prog 17 #[.agg #[.int .i64 k, .int .i64 a, .int .i64 b, .int .i64 c, .int .i64 d]] w (fun ed w' => ∃ vs, GoodAct vs ∧ ed = .returned (.agg (iCells vs)) ∧ St w0 w' I) := by
  obtain ⟨hk1, hk2⟩ := hk
  obtain ⟨ha1, ha2⟩ := ha
  obtain ⟨hb1, hb2⟩ := hb
  have HC := Lib.hid hc
  have HD := Lib.hid hd
  have HA := Lib.hid (show Is64 a from ⟨ha1, ha2⟩)
  have PK := Lib.hid (fun W n m h1 h2 (h3 : (1 : Int) ≤ m) (h4 : m ≤ 1000) => picked_any n m W h1 h2 h3 (by omega))
  have CE := Lib.hid (fun W J k a b c h0 h1 h2 h3 (H : St w0 W J) => event_st (w0 := w0) (w := W) (I := J) k a b c h0 h1 h2 h3 H)
  have HF := Lib.hid (fun W vs (hg : GoodAct vs) (h : St w0 W I) => (show (fun ed w' => ∃ vs, GoodAct vs ∧ ed = Ending.returned (.agg (iCells vs)) ∧ St w0 w' I) (Ending.returned (.agg (iCells vs))) W from ⟨vs, hg, rfl, h⟩))
  generalize (fun ed w' => ∃ vs, GoodAct vs ∧ ed = Ending.returned (.agg (iCells vs)) ∧ St w0 w' I) = POST at *
  go_enter Tryd.func17, Tryd.ntmps17
  go_upto_region 1 with (first | ((with_reducible refine here_box ?_); refine wpList_box_st H rfl 60 _ rfl _ rfl ?_; clear H; intro g1 wx H) | ((with_reducible refine here_alloc ?_); refine wpList_alloc_st H rfl 41 rfl _ act_zero ?_; clear H; intro g2 wx H))
  have pk := pick_lo k 10 (by omega)
  have pk' := pick_hi k 10 (by omega)
  go_upto_region 2 with (first | (go_at_call 9; (with_reducible refine (PK.out _ _ _ (by omega) (by omega) (by decide) (by decide)).mono ?_); rintro ed wy ⟨rfl, rfl⟩) | ((with_reducible refine here_load ?_); first | refine ldR H rfl _ _ rfl rfl (by kernel_rfl) ?_ | refine ldS H rfl _ _ rfl rfl (by rfl) ?_ | refine ldSG H (by rfl) _ _ rfl rfl (by rfl) ?_ | refine ldRG H (by rfl) _ _ rfl rfl (by kernel_rfl) ?_) | ((with_reducible refine here_store ?_); first | (refine stR H rfl _ _ _ rfl rfl rfl (by rfl) (by rfl) (by kernel_rfl) ?_; clear H; intro wx H) | (refine stS H rfl _ _ _ rfl rfl _ rfl (by rfl) (by rfl) (by rfl) ?_; clear H; intro wx H)) | ((with_reducible refine here_alloc ?_); first | (refine wpList_alloc_st H rfl 41 rfl _ act_zero ?_; clear H; intro gac1 wx H)) | ((with_reducible refine here_box ?_); refine wpList_box_st H rfl _ _ rfl _ rfl ?_; clear H; intro gb1 wx H))
  obtain ⟨m, hm⟩ : ∃ m, pick k 10 = m := ⟨_, rfl⟩
  rw [hm] at pk pk' H ⊢
  clear hm
  (try simp only [Act.put])
  replace H : St w0 wx (.bl gac1 41 #[.int .i64 (1 + m), .int .i64 0, .int .i64 0, .int .i64 0, .int .i64 0, .int .i64 0, .int .i64 0, .int .i64 0, .int .i64 0, .int .i64 0, .int .i64 0] :: .bl g2 41 #[.int .i64 0, .int .i64 0, .int .i64 0, .int .i64 0, .int .i64 0, .int .i64 0, .int .i64 0, .int .i64 0, .int .i64 0, .int .i64 0, .int .i64 0] :: .bl g1 60 #[.int .i64 k, .int .i64 a, .int .i64 b, .int .i64 c, .int .i64 d] :: I) := H.subm _
  rcases (show m = 0 ∨ m = 1 ∨ m = 2 ∨ m = 3 ∨ m = 4 ∨ m = 5 ∨ m = 6 ∨ m = 7 ∨ m = 8 ∨ m = 9 by omega) with h | h | h | h | h | h | h | h | h | h
  all_goals
    subst h
    clear pk pk'
    try simp only [Int.reduceAdd] at H
    try simp only [Int.reduceAdd]
  · go_wp2_with (first | (go_at_call 9; (with_reducible refine (PK.out _ _ _ (by omega) (by omega) (by decide) (by decide)).mono ?_); rintro ed wy ⟨rfl, rfl⟩) | ((with_reducible refine here_load ?_); first | refine ldR H rfl _ _ rfl rfl (by kernel_rfl) ?_ | refine ldS H rfl _ _ rfl rfl (by rfl) ?_ | refine ldSG H (by rfl) _ _ rfl rfl (by rfl) ?_ | refine ldRG H (by rfl) _ _ rfl rfl (by kernel_rfl) ?_) | ((with_reducible refine here_store ?_); first | (refine stR H rfl _ _ _ rfl rfl rfl (by rfl) (by rfl) (by kernel_rfl) ?_; clear H; intro wx H) | (refine stS H rfl _ _ _ rfl rfl _ rfl (by rfl) (by rfl) (by rfl) ?_; clear H; intro wx H)) | ((with_reducible refine here_alloc ?_); first | (refine wpList_alloc_st H rfl 41 rfl _ act_zero ?_; clear H; intro gac5 wx H)) | ((with_reducible refine here_box ?_); refine wpList_box_st H rfl _ _ rfl _ rfl ?_; clear H; intro gb5 wx H))
    replace H : St w0 wx (.bl gac1 41 #[.int .i64 1, .int .i64 (pick b 5), .int .i64 (pick a 4), .int .i64 0, .int .i64 0, .int .i64 0, .int .i64 0, .int .i64 0, .int .i64 0, .int .i64 0, .int .i64 0] :: .bl g2 41 #[.int .i64 1, .int .i64 (pick b 5), .int .i64 (pick a 4), .int .i64 0, .int .i64 0, .int .i64 0, .int .i64 0, .int .i64 0, .int .i64 0, .int .i64 0, .int .i64 0] :: .bl g1 60 #[.int .i64 k, .int .i64 a, .int .i64 b, .int .i64 c, .int .i64 d] :: I) := H
    have l4 : (loadVar 41 ⟨g2, 0, none⟩).run Tryd.prog wx = .ok (.agg #[.int .i64 1, .int .i64 (pick b 5), .int .i64 (pick a 4), .int .i64 0, .int .i64 0, .int .i64 0, .int .i64 0, .int .i64 0, .int .i64 0, .int .i64 0, .int .i64 0]) wx := H.loadRow 41 g2 row_Act (P := Tryd.prog) (by kernel_rfl)
    (try simp only [Act.put])
    exact bodyPost_ret (v := .agg #[.int .i64 1, .int .i64 (pick b 5), .int .i64 (pick a 4), .int .i64 0, .int .i64 0, .int .i64 0, .int .i64 0, .int .i64 0, .int .i64 0, .int .i64 0, .int .i64 0]) (by simp [results, Tryd.results17, asAddr, l4]) rfl (HF.out _ [1, pick b 5, pick a 4, 0, 0, 0, 0, 0, 0, 0, 0] (good_0 a b) (H.subm _))
  · go_upto_region 21 with (first | (go_at_call 9; (with_reducible refine (PK.out _ _ _ (by omega) (by omega) (by decide) (by decide)).mono ?_); rintro ed wy ⟨rfl, rfl⟩) | (go_at_call 28; (with_reducible refine (CE.out _ _ _ _ _ _ HC.out HD.out (wrap_is64 _) HA.out H).mono ?_); clear H; rintro ed wy ⟨e0, e1, e2, e3, e4, e5, he, rfl, H⟩) | ((with_reducible refine here_load ?_); first | refine ldR H rfl _ _ rfl rfl (by kernel_rfl) ?_ | refine ldS H rfl _ _ rfl rfl (by rfl) ?_ | refine ldSG H (by rfl) _ _ rfl rfl (by rfl) ?_ | refine ldRG H (by rfl) _ _ rfl rfl (by kernel_rfl) ?_) | ((with_reducible refine here_store ?_); first | (refine stR H rfl _ _ _ rfl rfl rfl (by rfl) (by rfl) (by kernel_rfl) ?_; clear H; intro wx H) | (refine stS H rfl _ _ _ rfl rfl _ rfl (by rfl) (by rfl) (by rfl) ?_; clear H; intro wx H)) | ((with_reducible refine here_alloc ?_); first | (refine wpList_alloc_st H rfl 41 rfl _ act_zero ?_; clear H; intro gac4 wx H)) | ((with_reducible refine here_box ?_); refine wpList_box_st H rfl _ _ rfl _ rfl ?_; clear H; intro gb4 wx H) | ((with_reducible refine here_store ?_); refine wpList_storePart2_st H rfl 39 _ _ rfl rfl rfl (#[.int .i64 2, .int .i64 (pick a 5), .int .i64 (pick b 4), .int .i64 0, .int .i64 0, .int .i64 e0, .int .i64 e1, .int .i64 e2, .int .i64 e3, .int .i64 e4, .int .i64 e5]) (by kernel_rfl) (by kernel_rfl) (by rfl) (by kernel_rfl) ?_; clear H; intro wx H))
    by_cases h4 : e0 = 4
    · subst h4
      go_wp2_with (first | (go_at_call 9; (with_reducible refine (PK.out _ _ _ (by omega) (by omega) (by decide) (by decide)).mono ?_); rintro ed wy ⟨rfl, rfl⟩) | ((with_reducible refine here_load ?_); first | refine ldR H rfl _ _ rfl rfl (by kernel_rfl) ?_ | refine ldS H rfl _ _ rfl rfl (by rfl) ?_ | refine ldSG H (by rfl) _ _ rfl rfl (by rfl) ?_ | refine ldRG H (by rfl) _ _ rfl rfl (by kernel_rfl) ?_) | ((with_reducible refine here_store ?_); first | (refine stR H rfl _ _ _ rfl rfl rfl (by rfl) (by rfl) (by kernel_rfl) ?_; clear H; intro wx H) | (refine stS H rfl _ _ _ rfl rfl _ rfl (by rfl) (by rfl) (by rfl) ?_; clear H; intro wx H)) | ((with_reducible refine here_alloc ?_); first | (refine wpList_alloc_st H rfl 41 rfl _ act_zero ?_; clear H; intro gac5 wx H)) | ((with_reducible refine here_box ?_); refine wpList_box_st H rfl _ _ rfl _ rfl ?_; clear H; intro gb5 wx H))
      replace H : St w0 wx (.bl gac1 41 #[.int .i64 2, .int .i64 (pick a 5), .int .i64 (pick b 4), .int .i64 0, .int .i64 0, .int .i64 2, .int .i64 e1, .int .i64 e2, .int .i64 e3, .int .i64 e4, .int .i64 e5] :: .bl g2 41 #[.int .i64 2, .int .i64 (pick a 5), .int .i64 (pick b 4), .int .i64 0, .int .i64 0, .int .i64 2, .int .i64 e1, .int .i64 e2, .int .i64 e3, .int .i64 e4, .int .i64 e5] :: .bl g1 60 #[.int .i64 k, .int .i64 a, .int .i64 b, .int .i64 c, .int .i64 d] :: I) := H
      have l4 : (loadVar 41 ⟨g2, 0, none⟩).run Tryd.prog wx = .ok (.agg #[.int .i64 2, .int .i64 (pick a 5), .int .i64 (pick b 4), .int .i64 0, .int .i64 0, .int .i64 2, .int .i64 e1, .int .i64 e2, .int .i64 e3, .int .i64 e4, .int .i64 e5]) wx := H.loadRow 41 g2 row_Act (P := Tryd.prog) (by kernel_rfl)
      (try simp only [Act.put])
      exact bodyPost_ret (v := .agg #[.int .i64 2, .int .i64 (pick a 5), .int .i64 (pick b 4), .int .i64 0, .int .i64 0, .int .i64 2, .int .i64 e1, .int .i64 e2, .int .i64 e3, .int .i64 e4, .int .i64 e5]) (by simp [results, Tryd.results17, asAddr, l4]) rfl (HF.out _ [2, pick a 5, pick b 4, 0, 0, 2, e1, e2, e3, e4, e5] (good_call ⟨pick_lo _ _ (by omega), pick_hi _ _ (by omega)⟩ ⟨pick_lo _ _ (by omega), pick_hi _ _ (by omega)⟩ (ask_break he) (by decide)) (H.subm _))
    · have h4b : (e0 == 4) = false := by simpa using h4
      have HE4 := Lib.hid h4
      clear h4
      go_wp2_with (first | (go_at_call 9; (with_reducible refine (PK.out _ _ _ (by omega) (by omega) (by decide) (by decide)).mono ?_); rintro ed wy ⟨rfl, rfl⟩) | ((with_reducible refine here_load ?_); first | refine ldR H rfl _ _ rfl rfl (by kernel_rfl) ?_ | refine ldS H rfl _ _ rfl rfl (by rfl) ?_ | refine ldSG H (by rfl) _ _ rfl rfl (by rfl) ?_ | refine ldRG H (by rfl) _ _ rfl rfl (by kernel_rfl) ?_) | ((with_reducible refine here_store ?_); first | (refine stR H rfl _ _ _ rfl rfl rfl (by rfl) (by rfl) (by kernel_rfl) ?_; clear H; intro wx H) | (refine stS H rfl _ _ _ rfl rfl _ rfl (by rfl) (by rfl) (by rfl) ?_; clear H; intro wx H)) | ((with_reducible refine here_alloc ?_); first | (refine wpList_alloc_st H rfl 41 rfl _ act_zero ?_; clear H; intro gac5 wx H)) | ((with_reducible refine here_box ?_); refine wpList_box_st H rfl _ _ rfl _ rfl ?_; clear H; intro gb5 wx H))
      replace H : St w0 wx (.bl gac1 41 #[.int .i64 2, .int .i64 (pick a 5), .int .i64 (pick b 4), .int .i64 0, .int .i64 0, .int .i64 e0, .int .i64 e1, .int .i64 e2, .int .i64 e3, .int .i64 e4, .int .i64 e5] :: .bl g2 41 #[.int .i64 2, .int .i64 (pick a 5), .int .i64 (pick b 4), .int .i64 0, .int .i64 0, .int .i64 e0, .int .i64 e1, .int .i64 e2, .int .i64 e3, .int .i64 e4, .int .i64 e5] :: .bl g1 60 #[.int .i64 k, .int .i64 a, .int .i64 b, .int .i64 c, .int .i64 d] :: I) := H
      have l4 : (loadVar 41 ⟨g2, 0, none⟩).run Tryd.prog wx = .ok (.agg #[.int .i64 2, .int .i64 (pick a 5), .int .i64 (pick b 4), .int .i64 0, .int .i64 0, .int .i64 e0, .int .i64 e1, .int .i64 e2, .int .i64 e3, .int .i64 e4, .int .i64 e5]) wx := H.loadRow 41 g2 row_Act (P := Tryd.prog) (by kernel_rfl)
      (try simp only [Act.put])
      exact bodyPost_ret (v := .agg #[.int .i64 2, .int .i64 (pick a 5), .int .i64 (pick b 4), .int .i64 0, .int .i64 0, .int .i64 e0, .int .i64 e1, .int .i64 e2, .int .i64 e3, .int .i64 e4, .int .i64 e5]) (by simp [results, Tryd.results17, asAddr, l4]) rfl (HF.out _ [2, pick a 5, pick b 4, 0, 0, e0, e1, e2, e3, e4, e5] (good_call ⟨pick_lo _ _ (by omega), pick_hi _ _ (by omega)⟩ ⟨pick_lo _ _ (by omega), pick_hi _ _ (by omega)⟩ he HE4.out) (H.subm _))
  · go_wp2_with (first | (go_at_call 9; (with_reducible refine (PK.out _ _ _ (by omega) (by omega) (by decide) (by decide)).mono ?_); rintro ed wy ⟨rfl, rfl⟩) | ((with_reducible refine here_load ?_); first | refine ldR H rfl _ _ rfl rfl (by kernel_rfl) ?_ | refine ldS H rfl _ _ rfl rfl (by rfl) ?_ | refine ldSG H (by rfl) _ _ rfl rfl (by rfl) ?_ | refine ldRG H (by rfl) _ _ rfl rfl (by kernel_rfl) ?_) | ((with_reducible refine here_store ?_); first | (refine stR H rfl _ _ _ rfl rfl rfl (by rfl) (by rfl) (by kernel_rfl) ?_; clear H; intro wx H) | (refine stS H rfl _ _ _ rfl rfl _ rfl (by rfl) (by rfl) (by rfl) ?_; clear H; intro wx H)) | ((with_reducible refine here_alloc ?_); first | (refine wpList_alloc_st H rfl 41 rfl _ act_zero ?_; clear H; intro gac5 wx H)) | ((with_reducible refine here_box ?_); refine wpList_box_st H rfl _ _ rfl _ rfl ?_; clear H; intro gb5 wx H))
    replace H : St w0 wx (.bl gac1 41 #[.int .i64 3, .int .i64 (pick a 5), .int .i64 0, .int .i64 0, .int .i64 0, .int .i64 0, .int .i64 0, .int .i64 0, .int .i64 0, .int .i64 0, .int .i64 0] :: .bl g2 41 #[.int .i64 3, .int .i64 (pick a 5), .int .i64 0, .int .i64 0, .int .i64 0, .int .i64 0, .int .i64 0, .int .i64 0, .int .i64 0, .int .i64 0, .int .i64 0] :: .bl g1 60 #[.int .i64 k, .int .i64 a, .int .i64 b, .int .i64 c, .int .i64 d] :: I) := H
    have l4 : (loadVar 41 ⟨g2, 0, none⟩).run Tryd.prog wx = .ok (.agg #[.int .i64 3, .int .i64 (pick a 5), .int .i64 0, .int .i64 0, .int .i64 0, .int .i64 0, .int .i64 0, .int .i64 0, .int .i64 0, .int .i64 0, .int .i64 0]) wx := H.loadRow 41 g2 row_Act (P := Tryd.prog) (by kernel_rfl)
    (try simp only [Act.put])
    exact bodyPost_ret (v := .agg #[.int .i64 3, .int .i64 (pick a 5), .int .i64 0, .int .i64 0, .int .i64 0, .int .i64 0, .int .i64 0, .int .i64 0, .int .i64 0, .int .i64 0, .int .i64 0]) (by simp [results, Tryd.results17, asAddr, l4]) rfl (HF.out _ [3, pick a 5, 0, 0, 0, 0, 0, 0, 0, 0, 0] (good_2 a b) (H.subm _))
  · go_wp2_with (first | (go_at_call 9; (with_reducible refine (PK.out _ _ _ (by omega) (by omega) (by decide) (by decide)).mono ?_); rintro ed wy ⟨rfl, rfl⟩) | ((with_reducible refine here_load ?_); first | refine ldR H rfl _ _ rfl rfl (by kernel_rfl) ?_ | refine ldS H rfl _ _ rfl rfl (by rfl) ?_ | refine ldSG H (by rfl) _ _ rfl rfl (by rfl) ?_ | refine ldRG H (by rfl) _ _ rfl rfl (by kernel_rfl) ?_) | ((with_reducible refine here_store ?_); first | (refine stR H rfl _ _ _ rfl rfl rfl (by rfl) (by rfl) (by kernel_rfl) ?_; clear H; intro wx H) | (refine stS H rfl _ _ _ rfl rfl _ rfl (by rfl) (by rfl) (by rfl) ?_; clear H; intro wx H)) | ((with_reducible refine here_alloc ?_); first | (refine wpList_alloc_st H rfl 41 rfl _ act_zero ?_; clear H; intro gac5 wx H)) | ((with_reducible refine here_box ?_); refine wpList_box_st H rfl _ _ rfl _ rfl ?_; clear H; intro gb5 wx H))
    replace H : St w0 wx (.bl gac1 41 #[.int .i64 4, .int .i64 0, .int .i64 0, .int .i64 (pick a 100), .int .i64 0, .int .i64 0, .int .i64 0, .int .i64 0, .int .i64 0, .int .i64 0, .int .i64 0] :: .bl g2 41 #[.int .i64 4, .int .i64 0, .int .i64 0, .int .i64 (pick a 100), .int .i64 0, .int .i64 0, .int .i64 0, .int .i64 0, .int .i64 0, .int .i64 0, .int .i64 0] :: .bl g1 60 #[.int .i64 k, .int .i64 a, .int .i64 b, .int .i64 c, .int .i64 d] :: I) := H
    have l4 : (loadVar 41 ⟨g2, 0, none⟩).run Tryd.prog wx = .ok (.agg #[.int .i64 4, .int .i64 0, .int .i64 0, .int .i64 (pick a 100), .int .i64 0, .int .i64 0, .int .i64 0, .int .i64 0, .int .i64 0, .int .i64 0, .int .i64 0]) wx := H.loadRow 41 g2 row_Act (P := Tryd.prog) (by kernel_rfl)
    (try simp only [Act.put])
    exact bodyPost_ret (v := .agg #[.int .i64 4, .int .i64 0, .int .i64 0, .int .i64 (pick a 100), .int .i64 0, .int .i64 0, .int .i64 0, .int .i64 0, .int .i64 0, .int .i64 0, .int .i64 0]) (by simp [results, Tryd.results17, asAddr, l4]) rfl (HF.out _ [4, 0, 0, pick a 100, 0, 0, 0, 0, 0, 0, 0] (good_3 a b) (H.subm _))
  · go_wp2_with (first | (go_at_call 9; (with_reducible refine (PK.out _ _ _ (by omega) (by omega) (by decide) (by decide)).mono ?_); rintro ed wy ⟨rfl, rfl⟩) | ((with_reducible refine here_load ?_); first | refine ldR H rfl _ _ rfl rfl (by kernel_rfl) ?_ | refine ldS H rfl _ _ rfl rfl (by rfl) ?_ | refine ldSG H (by rfl) _ _ rfl rfl (by rfl) ?_ | refine ldRG H (by rfl) _ _ rfl rfl (by kernel_rfl) ?_) | ((with_reducible refine here_store ?_); first | (refine stR H rfl _ _ _ rfl rfl rfl (by rfl) (by rfl) (by kernel_rfl) ?_; clear H; intro wx H) | (refine stS H rfl _ _ _ rfl rfl _ rfl (by rfl) (by rfl) (by rfl) ?_; clear H; intro wx H)) | ((with_reducible refine here_alloc ?_); first | (refine wpList_alloc_st H rfl 41 rfl _ act_zero ?_; clear H; intro gac5 wx H)) | ((with_reducible refine here_box ?_); refine wpList_box_st H rfl _ _ rfl _ rfl ?_; clear H; intro gb5 wx H))
    replace H : St w0 wx (.bl gac1 41 #[.int .i64 5, .int .i64 0, .int .i64 0, .int .i64 (pick a 100), .int .i64 0, .int .i64 0, .int .i64 0, .int .i64 0, .int .i64 0, .int .i64 0, .int .i64 0] :: .bl g2 41 #[.int .i64 5, .int .i64 0, .int .i64 0, .int .i64 (pick a 100), .int .i64 0, .int .i64 0, .int .i64 0, .int .i64 0, .int .i64 0, .int .i64 0, .int .i64 0] :: .bl g1 60 #[.int .i64 k, .int .i64 a, .int .i64 b, .int .i64 c, .int .i64 d] :: I) := H
    have l4 : (loadVar 41 ⟨g2, 0, none⟩).run Tryd.prog wx = .ok (.agg #[.int .i64 5, .int .i64 0, .int .i64 0, .int .i64 (pick a 100), .int .i64 0, .int .i64 0, .int .i64 0, .int .i64 0, .int .i64 0, .int .i64 0, .int .i64 0]) wx := H.loadRow 41 g2 row_Act (P := Tryd.prog) (by kernel_rfl)
    (try simp only [Act.put])
    exact bodyPost_ret (v := .agg #[.int .i64 5, .int .i64 0, .int .i64 0, .int .i64 (pick a 100), .int .i64 0, .int .i64 0, .int .i64 0, .int .i64 0, .int .i64 0, .int .i64 0, .int .i64 0]) (by simp [results, Tryd.results17, asAddr, l4]) rfl (HF.out _ [5, 0, 0, pick a 100, 0, 0, 0, 0, 0, 0, 0] (good_4 a b) (H.subm _))
  · go_wp2_with (first | (go_at_call 9; (with_reducible refine (PK.out _ _ _ (by omega) (by omega) (by decide) (by decide)).mono ?_); rintro ed wy ⟨rfl, rfl⟩) | ((with_reducible refine here_load ?_); first | refine ldR H rfl _ _ rfl rfl (by kernel_rfl) ?_ | refine ldS H rfl _ _ rfl rfl (by rfl) ?_ | refine ldSG H (by rfl) _ _ rfl rfl (by rfl) ?_ | refine ldRG H (by rfl) _ _ rfl rfl (by kernel_rfl) ?_) | ((with_reducible refine here_store ?_); first | (refine stR H rfl _ _ _ rfl rfl rfl (by rfl) (by rfl) (by kernel_rfl) ?_; clear H; intro wx H) | (refine stS H rfl _ _ _ rfl rfl _ rfl (by rfl) (by rfl) (by rfl) ?_; clear H; intro wx H)) | ((with_reducible refine here_alloc ?_); first | (refine wpList_alloc_st H rfl 41 rfl _ act_zero ?_; clear H; intro gac5 wx H)) | ((with_reducible refine here_box ?_); refine wpList_box_st H rfl _ _ rfl _ rfl ?_; clear H; intro gb5 wx H))
    replace H : St w0 wx (.bl gac1 41 #[.int .i64 6, .int .i64 0, .int .i64 0, .int .i64 (pick a 100), .int .i64 0, .int .i64 0, .int .i64 0, .int .i64 0, .int .i64 0, .int .i64 0, .int .i64 0] :: .bl g2 41 #[.int .i64 6, .int .i64 0, .int .i64 0, .int .i64 (pick a 100), .int .i64 0, .int .i64 0, .int .i64 0, .int .i64 0, .int .i64 0, .int .i64 0, .int .i64 0] :: .bl g1 60 #[.int .i64 k, .int .i64 a, .int .i64 b, .int .i64 c, .int .i64 d] :: I) := H
    have l4 : (loadVar 41 ⟨g2, 0, none⟩).run Tryd.prog wx = .ok (.agg #[.int .i64 6, .int .i64 0, .int .i64 0, .int .i64 (pick a 100), .int .i64 0, .int .i64 0, .int .i64 0, .int .i64 0, .int .i64 0, .int .i64 0, .int .i64 0]) wx := H.loadRow 41 g2 row_Act (P := Tryd.prog) (by kernel_rfl)
    (try simp only [Act.put])
    exact bodyPost_ret (v := .agg #[.int .i64 6, .int .i64 0, .int .i64 0, .int .i64 (pick a 100), .int .i64 0, .int .i64 0, .int .i64 0, .int .i64 0, .int .i64 0, .int .i64 0, .int .i64 0]) (by simp [results, Tryd.results17, asAddr, l4]) rfl (HF.out _ [6, 0, 0, pick a 100, 0, 0, 0, 0, 0, 0, 0] (good_5 a b) (H.subm _))
  · go_wp2_with (first | (go_at_call 9; (with_reducible refine (PK.out _ _ _ (by omega) (by omega) (by decide) (by decide)).mono ?_); rintro ed wy ⟨rfl, rfl⟩) | ((with_reducible refine here_load ?_); first | refine ldR H rfl _ _ rfl rfl (by kernel_rfl) ?_ | refine ldS H rfl _ _ rfl rfl (by rfl) ?_ | refine ldSG H (by rfl) _ _ rfl rfl (by rfl) ?_ | refine ldRG H (by rfl) _ _ rfl rfl (by kernel_rfl) ?_) | ((with_reducible refine here_store ?_); first | (refine stR H rfl _ _ _ rfl rfl rfl (by rfl) (by rfl) (by kernel_rfl) ?_; clear H; intro wx H) | (refine stS H rfl _ _ _ rfl rfl _ rfl (by rfl) (by rfl) (by rfl) ?_; clear H; intro wx H)) | ((with_reducible refine here_alloc ?_); first | (refine wpList_alloc_st H rfl 41 rfl _ act_zero ?_; clear H; intro gac5 wx H)) | ((with_reducible refine here_box ?_); refine wpList_box_st H rfl _ _ rfl _ rfl ?_; clear H; intro gb5 wx H))
    replace H : St w0 wx (.bl gac1 41 #[.int .i64 7, .int .i64 0, .int .i64 0, .int .i64 0, .int .i64 0, .int .i64 0, .int .i64 0, .int .i64 0, .int .i64 0, .int .i64 0, .int .i64 0] :: .bl g2 41 #[.int .i64 7, .int .i64 0, .int .i64 0, .int .i64 0, .int .i64 0, .int .i64 0, .int .i64 0, .int .i64 0, .int .i64 0, .int .i64 0, .int .i64 0] :: .bl g1 60 #[.int .i64 k, .int .i64 a, .int .i64 b, .int .i64 c, .int .i64 d] :: I) := H
    have l4 : (loadVar 41 ⟨g2, 0, none⟩).run Tryd.prog wx = .ok (.agg #[.int .i64 7, .int .i64 0, .int .i64 0, .int .i64 0, .int .i64 0, .int .i64 0, .int .i64 0, .int .i64 0, .int .i64 0, .int .i64 0, .int .i64 0]) wx := H.loadRow 41 g2 row_Act (P := Tryd.prog) (by kernel_rfl)
    (try simp only [Act.put])
    exact bodyPost_ret (v := .agg #[.int .i64 7, .int .i64 0, .int .i64 0, .int .i64 0, .int .i64 0, .int .i64 0, .int .i64 0, .int .i64 0, .int .i64 0, .int .i64 0, .int .i64 0]) (by simp [results, Tryd.results17, asAddr, l4]) rfl (HF.out _ [7, 0, 0, 0, 0, 0, 0, 0, 0, 0, 0] (good_6 a b) (H.subm _))
  · go_wp2_with (first | (go_at_call 9; (with_reducible refine (PK.out _ _ _ (by omega) (by omega) (by decide) (by decide)).mono ?_); rintro ed wy ⟨rfl, rfl⟩) | ((with_reducible refine here_load ?_); first | refine ldR H rfl _ _ rfl rfl (by kernel_rfl) ?_ | refine ldS H rfl _ _ rfl rfl (by rfl) ?_ | refine ldSG H (by rfl) _ _ rfl rfl (by rfl) ?_ | refine ldRG H (by rfl) _ _ rfl rfl (by kernel_rfl) ?_) | ((with_reducible refine here_store ?_); first | (refine stR H rfl _ _ _ rfl rfl rfl (by rfl) (by rfl) (by kernel_rfl) ?_; clear H; intro wx H) | (refine stS H rfl _ _ _ rfl rfl _ rfl (by rfl) (by rfl) (by rfl) ?_; clear H; intro wx H)) | ((with_reducible refine here_alloc ?_); first | (refine wpList_alloc_st H rfl 41 rfl _ act_zero ?_; clear H; intro gac5 wx H)) | ((with_reducible refine here_box ?_); refine wpList_box_st H rfl _ _ rfl _ rfl ?_; clear H; intro gb5 wx H))
    replace H : St w0 wx (.bl gac1 41 #[.int .i64 8, .int .i64 (pick a 5), .int .i64 0, .int .i64 0, .int .i64 (pick b 200), .int .i64 0, .int .i64 0, .int .i64 0, .int .i64 0, .int .i64 0, .int .i64 0] :: .bl g2 41 #[.int .i64 8, .int .i64 (pick a 5), .int .i64 0, .int .i64 0, .int .i64 (pick b 200), .int .i64 0, .int .i64 0, .int .i64 0, .int .i64 0, .int .i64 0, .int .i64 0] :: .bl g1 60 #[.int .i64 k, .int .i64 a, .int .i64 b, .int .i64 c, .int .i64 d] :: I) := H
    have l4 : (loadVar 41 ⟨g2, 0, none⟩).run Tryd.prog wx = .ok (.agg #[.int .i64 8, .int .i64 (pick a 5), .int .i64 0, .int .i64 0, .int .i64 (pick b 200), .int .i64 0, .int .i64 0, .int .i64 0, .int .i64 0, .int .i64 0, .int .i64 0]) wx := H.loadRow 41 g2 row_Act (P := Tryd.prog) (by kernel_rfl)
    (try simp only [Act.put])
    exact bodyPost_ret (v := .agg #[.int .i64 8, .int .i64 (pick a 5), .int .i64 0, .int .i64 0, .int .i64 (pick b 200), .int .i64 0, .int .i64 0, .int .i64 0, .int .i64 0, .int .i64 0, .int .i64 0]) (by simp [results, Tryd.results17, asAddr, l4]) rfl (HF.out _ [8, pick a 5, 0, 0, pick b 200, 0, 0, 0, 0, 0, 0] (good_7 a b) (H.subm _))
  · go_wp2_with (first | (go_at_call 9; (with_reducible refine (PK.out _ _ _ (by omega) (by omega) (by decide) (by decide)).mono ?_); rintro ed wy ⟨rfl, rfl⟩) | ((with_reducible refine here_load ?_); first | refine ldR H rfl _ _ rfl rfl (by kernel_rfl) ?_ | refine ldS H rfl _ _ rfl rfl (by rfl) ?_ | refine ldSG H (by rfl) _ _ rfl rfl (by rfl) ?_ | refine ldRG H (by rfl) _ _ rfl rfl (by kernel_rfl) ?_) | ((with_reducible refine here_store ?_); first | (refine stR H rfl _ _ _ rfl rfl rfl (by rfl) (by rfl) (by kernel_rfl) ?_; clear H; intro wx H) | (refine stS H rfl _ _ _ rfl rfl _ rfl (by rfl) (by rfl) (by rfl) ?_; clear H; intro wx H)) | ((with_reducible refine here_alloc ?_); first | (refine wpList_alloc_st H rfl 41 rfl _ act_zero ?_; clear H; intro gac5 wx H)) | ((with_reducible refine here_box ?_); refine wpList_box_st H rfl _ _ rfl _ rfl ?_; clear H; intro gb5 wx H))
    replace H : St w0 wx (.bl gac1 41 #[.int .i64 9, .int .i64 (pick a 5), .int .i64 0, .int .i64 0, .int .i64 0, .int .i64 0, .int .i64 0, .int .i64 0, .int .i64 0, .int .i64 0, .int .i64 0] :: .bl g2 41 #[.int .i64 9, .int .i64 (pick a 5), .int .i64 0, .int .i64 0, .int .i64 0, .int .i64 0, .int .i64 0, .int .i64 0, .int .i64 0, .int .i64 0, .int .i64 0] :: .bl g1 60 #[.int .i64 k, .int .i64 a, .int .i64 b, .int .i64 c, .int .i64 d] :: I) := H
    have l4 : (loadVar 41 ⟨g2, 0, none⟩).run Tryd.prog wx = .ok (.agg #[.int .i64 9, .int .i64 (pick a 5), .int .i64 0, .int .i64 0, .int .i64 0, .int .i64 0, .int .i64 0, .int .i64 0, .int .i64 0, .int .i64 0, .int .i64 0]) wx := H.loadRow 41 g2 row_Act (P := Tryd.prog) (by kernel_rfl)
    (try simp only [Act.put])
    exact bodyPost_ret (v := .agg #[.int .i64 9, .int .i64 (pick a 5), .int .i64 0, .int .i64 0, .int .i64 0, .int .i64 0, .int .i64 0, .int .i64 0, .int .i64 0, .int .i64 0, .int .i64 0]) (by simp [results, Tryd.results17, asAddr, l4]) rfl (HF.out _ [9, pick a 5, 0, 0, 0, 0, 0, 0, 0, 0, 0] (good_8 a b) (H.subm _))
  · go_wp2_with (first | (go_at_call 9; (with_reducible refine (PK.out _ _ _ (by omega) (by omega) (by decide) (by decide)).mono ?_); rintro ed wy ⟨rfl, rfl⟩) | ((with_reducible refine here_load ?_); first | refine ldR H rfl _ _ rfl rfl (by kernel_rfl) ?_ | refine ldS H rfl _ _ rfl rfl (by rfl) ?_ | refine ldSG H (by rfl) _ _ rfl rfl (by rfl) ?_ | refine ldRG H (by rfl) _ _ rfl rfl (by kernel_rfl) ?_) | ((with_reducible refine here_store ?_); first | (refine stR H rfl _ _ _ rfl rfl rfl (by rfl) (by rfl) (by kernel_rfl) ?_; clear H; intro wx H) | (refine stS H rfl _ _ _ rfl rfl _ rfl (by rfl) (by rfl) (by rfl) ?_; clear H; intro wx H)) | ((with_reducible refine here_alloc ?_); first | (refine wpList_alloc_st H rfl 41 rfl _ act_zero ?_; clear H; intro gac5 wx H)) | ((with_reducible refine here_box ?_); refine wpList_box_st H rfl _ _ rfl _ rfl ?_; clear H; intro gb5 wx H))
    replace H : St w0 wx (.bl gac1 41 #[.int .i64 10, .int .i64 (pick b 5), .int .i64 (pick a 4), .int .i64 0, .int .i64 0, .int .i64 0, .int .i64 0, .int .i64 0, .int .i64 0, .int .i64 0, .int .i64 0] :: .bl g2 41 #[.int .i64 10, .int .i64 (pick b 5), .int .i64 (pick a 4), .int .i64 0, .int .i64 0, .int .i64 0, .int .i64 0, .int .i64 0, .int .i64 0, .int .i64 0, .int .i64 0] :: .bl g1 60 #[.int .i64 k, .int .i64 a, .int .i64 b, .int .i64 c, .int .i64 d] :: I) := H
    have l4 : (loadVar 41 ⟨g2, 0, none⟩).run Tryd.prog wx = .ok (.agg #[.int .i64 10, .int .i64 (pick b 5), .int .i64 (pick a 4), .int .i64 0, .int .i64 0, .int .i64 0, .int .i64 0, .int .i64 0, .int .i64 0, .int .i64 0, .int .i64 0]) wx := H.loadRow 41 g2 row_Act (P := Tryd.prog) (by kernel_rfl)
    (try simp only [Act.put])
    exact bodyPost_ret (v := .agg #[.int .i64 10, .int .i64 (pick b 5), .int .i64 (pick a 4), .int .i64 0, .int .i64 0, .int .i64 0, .int .i64 0, .int .i64 0, .int .i64 0, .int .i64 0, .int .i64 0]) (by simp [results, Tryd.results17, asAddr, l4]) rfl (HF.out _ [10, pick b 5, pick a 4, 0, 0, 0, 0, 0, 0, 0, 0] (good_9 a b) (H.subm _))


end Go.Proofs.YtjakmpkfniangaaDoor
