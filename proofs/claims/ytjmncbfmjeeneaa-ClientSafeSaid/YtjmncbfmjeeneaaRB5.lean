/- Histories: tell, Replay, Answers. And more of what the proof stands on. -/
import Derived.Test.YtjmncbfmjeeneaaRB4

namespace Go.Proofs.Ytjmncbfmjeeneaa
open Go.RowKit

/-- a history, told: the queue and the answers; none: some event changes nothing -/
def tells : List Ev → QM → List QA → Option (QM × List QA)
  | [], q, la => some (q, la)
  | e :: es, q, la => if (q.step e).2.2 then tells es (q.step e).1 (la ++ [(q.step e).2.1]) else none
theorem tells_snoc (e : Ev) : ∀ (es : List Ev) (q : QM) (la : List QA), tells (es ++ [e]) q la = (tells es q la).bind fun r => tells [e] r.1 r.2
  | [], _, _ => rfl
  | x :: es, q, la => by
    simp only [List.cons_append, tells]
    split
    · exact tells_snoc e es _ _
    · rfl
theorem tells_none (e : Ev) : ∀ (es fs : List Ev) (q : QM) (la : List QA), tells es q la = none → tells (es ++ fs) q la = none
  | [], _, _, _, h => by cases h
  | x :: es, fs, q, la, h => by
    simp only [List.cons_append, tells] at h ⊢
    split
    · next hc => rw [if_pos hc] at h; exact tells_none e es fs _ _ h
    · rfl
theorem take_ev (es : List Ev) (i : Nat) (hi : i < es.length) : es.take (i + 1) = es.take i ++ [es.getD i .zero0] := by
  rw [List.take_add_one, List.getElem?_eq_getElem hi]
  simp [List.getD, List.getElem?_eq_getElem hi]
def TellPost (w0 : World) (I : List It) (es : List Ev) (ed : Ending) (w' : World) : Prop :=
  (∀ q la, tells es QM.zero [] = some (q, la) → ∃ g, ed = .returned (.tuple #[.pointer (some ⟨g, 0, none⟩), .int .i64 0]) ∧ TIs w0 w' I g q la) ∧
  (tells es QM.zero [] = none → ed = .returned (.tuple #[.pointer none, .int .i64 3]) ∧ St w0 w' I)

set_option maxRecDepth 100000 in
set_option maxHeartbeats 8000000 in
theorem tell_st {w0 w : World} {I : List It} (es : List Ev) (A : Option Addr) (c : Nat) (H : St w0 w I) [he : Has I (evIt A es)] (hck : ∀ e ∈ es, e.check = 0) (hn : es.length ≤ 150) (hc : es.length ≤ c) :
    Calls Try.prog 68 #[.slice A es.length c] w (TellPost w0 I es) := by
  have HCK := Lib.hid hck
  have HE := Lib.hid he
  have HY := Lib.hid (show ∀ W g q la, tells es QM.zero [] = some (q, la) → TIs w0 W I g q la → TellPost w0 I es (.returned (.tuple #[.pointer (some ⟨g, 0, none⟩), .int .i64 0])) W from
    fun W g q la h1 h2 => ⟨fun q' la' h => (by rw [h1] at h; cases h; exact ⟨g, rfl, h2⟩), fun h => (by rw [h1] at h; cases h)⟩)
  have HF := Lib.hid (show ∀ W, tells es QM.zero [] = none → St w0 W I → TellPost w0 I es (.returned (.tuple #[.pointer none, .int .i64 3])) W from
    fun W h1 h2 => ⟨fun q' la' h => (by rw [h1] at h; cases h), fun _ => ⟨rfl, h2⟩⟩)
  generalize TellPost w0 I es = POST at *
  obtain ⟨n, hn'⟩ : ∃ n, es.length = n := ⟨_, rfl⟩
  have HN := Lib.hid hn'
  rw [hn'] at hn hc ⊢
  have hn2 : ¬ (2000 : Int) < (n : Int) := by omega
  clear hck he hn'
  go_enter Try.func68, Try.ntmps68
  go_upto_region 5 with (first | ((with_reducible refine here_load ?_); first | refine ldR H rfl _ _ rfl rfl (by kernel_rfl) ?_ | refine ldS H rfl _ _ rfl rfl (by rfl) ?_ | refine ldSG H (by rfl) _ _ rfl rfl (by rfl) ?_ | refine ldRG H (by rfl) _ _ rfl rfl (by kernel_rfl) ?_) | ((with_reducible refine here_store ?_); first | (refine stR H rfl _ _ _ rfl rfl rfl (by rfl) (by rfl) (by kernel_rfl) ?_; clear H; intro wx H) | (refine stS H rfl _ _ _ rfl rfl _ rfl (by rfl) (by rfl) (by rfl) ?_; clear H; intro wx H)) | ((with_reducible refine here_alloc ?_); first | (refine wpList_alloc_st H rfl 37 rfl _ q_zero ?_; clear H; intro gq wx H) | (refine wpList_alloc_st H rfl 48 rfl _ ans_zero ?_; clear H; intro ga wx H) | (refine wpList_alloc_st H rfl 44 rfl _ ev_zero ?_; clear H; intro ge wx H)) | ((with_reducible refine here_box ?_); refine wpList_box_st H rfl _ _ rfl _ rfl ?_; clear H; intro gb wx H))
  have HT : TIs w0 wx I gb QM.zero [] := ⟨none, 0, none, 0, .slice none 0 0, by simp [QM.zero], by simp [QM.zero],
    (show St w0 wx (.ow 48 4 (.slice none 0 0) ([] : List QA).length (qansCells []) :: rdIt QM.zero none :: lsIt QM.zero none :: .bl gb 139 (tArr QM.zero none 0 none 0 (.slice none 0 0)) :: I) from
      ((H.old (s := 4) (n := 0) (A := none) (xs := []) Reads.none_).old (s := 2) (n := 0) (A := none) (xs := []) Reads.none_).nilOwn _ _).subm _⟩
  clear H hn2
  go_loopw [14] (fun s14 wr => ∃ (i : Nat) (q : QM) (la : List QA), i ≤ n ∧ s14 = .int .i64 i ∧ tells (es.take i) QM.zero [] = some (q, la) ∧ la.length = i ∧ q.Inv ∧ q.Room (200 - i) ∧ TIs w0 wr I gb q la) (fun s14 _ => n - (intOf s14).toNat)
  case atStart => exact ⟨0, QM.zero, [], by omega, rfl, rfl, rfl, QM.zero_inv, ⟨by simp [QM.zero], by simp [QM.zero], by simp [QM.zero], by simp [QM.zero]⟩, HT⟩
  case round =>
    clear HT
    obtain ⟨i, q, la, hi, rfl, htl, hla, hinv, hroom, HT⟩ := hrel
    by_cases hlt : i < n
    · obtain ⟨A1, c1, A2, c2, va, k1, k2, H⟩ := HT
      have he := HE.out
      obtain ⟨b, off, hA, hb, q0, q1, q2, q3, q4, q5⟩ := qevAt (H.get (evIt A es)) rfl (show i < es.length by rw [HN.out]; exact hlt)
      clear he
      subst hA
      have hmem : es.getD i .zero0 ∈ es := by
        rw [List.getD, List.getElem?_eq_getElem (show i < es.length by rw [HN.out]; exact hlt)]
        exact List.getElem_mem _
      have hchk := HCK.out _ hmem
      have htk := take_ev es i (by rw [HN.out]; exact hlt)
      generalize es.getD i .zero0 = ev at *
      have htl2 : tells (es.take (i + 1)) QM.zero [] = if (q.step ev).2.2 then some ((q.step ev).1, la ++ [(q.step ev).2.1]) else none := by
        rw [htk, tells_snoc, htl]
        rfl
      have hroom2 : q.Room (200 - (i + 1) + 1) := hroom.less (by omega)
      have hrm := hroom2.step ev
      have hiv := hinv.step hchk
      have CA := Lib.hid (fun W J HT => tadd_st (w0 := w0) (w := W) (I := J) q ev gb la HT hinv (hroom.less (by omega)) hchk (by omega))
      unfold TAdd at CA
      obtain ⟨r, hr⟩ : ∃ r, q.step ev = r := ⟨_, rfl⟩
      rw [hr] at CA htl2 hrm hiv
      obtain ⟨q', a, chg⟩ := r
      dsimp only at CA htl2 hrm hiv
      have hlen : (la ++ [a]).length = i + 1 := by simp [hla]
      have HTL2 := Lib.hid htl2
      have HRM := Lib.hid hrm
      have HIV := Lib.hid hiv
      have HLEN := Lib.hid hlen
      have hI1 : (i : Int) < (n : Int) := by omega
      have hI0 : (0 : Int) ≤ (i : Int) := by omega
      have hI2 : (n : Int) ≤ (c : Int) := by omega
      have w1 : IntKind.i64.wrap ((i : Int) + 1) = (i : Int) + 1 := IntWalk.i64_in _ (by omega)
      obtain ⟨x0, x1, x2, x3, x4, x5⟩ := ev
      unfold Ev.val at CA
      dsimp only at q0 q1 q2 q3 q4 q5 CA
      clear htl2 hrm hiv hlen hroom2 hroom hinv hr htk hmem htl hla hchk hb
      go_upto_region 7 with (first | ((with_reducible refine here_load ?_); first | refine ldR H rfl _ _ rfl rfl (by kernel_rfl) ?_ | refine ldS H rfl _ _ rfl rfl (by rfl) ?_ | refine ldSG H (by rfl) _ _ rfl rfl (by rfl) ?_ | refine ldRG H (by rfl) _ _ rfl rfl (by kernel_rfl) ?_) | ((with_reducible refine here_store ?_); first | (refine stR H rfl _ _ _ rfl rfl rfl (by rfl) (by rfl) (by kernel_rfl) ?_; clear H; intro wx H) | (refine stS H rfl _ _ _ rfl rfl _ rfl (by rfl) (by rfl) (by rfl) ?_; clear H; intro wx H)) | ((with_reducible refine here_alloc ?_); first | (refine wpList_alloc_st H rfl 37 rfl _ q_zero ?_; clear H; intro gq2 wx H) | (refine wpList_alloc_st H rfl 48 rfl _ ans_zero ?_; clear H; intro ga2 wx H) | (refine wpList_alloc_st H rfl 44 rfl _ ev_zero ?_; clear H; intro ge2 wx H)) | ((with_reducible refine here_box ?_); refine wpList_box_st H rfl _ _ rfl _ rfl ?_; clear H; intro gb2 wx H))
      clear q0 q1 q2 q3 q4 q5
      go_wp2_with (first | ((with_reducible refine here_load ?_); first | refine ldR H rfl _ _ rfl rfl (by kernel_rfl) ?_ | refine ldS H rfl _ _ rfl rfl (by rfl) ?_ | refine ldSG H (by rfl) _ _ rfl rfl (by rfl) ?_ | refine ldRG H (by rfl) _ _ rfl rfl (by kernel_rfl) ?_) | ((with_reducible refine here_store ?_); first | (refine stR H rfl _ _ _ rfl rfl rfl (by rfl) (by rfl) (by kernel_rfl) ?_; clear H; intro wx H) | (refine stS H rfl _ _ _ rfl rfl _ rfl (by rfl) (by rfl) (by rfl) ?_; clear H; intro wx H)) | ((with_reducible refine here_alloc ?_); first | (refine wpList_alloc_st H rfl 37 rfl _ q_zero ?_; clear H; intro gq2 wx H) | (refine wpList_alloc_st H rfl 48 rfl _ ans_zero ?_; clear H; intro ga2 wx H) | (refine wpList_alloc_st H rfl 44 rfl _ ev_zero ?_; clear H; intro ge2 wx H)) | ((with_reducible refine here_box ?_); refine wpList_box_st H rfl _ _ rfl _ rfl ?_; clear H; intro gb2 wx H))
      have HT : TIs w0 wx (.bl ge2 44 #[.int .i64 x0, .int .i64 x1, .int .i64 x2, .int .i64 x3, .int .i64 x4, .int .i64 x5] :: I) gb q la := ⟨A1, c1, A2, c2, va, k1, k2, H.subm _⟩
      refine (CA.out _ _ HT).mono ?_
      clear CA H HT
      rintro ed wy ⟨rfl, hf, ht⟩
      have HFX := Lib.hid hf
      have HTX := Lib.hid ht
      clear hf ht
      cases chg
      · go_wp2_with fail
        exact HF.out _ (by rw [← List.take_append_drop (i + 1) es]; exact tells_none .zero0 _ _ _ _ (by rw [HTL2.out]; rfl)) ((HFX.out (by first | rfl | trivial)).subm _)
      · obtain ⟨A3, c3, A4, c4, vb, k3, k4, H⟩ := HTX.out (by first | rfl | trivial)
        go_wp2_with fail
        go_roundw
        case rel => exact ⟨i + 1, q', la ++ [a], by omega, by go_num, by rw [HTL2.out]; rfl, HLEN.out, HIV.out, HRM.out, A3, c3, A4, c4, vb, k3, k4, H.subm _⟩
        case measure => simp [intOf]; omega
    · obtain rfl : i = n := by omega
      have hlt2 : ¬ (i : Int) < (i : Int) := by omega
      rw [← HN.out, List.take_length] at htl
      have HTL := Lib.hid htl
      clear htl hla hinv hroom
      go_wp2_with fail
      exact HY.out _ _ _ _ HTL.out HT

def ReplayPost (w0 : World) (I : List It) (es : List Ev) (ed : Ending) (w' : World) : Prop :=
  (∀ q la, tells es QM.zero [] = some (q, la) → ∃ A1 c1 A2 c2, ed = .returned (.tuple #[.agg (qArr q A1 c1 A2 c2), .int .i64 0]) ∧ q.rd.length ≤ c1 ∧ q.ls.length ≤ c2 ∧ St w0 w' (rdIt q A1 :: lsIt q A2 :: I)) ∧
  (tells es QM.zero [] = none → ed = .returned (.tuple #[.agg (qArr QM.zero none 0 none 0), .int .i64 3]) ∧ St w0 w' I)
def AnswersPost (w0 : World) (I : List It) (es : List Ev) (ed : Ending) (w' : World) : Prop :=
  (∀ q la, tells es QM.zero [] = some (q, la) → ∃ A c, ed = .returned (.tuple #[.slice A la.length c, .int .i64 0]) ∧ la.length ≤ c ∧ St w0 w' (anIt A la :: I)) ∧
  (tells es QM.zero [] = none → ed = .returned (.tuple #[.slice none 0 0, .int .i64 3]) ∧ St w0 w' I)

set_option maxRecDepth 100000 in
set_option maxHeartbeats 8000000 in
theorem replay_st {w0 w : World} {I : List It} (es : List Ev) (A : Option Addr) (c : Nat) (H : St w0 w I) [he : Has I (evIt A es)] (hck : ∀ e ∈ es, e.check = 0) (hn : es.length ≤ 150) (hc : es.length ≤ c) :
    Calls Try.prog 59 #[.slice A es.length c] w (ReplayPost w0 I es) := by
  have CT := Lib.hid (fun W J H he => tell_st (w0 := w0) (w := W) (I := J) es A c H (he := he) hck hn hc)
  have HE := Lib.hid he
  obtain hT | ⟨r, hT⟩ : tells es QM.zero [] = none ∨ ∃ r, tells es QM.zero [] = some r := by cases tells es QM.zero [] <;> simp
  · have HF := Lib.hid (show ∀ W, St w0 W I → ReplayPost w0 I es (.returned (.tuple #[.agg (qArr QM.zero none 0 none 0), .int .i64 3])) W from
      fun W h2 => ⟨fun q' la' h => (by rw [hT] at h; cases h), fun _ => ⟨rfl, h2⟩⟩)
    unfold TellPost at CT
    have HTN := Lib.hid hT
    generalize ReplayPost w0 I es = POST at *
    clear he hck hn hc hT
    go_enter Try.func59, Try.ntmps59
    go_upto_region 1 with (first | ((with_reducible refine here_load ?_); first | refine ldR H rfl _ _ rfl rfl (by kernel_rfl) ?_ | refine ldS H rfl _ _ rfl rfl (by rfl) ?_ | refine ldSG H (by rfl) _ _ rfl rfl (by rfl) ?_ | refine ldRG H (by rfl) _ _ rfl rfl (by kernel_rfl) ?_) | ((with_reducible refine here_store ?_); first | (refine stR H rfl _ _ _ rfl rfl rfl (by rfl) (by rfl) (by kernel_rfl) ?_; clear H; intro wx H) | (refine stS H rfl _ _ _ rfl rfl _ rfl (by rfl) (by rfl) (by rfl) ?_; clear H; intro wx H)) | ((with_reducible refine here_alloc ?_); first | (refine wpList_alloc_st H rfl 37 rfl _ q_zero ?_; clear H; intro gq wx H) | (refine wpList_alloc_st H rfl 48 rfl _ ans_zero ?_; clear H; intro ga wx H) | (refine wpList_alloc_st H rfl 44 rfl _ ev_zero ?_; clear H; intro ge wx H)) | ((with_reducible refine here_box ?_); refine wpList_box_st H rfl _ _ rfl _ rfl ?_; clear H; intro gb wx H))
    go_wp2_with (first | ((with_reducible refine here_load ?_); first | refine ldR H rfl _ _ rfl rfl (by kernel_rfl) ?_ | refine ldS H rfl _ _ rfl rfl (by rfl) ?_ | refine ldSG H (by rfl) _ _ rfl rfl (by rfl) ?_ | refine ldRG H (by rfl) _ _ rfl rfl (by kernel_rfl) ?_) | ((with_reducible refine here_store ?_); first | (refine stR H rfl _ _ _ rfl rfl rfl (by rfl) (by rfl) (by kernel_rfl) ?_; clear H; intro wx H) | (refine stS H rfl _ _ _ rfl rfl _ rfl (by rfl) (by rfl) (by rfl) ?_; clear H; intro wx H)) | ((with_reducible refine here_alloc ?_); first | (refine wpList_alloc_st H rfl 37 rfl _ q_zero ?_; clear H; intro gq wx H) | (refine wpList_alloc_st H rfl 48 rfl _ ans_zero ?_; clear H; intro ga wx H) | (refine wpList_alloc_st H rfl 44 rfl _ ev_zero ?_; clear H; intro ge wx H)) | ((with_reducible refine here_box ?_); refine wpList_box_st H rfl _ _ rfl _ rfl ?_; clear H; intro gb wx H))
    have he := HE.out
    refine (CT.out _ _ H inferInstance).mono ?_
    clear H he
    rintro ed wy ⟨_, h2⟩
    obtain ⟨rfl, H⟩ := h2 HTN.out
    clear CT h2
    go_wp2_with (first | ((with_reducible refine here_load ?_); first | refine ldR H rfl _ _ rfl rfl (by kernel_rfl) ?_ | refine ldS H rfl _ _ rfl rfl (by rfl) ?_ | refine ldSG H (by rfl) _ _ rfl rfl (by rfl) ?_ | refine ldRG H (by rfl) _ _ rfl rfl (by kernel_rfl) ?_) | ((with_reducible refine here_store ?_); first | (refine stR H rfl _ _ _ rfl rfl rfl (by rfl) (by rfl) (by kernel_rfl) ?_; clear H; intro wx H) | (refine stS H rfl _ _ _ rfl rfl _ rfl (by rfl) (by rfl) (by rfl) ?_; clear H; intro wx H)) | ((with_reducible refine here_alloc ?_); first | (refine wpList_alloc_st H rfl 37 rfl _ q_zero ?_; clear H; intro gq wx H) | (refine wpList_alloc_st H rfl 48 rfl _ ans_zero ?_; clear H; intro ga wx H) | (refine wpList_alloc_st H rfl 44 rfl _ ev_zero ?_; clear H; intro ge wx H)) | ((with_reducible refine here_box ?_); refine wpList_box_st H rfl _ _ rfl _ rfl ?_; clear H; intro gb wx H))
    have l4 := H.loadRow 37 gq row_Queue (P := Try.prog) (by kernel_rfl)
    exact bodyPost_ret (v := .tuple #[.agg (qArr QM.zero none 0 none 0), .int .i64 3]) (by simp [results, Try.results59, asAddr, l4]; rfl) rfl (HF.out _ (H.subm _))
  · obtain ⟨q, la⟩ := r
    have HF := Lib.hid (show ∀ W A1 c1 A2 c2, q.rd.length ≤ c1 → q.ls.length ≤ c2 → St w0 W (rdIt q A1 :: lsIt q A2 :: I) → ReplayPost w0 I es (.returned (.tuple #[.agg (qArr q A1 c1 A2 c2), .int .i64 0])) W from
      fun W A1 c1 A2 c2 h1 h2 h3 => ⟨fun q' la' h => (by rw [hT] at h; cases h; exact ⟨A1, c1, A2, c2, rfl, h1, h2, h3⟩), fun h => (by rw [hT] at h; cases h)⟩)
    unfold TellPost at CT
    have HTN := Lib.hid hT
    generalize ReplayPost w0 I es = POST at *
    clear he hck hn hc hT
    go_enter Try.func59, Try.ntmps59
    go_upto_region 1 with (first | ((with_reducible refine here_load ?_); first | refine ldR H rfl _ _ rfl rfl (by kernel_rfl) ?_ | refine ldS H rfl _ _ rfl rfl (by rfl) ?_ | refine ldSG H (by rfl) _ _ rfl rfl (by rfl) ?_ | refine ldRG H (by rfl) _ _ rfl rfl (by kernel_rfl) ?_) | ((with_reducible refine here_store ?_); first | (refine stR H rfl _ _ _ rfl rfl rfl (by rfl) (by rfl) (by kernel_rfl) ?_; clear H; intro wx H) | (refine stS H rfl _ _ _ rfl rfl _ rfl (by rfl) (by rfl) (by rfl) ?_; clear H; intro wx H)) | ((with_reducible refine here_alloc ?_); first | (refine wpList_alloc_st H rfl 37 rfl _ q_zero ?_; clear H; intro gq wx H) | (refine wpList_alloc_st H rfl 48 rfl _ ans_zero ?_; clear H; intro ga wx H) | (refine wpList_alloc_st H rfl 44 rfl _ ev_zero ?_; clear H; intro ge wx H)) | ((with_reducible refine here_box ?_); refine wpList_box_st H rfl _ _ rfl _ rfl ?_; clear H; intro gb wx H))
    go_wp2_with (first | ((with_reducible refine here_load ?_); first | refine ldR H rfl _ _ rfl rfl (by kernel_rfl) ?_ | refine ldS H rfl _ _ rfl rfl (by rfl) ?_ | refine ldSG H (by rfl) _ _ rfl rfl (by rfl) ?_ | refine ldRG H (by rfl) _ _ rfl rfl (by kernel_rfl) ?_) | ((with_reducible refine here_store ?_); first | (refine stR H rfl _ _ _ rfl rfl rfl (by rfl) (by rfl) (by kernel_rfl) ?_; clear H; intro wx H) | (refine stS H rfl _ _ _ rfl rfl _ rfl (by rfl) (by rfl) (by rfl) ?_; clear H; intro wx H)) | ((with_reducible refine here_alloc ?_); first | (refine wpList_alloc_st H rfl 37 rfl _ q_zero ?_; clear H; intro gq wx H) | (refine wpList_alloc_st H rfl 48 rfl _ ans_zero ?_; clear H; intro ga wx H) | (refine wpList_alloc_st H rfl 44 rfl _ ev_zero ?_; clear H; intro ge wx H)) | ((with_reducible refine here_box ?_); refine wpList_box_st H rfl _ _ rfl _ rfl ?_; clear H; intro gb wx H))
    have he := HE.out
    refine (CT.out _ _ H inferInstance).mono ?_
    clear H he
    rintro ed wy ⟨h1, _⟩
    obtain ⟨gt, rfl, A1, c1, A2, c2, va, k1, k2, H⟩ := h1 q la HTN.out
    clear CT h1
    go_wp2_with (first | ((with_reducible refine here_load ?_); refine wpList_loadPart_st H rfl 37 _ rfl rfl row_Queue (by kernel_rfl) (by rfl) _ (tArr_q _ _ _ _ _ _) ?_) | ((with_reducible refine here_load ?_); first | refine ldR H rfl _ _ rfl rfl (by kernel_rfl) ?_ | refine ldS H rfl _ _ rfl rfl (by rfl) ?_ | refine ldSG H (by rfl) _ _ rfl rfl (by rfl) ?_ | refine ldRG H (by rfl) _ _ rfl rfl (by kernel_rfl) ?_) | ((with_reducible refine here_store ?_); first | (refine stR H rfl _ _ _ rfl rfl rfl (by rfl) (by rfl) (by kernel_rfl) ?_; clear H; intro wx H) | (refine stS H rfl _ _ _ rfl rfl _ rfl (by rfl) (by rfl) (by rfl) ?_; clear H; intro wx H)) | ((with_reducible refine here_alloc ?_); first | (refine wpList_alloc_st H rfl 37 rfl _ q_zero ?_; clear H; intro gq wx H) | (refine wpList_alloc_st H rfl 48 rfl _ ans_zero ?_; clear H; intro ga wx H) | (refine wpList_alloc_st H rfl 44 rfl _ ev_zero ?_; clear H; intro ge wx H)) | ((with_reducible refine here_box ?_); refine wpList_box_st H rfl _ _ rfl _ rfl ?_; clear H; intro gb wx H))
    have l4 := H.loadRow 37 gq row_Queue (P := Try.prog) (by kernel_rfl)
    exact bodyPost_ret (v := .tuple #[.agg (qArr q A1 c1 A2 c2), .int .i64 0]) (by simp [results, Try.results59, asAddr, l4]) rfl (HF.out _ _ _ _ _ k1 k2 (H.subm _))

end Go.Proofs.Ytjmncbfmjeeneaa

namespace Go.Proofs.Ytjmncbfmjeeneaa
open Go.RowKit

theorem tells_take : ∀ (es : List Ev) (q : QM) (la : List QA) (r : QM × List QA) (k : Nat), tells es q la = some r → ∃ r', tells (es.take k) q la = some r'
  | _, q, la, _, 0, _ => ⟨(q, la), rfl⟩
  | [], q, la, _, k + 1, _ => ⟨(q, la), rfl⟩
  | e :: es, q, la, r, k + 1, h => by
    simp only [tells, List.take_succ_cons] at h ⊢
    split at h
    · next hc => rw [if_pos hc]; exact tells_take es _ _ r k h
    · cases h
theorem tells_played (rows : List (List Int)) : ∀ k, tells (playN rows k).es QM.zero [] = some ((playN rows k).q, (playN rows k).ans)
  | 0 => rfl
  | k + 1 => by
    have ih := tells_played rows k
    show tells ((playN rows k).next (evIn rows k)).es QM.zero [] = some (((playN rows k).next (evIn rows k)).q, ((playN rows k).next (evIn rows k)).ans)
    unfold PL.next
    dsimp only
    by_cases hc : ((playN rows k).q.step (evIn rows k)).2.2 = true
    · rw [if_pos hc, if_pos hc, tells_snoc, ih]
      simp [tells, hc]
    · have hs := QM.step_same (q := (playN rows k).q) (e := evIn rows k) (by simpa using hc)
      rw [if_neg hc, if_neg hc, ih, hs]
/-- numbers of a history -/
theorem tells_nums : ∀ (es : List Ev) (q : QM) (la : List QA) (q' : QM) (la' : List QA), (∀ e ∈ es, e.check = 0) → q.Inv → tells es q la = some (q', la') →
    q'.nx = q.nx + (es.countP (isKind 1) : Nat) ∧ q'.ep = q.ep + (es.countP (isKind 4) : Nat) ∧ q'.Inv ∧ la'.length = la.length + es.length
  | [], q, la, q', la', _, hi, h => by
    cases h
    exact ⟨by simp, by simp, hi, by simp⟩
  | e :: es, q, la, q', la', hck, hi, h => by
    simp only [tells] at h
    split at h
    · next hc =>
      have he := hck e (List.mem_cons_self ..)
      have ih := tells_nums es _ _ q' la' (fun x hx => hck x (List.mem_cons_of_mem _ hx)) (hi.step he) h
      obtain ⟨i1, i2, i3, i4⟩ := ih
      have hk : (q.step e).1.nx = q.nx + (if e.kind = 1 then 1 else 0) ∧ (q.step e).1.ep = q.ep + (if e.kind = 4 then 1 else 0) := by
        revert hc
        rcases check_kinds he with hk | hk | hk | hk
        · unfold QM.step
          rw [if_pos hk]
          split
          · simp
          · split
            · simp
            · intro _; simp [QM.pub, hk]
        · unfold QM.step
          rw [if_neg (by omega), if_pos hk]
          unfold QM.recv
          split
          · simp
          · intro _; simp [hk]
        · unfold QM.step
          rw [if_neg (by omega), if_neg (by omega), if_pos hk]
          split
          · split
            · intro _; simp [QM.ack, hk]
            · simp
          · simp
        · unfold QM.step
          rw [if_neg (by omega), if_neg (by omega), if_neg (by omega)]
          intro _
          simp [QM.endAll, hk]
      have c1 : (e :: es).countP (isKind 1) = es.countP (isKind 1) + (if e.kind = 1 then 1 else 0) := by simp [List.countP_cons, isKind]
      have c4 : (e :: es).countP (isKind 4) = es.countP (isKind 4) + (if e.kind = 4 then 1 else 0) := by simp [List.countP_cons, isKind]
      rw [c1, c4]
      refine ⟨?_, ?_, i3, by simp at i4 ⊢; omega⟩
      · rw [i1, hk.1]; split <;> simp <;> omega
      · rw [i2, hk.2]; split <;> simp <;> omega
    · cases h
theorem tells_app (fs : List Ev) : ∀ (es : List Ev) (q : QM) (la : List QA), tells (es ++ fs) q la = (tells es q la).bind fun r => tells fs r.1 r.2
  | [], _, _ => rfl
  | x :: es, q, la => by
    simp only [List.cons_append, tells]
    split
    · exact tells_app fs es _ _
    · rfl
theorem qevCells_app (a b : List Ev) : qevCells (a ++ b) = qevCells a ++ qevCells b := by simp [qevCells, rowCells]
theorem qevCells_take (es : List Ev) (k : Nat) (hk : k ≤ es.length) : (qevCells es).take (k * 6) = qevCells (es.take k) := by
  have h1 : qevCells es = qevCells (es.take k) ++ qevCells (es.drop k) := by
    rw [← qevCells_app, List.take_append_drop]
  have h2 : (qevCells (es.take k)).length = k * 6 := by
    unfold qevCells
    rw [rowCells_len 6 _ (fun r hr => by obtain ⟨x, _, rfl⟩ := List.mem_map.1 hr; rfl)]
    simp [Nat.min_eq_left hk]
  rw [h1, ← h2, List.take_left]
/-- the first events of a slice -/
theorem St.takeEv {w0 w : World} {I : List It} {A : Option Addr} {es : List Ev} (H : St w0 w I) [h : Has I (evIt A es)] (k : Nat) (hk : k ≤ es.length) : St w0 w (evIt A (es.take k) :: I) := by
  have hr : Reads w w.heap.size 6 A es.length (qevCells es) := H.get (evIt A es)
  have hr2 := hr.take hk
  rw [qevCells_take es k hk] at hr2
  have hl : (es.take k).length = k := by simp [Nat.min_eq_left hk]
  refine St.again (h := h) H (by rw [hl]; exact hr2) (fun g hg => ?_)
  simp only [It.area] at hg ⊢
  split at hg
  · cases hg
  · next hz => rw [if_neg (by omega)]; exact hg
theorem St.freezeEv {w0 w : World} {I : List It} {A : Option Addr} {c n : Nat} {es : List Ev} (H : St w0 w (.ow 44 6 (.slice A n c) n (qevCells es) :: I)) (hn : es.length = n) : St w0 w (evIt A es :: I) := by
  subst hn
  exact St.freeze (h := RepO.here) H
theorem St.evReads {w0 w : World} {I : List It} {A : Option Addr} {es : List Ev} {n : Nat} (H : St w0 w I) [h : Has I (evIt A es)] (hl : es.length = n) : Reads w w.heap.size 6 A n (qevCells es) := by
  subst hl
  exact H.get (evIt A es)
theorem ev_info2 : (Try.prog.info? 44).map (fun i => (i.zero, i.size)) = some (some (.agg #[.int .i64 0, .int .i64 0, .int .i64 0, .int .i64 0, .int .i64 0, .int .i64 0]), 6) := by kernel_rfl
theorem evs_snoc (es : List Ev) (k p i b h n : Int) : qevCells es ++ (#[Value.int .i64 k, .int .i64 p, .int .i64 i, .int .i64 b, .int .i64 h, .int .i64 n] : Array Value).toList = qevCells (es ++ [⟨k, p, i, b, h, n⟩]) := (qevCells_snoc es k p i b h n).symm
theorem replay_n {w0 w : World} {I : List It} (es : List Ev) (A : Option Addr) (n c : Nat) (hl : es.length = n) (H : St w0 w I) [he : Has I (evIt A es)] (hck : ∀ e ∈ es, e.check = 0) (hn : n ≤ 150) (hc : n ≤ c) :
    Calls Try.prog 59 #[.slice A n c] w (ReplayPost w0 I es) := by
  subst hl
  exact replay_st es A c H hck hn hc
theorem St.freezeEvAt {w0 w : World} {I : List It} {J : It → List It} {A : Option Addr} {c n : Nat} {es : List Ev} (H : St w0 w I) [h : RepO I 44 (.slice A n c) 6 n (qevCells es) J] (hn : es.length = n) : St w0 w (J (evIt A es)) := by
  subst hn
  exact St.freeze (h := h) H
/-- what Replay answers, whatever the history -/
def rq (es : List Ev) : QM := match tells es QM.zero [] with | some r => r.1 | none => QM.zero
def rf (es : List Ev) : Int := match tells es QM.zero [] with | some _ => 0 | none => 3
theorem replay_any {w0 w : World} {I : List It} (es : List Ev) (A : Option Addr) (n c : Nat) (hl : es.length = n) (H : St w0 w I) [he : Has I (evIt A es)] (hck : ∀ e ∈ es, e.check = 0) (hn : n ≤ 150) (hc : n ≤ c) :
    Calls Try.prog 59 #[.slice A n c] w (fun ed w' => ∃ A1 c1 A2 c2, ed = .returned (.tuple #[.agg (qArr (rq es) A1 c1 A2 c2), .int .i64 (rf es)]) ∧ (rq es).rd.length ≤ c1 ∧ (rq es).ls.length ≤ c2 ∧ St w0 w' (rdIt (rq es) A1 :: lsIt (rq es) A2 :: I)) := by
  refine (replay_n es A n c hl H hck hn hc).mono fun ed w' ⟨h1, h2⟩ => ?_
  unfold rq rf
  cases hT : tells es QM.zero [] with
  | none =>
    obtain ⟨rfl, h⟩ := h2 hT
    exact ⟨none, 0, none, 0, rfl, Nat.le_refl _, Nat.le_refl _, (h.old (s := 4) (n := 0) (A := none) (xs := []) Reads.none_).old (s := 2) (n := 0) (A := none) (xs := []) Reads.none_⟩
  | some r => exact h1 _ _ hT
theorem qArr_all (q : QM) (A1 : Option Addr) (c1 : Nat) (A2 : Option Addr) (c2 : Nat) : (qArr q A1 c1 A2 c2).extract 0 (0 + 41) = qArr q A1 c1 A2 c2 := by kernel_rfl
theorem qevCells_one (es : List Ev) : ∀ u ∈ qevCells es, u.oneCell' = true := by
  intro u hu
  unfold qevCells rowCells at hu
  obtain ⟨r, _, hr⟩ := List.mem_flatMap.1 hu
  obtain ⟨z, _, rfl⟩ := List.mem_map.1 hr
  rfl

end Go.Proofs.Ytjmncbfmjeeneaa

namespace Go.Proofs.Ytjmncbfmjeeneaa
open Go.RowKit

structure BM where
  role : Int
  ep : Int
  frm : Int
  dst : Int
  rounds : Int
  es : List Ev
def BM.zero : BM := ⟨0, 0, 0, 0, 0, []⟩
/-- may it be, apart from its events? -/
def BM.Shape (b : BM) : Prop :=
  (b.role = 0 ∧ 0 ≤ b.ep ∧ b.ep ≤ 1048576 ∧ b.frm = 0 ∧ b.dst = 0 ∧ b.rounds = 0 ∧ b.es = []) ∨
  (1 ≤ b.ep ∧ b.ep ≤ 1048576 ∧ ((b.role = 1 ∧ b.frm = 0 ∧ b.dst = 0 ∧ b.rounds = 0) ∨ (b.role = 2 ∧ b.frm = 0 ∧ 0 ≤ b.dst ∧ b.dst < 5 ∧ 0 ≤ b.rounds ∧ b.rounds ≤ 4) ∨
    (b.role = 3 ∧ b.frm = 0 ∧ 0 ≤ b.dst ∧ b.dst < 5 ∧ b.rounds = 0) ∨ (b.role = 4 ∧ 0 ≤ b.frm ∧ b.frm < 5 ∧ b.dst = 0 ∧ b.rounds = 0)))
/-- may it be, with at most n events? -/
structure BM.Ok (b : BM) (n : Nat) : Prop where
  shape : b.Shape
  chk : ∀ e ∈ b.es, e.check = 0
  len : b.es.length ≤ n
  told : ∃ la, tells b.es QM.zero [] = some (rq b.es, la)
theorem BM.Ok.more {b : BM} {n m : Nat} (h : b.Ok n) (hm : n ≤ m) : b.Ok m := ⟨h.shape, h.chk, Nat.le_trans h.len hm, h.told⟩
theorem rq_of {es : List Ev} {q : QM} {la : List QA} (h : tells es QM.zero [] = some (q, la)) : rq es = q := by
  unfold rq
  rw [h]
theorem rf_of {es : List Ev} {q : QM} {la : List QA} (h : tells es QM.zero [] = some (q, la)) : rf es = 0 := by
  unfold rf
  rw [h]
theorem tells_room : ∀ (es : List Ev) (q : QM) (la : List QA) (q' : QM) (la' : List QA) (n : Nat), q.Room (n + es.length) → tells es q la = some (q', la') → q'.Room n
  | [], q, la, q', la', n, hr, h => by
    cases h
    exact hr
  | e :: es, q, la, q', la', n, hr, h => by
    simp only [tells] at h
    split at h
    · exact tells_room es _ _ _ _ n (QM.Room.step (hr.less (by simp; omega)) e) h
    · cases h
theorem QM.zero_room : QM.zero.Room 200 := ⟨by simp [QM.zero], by simp [QM.zero], by simp [QM.zero], by simp [QM.zero]⟩
theorem BM.Ok.queue {b : BM} {n m : Nat} (h : b.Ok n) (hn : n + m ≤ 200) : (rq b.es).Inv ∧ (rq b.es).Room m := by
  obtain ⟨la, ht⟩ := h.told
  have hl := h.len
  exact ⟨(tells_nums b.es _ _ _ _ h.chk QM.zero_inv ht).2.2.1, tells_room b.es _ _ _ _ m (QM.zero_room.less (by omega)) ht⟩
theorem tells_more {es : List Ev} {la : List QA} (e : Ev) (h : tells es QM.zero [] = some (rq es, la)) (hc : ((rq es).step e).2.2 = true) :
    tells (es ++ [e]) QM.zero [] = some (((rq es).step e).1, la ++ [((rq es).step e).2.1]) := by
  rw [tells_snoc, h]
  simp [tells, hc]
/-- one more event -/
theorem BM.Ok.snoc {b : BM} {n : Nat} (h : b.Ok n) (e : Ev) (he : e.check = 0) (hc : ((rq b.es).step e).2.2 = true) (hr : b.role ≠ 0) : ({b with es := b.es ++ [e]} : BM).Ok (n + 1) ∧ rq (b.es ++ [e]) = ((rq b.es).step e).1 := by
  obtain ⟨la, ht⟩ := h.told
  have h2 := tells_more e ht hc
  refine ⟨⟨?_, fun x hx => ?_, ?_, ⟨la ++ [((rq b.es).step e).2.1], ?_⟩⟩, rq_of h2⟩
  · rcases h.shape with h1 | h1
    · exact absurd h1.1 hr
    · exact .inr h1
  · rcases List.mem_append.1 hx with hx | hx
    · exact h.chk x hx
    · rw [List.mem_singleton.1 hx]
      exact he
  · have := h.len
    simp
    omega
  · show tells (b.es ++ [e]) QM.zero [] = some (rq (b.es ++ [e]), _)
    rw [rq_of h2]
    exact h2
/-- what a berth answers a client -/
def BM.serve (b : BM) (e : Ev) : BM × QA × Bool :=
  if b.role = 3 then (b, ⟨12, 0, 0, 0⟩, false)
  else if b.role = 1 ∨ b.role = 2 then
    (if ((rq b.es).step e).2.2 then ({b with es := b.es ++ [e]}, ((rq b.es).step e).2.1, true) else (b, ((rq b.es).step e).2.1, false))
  else (b, ⟨7, 0, 0, 0⟩, false)
theorem BM.Ok.serve {b : BM} {n : Nat} (h : b.Ok n) (e : Ev) (he : e.check = 0) : (b.serve e).1.Ok (n + 1) := by
  unfold BM.serve
  split
  · exact h.more (by omega)
  · split
    · next hr =>
      split
      · next hc => exact (h.snoc e he hc (by omega)).1
      · exact h.more (by omega)
    · exact h.more (by omega)
theorem BM.serve_role (b : BM) (e : Ev) : (b.serve e).1.role = b.role ∧ (b.serve e).1.ep = b.ep ∧ (b.serve e).1.frm = b.frm ∧ (b.serve e).1.dst = b.dst ∧ (b.serve e).1.rounds = b.rounds := by
  unfold BM.serve
  split
  · exact ⟨rfl, rfl, rfl, rfl, rfl⟩
  · split
    · split <;> exact ⟨rfl, rfl, rfl, rfl, rfl⟩
    · exact ⟨rfl, rfl, rfl, rfl, rfl⟩
theorem BM.serve_len (b : BM) (e : Ev) : (b.serve e).1.es.length = b.es.length + (if (b.serve e).2.2 then 1 else 0) := by
  unfold BM.serve
  split
  · rfl
  · split
    · split
      · simp
      · rfl
    · rfl
/-- what Go answers -/
def BM.go (b : BM) (dst : Int) : BM := {b with role := 2, dst := dst}
theorem BM.Ok.go {b : BM} {n : Nat} (h : b.Ok n) (hr : b.role = 1) (dst : Int) (h0 : 0 ≤ dst) (h5 : dst < 5) : (b.go dst).Ok n := by
  refine ⟨?_, h.chk, h.len, h.told⟩
  rcases h.shape with h1 | ⟨h1, h2, h3 | h3 | h3 | h3⟩
  · omega
  · exact .inr ⟨h1, h2, .inr (.inl ⟨rfl, h3.2.1, h0, h5, by simp [BM.go]; omega, by simp [BM.go]; omega⟩)⟩
  · omega
  · omega
  · omega
/-- what Caught answers, where it may be called -/
def BM.caught (b : BM) (have_ : Int) : BM :=
  if b.role = 3 then b
  else if have_ = b.es.length ∨ b.rounds = 4 then {b with role := 3, rounds := 0}
  else {b with rounds := b.rounds + 1}
theorem BM.Ok.caught {b : BM} {n : Nat} (h : b.Ok n) (hr : b.role = 2 ∨ b.role = 3) (k : Int) : (b.caught k).Ok n := by
  unfold BM.caught
  split
  · exact h
  · have h2 : b.role = 2 := by omega
    rcases h.shape with h1 | ⟨e1, e2, h3 | h3 | h3 | h3⟩
    · omega
    · omega
    · split
      · exact ⟨.inr ⟨e1, e2, .inr (.inr (.inl ⟨rfl, h3.2.1, h3.2.2.1, h3.2.2.2.1, rfl⟩))⟩, h.chk, h.len, h.told⟩
      · refine ⟨.inr ⟨e1, e2, .inr (.inl ⟨h2, h3.2.1, h3.2.2.1, h3.2.2.2.1, ?_, ?_⟩)⟩, h.chk, h.len, h.told⟩
        · show 0 ≤ b.rounds + 1
          omega
        · show b.rounds + 1 ≤ 4
          omega
    · omega
    · omega
/-- a break behind the events -/
theorem BM.Ok.brk {b : BM} {n : Nat} (h : b.Ok n) (hr : b.role ≠ 0) : ((rq b.es).step ⟨4, 0, 0, 0, 0, 0⟩).2.2 = true ∧ rq (b.es ++ [⟨4, 0, 0, 0, 0, 0⟩]) = (rq b.es).endAll ∧ ({b with es := b.es ++ [⟨4, 0, 0, 0, 0, 0⟩]} : BM).Ok (n + 1) := by
  have hs : (rq b.es).step ⟨4, 0, 0, 0, 0, 0⟩ = ((rq b.es).endAll, ⟨0, 0, 0, 0⟩, true) := by simp [QM.step]
  obtain ⟨h1, h2⟩ := h.snoc ⟨4, 0, 0, 0, 0, 0⟩ (by decide) (by rw [hs]) hr
  exact ⟨by rw [hs], by rw [h2, hs], h1⟩
/-- a berth that was made, behind some events -/
def BM.made (ep : Int) : BM := ⟨1, ep, 0, 0, 0, []⟩
theorem BM.made_ok (ep : Int) (h1 : 1 ≤ ep) (h2 : ep ≤ 1048576) : (BM.made ep).Ok 0 :=
  ⟨.inr ⟨h1, h2, .inl ⟨rfl, rfl, rfl, rfl⟩⟩, fun e h => (by cases h), Nat.le_refl _, ⟨[], rfl⟩⟩
theorem BM.zero_ok : BM.zero.Ok 0 :=
  ⟨.inl ⟨rfl, Int.le_refl _, by decide, rfl, rfl, rfl, rfl⟩, fun e h => (by cases h), Nat.le_refl _, ⟨[], rfl⟩⟩
/-- one event, but a break is passed over -/
def BM.take (b : BM) (e : Ev) : BM := if e.kind = 4 then b else (b.serve e).1
def servedN (ep : Int) (rows : List (List Int)) : Nat → BM
  | 0 => BM.made ep
  | k + 1 => (servedN ep rows k).take (evIn rows k)
theorem servedN_ok (ep : Int) (rows : List (List Int)) (h1 : 1 ≤ ep) (h2 : ep ≤ 1048576) : ∀ k, (servedN ep rows k).Ok k ∧ (servedN ep rows k).role = 1 ∧ (servedN ep rows k).ep = ep
  | 0 => ⟨BM.made_ok ep h1 h2, rfl, rfl⟩
  | k + 1 => by
    obtain ⟨i1, i2, i3⟩ := servedN_ok ep rows h1 h2 k
    have hk : (evIn rows k).check = 0 := evOf_chk _ _ _ _
    simp only [servedN]
    unfold BM.take
    split
    · exact ⟨i1.more (by omega), i2, i3⟩
    · exact ⟨i1.serve _ hk, by rw [(BM.serve_role _ _).1, i2], by rw [(BM.serve_role _ _).2.1, i3]⟩

end Go.Proofs.Ytjmncbfmjeeneaa

namespace Go.Proofs.Ytjmncbfmjeeneaa
open Go.RowKit

/-- a copy, in new memory -/
def ClonePostEv (w : World) (n : Nat) (xs : List Value) (ed : Ending) (w' : World) : Prop := Gives w 44 6 n xs ed w'

set_option maxHeartbeats 400000 in
theorem clone_ev (A : Option Addr) (n c B : Nat) (xs : List Value) (w : World) (h : Reads w B 6 A n xs) (hx : ∀ u ∈ xs, u.oneCell' = true) (hn : n ≤ c) (hc : n ≤ 100000) (hB : B ≤ w.heap.size) :
    Calls Try.prog 49 #[.slice A n c] w (ClonePostEv w n xs) := by
  obtain ⟨i0, hi0, hz0, hz1, hz2⟩ := info_parts ev_info
  have hnil := fun (W : World) => Lib.run_eql_slice_nil (P := Try.prog) W 23 44 A n c 0 0 Try.underlying23
  rcases A with _ | ad
  · have h0 : n = 0 := by
      rcases Nat.eq_zero_or_pos n with h0 | h0
      · exact h0
      · obtain ⟨_, h1, _⟩ := h.2 h0; cases h1
    subst h0
    have hd : xs = [] := List.eq_nil_of_length_eq_zero (by simpa using h.1)
    subst hd
    have FIN := Lib.hid (show ClonePostEv w 0 [] (.returned (.slice none 0 0)) w from ⟨_, rfl, World.ownsRow_nil _ _ _ _, Below.refl _ _⟩)
    generalize ClonePostEv w 0 [] = POST at *
    clear h hx
    go_enter Try.func49, Try.ntmps49
    go_wp2
    exact FIN.out
  · have FIN : ∀ v w1 w2, Below w.heap.size w w1 → w2.ownsRow w.heap.size 44 6 v (0 + n) ([] ++ xs) → w1.grownBy w2 (some w.heap.size) → ClonePostEv w n xs (.returned v) w2 := fun v w1 w2 hb ho hg => by
      rw [Nat.zero_add, List.nil_append] at ho
      exact ⟨v, rfl, ho, hb.grown hg hb.size (fun k hk => by cases hk; exact Nat.le_refl _)⟩
    have FH := Lib.hid FIN
    clear FIN
    generalize ClonePostEv w n xs = POST at *
    have h1 := h.alloc hB (.cells #[] 44)
    have o0 : (w.alloc (.cells #[] 44)).ownsRow w.heap.size 44 6 (.slice (some ⟨w.heap.size, 0, none⟩) 0 0) 0 [] :=
      ⟨by simp, .inr ⟨w.heap.size, 0, #[], rfl, Nat.le_refl _, heap_alloc_new w _, Nat.le_refl _, by simp [maxLen], by simp, by simp⟩⟩
    have b0 := (Below.refl w.heap.size w).alloc (Nat.le_refl _) (.cells #[] 44)
    clear h
    go_enter Try.func49, Try.ntmps49
    go_wp2_with (at_builtin; refine wpList_append_any _ rfl (.tmp 5) (.tmp 6) _ rfl w.heap.size 44 i0 _ 6 48 Try.underlying23 hi0 hz0 hz1 hz2 rfl (by omega) (.slice (some ⟨w.heap.size, 0, none⟩) 0 0) 0 [] rfl o0 B (some ad) n c xs rfl h1 hx (by simp only [maxLen]; omega) (by omega) (by simp) ?_; intro v1 w1 o1 g1 at1)
    exact FH.out _ _ _ b0 o1 g1

theorem clone_ev_st {w0 w : World} {I : List It} (es : List Ev) (A : Option Addr) (n c : Nat) (hl : es.length = n) (H : St w0 w I) [h : Has I (evIt A es)] (hn : n ≤ 1000) (hc : n ≤ c) :
    Calls Try.prog 49 #[.slice A n c] w (fun ed w' => ∃ v, ed = .returned v ∧ St w0 w' (.ow 44 6 v n (qevCells es) :: I)) := by
  refine (clone_ev A n c w.heap.size (qevCells es) w (H.evReads hl) (qevCells_one _) hc (by omega) (Nat.le_refl _)).mono fun ed w' ⟨v, h1, h2, h3⟩ => ⟨v, h1, H.newOwn h3 h2⟩
/-- a berth's value -/
def bArr (b : BM) (A : Option Addr) (n c : Nat) : Array Value := #[.int .i64 b.role, .int .i64 b.ep, .int .i64 b.frm, .int .i64 b.dst, .int .i64 b.rounds, .slice A n c]

end Go.Proofs.Ytjmncbfmjeeneaa

namespace Go.Proofs.Ytjmncbfmjeeneaa
open Go.RowKit

theorem row_Berth : (match Try.prog.underlying 58 with | some (.struct _) | some (.array _ _) => true | _ => false) = true := by kernel_rfl
instance rowTy_Berth : RowTy 58 6 := ⟨by kernel_rfl, by kernel_rfl⟩
theorem ber_zero : (Try.prog.info? 58).bind (·.zero) = some (.agg #[.int .i64 0, .int .i64 0, .int .i64 0, .int .i64 0, .int .i64 0, .slice none 0 0]) := by kernel_rfl
theorem node_ok (n : Int) (w : World) (h0 : 0 ≤ n) (h5 : n < 5) : Calls Try.prog 44 #[.int .i64 n] w fun e w' => e = .returned (.bool true) ∧ w' = w := by
  go_enter Try.func44, Try.ntmps44
  go_wp2_with fail
  go_ret
  exact ⟨rfl, rfl⟩

set_option maxRecDepth 100000 in
set_option maxHeartbeats 8000000 in
theorem shape_st {w0 w : World} {I : List It} (b : BM) (A : Option Addr) (n c : Nat) (hl : b.es.length = n) (hs : b.Shape) (H : St w0 w I) :
    Calls Try.prog 60 #[.agg (bArr b A n c)] w (fun ed w' => ed = .returned (.bool true) ∧ St w0 w' I) := by
  have HF := Lib.hid (show ∀ W, St w0 W I → (fun ed w' => ed = Ending.returned (.bool true) ∧ St w0 w' I) (Ending.returned (.bool true)) W from fun W h => ⟨rfl, h⟩)
  generalize (fun ed w' => ed = Ending.returned (.bool true) ∧ St w0 w' I) = POST at *
  obtain ⟨role, ep, frm, dst, rounds, es⟩ := b
  unfold BM.Shape at hs
  unfold bArr
  dsimp only at hs hl ⊢
  rcases hs with ⟨rfl, e1, e2, rfl, rfl, rfl, rfl⟩ | ⟨e1, e2, ⟨rfl, rfl, rfl, rfl⟩ | ⟨rfl, rfl, h1, h2, h3, h4⟩ | ⟨rfl, rfl, h1, h2, rfl⟩ | ⟨rfl, h1, h2, rfl, rfl⟩⟩
  · obtain rfl : n = 0 := by simpa using hl.symm
    go_enter Try.func60, Try.ntmps60
    go_wp2_with (first | (go_at_call 44; refine (node_ok _ _ (by omega) (by omega)).mono ?_; rintro ed wy ⟨rfl, rfl⟩) | (first | ((with_reducible refine here_load ?_); first | refine ldR H rfl _ _ rfl rfl (by kernel_rfl) ?_ | refine ldS H rfl _ _ rfl rfl (by rfl) ?_ | refine ldSG H (by rfl) _ _ rfl rfl (by rfl) ?_ | refine ldRG H (by rfl) _ _ rfl rfl (by kernel_rfl) ?_) | ((with_reducible refine here_store ?_); first | (refine stR H rfl _ _ _ rfl rfl rfl (by rfl) (by rfl) (by kernel_rfl) ?_; clear H; intro wx H) | (refine stS H rfl _ _ _ rfl rfl _ rfl (by rfl) (by rfl) (by rfl) ?_; clear H; intro wx H)) | ((with_reducible refine here_alloc ?_); first | (refine wpList_alloc_st H rfl 37 rfl _ q_zero ?_; clear H; intro gq wx H) | (refine wpList_alloc_st H rfl 48 rfl _ ans_zero ?_; clear H; intro ga wx H) | (refine wpList_alloc_st H rfl 44 rfl _ ev_zero ?_; clear H; intro ge wx H) | (refine wpList_alloc_st H rfl 58 rfl _ ber_zero ?_; clear H; intro gr wx H)) | ((with_reducible refine here_box ?_); refine wpList_box_st H rfl _ _ rfl _ rfl ?_; clear H; intro gb wx H)))
    exact HF.out _ (H.subm _)
  · have e3 : ¬ ep < 1 := by omega
    go_enter Try.func60, Try.ntmps60
    go_wp2_with (first | (go_at_call 44; refine (node_ok _ _ (by omega) (by omega)).mono ?_; rintro ed wy ⟨rfl, rfl⟩) | (first | ((with_reducible refine here_load ?_); first | refine ldR H rfl _ _ rfl rfl (by kernel_rfl) ?_ | refine ldS H rfl _ _ rfl rfl (by rfl) ?_ | refine ldSG H (by rfl) _ _ rfl rfl (by rfl) ?_ | refine ldRG H (by rfl) _ _ rfl rfl (by kernel_rfl) ?_) | ((with_reducible refine here_store ?_); first | (refine stR H rfl _ _ _ rfl rfl rfl (by rfl) (by rfl) (by kernel_rfl) ?_; clear H; intro wx H) | (refine stS H rfl _ _ _ rfl rfl _ rfl (by rfl) (by rfl) (by rfl) ?_; clear H; intro wx H)) | ((with_reducible refine here_alloc ?_); first | (refine wpList_alloc_st H rfl 37 rfl _ q_zero ?_; clear H; intro gq wx H) | (refine wpList_alloc_st H rfl 48 rfl _ ans_zero ?_; clear H; intro ga wx H) | (refine wpList_alloc_st H rfl 44 rfl _ ev_zero ?_; clear H; intro ge wx H) | (refine wpList_alloc_st H rfl 58 rfl _ ber_zero ?_; clear H; intro gr wx H)) | ((with_reducible refine here_box ?_); refine wpList_box_st H rfl _ _ rfl _ rfl ?_; clear H; intro gb wx H)))
    exact HF.out _ (H.subm _)
  · have e3 : ¬ ep < 1 := by omega
    go_enter Try.func60, Try.ntmps60
    go_wp2_with (first | (go_at_call 44; refine (node_ok _ _ (by omega) (by omega)).mono ?_; rintro ed wy ⟨rfl, rfl⟩) | (first | ((with_reducible refine here_load ?_); first | refine ldR H rfl _ _ rfl rfl (by kernel_rfl) ?_ | refine ldS H rfl _ _ rfl rfl (by rfl) ?_ | refine ldSG H (by rfl) _ _ rfl rfl (by rfl) ?_ | refine ldRG H (by rfl) _ _ rfl rfl (by kernel_rfl) ?_) | ((with_reducible refine here_store ?_); first | (refine stR H rfl _ _ _ rfl rfl rfl (by rfl) (by rfl) (by kernel_rfl) ?_; clear H; intro wx H) | (refine stS H rfl _ _ _ rfl rfl _ rfl (by rfl) (by rfl) (by rfl) ?_; clear H; intro wx H)) | ((with_reducible refine here_alloc ?_); first | (refine wpList_alloc_st H rfl 37 rfl _ q_zero ?_; clear H; intro gq wx H) | (refine wpList_alloc_st H rfl 48 rfl _ ans_zero ?_; clear H; intro ga wx H) | (refine wpList_alloc_st H rfl 44 rfl _ ev_zero ?_; clear H; intro ge wx H) | (refine wpList_alloc_st H rfl 58 rfl _ ber_zero ?_; clear H; intro gr wx H)) | ((with_reducible refine here_box ?_); refine wpList_box_st H rfl _ _ rfl _ rfl ?_; clear H; intro gb wx H)))
    exact HF.out _ (H.subm _)
  · have e3 : ¬ ep < 1 := by omega
    go_enter Try.func60, Try.ntmps60
    go_wp2_with (first | (go_at_call 44; refine (node_ok _ _ (by omega) (by omega)).mono ?_; rintro ed wy ⟨rfl, rfl⟩) | (first | ((with_reducible refine here_load ?_); first | refine ldR H rfl _ _ rfl rfl (by kernel_rfl) ?_ | refine ldS H rfl _ _ rfl rfl (by rfl) ?_ | refine ldSG H (by rfl) _ _ rfl rfl (by rfl) ?_ | refine ldRG H (by rfl) _ _ rfl rfl (by kernel_rfl) ?_) | ((with_reducible refine here_store ?_); first | (refine stR H rfl _ _ _ rfl rfl rfl (by rfl) (by rfl) (by kernel_rfl) ?_; clear H; intro wx H) | (refine stS H rfl _ _ _ rfl rfl _ rfl (by rfl) (by rfl) (by rfl) ?_; clear H; intro wx H)) | ((with_reducible refine here_alloc ?_); first | (refine wpList_alloc_st H rfl 37 rfl _ q_zero ?_; clear H; intro gq wx H) | (refine wpList_alloc_st H rfl 48 rfl _ ans_zero ?_; clear H; intro ga wx H) | (refine wpList_alloc_st H rfl 44 rfl _ ev_zero ?_; clear H; intro ge wx H) | (refine wpList_alloc_st H rfl 58 rfl _ ber_zero ?_; clear H; intro gr wx H)) | ((with_reducible refine here_box ?_); refine wpList_box_st H rfl _ _ rfl _ rfl ?_; clear H; intro gb wx H)))
    exact HF.out _ (H.subm _)
  · have e3 : ¬ ep < 1 := by omega
    go_enter Try.func60, Try.ntmps60
    go_wp2_with (first | (go_at_call 44; refine (node_ok _ _ (by omega) (by omega)).mono ?_; rintro ed wy ⟨rfl, rfl⟩) | (first | ((with_reducible refine here_load ?_); first | refine ldR H rfl _ _ rfl rfl (by kernel_rfl) ?_ | refine ldS H rfl _ _ rfl rfl (by rfl) ?_ | refine ldSG H (by rfl) _ _ rfl rfl (by rfl) ?_ | refine ldRG H (by rfl) _ _ rfl rfl (by kernel_rfl) ?_) | ((with_reducible refine here_store ?_); first | (refine stR H rfl _ _ _ rfl rfl rfl (by rfl) (by rfl) (by kernel_rfl) ?_; clear H; intro wx H) | (refine stS H rfl _ _ _ rfl rfl _ rfl (by rfl) (by rfl) (by rfl) ?_; clear H; intro wx H)) | ((with_reducible refine here_alloc ?_); first | (refine wpList_alloc_st H rfl 37 rfl _ q_zero ?_; clear H; intro gq wx H) | (refine wpList_alloc_st H rfl 48 rfl _ ans_zero ?_; clear H; intro ga wx H) | (refine wpList_alloc_st H rfl 44 rfl _ ev_zero ?_; clear H; intro ge wx H) | (refine wpList_alloc_st H rfl 58 rfl _ ber_zero ?_; clear H; intro gr wx H)) | ((with_reducible refine here_box ?_); refine wpList_box_st H rfl _ _ rfl _ rfl ?_; clear H; intro gb wx H)))
    exact HF.out _ (H.subm _)

set_option maxRecDepth 100000 in
set_option maxHeartbeats 8000000 in
theorem check_st {w0 w : World} {I : List It} (b : BM) (A : Option Addr) (n c m : Nat) (hl : b.es.length = n) (hb : b.Ok m) (hm : m ≤ 150) (hc : n ≤ c) (H : St w0 w I) [h : Has I (evIt A b.es)] :
    Calls Try.prog 41 #[.agg (bArr b A n c)] w (fun ed w' => ed = .returned (.int .i64 0) ∧ St w0 w' I) := by
  have HF := Lib.hid (show ∀ W, St w0 W I → (fun ed w' => ed = Ending.returned (.int .i64 0) ∧ St w0 w' I) (Ending.returned (.int .i64 0)) W from fun W h => ⟨rfl, h⟩)
  generalize (fun ed w' => ed = Ending.returned (.int .i64 0) ∧ St w0 w' I) = POST at *
  have HI := Lib.hid h
  have HB := Lib.hid hb
  have HL := Lib.hid hl
  have hn : n ≤ 150 := by have := hb.len; omega
  have CS := Lib.hid (fun W J (H : St w0 W J) => shape_st b A n c hl hb.shape H)
  clear h hb hl
  have hfold : #[Value.int .i64 b.role, .int .i64 b.ep, .int .i64 b.frm, .int .i64 b.dst, .int .i64 b.rounds, .slice A n c] = bArr b A n c := rfl
  unfold bArr at CS ⊢
  go_enter Try.func41, Try.ntmps41
  clear hfold
  go_wp2_with (first | (go_at_call 60; refine (CS.out _ _ H).mono ?_; clear H; rintro ed wy ⟨rfl, H⟩) | (first | ((with_reducible refine here_load ?_); first | refine ldR H rfl _ _ rfl rfl (by kernel_rfl) ?_ | refine ldS H rfl _ _ rfl rfl (by rfl) ?_ | refine ldSG H (by rfl) _ _ rfl rfl (by rfl) ?_ | refine ldRG H (by rfl) _ _ rfl rfl (by kernel_rfl) ?_) | ((with_reducible refine here_store ?_); first | (refine stR H rfl _ _ _ rfl rfl rfl (by rfl) (by rfl) (by kernel_rfl) ?_; clear H; intro wx H) | (refine stS H rfl _ _ _ rfl rfl _ rfl (by rfl) (by rfl) (by rfl) ?_; clear H; intro wx H)) | ((with_reducible refine here_alloc ?_); first | (refine wpList_alloc_st H rfl 37 rfl _ q_zero ?_; clear H; intro gq wx H) | (refine wpList_alloc_st H rfl 48 rfl _ ans_zero ?_; clear H; intro ga wx H) | (refine wpList_alloc_st H rfl 44 rfl _ ev_zero ?_; clear H; intro ge wx H) | (refine wpList_alloc_st H rfl 58 rfl _ ber_zero ?_; clear H; intro gr wx H)) | ((with_reducible refine here_box ?_); refine wpList_box_st H rfl _ _ rfl _ rfl ?_; clear H; intro gb wx H)))
  have h := HI.out
  refine (replay_n b.es A n c HL.out H HB.out.chk (by omega) hc).mono ?_
  clear H h
  rintro ed wy ⟨h1, _⟩
  obtain ⟨la, ht⟩ := HB.out.told
  obtain ⟨G1, y1, G2, y2, rfl, v1, v2, H⟩ := h1 _ _ ht
  clear h1 ht
  go_wp2_with (first | ((with_reducible refine here_load ?_); first | refine ldR H rfl _ _ rfl rfl (by kernel_rfl) ?_ | refine ldS H rfl _ _ rfl rfl (by rfl) ?_ | refine ldSG H (by rfl) _ _ rfl rfl (by rfl) ?_ | refine ldRG H (by rfl) _ _ rfl rfl (by kernel_rfl) ?_) | ((with_reducible refine here_store ?_); first | (refine stR H rfl _ _ _ rfl rfl rfl (by rfl) (by rfl) (by kernel_rfl) ?_; clear H; intro wx H) | (refine stS H rfl _ _ _ rfl rfl _ rfl (by rfl) (by rfl) (by rfl) ?_; clear H; intro wx H)) | ((with_reducible refine here_alloc ?_); first | (refine wpList_alloc_st H rfl 37 rfl _ q_zero ?_; clear H; intro gq2 wx H) | (refine wpList_alloc_st H rfl 48 rfl _ ans_zero ?_; clear H; intro ga2 wx H) | (refine wpList_alloc_st H rfl 44 rfl _ ev_zero ?_; clear H; intro ge2 wx H) | (refine wpList_alloc_st H rfl 58 rfl _ ber_zero ?_; clear H; intro gr2 wx H)) | ((with_reducible refine here_box ?_); refine wpList_box_st H rfl _ _ rfl _ rfl ?_; clear H; intro gb2 wx H))
  exact HF.out _ (H.subm _)

end Go.Proofs.Ytjmncbfmjeeneaa

namespace Go.Proofs.Ytjmncbfmjeeneaa
open Go.RowKit

set_option maxRecDepth 100000 in
set_option maxHeartbeats 8000000 in
theorem with_st {w0 w : World} {I : List It} (b : BM) (l : List Ev) (A A2 : Option Addr) (n c m c2 : Nat) (hl : b.es.length = n) (hl2 : l.length = m) (hn : n ≤ 150) (hm : m ≤ 150) (hc : n ≤ c) (H : St w0 w I) [h : Has I (evIt A b.es)] [h2 : Has I (evIt A2 l)] :
    Calls Try.prog 45 #[.agg (bArr b A n c), .slice A2 m c2] w (fun ed w' => ∃ A' c', ed = .returned (.agg (bArr b A' (n + m) c')) ∧ n + m ≤ c' ∧ St w0 w' (evIt A' (b.es ++ l) :: I)) := by
  have HF := Lib.hid (show ∀ W A' c', n + m ≤ c' → St w0 W (evIt A' (b.es ++ l) :: I) → (fun ed w' => ∃ A' c', ed = Ending.returned (.agg (bArr b A' (n + m) c')) ∧ n + m ≤ c' ∧ St w0 w' (evIt A' (b.es ++ l) :: I)) (Ending.returned (.agg (bArr b A' (n + m) c'))) W from fun W A' c' h1 h2 => ⟨A', c', rfl, h1, h2⟩)
  generalize (fun ed w' => ∃ A' c', ed = Ending.returned (.agg (bArr b A' (n + m) c')) ∧ n + m ≤ c' ∧ St w0 w' (evIt A' (b.es ++ l) :: I)) = POST at *
  have HI := Lib.hid h
  have HI2 := Lib.hid h2
  have HL := Lib.hid hl
  have HL2 := Lib.hid hl2
  clear h h2 hl hl2
  unfold bArr at HF ⊢
  go_enter Try.func45, Try.ntmps45
  go_wp2_with (first | ((with_reducible refine here_load ?_); first | refine ldR H rfl _ _ rfl rfl (by kernel_rfl) ?_ | refine ldS H rfl _ _ rfl rfl (by rfl) ?_ | refine ldSG H (by rfl) _ _ rfl rfl (by rfl) ?_ | refine ldRG H (by rfl) _ _ rfl rfl (by kernel_rfl) ?_) | ((with_reducible refine here_store ?_); first | (refine stR H rfl _ _ _ rfl rfl rfl (by rfl) (by rfl) (by kernel_rfl) ?_; clear H; intro wx H) | (refine stS H rfl _ _ _ rfl rfl _ rfl (by rfl) (by rfl) (by rfl) ?_; clear H; intro wx H)) | ((with_reducible refine here_alloc ?_); first | (refine wpList_alloc_st H rfl 37 rfl _ q_zero ?_; clear H; intro gq wx H) | (refine wpList_alloc_st H rfl 48 rfl _ ans_zero ?_; clear H; intro ga wx H) | (refine wpList_alloc_st H rfl 44 rfl _ ev_zero ?_; clear H; intro ge wx H) | (refine wpList_alloc_st H rfl 58 rfl _ ber_zero ?_; clear H; intro gr wx H)) | ((with_reducible refine here_box ?_); refine wpList_box_st H rfl _ _ rfl _ rfl ?_; clear H; intro gb wx H))
  have h := HI.out
  refine (clone_ev_st b.es A n c HL.out H (by omega) hc).mono ?_
  clear H h
  rintro ed wy ⟨v, rfl, H⟩
  have h2 := HI2.out
  go_wp2_with (first | ((with_reducible refine here_call ?_); refine wpList_append_st (v := v) H rfl _ _ 23 rfl rfl rfl Try.underlying23 _ _ ev_info (by rfl) (by omega) (H.evReads (es := l) HL2.out) (qevCells_one _) (by simp only [maxLen]; omega) (by omega) ?_; clear H; intro A7 c7 wx hc7 hc7' H) | (first | ((with_reducible refine here_load ?_); first | refine ldR H rfl _ _ rfl rfl (by kernel_rfl) ?_ | refine ldS H rfl _ _ rfl rfl (by rfl) ?_ | refine ldSG H (by rfl) _ _ rfl rfl (by rfl) ?_ | refine ldRG H (by rfl) _ _ rfl rfl (by kernel_rfl) ?_) | ((with_reducible refine here_store ?_); first | (refine stR H rfl _ _ _ rfl rfl rfl (by rfl) (by rfl) (by kernel_rfl) ?_; clear H; intro wx H) | (refine stS H rfl _ _ _ rfl rfl _ rfl (by rfl) (by rfl) (by rfl) ?_; clear H; intro wx H)) | ((with_reducible refine here_alloc ?_); first | (refine wpList_alloc_st H rfl 37 rfl _ q_zero ?_; clear H; intro gq wx H) | (refine wpList_alloc_st H rfl 48 rfl _ ans_zero ?_; clear H; intro ga wx H) | (refine wpList_alloc_st H rfl 44 rfl _ ev_zero ?_; clear H; intro ge wx H) | (refine wpList_alloc_st H rfl 58 rfl _ ber_zero ?_; clear H; intro gr wx H)) | ((with_reducible refine here_box ?_); refine wpList_box_st H rfl _ _ rfl _ rfl ?_; clear H; intro gb wx H)))
  rw [← qevCells_app] at H
  replace H := H.freezeEvAt (A := A7) (c := c7) (n := n + m) (es := b.es ++ l) (by rw [List.length_append, HL.out, HL2.out])
  have l4 : (loadVar 58 ⟨gr, 0, none⟩).run Try.prog wx = .ok (.agg #[.int .i64 b.role, .int .i64 b.ep, .int .i64 b.frm, .int .i64 b.dst, .int .i64 b.rounds, .slice A7 (n + m) c7]) wx := H.loadRow 58 gr row_Berth (P := Try.prog) (by kernel_rfl)
  (try simp only [Act.put, List.setIfInBounds_toArray, List.set_cons_zero, List.set_cons_succ])
  exact bodyPost_ret (v := .agg #[.int .i64 b.role, .int .i64 b.ep, .int .i64 b.frm, .int .i64 b.dst, .int .i64 b.rounds, .slice A7 (n + m) c7]) (by simp [results, Try.results45, asAddr, l4]) rfl (HF.out _ _ _ hc7 (H.subm _))
theorem with_nil {w0 w : World} {I : List It} (b : BM) (A : Option Addr) (n c : Nat) (hl : b.es.length = n) (hn : n ≤ 150) (hc : n ≤ c) (H : St w0 w I) [h : Has I (evIt A b.es)] :
    Calls Try.prog 45 #[.agg (bArr b A n c), .slice none 0 0] w (fun ed w' => ∃ A' c', ed = .returned (.agg (bArr b A' n c')) ∧ n ≤ c' ∧ St w0 w' (evIt A' b.es :: I)) := by
  have H2 : St w0 w (evIt none [] :: I) := H.old (s := 6) (n := 0) (A := none) (xs := []) Reads.none_
  refine (with_st b [] A none n c 0 0 hl rfl hn (by omega) hc H2).mono fun ed w' ⟨A', c', h1, h2, h3⟩ => ⟨A', c', ?_, h2, ?_⟩
  · rw [h1]
    rfl
  · rw [List.append_nil] at h3
    exact h3.subm _

end Go.Proofs.Ytjmncbfmjeeneaa

namespace Go.Proofs.Ytjmncbfmjeeneaa
open Go.RowKit

def BM.makeR (b : BM) (ep : Int) : BM × Int :=
  if ep < 1 ∨ 1048576 < ep then (BM.zero, 2) else if b.role ≠ 0 then (BM.zero, 8) else if ep ≤ b.ep then (BM.zero, 15) else (BM.made ep, 0)
def BM.goR (b : BM) (dst : Int) : BM × Int :=
  if ¬ (0 ≤ dst ∧ dst < 5) then (BM.zero, 2) else if b.role = 2 ∨ b.role = 3 then (BM.zero, 12) else if b.role ≠ 1 then (BM.zero, 7) else if b.ep = 1048576 then (BM.zero, 14) else (b.go dst, 0)
def BM.caughtR (b : BM) (k : Int) : BM × Int :=
  if b.role ≠ 2 ∧ b.role ≠ 3 then (BM.zero, 7) else if k < 0 ∨ (b.es.length : Int) < k then (BM.zero, 2) else (b.caught k, 0)
def BM.beginR (b : BM) (ep fr : Int) : BM × Int :=
  if ep < 1 ∨ 1048576 < ep ∨ ¬ (0 ≤ fr ∧ fr < 5) then (BM.zero, 2) else if b.role ≠ 0 ∧ b.role ≠ 4 then (BM.zero, 8)
  else if b.role = 4 ∧ b.ep = ep ∧ b.frm = fr then (b, 0) else if ep ≤ b.ep then (BM.zero, 15) else (⟨4, ep, fr, 0, 0, []⟩, 0)
def BM.forgetR (b : BM) (ep : Int) : BM × Int :=
  if b.role ≠ 3 then (BM.zero, 7) else if ep ≤ b.ep then (BM.zero, 15) else (⟨0, b.ep, 0, 0, 0, []⟩, 0)
def BM.wakeR (b : BM) : BM × Int :=
  if b.role ≠ 1 ∧ b.role ≠ 2 then (b, 0) else (⟨1, b.ep, 0, 0, 0, b.es ++ [⟨4, 0, 0, 0, 0, 0⟩]⟩, 0)
/-- a part of the events, and is it the last one? -/
def BM.part (b : BM) (k : Nat) : List Ev := (b.es.drop k).take 3
def BM.partEnd (b : BM) (k : Nat) : Bool := b.role == 3 && min (k + 3) b.es.length == b.es.length

theorem BM.Ok.makeR {b : BM} (ep : Int) : (b.makeR ep).1.Ok 0 := by
  unfold BM.makeR
  split
  · exact BM.zero_ok
  · split
    · exact BM.zero_ok
    · split
      · exact BM.zero_ok
      · exact BM.made_ok ep (by omega) (by omega)
theorem BM.Ok.goR {b : BM} {n : Nat} (h : b.Ok n) (dst : Int) : (b.goR dst).1.Ok n := by
  unfold BM.goR
  split
  · exact BM.zero_ok.more (by omega)
  · split
    · exact BM.zero_ok.more (by omega)
    · split
      · exact BM.zero_ok.more (by omega)
      · split
        · exact BM.zero_ok.more (by omega)
        · exact h.go (by omega) dst (by omega) (by omega)
theorem BM.Ok.caughtR {b : BM} {n : Nat} (h : b.Ok n) (k : Int) : (b.caughtR k).1.Ok n := by
  unfold BM.caughtR
  split
  · exact BM.zero_ok.more (by omega)
  · split
    · exact BM.zero_ok.more (by omega)
    · exact h.caught (by omega) k
theorem BM.Ok.beginR {b : BM} {n : Nat} (h : b.Ok n) (ep fr : Int) : (b.beginR ep fr).1.Ok n := by
  unfold BM.beginR
  split
  · exact BM.zero_ok.more (by omega)
  · split
    · exact BM.zero_ok.more (by omega)
    · split
      · exact h
      · split
        · exact BM.zero_ok.more (by omega)
        · exact BM.Ok.more (n := 0) ⟨.inr ⟨by show 1 ≤ ep; omega, by show ep ≤ 1048576; omega, .inr (.inr (.inr ⟨rfl, by show 0 ≤ fr; omega, by show fr < 5; omega, rfl, rfl⟩))⟩, fun e h => (by cases h), Nat.le_refl _, ⟨[], rfl⟩⟩ (by omega)
theorem BM.Ok.forgetR {b : BM} {n : Nat} (h : b.Ok n) (ep : Int) : (b.forgetR ep).1.Ok 0 := by
  unfold BM.forgetR
  split
  · exact BM.zero_ok
  · split
    · exact BM.zero_ok
    · refine ⟨.inl ⟨rfl, ?_, ?_, rfl, rfl, rfl, rfl⟩, fun e h => (by cases h), Nat.le_refl _, ⟨[], rfl⟩⟩
      · show 0 ≤ b.ep
        rcases h.shape with h1 | h1 <;> omega
      · show b.ep ≤ 1048576
        rcases h.shape with h1 | h1 <;> omega
theorem BM.Ok.wakeR {b : BM} {n : Nat} (h : b.Ok n) : b.wakeR.1.Ok (n + 1) := by
  unfold BM.wakeR
  split
  · exact h.more (by omega)
  · next hr =>
    obtain ⟨_, _, h3⟩ := h.brk (by omega)
    refine ⟨?_, h3.chk, h3.len, h3.told⟩
    rcases h.shape with h1 | h1
    · omega
    · exact .inr ⟨h1.1, h1.2.1, .inl ⟨rfl, rfl, rfl, rfl⟩⟩

end Go.Proofs.Ytjmncbfmjeeneaa

namespace Go.Proofs.Ytjmncbfmjeeneaa
open Go.RowKit

/-- a berth and a code are returned -/
def BPost (w0 : World) (I : List It) (r : BM × Int) (ed : Ending) (w' : World) : Prop :=
  ∃ A c, ed = .returned (.tuple #[.agg (bArr r.1 A r.1.es.length c), .int .i64 r.2]) ∧ r.1.es.length ≤ c ∧ St w0 w' (evIt A r.1.es :: I)
theorem BPost.zero {w0 w : World} {I : List It} (k : Int) (H : St w0 w I) : BPost w0 I (BM.zero, k) (.returned (.tuple #[.agg (bArr BM.zero none 0 0), .int .i64 k])) w :=
  ⟨none, 0, rfl, Nat.le_refl _, H.old (s := 6) (n := 0) (A := none) (xs := []) Reads.none_⟩
theorem node_any (n : Int) (w : World) : Calls Try.prog 44 #[.int .i64 n] w fun e w' => e = .returned (.bool (decide (0 ≤ n ∧ n < 5))) ∧ w' = w := by
  by_cases h0 : 0 ≤ n
  · by_cases h5 : n < 5
    · rw [decide_eq_true ⟨h0, h5⟩]
      exact node_ok n w h0 h5
    · rw [decide_eq_false (by omega)]
      go_enter Try.func44, Try.ntmps44
      go_wp2_with fail
      go_ret
      exact ⟨rfl, rfl⟩
  · rw [decide_eq_false (by omega)]
    go_enter Try.func44, Try.ntmps44
    go_wp2_with fail
    go_ret
    exact ⟨rfl, rfl⟩

end Go.Proofs.Ytjmncbfmjeeneaa

namespace Go.Proofs.Ytjmncbfmjeeneaa
open Go.RowKit

theorem BPost.mk {w0 w : World} {I : List It} {r : BM × Int} {A : Option Addr} {n c : Nat} (hn : r.1.es.length = n) (hc : n ≤ c) (H : St w0 w (evIt A r.1.es :: I)) :
    BPost w0 I r (.returned (.tuple #[.agg (bArr r.1 A n c), .int .i64 r.2])) w := by
  subst hn
  exact ⟨A, c, rfl, hc, H⟩
/-- a block that is written no more -/
theorem St.frzB {w0 w : World} {I : List It} {g s : Nat} {t : TypeId} {cs : Array Value} (H : St w0 w (.bl g t cs :: I)) (hs : cs.size = s) : St w0 w (.rd s (some ⟨g, 0, none⟩) 1 cs.toList :: I) := by
  have hb := (H.all _ (List.mem_cons_self ..)).2
  refine ⟨H.bel, fun x hx => ?_, List.pairwise_cons.2 ⟨fun z hz _ k h1 h2 => ?_, (List.pairwise_cons.1 H.apart).2⟩⟩
  · rcases List.mem_cons.1 hx with rfl | hx
    · refine ⟨by simp [hs], fun _ => ⟨_, rfl, hb.lt, fun j u hu => ?_⟩⟩
      have hadd : (⟨g, 0, none⟩ : Addr).add j = ⟨g, j, none⟩ := by unfold Addr.add; split <;> simp_all
      rw [hadd, hb.cell, ← Array.getElem?_toList]
      exact hu
    · exact H.all x (List.mem_cons_of_mem _ hx)
  · refine (List.pairwise_cons.1 H.apart).1 z hz (.inl rfl) k ?_ h2
    simpa [It.area] using h1
/-- an event that stands in a slice of its own -/
theorem St.oneEv {w0 w : World} {I : List It} {g : Nat} {k p i b h n : Int} (H : St w0 w (.bl g 44 #[.int .i64 k, .int .i64 p, .int .i64 i, .int .i64 b, .int .i64 h, .int .i64 n] :: I)) : St w0 w (evIt (some ⟨g, 0, none⟩) [⟨k, p, i, b, h, n⟩] :: I) :=
  H.frzB (s := 6) rfl
set_option maxRecDepth 100000 in
set_option maxHeartbeats 8000000 in
theorem serving_st {w0 w : World} {I : List It} (b : BM) (A : Option Addr) (n c : Nat) (hs : b.Shape) (H : St w0 w I) :
    Calls Try.prog 58 #[.agg (bArr b A n c)] w (fun ed w' => ed = .returned (.bool (decide (b.role = 1 ∨ b.role = 2))) ∧ St w0 w' I) := by
  obtain ⟨role, ep, frm, dst, rounds, es⟩ := b
  unfold BM.Shape at hs
  unfold bArr
  dsimp only at hs ⊢
  have HR : role = 0 ∨ role = 1 ∨ role = 2 ∨ role = 3 ∨ role = 4 := by omega
  obtain ⟨v, hv⟩ : ∃ v, decide (role = 1 ∨ role = 2) = v := ⟨_, rfl⟩
  rw [hv]
  have HF := Lib.hid (show ∀ W, St w0 W I → (fun ed w' => ed = Ending.returned (.bool v) ∧ St w0 w' I) (Ending.returned (.bool v)) W from fun W h => ⟨rfl, h⟩)
  generalize (fun ed w' => ed = Ending.returned (.bool v) ∧ St w0 w' I) = POST at *
  clear hs
  rcases HR with rfl | rfl | rfl | rfl | rfl <;> subst hv
  · go_enter Try.func58, Try.ntmps58
    go_wp2_with (first | ((with_reducible refine here_load ?_); first | refine ldR H rfl _ _ rfl rfl (by kernel_rfl) ?_ | refine ldS H rfl _ _ rfl rfl (by rfl) ?_ | refine ldSG H (by rfl) _ _ rfl rfl (by rfl) ?_ | refine ldRG H (by rfl) _ _ rfl rfl (by kernel_rfl) ?_) | ((with_reducible refine here_store ?_); first | (refine stR H rfl _ _ _ rfl rfl rfl (by rfl) (by rfl) (by kernel_rfl) ?_; clear H; intro wx H) | (refine stS H rfl _ _ _ rfl rfl _ rfl (by rfl) (by rfl) (by rfl) ?_; clear H; intro wx H)) | ((with_reducible refine here_alloc ?_); first | (refine wpList_alloc_st H rfl 37 rfl _ q_zero ?_; clear H; intro gq wx H) | (refine wpList_alloc_st H rfl 48 rfl _ ans_zero ?_; clear H; intro ga wx H) | (refine wpList_alloc_st H rfl 44 rfl _ ev_zero ?_; clear H; intro ge wx H) | (refine wpList_alloc_st H rfl 58 rfl _ ber_zero ?_; clear H; intro gr wx H)) | ((with_reducible refine here_box ?_); refine wpList_box_st H rfl _ _ rfl _ rfl ?_; clear H; intro gb wx H))
    exact HF.out _ (H.subm _)
  · go_enter Try.func58, Try.ntmps58
    go_wp2_with (first | ((with_reducible refine here_load ?_); first | refine ldR H rfl _ _ rfl rfl (by kernel_rfl) ?_ | refine ldS H rfl _ _ rfl rfl (by rfl) ?_ | refine ldSG H (by rfl) _ _ rfl rfl (by rfl) ?_ | refine ldRG H (by rfl) _ _ rfl rfl (by kernel_rfl) ?_) | ((with_reducible refine here_store ?_); first | (refine stR H rfl _ _ _ rfl rfl rfl (by rfl) (by rfl) (by kernel_rfl) ?_; clear H; intro wx H) | (refine stS H rfl _ _ _ rfl rfl _ rfl (by rfl) (by rfl) (by rfl) ?_; clear H; intro wx H)) | ((with_reducible refine here_alloc ?_); first | (refine wpList_alloc_st H rfl 37 rfl _ q_zero ?_; clear H; intro gq wx H) | (refine wpList_alloc_st H rfl 48 rfl _ ans_zero ?_; clear H; intro ga wx H) | (refine wpList_alloc_st H rfl 44 rfl _ ev_zero ?_; clear H; intro ge wx H) | (refine wpList_alloc_st H rfl 58 rfl _ ber_zero ?_; clear H; intro gr wx H)) | ((with_reducible refine here_box ?_); refine wpList_box_st H rfl _ _ rfl _ rfl ?_; clear H; intro gb wx H))
    exact HF.out _ (H.subm _)
  · go_enter Try.func58, Try.ntmps58
    go_wp2_with (first | ((with_reducible refine here_load ?_); first | refine ldR H rfl _ _ rfl rfl (by kernel_rfl) ?_ | refine ldS H rfl _ _ rfl rfl (by rfl) ?_ | refine ldSG H (by rfl) _ _ rfl rfl (by rfl) ?_ | refine ldRG H (by rfl) _ _ rfl rfl (by kernel_rfl) ?_) | ((with_reducible refine here_store ?_); first | (refine stR H rfl _ _ _ rfl rfl rfl (by rfl) (by rfl) (by kernel_rfl) ?_; clear H; intro wx H) | (refine stS H rfl _ _ _ rfl rfl _ rfl (by rfl) (by rfl) (by rfl) ?_; clear H; intro wx H)) | ((with_reducible refine here_alloc ?_); first | (refine wpList_alloc_st H rfl 37 rfl _ q_zero ?_; clear H; intro gq wx H) | (refine wpList_alloc_st H rfl 48 rfl _ ans_zero ?_; clear H; intro ga wx H) | (refine wpList_alloc_st H rfl 44 rfl _ ev_zero ?_; clear H; intro ge wx H) | (refine wpList_alloc_st H rfl 58 rfl _ ber_zero ?_; clear H; intro gr wx H)) | ((with_reducible refine here_box ?_); refine wpList_box_st H rfl _ _ rfl _ rfl ?_; clear H; intro gb wx H))
    exact HF.out _ (H.subm _)
  · go_enter Try.func58, Try.ntmps58
    go_wp2_with (first | ((with_reducible refine here_load ?_); first | refine ldR H rfl _ _ rfl rfl (by kernel_rfl) ?_ | refine ldS H rfl _ _ rfl rfl (by rfl) ?_ | refine ldSG H (by rfl) _ _ rfl rfl (by rfl) ?_ | refine ldRG H (by rfl) _ _ rfl rfl (by kernel_rfl) ?_) | ((with_reducible refine here_store ?_); first | (refine stR H rfl _ _ _ rfl rfl rfl (by rfl) (by rfl) (by kernel_rfl) ?_; clear H; intro wx H) | (refine stS H rfl _ _ _ rfl rfl _ rfl (by rfl) (by rfl) (by rfl) ?_; clear H; intro wx H)) | ((with_reducible refine here_alloc ?_); first | (refine wpList_alloc_st H rfl 37 rfl _ q_zero ?_; clear H; intro gq wx H) | (refine wpList_alloc_st H rfl 48 rfl _ ans_zero ?_; clear H; intro ga wx H) | (refine wpList_alloc_st H rfl 44 rfl _ ev_zero ?_; clear H; intro ge wx H) | (refine wpList_alloc_st H rfl 58 rfl _ ber_zero ?_; clear H; intro gr wx H)) | ((with_reducible refine here_box ?_); refine wpList_box_st H rfl _ _ rfl _ rfl ?_; clear H; intro gb wx H))
    exact HF.out _ (H.subm _)
  · go_enter Try.func58, Try.ntmps58
    go_wp2_with (first | ((with_reducible refine here_load ?_); first | refine ldR H rfl _ _ rfl rfl (by kernel_rfl) ?_ | refine ldS H rfl _ _ rfl rfl (by rfl) ?_ | refine ldSG H (by rfl) _ _ rfl rfl (by rfl) ?_ | refine ldRG H (by rfl) _ _ rfl rfl (by kernel_rfl) ?_) | ((with_reducible refine here_store ?_); first | (refine stR H rfl _ _ _ rfl rfl rfl (by rfl) (by rfl) (by kernel_rfl) ?_; clear H; intro wx H) | (refine stS H rfl _ _ _ rfl rfl _ rfl (by rfl) (by rfl) (by rfl) ?_; clear H; intro wx H)) | ((with_reducible refine here_alloc ?_); first | (refine wpList_alloc_st H rfl 37 rfl _ q_zero ?_; clear H; intro gq wx H) | (refine wpList_alloc_st H rfl 48 rfl _ ans_zero ?_; clear H; intro ga wx H) | (refine wpList_alloc_st H rfl 44 rfl _ ev_zero ?_; clear H; intro ge wx H) | (refine wpList_alloc_st H rfl 58 rfl _ ber_zero ?_; clear H; intro gr wx H)) | ((with_reducible refine here_box ?_); refine wpList_box_st H rfl _ _ rfl _ rfl ?_; clear H; intro gb wx H))
    exact HF.out _ (H.subm _)

set_option maxRecDepth 100000 in
set_option maxHeartbeats 8000000 in
theorem make_st {w0 w : World} {I : List It} (b : BM) (A : Option Addr) (n c m : Nat) (ep : Int) (hl : b.es.length = n) (hb : b.Ok m) (hm : m ≤ 150) (hc : n ≤ c) (H : St w0 w I) [h : Has I (evIt A b.es)] :
    Calls Try.prog 38 #[.agg (bArr b A n c), .int .i64 ep] w (BPost w0 I (b.makeR ep)) := by
  have hn : n ≤ 150 := by have := hb.len; omega
  have HI := Lib.hid h
  have HB := Lib.hid hb
  have HL := Lib.hid hl
  have HS := hb.shape
  clear h hb hl
  have hfold : bArr b A n c = #[Value.int .i64 b.role, .int .i64 b.ep, .int .i64 b.frm, .int .i64 b.dst, .int .i64 b.rounds, .slice A n c] := rfl
  rw [hfold]
  obtain ⟨r, be, bf, bd, br, es⟩ := b
  unfold BM.Shape at HS
  dsimp only at HS HB HL HI ⊢
  by_cases h1 : ep < 1
  · skip
    have hR : BM.makeR ⟨r, be, bf, bd, br, es⟩ ep = (⟨0, 0, 0, 0, 0, []⟩, 2) := by
      (unfold BM.makeR; dsimp only; repeat (first | rw [if_pos (by omega)] | rw [if_neg (by omega)]); try rfl)
    rw [hR]
    clear hR
    have HF := Lib.hid (fun W (h2 : St w0 W I) => (BPost.mk (r := (⟨0, 0, 0, 0, 0, []⟩, 2)) (n := 0) (c := 0) (A := none) rfl (Nat.le_refl _) (h2.old (s := 6) (n := 0) (A := none) (xs := []) Reads.none_) : BPost w0 I (⟨0, 0, 0, 0, 0, []⟩, 2) (.returned (.tuple #[.agg #[.int .i64 0, .int .i64 0, .int .i64 0, .int .i64 0, .int .i64 0, .slice none 0 0], .int .i64 2])) W))
    generalize BPost w0 I (⟨0, 0, 0, 0, 0, []⟩, 2) = POST at *
    go_enter Try.func38, Try.ntmps38
    clear hfold
    skip
    go_wp2_with (first | (go_at_call 41; have h := HI.out; refine (check_st ⟨r, be, bf, bd, br, es⟩ A n c m HL.out HB.out hm hc H).mono ?_; clear H h; rintro ed wy ⟨rfl, H⟩) | (go_at_call 44; refine (node_any _ _).mono ?_; rintro ed wy ⟨rfl, rfl⟩) | (first | ((with_reducible refine here_load ?_); first | refine ldR H rfl _ _ rfl rfl (by kernel_rfl) ?_ | refine ldS H rfl _ _ rfl rfl (by rfl) ?_ | refine ldSG H (by rfl) _ _ rfl rfl (by rfl) ?_ | refine ldRG H (by rfl) _ _ rfl rfl (by kernel_rfl) ?_) | ((with_reducible refine here_store ?_); first | (refine stR H rfl _ _ _ rfl rfl rfl (by rfl) (by rfl) (by kernel_rfl) ?_; clear H; intro wx H) | (refine stS H rfl _ _ _ rfl rfl _ rfl (by rfl) (by rfl) (by rfl) ?_; clear H; intro wx H)) | ((with_reducible refine here_alloc ?_); first | (refine wpList_alloc_st H rfl 37 rfl _ q_zero ?_; clear H; intro gq wx H) | (refine wpList_alloc_st H rfl 48 rfl _ ans_zero ?_; clear H; intro ga wx H) | (refine wpList_alloc_st H rfl 44 rfl _ ev_zero ?_; clear H; intro ge wx H) | (refine wpList_alloc_st H rfl 58 rfl _ ber_zero ?_; clear H; intro gr wx H)) | ((with_reducible refine here_box ?_); refine wpList_box_st H rfl _ _ rfl _ rfl ?_; clear H; intro gb wx H)))
    have l4 : (loadVar 58 ⟨gr, 0, none⟩).run Try.prog wx = .ok (.agg #[.int .i64 0, .int .i64 0, .int .i64 0, .int .i64 0, .int .i64 0, .slice none 0 0]) wx := H.loadRow 58 gr row_Berth (P := Try.prog) (by kernel_rfl)
    exact bodyPost_ret (v := .tuple #[.agg #[.int .i64 0, .int .i64 0, .int .i64 0, .int .i64 0, .int .i64 0, .slice none 0 0], .int .i64 2]) (by simp [results, Try.results38, asAddr, l4]) rfl (HF.out _ (H.subm _))
  by_cases h2 : 1048576 < ep
  · skip
    have hR : BM.makeR ⟨r, be, bf, bd, br, es⟩ ep = (⟨0, 0, 0, 0, 0, []⟩, 2) := by
      (unfold BM.makeR; dsimp only; repeat (first | rw [if_pos (by omega)] | rw [if_neg (by omega)]); try rfl)
    rw [hR]
    clear hR
    have HF := Lib.hid (fun W (h2 : St w0 W I) => (BPost.mk (r := (⟨0, 0, 0, 0, 0, []⟩, 2)) (n := 0) (c := 0) (A := none) rfl (Nat.le_refl _) (h2.old (s := 6) (n := 0) (A := none) (xs := []) Reads.none_) : BPost w0 I (⟨0, 0, 0, 0, 0, []⟩, 2) (.returned (.tuple #[.agg #[.int .i64 0, .int .i64 0, .int .i64 0, .int .i64 0, .int .i64 0, .slice none 0 0], .int .i64 2])) W))
    generalize BPost w0 I (⟨0, 0, 0, 0, 0, []⟩, 2) = POST at *
    go_enter Try.func38, Try.ntmps38
    clear hfold
    skip
    go_wp2_with (first | (go_at_call 41; have h := HI.out; refine (check_st ⟨r, be, bf, bd, br, es⟩ A n c m HL.out HB.out hm hc H).mono ?_; clear H h; rintro ed wy ⟨rfl, H⟩) | (go_at_call 44; refine (node_any _ _).mono ?_; rintro ed wy ⟨rfl, rfl⟩) | (first | ((with_reducible refine here_load ?_); first | refine ldR H rfl _ _ rfl rfl (by kernel_rfl) ?_ | refine ldS H rfl _ _ rfl rfl (by rfl) ?_ | refine ldSG H (by rfl) _ _ rfl rfl (by rfl) ?_ | refine ldRG H (by rfl) _ _ rfl rfl (by kernel_rfl) ?_) | ((with_reducible refine here_store ?_); first | (refine stR H rfl _ _ _ rfl rfl rfl (by rfl) (by rfl) (by kernel_rfl) ?_; clear H; intro wx H) | (refine stS H rfl _ _ _ rfl rfl _ rfl (by rfl) (by rfl) (by rfl) ?_; clear H; intro wx H)) | ((with_reducible refine here_alloc ?_); first | (refine wpList_alloc_st H rfl 37 rfl _ q_zero ?_; clear H; intro gq wx H) | (refine wpList_alloc_st H rfl 48 rfl _ ans_zero ?_; clear H; intro ga wx H) | (refine wpList_alloc_st H rfl 44 rfl _ ev_zero ?_; clear H; intro ge wx H) | (refine wpList_alloc_st H rfl 58 rfl _ ber_zero ?_; clear H; intro gr wx H)) | ((with_reducible refine here_box ?_); refine wpList_box_st H rfl _ _ rfl _ rfl ?_; clear H; intro gb wx H)))
    have l4 : (loadVar 58 ⟨gr, 0, none⟩).run Try.prog wx = .ok (.agg #[.int .i64 0, .int .i64 0, .int .i64 0, .int .i64 0, .int .i64 0, .slice none 0 0]) wx := H.loadRow 58 gr row_Berth (P := Try.prog) (by kernel_rfl)
    exact bodyPost_ret (v := .tuple #[.agg #[.int .i64 0, .int .i64 0, .int .i64 0, .int .i64 0, .int .i64 0, .slice none 0 0], .int .i64 2]) (by simp [results, Try.results38, asAddr, l4]) rfl (HF.out _ (H.subm _))
  have HR : r = 0 ∨ r = 1 ∨ r = 2 ∨ r = 3 ∨ r = 4 := by omega
  rcases HR with rfl | rfl | rfl | rfl | rfl
  · skip
    by_cases h4 : ep ≤ be
    · skip
      have hR : BM.makeR ⟨0, be, bf, bd, br, es⟩ ep = (⟨0, 0, 0, 0, 0, []⟩, 15) := by
        (unfold BM.makeR; dsimp only; repeat (first | rw [if_pos (by omega)] | rw [if_neg (by omega)]); try rfl)
      rw [hR]
      clear hR
      have HF := Lib.hid (fun W (h2 : St w0 W I) => (BPost.mk (r := (⟨0, 0, 0, 0, 0, []⟩, 15)) (n := 0) (c := 0) (A := none) rfl (Nat.le_refl _) (h2.old (s := 6) (n := 0) (A := none) (xs := []) Reads.none_) : BPost w0 I (⟨0, 0, 0, 0, 0, []⟩, 15) (.returned (.tuple #[.agg #[.int .i64 0, .int .i64 0, .int .i64 0, .int .i64 0, .int .i64 0, .slice none 0 0], .int .i64 15])) W))
      generalize BPost w0 I (⟨0, 0, 0, 0, 0, []⟩, 15) = POST at *
      go_enter Try.func38, Try.ntmps38
      clear hfold
      skip
      go_wp2_with (first | (go_at_call 41; have h := HI.out; refine (check_st ⟨0, be, bf, bd, br, es⟩ A n c m HL.out HB.out hm hc H).mono ?_; clear H h; rintro ed wy ⟨rfl, H⟩) | (go_at_call 44; refine (node_any _ _).mono ?_; rintro ed wy ⟨rfl, rfl⟩) | (first | ((with_reducible refine here_load ?_); first | refine ldR H rfl _ _ rfl rfl (by kernel_rfl) ?_ | refine ldS H rfl _ _ rfl rfl (by rfl) ?_ | refine ldSG H (by rfl) _ _ rfl rfl (by rfl) ?_ | refine ldRG H (by rfl) _ _ rfl rfl (by kernel_rfl) ?_) | ((with_reducible refine here_store ?_); first | (refine stR H rfl _ _ _ rfl rfl rfl (by rfl) (by rfl) (by kernel_rfl) ?_; clear H; intro wx H) | (refine stS H rfl _ _ _ rfl rfl _ rfl (by rfl) (by rfl) (by rfl) ?_; clear H; intro wx H)) | ((with_reducible refine here_alloc ?_); first | (refine wpList_alloc_st H rfl 37 rfl _ q_zero ?_; clear H; intro gq wx H) | (refine wpList_alloc_st H rfl 48 rfl _ ans_zero ?_; clear H; intro ga wx H) | (refine wpList_alloc_st H rfl 44 rfl _ ev_zero ?_; clear H; intro ge wx H) | (refine wpList_alloc_st H rfl 58 rfl _ ber_zero ?_; clear H; intro gr wx H)) | ((with_reducible refine here_box ?_); refine wpList_box_st H rfl _ _ rfl _ rfl ?_; clear H; intro gb wx H)))
      have l4 : (loadVar 58 ⟨gr, 0, none⟩).run Try.prog wx = .ok (.agg #[.int .i64 0, .int .i64 0, .int .i64 0, .int .i64 0, .int .i64 0, .slice none 0 0]) wx := H.loadRow 58 gr row_Berth (P := Try.prog) (by kernel_rfl)
      exact bodyPost_ret (v := .tuple #[.agg #[.int .i64 0, .int .i64 0, .int .i64 0, .int .i64 0, .int .i64 0, .slice none 0 0], .int .i64 15]) (by simp [results, Try.results38, asAddr, l4]) rfl (HF.out _ (H.subm _))
    · skip
      have hR : BM.makeR ⟨0, be, bf, bd, br, es⟩ ep = (⟨1, ep, 0, 0, 0, []⟩, 0) := by
        (unfold BM.makeR; dsimp only; repeat (first | rw [if_pos (by omega)] | rw [if_neg (by omega)]); try rfl)
      rw [hR]
      clear hR
      have HF := Lib.hid (fun W (h2 : St w0 W I) => (BPost.mk (r := (⟨1, ep, 0, 0, 0, []⟩, 0)) (n := 0) (c := 0) (A := none) rfl (Nat.le_refl _) (h2.old (s := 6) (n := 0) (A := none) (xs := []) Reads.none_) : BPost w0 I (⟨1, ep, 0, 0, 0, []⟩, 0) (.returned (.tuple #[.agg #[.int .i64 1, .int .i64 ep, .int .i64 0, .int .i64 0, .int .i64 0, .slice none 0 0], .int .i64 0])) W))
      generalize BPost w0 I (⟨1, ep, 0, 0, 0, []⟩, 0) = POST at *
      go_enter Try.func38, Try.ntmps38
      clear hfold
      skip
      go_wp2_with (first | (go_at_call 41; have h := HI.out; refine (check_st ⟨0, be, bf, bd, br, es⟩ A n c m HL.out HB.out hm hc H).mono ?_; clear H h; rintro ed wy ⟨rfl, H⟩) | (go_at_call 44; refine (node_any _ _).mono ?_; rintro ed wy ⟨rfl, rfl⟩) | (first | ((with_reducible refine here_load ?_); first | refine ldR H rfl _ _ rfl rfl (by kernel_rfl) ?_ | refine ldS H rfl _ _ rfl rfl (by rfl) ?_ | refine ldSG H (by rfl) _ _ rfl rfl (by rfl) ?_ | refine ldRG H (by rfl) _ _ rfl rfl (by kernel_rfl) ?_) | ((with_reducible refine here_store ?_); first | (refine stR H rfl _ _ _ rfl rfl rfl (by rfl) (by rfl) (by kernel_rfl) ?_; clear H; intro wx H) | (refine stS H rfl _ _ _ rfl rfl _ rfl (by rfl) (by rfl) (by rfl) ?_; clear H; intro wx H)) | ((with_reducible refine here_alloc ?_); first | (refine wpList_alloc_st H rfl 37 rfl _ q_zero ?_; clear H; intro gq wx H) | (refine wpList_alloc_st H rfl 48 rfl _ ans_zero ?_; clear H; intro ga wx H) | (refine wpList_alloc_st H rfl 44 rfl _ ev_zero ?_; clear H; intro ge wx H) | (refine wpList_alloc_st H rfl 58 rfl _ ber_zero ?_; clear H; intro gr wx H)) | ((with_reducible refine here_box ?_); refine wpList_box_st H rfl _ _ rfl _ rfl ?_; clear H; intro gb wx H)))
      have l4 : (loadVar 58 ⟨gr, 0, none⟩).run Try.prog wx = .ok (.agg #[.int .i64 1, .int .i64 ep, .int .i64 0, .int .i64 0, .int .i64 0, .slice none 0 0]) wx := H.loadRow 58 gr row_Berth (P := Try.prog) (by kernel_rfl)
      exact bodyPost_ret (v := .tuple #[.agg #[.int .i64 1, .int .i64 ep, .int .i64 0, .int .i64 0, .int .i64 0, .slice none 0 0], .int .i64 0]) (by simp [results, Try.results38, asAddr, l4]) rfl (HF.out _ (H.subm _))
  · skip
    have hR : BM.makeR ⟨1, be, bf, bd, br, es⟩ ep = (⟨0, 0, 0, 0, 0, []⟩, 8) := by
      (unfold BM.makeR; dsimp only; repeat (first | rw [if_pos (by omega)] | rw [if_neg (by omega)]); try rfl)
    rw [hR]
    clear hR
    have HF := Lib.hid (fun W (h2 : St w0 W I) => (BPost.mk (r := (⟨0, 0, 0, 0, 0, []⟩, 8)) (n := 0) (c := 0) (A := none) rfl (Nat.le_refl _) (h2.old (s := 6) (n := 0) (A := none) (xs := []) Reads.none_) : BPost w0 I (⟨0, 0, 0, 0, 0, []⟩, 8) (.returned (.tuple #[.agg #[.int .i64 0, .int .i64 0, .int .i64 0, .int .i64 0, .int .i64 0, .slice none 0 0], .int .i64 8])) W))
    generalize BPost w0 I (⟨0, 0, 0, 0, 0, []⟩, 8) = POST at *
    go_enter Try.func38, Try.ntmps38
    clear hfold
    skip
    go_wp2_with (first | (go_at_call 41; have h := HI.out; refine (check_st ⟨1, be, bf, bd, br, es⟩ A n c m HL.out HB.out hm hc H).mono ?_; clear H h; rintro ed wy ⟨rfl, H⟩) | (go_at_call 44; refine (node_any _ _).mono ?_; rintro ed wy ⟨rfl, rfl⟩) | (first | ((with_reducible refine here_load ?_); first | refine ldR H rfl _ _ rfl rfl (by kernel_rfl) ?_ | refine ldS H rfl _ _ rfl rfl (by rfl) ?_ | refine ldSG H (by rfl) _ _ rfl rfl (by rfl) ?_ | refine ldRG H (by rfl) _ _ rfl rfl (by kernel_rfl) ?_) | ((with_reducible refine here_store ?_); first | (refine stR H rfl _ _ _ rfl rfl rfl (by rfl) (by rfl) (by kernel_rfl) ?_; clear H; intro wx H) | (refine stS H rfl _ _ _ rfl rfl _ rfl (by rfl) (by rfl) (by rfl) ?_; clear H; intro wx H)) | ((with_reducible refine here_alloc ?_); first | (refine wpList_alloc_st H rfl 37 rfl _ q_zero ?_; clear H; intro gq wx H) | (refine wpList_alloc_st H rfl 48 rfl _ ans_zero ?_; clear H; intro ga wx H) | (refine wpList_alloc_st H rfl 44 rfl _ ev_zero ?_; clear H; intro ge wx H) | (refine wpList_alloc_st H rfl 58 rfl _ ber_zero ?_; clear H; intro gr wx H)) | ((with_reducible refine here_box ?_); refine wpList_box_st H rfl _ _ rfl _ rfl ?_; clear H; intro gb wx H)))
    have l4 : (loadVar 58 ⟨gr, 0, none⟩).run Try.prog wx = .ok (.agg #[.int .i64 0, .int .i64 0, .int .i64 0, .int .i64 0, .int .i64 0, .slice none 0 0]) wx := H.loadRow 58 gr row_Berth (P := Try.prog) (by kernel_rfl)
    exact bodyPost_ret (v := .tuple #[.agg #[.int .i64 0, .int .i64 0, .int .i64 0, .int .i64 0, .int .i64 0, .slice none 0 0], .int .i64 8]) (by simp [results, Try.results38, asAddr, l4]) rfl (HF.out _ (H.subm _))
  · skip
    have hR : BM.makeR ⟨2, be, bf, bd, br, es⟩ ep = (⟨0, 0, 0, 0, 0, []⟩, 8) := by
      (unfold BM.makeR; dsimp only; repeat (first | rw [if_pos (by omega)] | rw [if_neg (by omega)]); try rfl)
    rw [hR]
    clear hR
    have HF := Lib.hid (fun W (h2 : St w0 W I) => (BPost.mk (r := (⟨0, 0, 0, 0, 0, []⟩, 8)) (n := 0) (c := 0) (A := none) rfl (Nat.le_refl _) (h2.old (s := 6) (n := 0) (A := none) (xs := []) Reads.none_) : BPost w0 I (⟨0, 0, 0, 0, 0, []⟩, 8) (.returned (.tuple #[.agg #[.int .i64 0, .int .i64 0, .int .i64 0, .int .i64 0, .int .i64 0, .slice none 0 0], .int .i64 8])) W))
    generalize BPost w0 I (⟨0, 0, 0, 0, 0, []⟩, 8) = POST at *
    go_enter Try.func38, Try.ntmps38
    clear hfold
    skip
    go_wp2_with (first | (go_at_call 41; have h := HI.out; refine (check_st ⟨2, be, bf, bd, br, es⟩ A n c m HL.out HB.out hm hc H).mono ?_; clear H h; rintro ed wy ⟨rfl, H⟩) | (go_at_call 44; refine (node_any _ _).mono ?_; rintro ed wy ⟨rfl, rfl⟩) | (first | ((with_reducible refine here_load ?_); first | refine ldR H rfl _ _ rfl rfl (by kernel_rfl) ?_ | refine ldS H rfl _ _ rfl rfl (by rfl) ?_ | refine ldSG H (by rfl) _ _ rfl rfl (by rfl) ?_ | refine ldRG H (by rfl) _ _ rfl rfl (by kernel_rfl) ?_) | ((with_reducible refine here_store ?_); first | (refine stR H rfl _ _ _ rfl rfl rfl (by rfl) (by rfl) (by kernel_rfl) ?_; clear H; intro wx H) | (refine stS H rfl _ _ _ rfl rfl _ rfl (by rfl) (by rfl) (by rfl) ?_; clear H; intro wx H)) | ((with_reducible refine here_alloc ?_); first | (refine wpList_alloc_st H rfl 37 rfl _ q_zero ?_; clear H; intro gq wx H) | (refine wpList_alloc_st H rfl 48 rfl _ ans_zero ?_; clear H; intro ga wx H) | (refine wpList_alloc_st H rfl 44 rfl _ ev_zero ?_; clear H; intro ge wx H) | (refine wpList_alloc_st H rfl 58 rfl _ ber_zero ?_; clear H; intro gr wx H)) | ((with_reducible refine here_box ?_); refine wpList_box_st H rfl _ _ rfl _ rfl ?_; clear H; intro gb wx H)))
    have l4 : (loadVar 58 ⟨gr, 0, none⟩).run Try.prog wx = .ok (.agg #[.int .i64 0, .int .i64 0, .int .i64 0, .int .i64 0, .int .i64 0, .slice none 0 0]) wx := H.loadRow 58 gr row_Berth (P := Try.prog) (by kernel_rfl)
    exact bodyPost_ret (v := .tuple #[.agg #[.int .i64 0, .int .i64 0, .int .i64 0, .int .i64 0, .int .i64 0, .slice none 0 0], .int .i64 8]) (by simp [results, Try.results38, asAddr, l4]) rfl (HF.out _ (H.subm _))
  · skip
    have hR : BM.makeR ⟨3, be, bf, bd, br, es⟩ ep = (⟨0, 0, 0, 0, 0, []⟩, 8) := by
      (unfold BM.makeR; dsimp only; repeat (first | rw [if_pos (by omega)] | rw [if_neg (by omega)]); try rfl)
    rw [hR]
    clear hR
    have HF := Lib.hid (fun W (h2 : St w0 W I) => (BPost.mk (r := (⟨0, 0, 0, 0, 0, []⟩, 8)) (n := 0) (c := 0) (A := none) rfl (Nat.le_refl _) (h2.old (s := 6) (n := 0) (A := none) (xs := []) Reads.none_) : BPost w0 I (⟨0, 0, 0, 0, 0, []⟩, 8) (.returned (.tuple #[.agg #[.int .i64 0, .int .i64 0, .int .i64 0, .int .i64 0, .int .i64 0, .slice none 0 0], .int .i64 8])) W))
    generalize BPost w0 I (⟨0, 0, 0, 0, 0, []⟩, 8) = POST at *
    go_enter Try.func38, Try.ntmps38
    clear hfold
    skip
    go_wp2_with (first | (go_at_call 41; have h := HI.out; refine (check_st ⟨3, be, bf, bd, br, es⟩ A n c m HL.out HB.out hm hc H).mono ?_; clear H h; rintro ed wy ⟨rfl, H⟩) | (go_at_call 44; refine (node_any _ _).mono ?_; rintro ed wy ⟨rfl, rfl⟩) | (first | ((with_reducible refine here_load ?_); first | refine ldR H rfl _ _ rfl rfl (by kernel_rfl) ?_ | refine ldS H rfl _ _ rfl rfl (by rfl) ?_ | refine ldSG H (by rfl) _ _ rfl rfl (by rfl) ?_ | refine ldRG H (by rfl) _ _ rfl rfl (by kernel_rfl) ?_) | ((with_reducible refine here_store ?_); first | (refine stR H rfl _ _ _ rfl rfl rfl (by rfl) (by rfl) (by kernel_rfl) ?_; clear H; intro wx H) | (refine stS H rfl _ _ _ rfl rfl _ rfl (by rfl) (by rfl) (by rfl) ?_; clear H; intro wx H)) | ((with_reducible refine here_alloc ?_); first | (refine wpList_alloc_st H rfl 37 rfl _ q_zero ?_; clear H; intro gq wx H) | (refine wpList_alloc_st H rfl 48 rfl _ ans_zero ?_; clear H; intro ga wx H) | (refine wpList_alloc_st H rfl 44 rfl _ ev_zero ?_; clear H; intro ge wx H) | (refine wpList_alloc_st H rfl 58 rfl _ ber_zero ?_; clear H; intro gr wx H)) | ((with_reducible refine here_box ?_); refine wpList_box_st H rfl _ _ rfl _ rfl ?_; clear H; intro gb wx H)))
    have l4 : (loadVar 58 ⟨gr, 0, none⟩).run Try.prog wx = .ok (.agg #[.int .i64 0, .int .i64 0, .int .i64 0, .int .i64 0, .int .i64 0, .slice none 0 0]) wx := H.loadRow 58 gr row_Berth (P := Try.prog) (by kernel_rfl)
    exact bodyPost_ret (v := .tuple #[.agg #[.int .i64 0, .int .i64 0, .int .i64 0, .int .i64 0, .int .i64 0, .slice none 0 0], .int .i64 8]) (by simp [results, Try.results38, asAddr, l4]) rfl (HF.out _ (H.subm _))
  · skip
    have hR : BM.makeR ⟨4, be, bf, bd, br, es⟩ ep = (⟨0, 0, 0, 0, 0, []⟩, 8) := by
      (unfold BM.makeR; dsimp only; repeat (first | rw [if_pos (by omega)] | rw [if_neg (by omega)]); try rfl)
    rw [hR]
    clear hR
    have HF := Lib.hid (fun W (h2 : St w0 W I) => (BPost.mk (r := (⟨0, 0, 0, 0, 0, []⟩, 8)) (n := 0) (c := 0) (A := none) rfl (Nat.le_refl _) (h2.old (s := 6) (n := 0) (A := none) (xs := []) Reads.none_) : BPost w0 I (⟨0, 0, 0, 0, 0, []⟩, 8) (.returned (.tuple #[.agg #[.int .i64 0, .int .i64 0, .int .i64 0, .int .i64 0, .int .i64 0, .slice none 0 0], .int .i64 8])) W))
    generalize BPost w0 I (⟨0, 0, 0, 0, 0, []⟩, 8) = POST at *
    go_enter Try.func38, Try.ntmps38
    clear hfold
    skip
    go_wp2_with (first | (go_at_call 41; have h := HI.out; refine (check_st ⟨4, be, bf, bd, br, es⟩ A n c m HL.out HB.out hm hc H).mono ?_; clear H h; rintro ed wy ⟨rfl, H⟩) | (go_at_call 44; refine (node_any _ _).mono ?_; rintro ed wy ⟨rfl, rfl⟩) | (first | ((with_reducible refine here_load ?_); first | refine ldR H rfl _ _ rfl rfl (by kernel_rfl) ?_ | refine ldS H rfl _ _ rfl rfl (by rfl) ?_ | refine ldSG H (by rfl) _ _ rfl rfl (by rfl) ?_ | refine ldRG H (by rfl) _ _ rfl rfl (by kernel_rfl) ?_) | ((with_reducible refine here_store ?_); first | (refine stR H rfl _ _ _ rfl rfl rfl (by rfl) (by rfl) (by kernel_rfl) ?_; clear H; intro wx H) | (refine stS H rfl _ _ _ rfl rfl _ rfl (by rfl) (by rfl) (by rfl) ?_; clear H; intro wx H)) | ((with_reducible refine here_alloc ?_); first | (refine wpList_alloc_st H rfl 37 rfl _ q_zero ?_; clear H; intro gq wx H) | (refine wpList_alloc_st H rfl 48 rfl _ ans_zero ?_; clear H; intro ga wx H) | (refine wpList_alloc_st H rfl 44 rfl _ ev_zero ?_; clear H; intro ge wx H) | (refine wpList_alloc_st H rfl 58 rfl _ ber_zero ?_; clear H; intro gr wx H)) | ((with_reducible refine here_box ?_); refine wpList_box_st H rfl _ _ rfl _ rfl ?_; clear H; intro gb wx H)))
    have l4 : (loadVar 58 ⟨gr, 0, none⟩).run Try.prog wx = .ok (.agg #[.int .i64 0, .int .i64 0, .int .i64 0, .int .i64 0, .int .i64 0, .slice none 0 0]) wx := H.loadRow 58 gr row_Berth (P := Try.prog) (by kernel_rfl)
    exact bodyPost_ret (v := .tuple #[.agg #[.int .i64 0, .int .i64 0, .int .i64 0, .int .i64 0, .int .i64 0, .slice none 0 0], .int .i64 8]) (by simp [results, Try.results38, asAddr, l4]) rfl (HF.out _ (H.subm _))
set_option maxRecDepth 100000 in
set_option maxHeartbeats 8000000 in
theorem go_st {w0 w : World} {I : List It} (b : BM) (A : Option Addr) (n c m : Nat) (dst : Int) (hl : b.es.length = n) (hb : b.Ok m) (hm : m ≤ 150) (hc : n ≤ c) (H : St w0 w I) [h : Has I (evIt A b.es)] :
    Calls Try.prog 21 #[.agg (bArr b A n c), .int .i64 dst] w (BPost w0 I (b.goR dst)) := by
  have hn : n ≤ 150 := by have := hb.len; omega
  have HI := Lib.hid h
  have HB := Lib.hid hb
  have HL := Lib.hid hl
  have HS := hb.shape
  clear h hb hl
  have hfold : bArr b A n c = #[Value.int .i64 b.role, .int .i64 b.ep, .int .i64 b.frm, .int .i64 b.dst, .int .i64 b.rounds, .slice A n c] := rfl
  rw [hfold]
  obtain ⟨r, be, bf, bd, br, es⟩ := b
  unfold BM.Shape at HS
  dsimp only at HS HB HL HI ⊢
  by_cases h1 : 0 ≤ dst ∧ dst < 5
  · have h2 := decide_eq_true h1
    have HR : r = 0 ∨ r = 1 ∨ r = 2 ∨ r = 3 ∨ r = 4 := by omega
    rcases HR with rfl | rfl | rfl | rfl | rfl
    · skip
      have hR : BM.goR ⟨0, be, bf, bd, br, es⟩ dst = (⟨0, 0, 0, 0, 0, []⟩, 7) := by
        (unfold BM.goR; dsimp only; repeat (first | rw [if_pos (by omega)] | rw [if_neg (by omega)]); try rfl)
      rw [hR]
      clear hR
      have HF := Lib.hid (fun W (h2 : St w0 W I) => (BPost.mk (r := (⟨0, 0, 0, 0, 0, []⟩, 7)) (n := 0) (c := 0) (A := none) rfl (Nat.le_refl _) (h2.old (s := 6) (n := 0) (A := none) (xs := []) Reads.none_) : BPost w0 I (⟨0, 0, 0, 0, 0, []⟩, 7) (.returned (.tuple #[.agg #[.int .i64 0, .int .i64 0, .int .i64 0, .int .i64 0, .int .i64 0, .slice none 0 0], .int .i64 7])) W))
      generalize BPost w0 I (⟨0, 0, 0, 0, 0, []⟩, 7) = POST at *
      go_enter Try.func21, Try.ntmps21
      clear hfold
      skip
      go_wp2_with (first | (go_at_call 41; have h := HI.out; refine (check_st ⟨0, be, bf, bd, br, es⟩ A n c m HL.out HB.out hm hc H).mono ?_; clear H h; rintro ed wy ⟨rfl, H⟩) | (go_at_call 44; refine (node_any _ _).mono ?_; rintro ed wy ⟨rfl, rfl⟩) | (first | ((with_reducible refine here_load ?_); first | refine ldR H rfl _ _ rfl rfl (by kernel_rfl) ?_ | refine ldS H rfl _ _ rfl rfl (by rfl) ?_ | refine ldSG H (by rfl) _ _ rfl rfl (by rfl) ?_ | refine ldRG H (by rfl) _ _ rfl rfl (by kernel_rfl) ?_) | ((with_reducible refine here_store ?_); first | (refine stR H rfl _ _ _ rfl rfl rfl (by rfl) (by rfl) (by kernel_rfl) ?_; clear H; intro wx H) | (refine stS H rfl _ _ _ rfl rfl _ rfl (by rfl) (by rfl) (by rfl) ?_; clear H; intro wx H)) | ((with_reducible refine here_alloc ?_); first | (refine wpList_alloc_st H rfl 37 rfl _ q_zero ?_; clear H; intro gq wx H) | (refine wpList_alloc_st H rfl 48 rfl _ ans_zero ?_; clear H; intro ga wx H) | (refine wpList_alloc_st H rfl 44 rfl _ ev_zero ?_; clear H; intro ge wx H) | (refine wpList_alloc_st H rfl 58 rfl _ ber_zero ?_; clear H; intro gr wx H)) | ((with_reducible refine here_box ?_); refine wpList_box_st H rfl _ _ rfl _ rfl ?_; clear H; intro gb wx H)))
      have l4 : (loadVar 58 ⟨gr, 0, none⟩).run Try.prog wx = .ok (.agg #[.int .i64 0, .int .i64 0, .int .i64 0, .int .i64 0, .int .i64 0, .slice none 0 0]) wx := H.loadRow 58 gr row_Berth (P := Try.prog) (by kernel_rfl)
      exact bodyPost_ret (v := .tuple #[.agg #[.int .i64 0, .int .i64 0, .int .i64 0, .int .i64 0, .int .i64 0, .slice none 0 0], .int .i64 7]) (by simp [results, Try.results21, asAddr, l4]) rfl (HF.out _ (H.subm _))
    · skip
      by_cases h3 : be = 1048576
      · subst h3
        have hR : BM.goR ⟨1, 1048576, bf, bd, br, es⟩ dst = (⟨0, 0, 0, 0, 0, []⟩, 14) := by
          (unfold BM.goR; dsimp only; repeat (first | rw [if_pos (by omega)] | rw [if_neg (by omega)]); try rfl)
        rw [hR]
        clear hR
        have HF := Lib.hid (fun W (h2 : St w0 W I) => (BPost.mk (r := (⟨0, 0, 0, 0, 0, []⟩, 14)) (n := 0) (c := 0) (A := none) rfl (Nat.le_refl _) (h2.old (s := 6) (n := 0) (A := none) (xs := []) Reads.none_) : BPost w0 I (⟨0, 0, 0, 0, 0, []⟩, 14) (.returned (.tuple #[.agg #[.int .i64 0, .int .i64 0, .int .i64 0, .int .i64 0, .int .i64 0, .slice none 0 0], .int .i64 14])) W))
        generalize BPost w0 I (⟨0, 0, 0, 0, 0, []⟩, 14) = POST at *
        go_enter Try.func21, Try.ntmps21
        clear hfold
        skip
        go_wp2_with (first | (go_at_call 41; have h := HI.out; refine (check_st ⟨1, 1048576, bf, bd, br, es⟩ A n c m HL.out HB.out hm hc H).mono ?_; clear H h; rintro ed wy ⟨rfl, H⟩) | (go_at_call 44; refine (node_any _ _).mono ?_; rintro ed wy ⟨rfl, rfl⟩) | (first | ((with_reducible refine here_load ?_); first | refine ldR H rfl _ _ rfl rfl (by kernel_rfl) ?_ | refine ldS H rfl _ _ rfl rfl (by rfl) ?_ | refine ldSG H (by rfl) _ _ rfl rfl (by rfl) ?_ | refine ldRG H (by rfl) _ _ rfl rfl (by kernel_rfl) ?_) | ((with_reducible refine here_store ?_); first | (refine stR H rfl _ _ _ rfl rfl rfl (by rfl) (by rfl) (by kernel_rfl) ?_; clear H; intro wx H) | (refine stS H rfl _ _ _ rfl rfl _ rfl (by rfl) (by rfl) (by rfl) ?_; clear H; intro wx H)) | ((with_reducible refine here_alloc ?_); first | (refine wpList_alloc_st H rfl 37 rfl _ q_zero ?_; clear H; intro gq wx H) | (refine wpList_alloc_st H rfl 48 rfl _ ans_zero ?_; clear H; intro ga wx H) | (refine wpList_alloc_st H rfl 44 rfl _ ev_zero ?_; clear H; intro ge wx H) | (refine wpList_alloc_st H rfl 58 rfl _ ber_zero ?_; clear H; intro gr wx H)) | ((with_reducible refine here_box ?_); refine wpList_box_st H rfl _ _ rfl _ rfl ?_; clear H; intro gb wx H)))
        have l4 : (loadVar 58 ⟨gr, 0, none⟩).run Try.prog wx = .ok (.agg #[.int .i64 0, .int .i64 0, .int .i64 0, .int .i64 0, .int .i64 0, .slice none 0 0]) wx := H.loadRow 58 gr row_Berth (P := Try.prog) (by kernel_rfl)
        exact bodyPost_ret (v := .tuple #[.agg #[.int .i64 0, .int .i64 0, .int .i64 0, .int .i64 0, .int .i64 0, .slice none 0 0], .int .i64 14]) (by simp [results, Try.results21, asAddr, l4]) rfl (HF.out _ (H.subm _))
      · skip
        have g1a : ((be : Int) == 1048576) = false := by simp; omega
        have g1b : decide ((be : Int) = 1048576) = false := by simp; omega
        have hR : BM.goR ⟨1, be, bf, bd, br, es⟩ dst = (⟨2, be, bf, dst, br, es⟩, 0) := by
          (unfold BM.goR; dsimp only; repeat (first | rw [if_pos (by omega)] | rw [if_neg (by omega)]); try rfl)
        rw [hR]
        clear hR
        have HF := Lib.hid (fun W A' c' (h1 : n ≤ c') (h2 : St w0 W (evIt A' es :: I)) => (BPost.mk (r := (⟨2, be, bf, dst, br, es⟩, 0)) HL.out h1 h2 : BPost w0 I (⟨2, be, bf, dst, br, es⟩, 0) (.returned (.tuple #[.agg #[.int .i64 2, .int .i64 be, .int .i64 bf, .int .i64 dst, .int .i64 br, .slice A' n c'], .int .i64 0])) W))
        generalize BPost w0 I (⟨2, be, bf, dst, br, es⟩, 0) = POST at *
        go_enter Try.func21, Try.ntmps21
        clear hfold
        skip
        go_wp2_with (first | (go_at_call 41; have h := HI.out; refine (check_st ⟨1, be, bf, bd, br, es⟩ A n c m HL.out HB.out hm hc H).mono ?_; clear H h; rintro ed wy ⟨rfl, H⟩) | (go_at_call 44; refine (node_any _ _).mono ?_; rintro ed wy ⟨rfl, rfl⟩) | (go_at_call 45; have h := HI.out; refine (with_nil ⟨2, be, bf, dst, br, es⟩ A n c HL.out (by omega) hc H).mono ?_; clear H h; rintro ed wy ⟨A9, c9, rfl, hc9, H⟩) | (first | ((with_reducible refine here_load ?_); first | refine ldR H rfl _ _ rfl rfl (by kernel_rfl) ?_ | refine ldS H rfl _ _ rfl rfl (by rfl) ?_ | refine ldSG H (by rfl) _ _ rfl rfl (by rfl) ?_ | refine ldRG H (by rfl) _ _ rfl rfl (by kernel_rfl) ?_) | ((with_reducible refine here_store ?_); first | (refine stR H rfl _ _ _ rfl rfl rfl (by rfl) (by rfl) (by kernel_rfl) ?_; clear H; intro wx H) | (refine stS H rfl _ _ _ rfl rfl _ rfl (by rfl) (by rfl) (by rfl) ?_; clear H; intro wx H)) | ((with_reducible refine here_alloc ?_); first | (refine wpList_alloc_st H rfl 37 rfl _ q_zero ?_; clear H; intro gq wx H) | (refine wpList_alloc_st H rfl 48 rfl _ ans_zero ?_; clear H; intro ga wx H) | (refine wpList_alloc_st H rfl 44 rfl _ ev_zero ?_; clear H; intro ge wx H) | (refine wpList_alloc_st H rfl 58 rfl _ ber_zero ?_; clear H; intro gr wx H)) | ((with_reducible refine here_box ?_); refine wpList_box_st H rfl _ _ rfl _ rfl ?_; clear H; intro gb wx H)))
        have l4 : (loadVar 58 ⟨gr, 0, none⟩).run Try.prog wx = .ok (.agg #[.int .i64 2, .int .i64 be, .int .i64 bf, .int .i64 dst, .int .i64 br, .slice A9 n c9]) wx := H.loadRow 58 gr row_Berth (P := Try.prog) (by kernel_rfl)
        exact bodyPost_ret (v := .tuple #[.agg #[.int .i64 2, .int .i64 be, .int .i64 bf, .int .i64 dst, .int .i64 br, .slice A9 n c9], .int .i64 0]) (by simp [results, Try.results21, asAddr, l4]) rfl (HF.out _ _ _ hc9 (H.subm _))
    · skip
      have hR : BM.goR ⟨2, be, bf, bd, br, es⟩ dst = (⟨0, 0, 0, 0, 0, []⟩, 12) := by
        (unfold BM.goR; dsimp only; repeat (first | rw [if_pos (by omega)] | rw [if_neg (by omega)]); try rfl)
      rw [hR]
      clear hR
      have HF := Lib.hid (fun W (h2 : St w0 W I) => (BPost.mk (r := (⟨0, 0, 0, 0, 0, []⟩, 12)) (n := 0) (c := 0) (A := none) rfl (Nat.le_refl _) (h2.old (s := 6) (n := 0) (A := none) (xs := []) Reads.none_) : BPost w0 I (⟨0, 0, 0, 0, 0, []⟩, 12) (.returned (.tuple #[.agg #[.int .i64 0, .int .i64 0, .int .i64 0, .int .i64 0, .int .i64 0, .slice none 0 0], .int .i64 12])) W))
      generalize BPost w0 I (⟨0, 0, 0, 0, 0, []⟩, 12) = POST at *
      go_enter Try.func21, Try.ntmps21
      clear hfold
      skip
      go_wp2_with (first | (go_at_call 41; have h := HI.out; refine (check_st ⟨2, be, bf, bd, br, es⟩ A n c m HL.out HB.out hm hc H).mono ?_; clear H h; rintro ed wy ⟨rfl, H⟩) | (go_at_call 44; refine (node_any _ _).mono ?_; rintro ed wy ⟨rfl, rfl⟩) | (first | ((with_reducible refine here_load ?_); first | refine ldR H rfl _ _ rfl rfl (by kernel_rfl) ?_ | refine ldS H rfl _ _ rfl rfl (by rfl) ?_ | refine ldSG H (by rfl) _ _ rfl rfl (by rfl) ?_ | refine ldRG H (by rfl) _ _ rfl rfl (by kernel_rfl) ?_) | ((with_reducible refine here_store ?_); first | (refine stR H rfl _ _ _ rfl rfl rfl (by rfl) (by rfl) (by kernel_rfl) ?_; clear H; intro wx H) | (refine stS H rfl _ _ _ rfl rfl _ rfl (by rfl) (by rfl) (by rfl) ?_; clear H; intro wx H)) | ((with_reducible refine here_alloc ?_); first | (refine wpList_alloc_st H rfl 37 rfl _ q_zero ?_; clear H; intro gq wx H) | (refine wpList_alloc_st H rfl 48 rfl _ ans_zero ?_; clear H; intro ga wx H) | (refine wpList_alloc_st H rfl 44 rfl _ ev_zero ?_; clear H; intro ge wx H) | (refine wpList_alloc_st H rfl 58 rfl _ ber_zero ?_; clear H; intro gr wx H)) | ((with_reducible refine here_box ?_); refine wpList_box_st H rfl _ _ rfl _ rfl ?_; clear H; intro gb wx H)))
      have l4 : (loadVar 58 ⟨gr, 0, none⟩).run Try.prog wx = .ok (.agg #[.int .i64 0, .int .i64 0, .int .i64 0, .int .i64 0, .int .i64 0, .slice none 0 0]) wx := H.loadRow 58 gr row_Berth (P := Try.prog) (by kernel_rfl)
      exact bodyPost_ret (v := .tuple #[.agg #[.int .i64 0, .int .i64 0, .int .i64 0, .int .i64 0, .int .i64 0, .slice none 0 0], .int .i64 12]) (by simp [results, Try.results21, asAddr, l4]) rfl (HF.out _ (H.subm _))
    · skip
      have hR : BM.goR ⟨3, be, bf, bd, br, es⟩ dst = (⟨0, 0, 0, 0, 0, []⟩, 12) := by
        (unfold BM.goR; dsimp only; repeat (first | rw [if_pos (by omega)] | rw [if_neg (by omega)]); try rfl)
      rw [hR]
      clear hR
      have HF := Lib.hid (fun W (h2 : St w0 W I) => (BPost.mk (r := (⟨0, 0, 0, 0, 0, []⟩, 12)) (n := 0) (c := 0) (A := none) rfl (Nat.le_refl _) (h2.old (s := 6) (n := 0) (A := none) (xs := []) Reads.none_) : BPost w0 I (⟨0, 0, 0, 0, 0, []⟩, 12) (.returned (.tuple #[.agg #[.int .i64 0, .int .i64 0, .int .i64 0, .int .i64 0, .int .i64 0, .slice none 0 0], .int .i64 12])) W))
      generalize BPost w0 I (⟨0, 0, 0, 0, 0, []⟩, 12) = POST at *
      go_enter Try.func21, Try.ntmps21
      clear hfold
      skip
      go_wp2_with (first | (go_at_call 41; have h := HI.out; refine (check_st ⟨3, be, bf, bd, br, es⟩ A n c m HL.out HB.out hm hc H).mono ?_; clear H h; rintro ed wy ⟨rfl, H⟩) | (go_at_call 44; refine (node_any _ _).mono ?_; rintro ed wy ⟨rfl, rfl⟩) | (first | ((with_reducible refine here_load ?_); first | refine ldR H rfl _ _ rfl rfl (by kernel_rfl) ?_ | refine ldS H rfl _ _ rfl rfl (by rfl) ?_ | refine ldSG H (by rfl) _ _ rfl rfl (by rfl) ?_ | refine ldRG H (by rfl) _ _ rfl rfl (by kernel_rfl) ?_) | ((with_reducible refine here_store ?_); first | (refine stR H rfl _ _ _ rfl rfl rfl (by rfl) (by rfl) (by kernel_rfl) ?_; clear H; intro wx H) | (refine stS H rfl _ _ _ rfl rfl _ rfl (by rfl) (by rfl) (by rfl) ?_; clear H; intro wx H)) | ((with_reducible refine here_alloc ?_); first | (refine wpList_alloc_st H rfl 37 rfl _ q_zero ?_; clear H; intro gq wx H) | (refine wpList_alloc_st H rfl 48 rfl _ ans_zero ?_; clear H; intro ga wx H) | (refine wpList_alloc_st H rfl 44 rfl _ ev_zero ?_; clear H; intro ge wx H) | (refine wpList_alloc_st H rfl 58 rfl _ ber_zero ?_; clear H; intro gr wx H)) | ((with_reducible refine here_box ?_); refine wpList_box_st H rfl _ _ rfl _ rfl ?_; clear H; intro gb wx H)))
      have l4 : (loadVar 58 ⟨gr, 0, none⟩).run Try.prog wx = .ok (.agg #[.int .i64 0, .int .i64 0, .int .i64 0, .int .i64 0, .int .i64 0, .slice none 0 0]) wx := H.loadRow 58 gr row_Berth (P := Try.prog) (by kernel_rfl)
      exact bodyPost_ret (v := .tuple #[.agg #[.int .i64 0, .int .i64 0, .int .i64 0, .int .i64 0, .int .i64 0, .slice none 0 0], .int .i64 12]) (by simp [results, Try.results21, asAddr, l4]) rfl (HF.out _ (H.subm _))
    · skip
      have hR : BM.goR ⟨4, be, bf, bd, br, es⟩ dst = (⟨0, 0, 0, 0, 0, []⟩, 7) := by
        (unfold BM.goR; dsimp only; repeat (first | rw [if_pos (by omega)] | rw [if_neg (by omega)]); try rfl)
      rw [hR]
      clear hR
      have HF := Lib.hid (fun W (h2 : St w0 W I) => (BPost.mk (r := (⟨0, 0, 0, 0, 0, []⟩, 7)) (n := 0) (c := 0) (A := none) rfl (Nat.le_refl _) (h2.old (s := 6) (n := 0) (A := none) (xs := []) Reads.none_) : BPost w0 I (⟨0, 0, 0, 0, 0, []⟩, 7) (.returned (.tuple #[.agg #[.int .i64 0, .int .i64 0, .int .i64 0, .int .i64 0, .int .i64 0, .slice none 0 0], .int .i64 7])) W))
      generalize BPost w0 I (⟨0, 0, 0, 0, 0, []⟩, 7) = POST at *
      go_enter Try.func21, Try.ntmps21
      clear hfold
      skip
      go_wp2_with (first | (go_at_call 41; have h := HI.out; refine (check_st ⟨4, be, bf, bd, br, es⟩ A n c m HL.out HB.out hm hc H).mono ?_; clear H h; rintro ed wy ⟨rfl, H⟩) | (go_at_call 44; refine (node_any _ _).mono ?_; rintro ed wy ⟨rfl, rfl⟩) | (first | ((with_reducible refine here_load ?_); first | refine ldR H rfl _ _ rfl rfl (by kernel_rfl) ?_ | refine ldS H rfl _ _ rfl rfl (by rfl) ?_ | refine ldSG H (by rfl) _ _ rfl rfl (by rfl) ?_ | refine ldRG H (by rfl) _ _ rfl rfl (by kernel_rfl) ?_) | ((with_reducible refine here_store ?_); first | (refine stR H rfl _ _ _ rfl rfl rfl (by rfl) (by rfl) (by kernel_rfl) ?_; clear H; intro wx H) | (refine stS H rfl _ _ _ rfl rfl _ rfl (by rfl) (by rfl) (by rfl) ?_; clear H; intro wx H)) | ((with_reducible refine here_alloc ?_); first | (refine wpList_alloc_st H rfl 37 rfl _ q_zero ?_; clear H; intro gq wx H) | (refine wpList_alloc_st H rfl 48 rfl _ ans_zero ?_; clear H; intro ga wx H) | (refine wpList_alloc_st H rfl 44 rfl _ ev_zero ?_; clear H; intro ge wx H) | (refine wpList_alloc_st H rfl 58 rfl _ ber_zero ?_; clear H; intro gr wx H)) | ((with_reducible refine here_box ?_); refine wpList_box_st H rfl _ _ rfl _ rfl ?_; clear H; intro gb wx H)))
      have l4 : (loadVar 58 ⟨gr, 0, none⟩).run Try.prog wx = .ok (.agg #[.int .i64 0, .int .i64 0, .int .i64 0, .int .i64 0, .int .i64 0, .slice none 0 0]) wx := H.loadRow 58 gr row_Berth (P := Try.prog) (by kernel_rfl)
      exact bodyPost_ret (v := .tuple #[.agg #[.int .i64 0, .int .i64 0, .int .i64 0, .int .i64 0, .int .i64 0, .slice none 0 0], .int .i64 7]) (by simp [results, Try.results21, asAddr, l4]) rfl (HF.out _ (H.subm _))
  · have h2 := decide_eq_false h1
    have hR : BM.goR ⟨r, be, bf, bd, br, es⟩ dst = (⟨0, 0, 0, 0, 0, []⟩, 2) := by
      (unfold BM.goR; dsimp only; repeat (first | rw [if_pos (by omega)] | rw [if_neg (by omega)]); try rfl)
    rw [hR]
    clear hR
    have HF := Lib.hid (fun W (h2 : St w0 W I) => (BPost.mk (r := (⟨0, 0, 0, 0, 0, []⟩, 2)) (n := 0) (c := 0) (A := none) rfl (Nat.le_refl _) (h2.old (s := 6) (n := 0) (A := none) (xs := []) Reads.none_) : BPost w0 I (⟨0, 0, 0, 0, 0, []⟩, 2) (.returned (.tuple #[.agg #[.int .i64 0, .int .i64 0, .int .i64 0, .int .i64 0, .int .i64 0, .slice none 0 0], .int .i64 2])) W))
    generalize BPost w0 I (⟨0, 0, 0, 0, 0, []⟩, 2) = POST at *
    go_enter Try.func21, Try.ntmps21
    clear hfold
    skip
    go_wp2_with (first | (go_at_call 41; have h := HI.out; refine (check_st ⟨r, be, bf, bd, br, es⟩ A n c m HL.out HB.out hm hc H).mono ?_; clear H h; rintro ed wy ⟨rfl, H⟩) | (go_at_call 44; refine (node_any _ _).mono ?_; rintro ed wy ⟨rfl, rfl⟩) | (first | ((with_reducible refine here_load ?_); first | refine ldR H rfl _ _ rfl rfl (by kernel_rfl) ?_ | refine ldS H rfl _ _ rfl rfl (by rfl) ?_ | refine ldSG H (by rfl) _ _ rfl rfl (by rfl) ?_ | refine ldRG H (by rfl) _ _ rfl rfl (by kernel_rfl) ?_) | ((with_reducible refine here_store ?_); first | (refine stR H rfl _ _ _ rfl rfl rfl (by rfl) (by rfl) (by kernel_rfl) ?_; clear H; intro wx H) | (refine stS H rfl _ _ _ rfl rfl _ rfl (by rfl) (by rfl) (by rfl) ?_; clear H; intro wx H)) | ((with_reducible refine here_alloc ?_); first | (refine wpList_alloc_st H rfl 37 rfl _ q_zero ?_; clear H; intro gq wx H) | (refine wpList_alloc_st H rfl 48 rfl _ ans_zero ?_; clear H; intro ga wx H) | (refine wpList_alloc_st H rfl 44 rfl _ ev_zero ?_; clear H; intro ge wx H) | (refine wpList_alloc_st H rfl 58 rfl _ ber_zero ?_; clear H; intro gr wx H)) | ((with_reducible refine here_box ?_); refine wpList_box_st H rfl _ _ rfl _ rfl ?_; clear H; intro gb wx H)))
    have l4 : (loadVar 58 ⟨gr, 0, none⟩).run Try.prog wx = .ok (.agg #[.int .i64 0, .int .i64 0, .int .i64 0, .int .i64 0, .int .i64 0, .slice none 0 0]) wx := H.loadRow 58 gr row_Berth (P := Try.prog) (by kernel_rfl)
    exact bodyPost_ret (v := .tuple #[.agg #[.int .i64 0, .int .i64 0, .int .i64 0, .int .i64 0, .int .i64 0, .slice none 0 0], .int .i64 2]) (by simp [results, Try.results21, asAddr, l4]) rfl (HF.out _ (H.subm _))
set_option maxRecDepth 100000 in
set_option maxHeartbeats 8000000 in
theorem forget_st {w0 w : World} {I : List It} (b : BM) (A : Option Addr) (n c m : Nat) (ep : Int) (hl : b.es.length = n) (hb : b.Ok m) (hm : m ≤ 150) (hc : n ≤ c) (H : St w0 w I) [h : Has I (evIt A b.es)] :
    Calls Try.prog 76 #[.agg (bArr b A n c), .int .i64 ep] w (BPost w0 I (b.forgetR ep)) := by
  have hn : n ≤ 150 := by have := hb.len; omega
  have HI := Lib.hid h
  have HB := Lib.hid hb
  have HL := Lib.hid hl
  have HS := hb.shape
  clear h hb hl
  have hfold : bArr b A n c = #[Value.int .i64 b.role, .int .i64 b.ep, .int .i64 b.frm, .int .i64 b.dst, .int .i64 b.rounds, .slice A n c] := rfl
  rw [hfold]
  obtain ⟨r, be, bf, bd, br, es⟩ := b
  unfold BM.Shape at HS
  dsimp only at HS HB HL HI ⊢
  have HR : r = 0 ∨ r = 1 ∨ r = 2 ∨ r = 3 ∨ r = 4 := by omega
  rcases HR with rfl | rfl | rfl | rfl | rfl
  · skip
    have hR : BM.forgetR ⟨0, be, bf, bd, br, es⟩ ep = (⟨0, 0, 0, 0, 0, []⟩, 7) := by
      (unfold BM.forgetR; dsimp only; repeat (first | rw [if_pos (by omega)] | rw [if_neg (by omega)]); try rfl)
    rw [hR]
    clear hR
    have HF := Lib.hid (fun W (h2 : St w0 W I) => (BPost.mk (r := (⟨0, 0, 0, 0, 0, []⟩, 7)) (n := 0) (c := 0) (A := none) rfl (Nat.le_refl _) (h2.old (s := 6) (n := 0) (A := none) (xs := []) Reads.none_) : BPost w0 I (⟨0, 0, 0, 0, 0, []⟩, 7) (.returned (.tuple #[.agg #[.int .i64 0, .int .i64 0, .int .i64 0, .int .i64 0, .int .i64 0, .slice none 0 0], .int .i64 7])) W))
    generalize BPost w0 I (⟨0, 0, 0, 0, 0, []⟩, 7) = POST at *
    go_enter Try.func76, Try.ntmps76
    clear hfold
    skip
    go_wp2_with (first | (go_at_call 41; have h := HI.out; refine (check_st ⟨0, be, bf, bd, br, es⟩ A n c m HL.out HB.out hm hc H).mono ?_; clear H h; rintro ed wy ⟨rfl, H⟩) | (go_at_call 44; refine (node_any _ _).mono ?_; rintro ed wy ⟨rfl, rfl⟩) | (first | ((with_reducible refine here_load ?_); first | refine ldR H rfl _ _ rfl rfl (by kernel_rfl) ?_ | refine ldS H rfl _ _ rfl rfl (by rfl) ?_ | refine ldSG H (by rfl) _ _ rfl rfl (by rfl) ?_ | refine ldRG H (by rfl) _ _ rfl rfl (by kernel_rfl) ?_) | ((with_reducible refine here_store ?_); first | (refine stR H rfl _ _ _ rfl rfl rfl (by rfl) (by rfl) (by kernel_rfl) ?_; clear H; intro wx H) | (refine stS H rfl _ _ _ rfl rfl _ rfl (by rfl) (by rfl) (by rfl) ?_; clear H; intro wx H)) | ((with_reducible refine here_alloc ?_); first | (refine wpList_alloc_st H rfl 37 rfl _ q_zero ?_; clear H; intro gq wx H) | (refine wpList_alloc_st H rfl 48 rfl _ ans_zero ?_; clear H; intro ga wx H) | (refine wpList_alloc_st H rfl 44 rfl _ ev_zero ?_; clear H; intro ge wx H) | (refine wpList_alloc_st H rfl 58 rfl _ ber_zero ?_; clear H; intro gr wx H)) | ((with_reducible refine here_box ?_); refine wpList_box_st H rfl _ _ rfl _ rfl ?_; clear H; intro gb wx H)))
    have l4 : (loadVar 58 ⟨gr, 0, none⟩).run Try.prog wx = .ok (.agg #[.int .i64 0, .int .i64 0, .int .i64 0, .int .i64 0, .int .i64 0, .slice none 0 0]) wx := H.loadRow 58 gr row_Berth (P := Try.prog) (by kernel_rfl)
    exact bodyPost_ret (v := .tuple #[.agg #[.int .i64 0, .int .i64 0, .int .i64 0, .int .i64 0, .int .i64 0, .slice none 0 0], .int .i64 7]) (by simp [results, Try.results76, asAddr, l4]) rfl (HF.out _ (H.subm _))
  · skip
    have hR : BM.forgetR ⟨1, be, bf, bd, br, es⟩ ep = (⟨0, 0, 0, 0, 0, []⟩, 7) := by
      (unfold BM.forgetR; dsimp only; repeat (first | rw [if_pos (by omega)] | rw [if_neg (by omega)]); try rfl)
    rw [hR]
    clear hR
    have HF := Lib.hid (fun W (h2 : St w0 W I) => (BPost.mk (r := (⟨0, 0, 0, 0, 0, []⟩, 7)) (n := 0) (c := 0) (A := none) rfl (Nat.le_refl _) (h2.old (s := 6) (n := 0) (A := none) (xs := []) Reads.none_) : BPost w0 I (⟨0, 0, 0, 0, 0, []⟩, 7) (.returned (.tuple #[.agg #[.int .i64 0, .int .i64 0, .int .i64 0, .int .i64 0, .int .i64 0, .slice none 0 0], .int .i64 7])) W))
    generalize BPost w0 I (⟨0, 0, 0, 0, 0, []⟩, 7) = POST at *
    go_enter Try.func76, Try.ntmps76
    clear hfold
    skip
    go_wp2_with (first | (go_at_call 41; have h := HI.out; refine (check_st ⟨1, be, bf, bd, br, es⟩ A n c m HL.out HB.out hm hc H).mono ?_; clear H h; rintro ed wy ⟨rfl, H⟩) | (go_at_call 44; refine (node_any _ _).mono ?_; rintro ed wy ⟨rfl, rfl⟩) | (first | ((with_reducible refine here_load ?_); first | refine ldR H rfl _ _ rfl rfl (by kernel_rfl) ?_ | refine ldS H rfl _ _ rfl rfl (by rfl) ?_ | refine ldSG H (by rfl) _ _ rfl rfl (by rfl) ?_ | refine ldRG H (by rfl) _ _ rfl rfl (by kernel_rfl) ?_) | ((with_reducible refine here_store ?_); first | (refine stR H rfl _ _ _ rfl rfl rfl (by rfl) (by rfl) (by kernel_rfl) ?_; clear H; intro wx H) | (refine stS H rfl _ _ _ rfl rfl _ rfl (by rfl) (by rfl) (by rfl) ?_; clear H; intro wx H)) | ((with_reducible refine here_alloc ?_); first | (refine wpList_alloc_st H rfl 37 rfl _ q_zero ?_; clear H; intro gq wx H) | (refine wpList_alloc_st H rfl 48 rfl _ ans_zero ?_; clear H; intro ga wx H) | (refine wpList_alloc_st H rfl 44 rfl _ ev_zero ?_; clear H; intro ge wx H) | (refine wpList_alloc_st H rfl 58 rfl _ ber_zero ?_; clear H; intro gr wx H)) | ((with_reducible refine here_box ?_); refine wpList_box_st H rfl _ _ rfl _ rfl ?_; clear H; intro gb wx H)))
    have l4 : (loadVar 58 ⟨gr, 0, none⟩).run Try.prog wx = .ok (.agg #[.int .i64 0, .int .i64 0, .int .i64 0, .int .i64 0, .int .i64 0, .slice none 0 0]) wx := H.loadRow 58 gr row_Berth (P := Try.prog) (by kernel_rfl)
    exact bodyPost_ret (v := .tuple #[.agg #[.int .i64 0, .int .i64 0, .int .i64 0, .int .i64 0, .int .i64 0, .slice none 0 0], .int .i64 7]) (by simp [results, Try.results76, asAddr, l4]) rfl (HF.out _ (H.subm _))
  · skip
    have hR : BM.forgetR ⟨2, be, bf, bd, br, es⟩ ep = (⟨0, 0, 0, 0, 0, []⟩, 7) := by
      (unfold BM.forgetR; dsimp only; repeat (first | rw [if_pos (by omega)] | rw [if_neg (by omega)]); try rfl)
    rw [hR]
    clear hR
    have HF := Lib.hid (fun W (h2 : St w0 W I) => (BPost.mk (r := (⟨0, 0, 0, 0, 0, []⟩, 7)) (n := 0) (c := 0) (A := none) rfl (Nat.le_refl _) (h2.old (s := 6) (n := 0) (A := none) (xs := []) Reads.none_) : BPost w0 I (⟨0, 0, 0, 0, 0, []⟩, 7) (.returned (.tuple #[.agg #[.int .i64 0, .int .i64 0, .int .i64 0, .int .i64 0, .int .i64 0, .slice none 0 0], .int .i64 7])) W))
    generalize BPost w0 I (⟨0, 0, 0, 0, 0, []⟩, 7) = POST at *
    go_enter Try.func76, Try.ntmps76
    clear hfold
    skip
    go_wp2_with (first | (go_at_call 41; have h := HI.out; refine (check_st ⟨2, be, bf, bd, br, es⟩ A n c m HL.out HB.out hm hc H).mono ?_; clear H h; rintro ed wy ⟨rfl, H⟩) | (go_at_call 44; refine (node_any _ _).mono ?_; rintro ed wy ⟨rfl, rfl⟩) | (first | ((with_reducible refine here_load ?_); first | refine ldR H rfl _ _ rfl rfl (by kernel_rfl) ?_ | refine ldS H rfl _ _ rfl rfl (by rfl) ?_ | refine ldSG H (by rfl) _ _ rfl rfl (by rfl) ?_ | refine ldRG H (by rfl) _ _ rfl rfl (by kernel_rfl) ?_) | ((with_reducible refine here_store ?_); first | (refine stR H rfl _ _ _ rfl rfl rfl (by rfl) (by rfl) (by kernel_rfl) ?_; clear H; intro wx H) | (refine stS H rfl _ _ _ rfl rfl _ rfl (by rfl) (by rfl) (by rfl) ?_; clear H; intro wx H)) | ((with_reducible refine here_alloc ?_); first | (refine wpList_alloc_st H rfl 37 rfl _ q_zero ?_; clear H; intro gq wx H) | (refine wpList_alloc_st H rfl 48 rfl _ ans_zero ?_; clear H; intro ga wx H) | (refine wpList_alloc_st H rfl 44 rfl _ ev_zero ?_; clear H; intro ge wx H) | (refine wpList_alloc_st H rfl 58 rfl _ ber_zero ?_; clear H; intro gr wx H)) | ((with_reducible refine here_box ?_); refine wpList_box_st H rfl _ _ rfl _ rfl ?_; clear H; intro gb wx H)))
    have l4 : (loadVar 58 ⟨gr, 0, none⟩).run Try.prog wx = .ok (.agg #[.int .i64 0, .int .i64 0, .int .i64 0, .int .i64 0, .int .i64 0, .slice none 0 0]) wx := H.loadRow 58 gr row_Berth (P := Try.prog) (by kernel_rfl)
    exact bodyPost_ret (v := .tuple #[.agg #[.int .i64 0, .int .i64 0, .int .i64 0, .int .i64 0, .int .i64 0, .slice none 0 0], .int .i64 7]) (by simp [results, Try.results76, asAddr, l4]) rfl (HF.out _ (H.subm _))
  · skip
    by_cases h4 : ep ≤ be
    · skip
      have hR : BM.forgetR ⟨3, be, bf, bd, br, es⟩ ep = (⟨0, 0, 0, 0, 0, []⟩, 15) := by
        (unfold BM.forgetR; dsimp only; repeat (first | rw [if_pos (by omega)] | rw [if_neg (by omega)]); try rfl)
      rw [hR]
      clear hR
      have HF := Lib.hid (fun W (h2 : St w0 W I) => (BPost.mk (r := (⟨0, 0, 0, 0, 0, []⟩, 15)) (n := 0) (c := 0) (A := none) rfl (Nat.le_refl _) (h2.old (s := 6) (n := 0) (A := none) (xs := []) Reads.none_) : BPost w0 I (⟨0, 0, 0, 0, 0, []⟩, 15) (.returned (.tuple #[.agg #[.int .i64 0, .int .i64 0, .int .i64 0, .int .i64 0, .int .i64 0, .slice none 0 0], .int .i64 15])) W))
      generalize BPost w0 I (⟨0, 0, 0, 0, 0, []⟩, 15) = POST at *
      go_enter Try.func76, Try.ntmps76
      clear hfold
      skip
      go_wp2_with (first | (go_at_call 41; have h := HI.out; refine (check_st ⟨3, be, bf, bd, br, es⟩ A n c m HL.out HB.out hm hc H).mono ?_; clear H h; rintro ed wy ⟨rfl, H⟩) | (go_at_call 44; refine (node_any _ _).mono ?_; rintro ed wy ⟨rfl, rfl⟩) | (first | ((with_reducible refine here_load ?_); first | refine ldR H rfl _ _ rfl rfl (by kernel_rfl) ?_ | refine ldS H rfl _ _ rfl rfl (by rfl) ?_ | refine ldSG H (by rfl) _ _ rfl rfl (by rfl) ?_ | refine ldRG H (by rfl) _ _ rfl rfl (by kernel_rfl) ?_) | ((with_reducible refine here_store ?_); first | (refine stR H rfl _ _ _ rfl rfl rfl (by rfl) (by rfl) (by kernel_rfl) ?_; clear H; intro wx H) | (refine stS H rfl _ _ _ rfl rfl _ rfl (by rfl) (by rfl) (by rfl) ?_; clear H; intro wx H)) | ((with_reducible refine here_alloc ?_); first | (refine wpList_alloc_st H rfl 37 rfl _ q_zero ?_; clear H; intro gq wx H) | (refine wpList_alloc_st H rfl 48 rfl _ ans_zero ?_; clear H; intro ga wx H) | (refine wpList_alloc_st H rfl 44 rfl _ ev_zero ?_; clear H; intro ge wx H) | (refine wpList_alloc_st H rfl 58 rfl _ ber_zero ?_; clear H; intro gr wx H)) | ((with_reducible refine here_box ?_); refine wpList_box_st H rfl _ _ rfl _ rfl ?_; clear H; intro gb wx H)))
      have l4 : (loadVar 58 ⟨gr, 0, none⟩).run Try.prog wx = .ok (.agg #[.int .i64 0, .int .i64 0, .int .i64 0, .int .i64 0, .int .i64 0, .slice none 0 0]) wx := H.loadRow 58 gr row_Berth (P := Try.prog) (by kernel_rfl)
      exact bodyPost_ret (v := .tuple #[.agg #[.int .i64 0, .int .i64 0, .int .i64 0, .int .i64 0, .int .i64 0, .slice none 0 0], .int .i64 15]) (by simp [results, Try.results76, asAddr, l4]) rfl (HF.out _ (H.subm _))
    · skip
      have hR : BM.forgetR ⟨3, be, bf, bd, br, es⟩ ep = (⟨0, be, 0, 0, 0, []⟩, 0) := by
        (unfold BM.forgetR; dsimp only; repeat (first | rw [if_pos (by omega)] | rw [if_neg (by omega)]); try rfl)
      rw [hR]
      clear hR
      have HF := Lib.hid (fun W (h2 : St w0 W I) => (BPost.mk (r := (⟨0, be, 0, 0, 0, []⟩, 0)) (n := 0) (c := 0) (A := none) rfl (Nat.le_refl _) (h2.old (s := 6) (n := 0) (A := none) (xs := []) Reads.none_) : BPost w0 I (⟨0, be, 0, 0, 0, []⟩, 0) (.returned (.tuple #[.agg #[.int .i64 0, .int .i64 be, .int .i64 0, .int .i64 0, .int .i64 0, .slice none 0 0], .int .i64 0])) W))
      generalize BPost w0 I (⟨0, be, 0, 0, 0, []⟩, 0) = POST at *
      go_enter Try.func76, Try.ntmps76
      clear hfold
      skip
      go_wp2_with (first | (go_at_call 41; have h := HI.out; refine (check_st ⟨3, be, bf, bd, br, es⟩ A n c m HL.out HB.out hm hc H).mono ?_; clear H h; rintro ed wy ⟨rfl, H⟩) | (go_at_call 44; refine (node_any _ _).mono ?_; rintro ed wy ⟨rfl, rfl⟩) | (first | ((with_reducible refine here_load ?_); first | refine ldR H rfl _ _ rfl rfl (by kernel_rfl) ?_ | refine ldS H rfl _ _ rfl rfl (by rfl) ?_ | refine ldSG H (by rfl) _ _ rfl rfl (by rfl) ?_ | refine ldRG H (by rfl) _ _ rfl rfl (by kernel_rfl) ?_) | ((with_reducible refine here_store ?_); first | (refine stR H rfl _ _ _ rfl rfl rfl (by rfl) (by rfl) (by kernel_rfl) ?_; clear H; intro wx H) | (refine stS H rfl _ _ _ rfl rfl _ rfl (by rfl) (by rfl) (by rfl) ?_; clear H; intro wx H)) | ((with_reducible refine here_alloc ?_); first | (refine wpList_alloc_st H rfl 37 rfl _ q_zero ?_; clear H; intro gq wx H) | (refine wpList_alloc_st H rfl 48 rfl _ ans_zero ?_; clear H; intro ga wx H) | (refine wpList_alloc_st H rfl 44 rfl _ ev_zero ?_; clear H; intro ge wx H) | (refine wpList_alloc_st H rfl 58 rfl _ ber_zero ?_; clear H; intro gr wx H)) | ((with_reducible refine here_box ?_); refine wpList_box_st H rfl _ _ rfl _ rfl ?_; clear H; intro gb wx H)))
      have l4 : (loadVar 58 ⟨gr, 0, none⟩).run Try.prog wx = .ok (.agg #[.int .i64 0, .int .i64 be, .int .i64 0, .int .i64 0, .int .i64 0, .slice none 0 0]) wx := H.loadRow 58 gr row_Berth (P := Try.prog) (by kernel_rfl)
      exact bodyPost_ret (v := .tuple #[.agg #[.int .i64 0, .int .i64 be, .int .i64 0, .int .i64 0, .int .i64 0, .slice none 0 0], .int .i64 0]) (by simp [results, Try.results76, asAddr, l4]) rfl (HF.out _ (H.subm _))
  · skip
    have hR : BM.forgetR ⟨4, be, bf, bd, br, es⟩ ep = (⟨0, 0, 0, 0, 0, []⟩, 7) := by
      (unfold BM.forgetR; dsimp only; repeat (first | rw [if_pos (by omega)] | rw [if_neg (by omega)]); try rfl)
    rw [hR]
    clear hR
    have HF := Lib.hid (fun W (h2 : St w0 W I) => (BPost.mk (r := (⟨0, 0, 0, 0, 0, []⟩, 7)) (n := 0) (c := 0) (A := none) rfl (Nat.le_refl _) (h2.old (s := 6) (n := 0) (A := none) (xs := []) Reads.none_) : BPost w0 I (⟨0, 0, 0, 0, 0, []⟩, 7) (.returned (.tuple #[.agg #[.int .i64 0, .int .i64 0, .int .i64 0, .int .i64 0, .int .i64 0, .slice none 0 0], .int .i64 7])) W))
    generalize BPost w0 I (⟨0, 0, 0, 0, 0, []⟩, 7) = POST at *
    go_enter Try.func76, Try.ntmps76
    clear hfold
    skip
    go_wp2_with (first | (go_at_call 41; have h := HI.out; refine (check_st ⟨4, be, bf, bd, br, es⟩ A n c m HL.out HB.out hm hc H).mono ?_; clear H h; rintro ed wy ⟨rfl, H⟩) | (go_at_call 44; refine (node_any _ _).mono ?_; rintro ed wy ⟨rfl, rfl⟩) | (first | ((with_reducible refine here_load ?_); first | refine ldR H rfl _ _ rfl rfl (by kernel_rfl) ?_ | refine ldS H rfl _ _ rfl rfl (by rfl) ?_ | refine ldSG H (by rfl) _ _ rfl rfl (by rfl) ?_ | refine ldRG H (by rfl) _ _ rfl rfl (by kernel_rfl) ?_) | ((with_reducible refine here_store ?_); first | (refine stR H rfl _ _ _ rfl rfl rfl (by rfl) (by rfl) (by kernel_rfl) ?_; clear H; intro wx H) | (refine stS H rfl _ _ _ rfl rfl _ rfl (by rfl) (by rfl) (by rfl) ?_; clear H; intro wx H)) | ((with_reducible refine here_alloc ?_); first | (refine wpList_alloc_st H rfl 37 rfl _ q_zero ?_; clear H; intro gq wx H) | (refine wpList_alloc_st H rfl 48 rfl _ ans_zero ?_; clear H; intro ga wx H) | (refine wpList_alloc_st H rfl 44 rfl _ ev_zero ?_; clear H; intro ge wx H) | (refine wpList_alloc_st H rfl 58 rfl _ ber_zero ?_; clear H; intro gr wx H)) | ((with_reducible refine here_box ?_); refine wpList_box_st H rfl _ _ rfl _ rfl ?_; clear H; intro gb wx H)))
    have l4 : (loadVar 58 ⟨gr, 0, none⟩).run Try.prog wx = .ok (.agg #[.int .i64 0, .int .i64 0, .int .i64 0, .int .i64 0, .int .i64 0, .slice none 0 0]) wx := H.loadRow 58 gr row_Berth (P := Try.prog) (by kernel_rfl)
    exact bodyPost_ret (v := .tuple #[.agg #[.int .i64 0, .int .i64 0, .int .i64 0, .int .i64 0, .int .i64 0, .slice none 0 0], .int .i64 7]) (by simp [results, Try.results76, asAddr, l4]) rfl (HF.out _ (H.subm _))

end Go.Proofs.Ytjmncbfmjeeneaa

namespace Go.Proofs.Ytjmncbfmjeeneaa
open Go.RowKit

/-- what Serve answers to an event that is no break -/
def SPost (w0 : World) (I : List It) (r : BM × QA × Bool) (ed : Ending) (w' : World) : Prop :=
  ∃ A c, ed = .returned (.tuple #[.agg (bArr r.1 A r.1.es.length c), r.2.1.val, .bool r.2.2, .int .i64 0]) ∧ r.1.es.length ≤ c ∧ St w0 w' (evIt A r.1.es :: I)
theorem SPost.mk {w0 w : World} {I : List It} {r : BM × QA × Bool} {A : Option Addr} {n c : Nat} (hn : r.1.es.length = n) (hc : n ≤ c) (H : St w0 w (evIt A r.1.es :: I)) :
    SPost w0 I r (.returned (.tuple #[.agg (bArr r.1 A n c), r.2.1.val, .bool r.2.2, .int .i64 0])) w := by
  subst hn
  exact ⟨A, c, rfl, hc, H⟩
set_option maxRecDepth 100000 in
set_option maxHeartbeats 8000000 in
theorem serve_0 {w0 w : World} {I : List It} (be bf bd br : Int) (es : List Ev) (e : Ev) (A : Option Addr) (n c m : Nat) (hl : es.length = n) (hb : (⟨0, be, bf, bd, br, es⟩ : BM).Ok m) (hm : m ≤ 149) (hc : n ≤ c) (he : e.check = 0) (hk : e.kind ≠ 4) (H : St w0 w I) [h : Has I (evIt A es)] :
    Calls Try.prog 40 #[.agg (bArr ⟨0, be, bf, bd, br, es⟩ A n c), e.val] w (SPost w0 I ((⟨0, be, bf, bd, br, es⟩ : BM).serve e)) := by
  have hn : n ≤ 150 := by have := hb.len; have : n ≤ m := hl ▸ this; omega
  replace hm : m ≤ 150 := by omega
  have HI := Lib.hid h
  have HB := Lib.hid hb
  have HL := Lib.hid hl
  have HS2 := Lib.hid hb.shape
  have CC := Lib.hid (fun W => ((check_any e.kind e.prod e.id e.body e.hep e.hno W).mono (fun ed w' h => (⟨by rw [h.1]; exact congrArg (fun z => Ending.returned (.int .i64 z)) he, h.2⟩ : ed = .returned (.int .i64 0) ∧ Below W.heap.size W w'))))
  have HE := Lib.hid he
  clear h hb hl he
  obtain ⟨e0, e1, e2, e3, e4, e5⟩ := e
  unfold Ev.val bArr
  dsimp only at CC hk ⊢
  have k1 : ((e0 : Int) == 4) = false := by simp; exact hk
  have k2 : decide ((e0 : Int) = 4) = false := by simp; exact hk
  clear hk
  have hR : (⟨0, be, bf, bd, br, es⟩ : BM).serve ⟨e0, e1, e2, e3, e4, e5⟩ = (⟨0, be, bf, bd, br, es⟩, ⟨7, 0, 0, 0⟩, false) := by
    (unfold BM.serve; dsimp only; repeat (first | rw [if_pos (by omega)] | rw [if_neg (by omega)]); try rfl)
  rw [hR]
  clear hR
  have HF := Lib.hid (fun W A' c' (h1 : n ≤ c') (h2 : St w0 W (evIt A' (es) :: I)) => (SPost.mk (r := (⟨0, be, bf, bd, br, es⟩, ⟨7, 0, 0, 0⟩, false)) HL.out h1 h2 : SPost w0 I (⟨0, be, bf, bd, br, es⟩, ⟨7, 0, 0, 0⟩, false) (.returned (.tuple #[.agg #[.int .i64 0, .int .i64 be, .int .i64 bf, .int .i64 bd, .int .i64 br, .slice A' (n) c'], .agg #[.int .i64 7, .int .i64 0, .int .i64 0, .int .i64 0], .bool false, .int .i64 0])) W))
  generalize SPost w0 I (⟨0, be, bf, bd, br, es⟩, ⟨7, 0, 0, 0⟩, false) = POST at *
  go_enter Try.func40, Try.ntmps40
  go_wp2_with (first | ((with_reducible refine here_box ?_); first | (refine wpList_box_st H rfl 58 _ rfl _ rfl ?_; clear H; intro gb wx H) | (refine wpList_box_st H rfl 44 _ rfl _ rfl ?_; clear H; intro gx wx H)) | (go_at_call 26; refine (CC.out _).mono ?_; rintro ed w9 ⟨rfl, hb9⟩; replace H := H.below hb9; clear hb9) | (go_at_call 41; have h := HI.out; refine (check_st ⟨0, be, bf, bd, br, es⟩ A n c m HL.out HB.out hm hc H).mono ?_; clear H h; rintro ed wy ⟨rfl, H⟩) | (go_at_call 58; refine (serving_st ⟨0, be, bf, bd, br, es⟩ A n c HS2.out H).mono ?_; clear H; rintro ed wy ⟨rfl, H⟩) | (go_at_call 45; have h := HI.out; refine (with_nil ⟨0, be, bf, bd, br, es⟩ A n c HL.out hn hc H).mono ?_; clear H h; rintro ed wy ⟨A9, c9, rfl, hc9, H⟩) | (first | ((with_reducible refine here_load ?_); first | refine ldR H rfl _ _ rfl rfl (by kernel_rfl) ?_ | refine ldS H rfl _ _ rfl rfl (by rfl) ?_ | refine ldSG H (by rfl) _ _ rfl rfl (by rfl) ?_ | refine ldRG H (by rfl) _ _ rfl rfl (by kernel_rfl) ?_) | ((with_reducible refine here_store ?_); first | (refine stR H rfl _ _ _ rfl rfl rfl (by rfl) (by rfl) (by kernel_rfl) ?_; clear H; intro wx H) | (refine stS H rfl _ _ _ rfl rfl _ rfl (by rfl) (by rfl) (by rfl) ?_; clear H; intro wx H)) | ((with_reducible refine here_alloc ?_); first | (refine wpList_alloc_st H rfl 37 rfl _ q_zero ?_; clear H; intro gq wx H) | (refine wpList_alloc_st H rfl 48 rfl _ ans_zero ?_; clear H; intro ga wx H) | (refine wpList_alloc_st H rfl 44 rfl _ ev_zero ?_; clear H; intro ge wx H) | (refine wpList_alloc_st H rfl 58 rfl _ ber_zero ?_; clear H; intro gr wx H)) | ((with_reducible refine here_box ?_); refine wpList_box_st H rfl _ _ rfl _ rfl ?_; clear H; intro gb wx H)))
  have l4 : (loadVar 58 ⟨gr, 0, none⟩).run Try.prog wx = .ok (.agg #[.int .i64 0, .int .i64 be, .int .i64 bf, .int .i64 bd, .int .i64 br, .slice A9 n c9]) wx := H.loadRow 58 gr row_Berth (P := Try.prog) (by kernel_rfl)
  have l5 : (loadVar 48 ⟨ga, 0, none⟩).run Try.prog wx = .ok (.agg #[.int .i64 7, .int .i64 0, .int .i64 0, .int .i64 0]) wx := H.loadRow 48 ga row_Answer (P := Try.prog) (by kernel_rfl)
  exact bodyPost_ret (v := .tuple #[.agg #[.int .i64 0, .int .i64 be, .int .i64 bf, .int .i64 bd, .int .i64 br, .slice A9 n c9], .agg #[.int .i64 7, .int .i64 0, .int .i64 0, .int .i64 0], .bool false, .int .i64 0]) (by simp [results, Try.results40, asAddr, l4, l5]) rfl (HF.out _ _ _ hc9 (H.subm _))
set_option maxRecDepth 100000 in
set_option maxHeartbeats 8000000 in
theorem serve_3 {w0 w : World} {I : List It} (be bf bd br : Int) (es : List Ev) (e : Ev) (A : Option Addr) (n c m : Nat) (hl : es.length = n) (hb : (⟨3, be, bf, bd, br, es⟩ : BM).Ok m) (hm : m ≤ 149) (hc : n ≤ c) (he : e.check = 0) (hk : e.kind ≠ 4) (H : St w0 w I) [h : Has I (evIt A es)] :
    Calls Try.prog 40 #[.agg (bArr ⟨3, be, bf, bd, br, es⟩ A n c), e.val] w (SPost w0 I ((⟨3, be, bf, bd, br, es⟩ : BM).serve e)) := by
  have hn : n ≤ 150 := by have := hb.len; have : n ≤ m := hl ▸ this; omega
  replace hm : m ≤ 150 := by omega
  have HI := Lib.hid h
  have HB := Lib.hid hb
  have HL := Lib.hid hl
  have HS2 := Lib.hid hb.shape
  have CC := Lib.hid (fun W => ((check_any e.kind e.prod e.id e.body e.hep e.hno W).mono (fun ed w' h => (⟨by rw [h.1]; exact congrArg (fun z => Ending.returned (.int .i64 z)) he, h.2⟩ : ed = .returned (.int .i64 0) ∧ Below W.heap.size W w'))))
  have HE := Lib.hid he
  clear h hb hl he
  obtain ⟨e0, e1, e2, e3, e4, e5⟩ := e
  unfold Ev.val bArr
  dsimp only at CC hk ⊢
  have k1 : ((e0 : Int) == 4) = false := by simp; exact hk
  have k2 : decide ((e0 : Int) = 4) = false := by simp; exact hk
  clear hk
  have hR : (⟨3, be, bf, bd, br, es⟩ : BM).serve ⟨e0, e1, e2, e3, e4, e5⟩ = (⟨3, be, bf, bd, br, es⟩, ⟨12, 0, 0, 0⟩, false) := by
    (unfold BM.serve; dsimp only; repeat (first | rw [if_pos (by omega)] | rw [if_neg (by omega)]); try rfl)
  rw [hR]
  clear hR
  have HF := Lib.hid (fun W A' c' (h1 : n ≤ c') (h2 : St w0 W (evIt A' (es) :: I)) => (SPost.mk (r := (⟨3, be, bf, bd, br, es⟩, ⟨12, 0, 0, 0⟩, false)) HL.out h1 h2 : SPost w0 I (⟨3, be, bf, bd, br, es⟩, ⟨12, 0, 0, 0⟩, false) (.returned (.tuple #[.agg #[.int .i64 3, .int .i64 be, .int .i64 bf, .int .i64 bd, .int .i64 br, .slice A' (n) c'], .agg #[.int .i64 12, .int .i64 0, .int .i64 0, .int .i64 0], .bool false, .int .i64 0])) W))
  generalize SPost w0 I (⟨3, be, bf, bd, br, es⟩, ⟨12, 0, 0, 0⟩, false) = POST at *
  go_enter Try.func40, Try.ntmps40
  go_wp2_with (first | ((with_reducible refine here_box ?_); first | (refine wpList_box_st H rfl 58 _ rfl _ rfl ?_; clear H; intro gb wx H) | (refine wpList_box_st H rfl 44 _ rfl _ rfl ?_; clear H; intro gx wx H)) | (go_at_call 26; refine (CC.out _).mono ?_; rintro ed w9 ⟨rfl, hb9⟩; replace H := H.below hb9; clear hb9) | (go_at_call 41; have h := HI.out; refine (check_st ⟨3, be, bf, bd, br, es⟩ A n c m HL.out HB.out hm hc H).mono ?_; clear H h; rintro ed wy ⟨rfl, H⟩) | (go_at_call 58; refine (serving_st ⟨3, be, bf, bd, br, es⟩ A n c HS2.out H).mono ?_; clear H; rintro ed wy ⟨rfl, H⟩) | (go_at_call 45; have h := HI.out; refine (with_nil ⟨3, be, bf, bd, br, es⟩ A n c HL.out hn hc H).mono ?_; clear H h; rintro ed wy ⟨A9, c9, rfl, hc9, H⟩) | (first | ((with_reducible refine here_load ?_); first | refine ldR H rfl _ _ rfl rfl (by kernel_rfl) ?_ | refine ldS H rfl _ _ rfl rfl (by rfl) ?_ | refine ldSG H (by rfl) _ _ rfl rfl (by rfl) ?_ | refine ldRG H (by rfl) _ _ rfl rfl (by kernel_rfl) ?_) | ((with_reducible refine here_store ?_); first | (refine stR H rfl _ _ _ rfl rfl rfl (by rfl) (by rfl) (by kernel_rfl) ?_; clear H; intro wx H) | (refine stS H rfl _ _ _ rfl rfl _ rfl (by rfl) (by rfl) (by rfl) ?_; clear H; intro wx H)) | ((with_reducible refine here_alloc ?_); first | (refine wpList_alloc_st H rfl 37 rfl _ q_zero ?_; clear H; intro gq wx H) | (refine wpList_alloc_st H rfl 48 rfl _ ans_zero ?_; clear H; intro ga wx H) | (refine wpList_alloc_st H rfl 44 rfl _ ev_zero ?_; clear H; intro ge wx H) | (refine wpList_alloc_st H rfl 58 rfl _ ber_zero ?_; clear H; intro gr wx H)) | ((with_reducible refine here_box ?_); refine wpList_box_st H rfl _ _ rfl _ rfl ?_; clear H; intro gb wx H)))
  have l4 : (loadVar 58 ⟨gr, 0, none⟩).run Try.prog wx = .ok (.agg #[.int .i64 3, .int .i64 be, .int .i64 bf, .int .i64 bd, .int .i64 br, .slice A9 n c9]) wx := H.loadRow 58 gr row_Berth (P := Try.prog) (by kernel_rfl)
  have l5 : (loadVar 48 ⟨ga, 0, none⟩).run Try.prog wx = .ok (.agg #[.int .i64 12, .int .i64 0, .int .i64 0, .int .i64 0]) wx := H.loadRow 48 ga row_Answer (P := Try.prog) (by kernel_rfl)
  exact bodyPost_ret (v := .tuple #[.agg #[.int .i64 3, .int .i64 be, .int .i64 bf, .int .i64 bd, .int .i64 br, .slice A9 n c9], .agg #[.int .i64 12, .int .i64 0, .int .i64 0, .int .i64 0], .bool false, .int .i64 0]) (by simp [results, Try.results40, asAddr, l4, l5]) rfl (HF.out _ _ _ hc9 (H.subm _))
set_option maxRecDepth 100000 in
set_option maxHeartbeats 8000000 in
theorem serve_4 {w0 w : World} {I : List It} (be bf bd br : Int) (es : List Ev) (e : Ev) (A : Option Addr) (n c m : Nat) (hl : es.length = n) (hb : (⟨4, be, bf, bd, br, es⟩ : BM).Ok m) (hm : m ≤ 149) (hc : n ≤ c) (he : e.check = 0) (hk : e.kind ≠ 4) (H : St w0 w I) [h : Has I (evIt A es)] :
    Calls Try.prog 40 #[.agg (bArr ⟨4, be, bf, bd, br, es⟩ A n c), e.val] w (SPost w0 I ((⟨4, be, bf, bd, br, es⟩ : BM).serve e)) := by
  have hn : n ≤ 150 := by have := hb.len; have : n ≤ m := hl ▸ this; omega
  replace hm : m ≤ 150 := by omega
  have HI := Lib.hid h
  have HB := Lib.hid hb
  have HL := Lib.hid hl
  have HS2 := Lib.hid hb.shape
  have CC := Lib.hid (fun W => ((check_any e.kind e.prod e.id e.body e.hep e.hno W).mono (fun ed w' h => (⟨by rw [h.1]; exact congrArg (fun z => Ending.returned (.int .i64 z)) he, h.2⟩ : ed = .returned (.int .i64 0) ∧ Below W.heap.size W w'))))
  have HE := Lib.hid he
  clear h hb hl he
  obtain ⟨e0, e1, e2, e3, e4, e5⟩ := e
  unfold Ev.val bArr
  dsimp only at CC hk ⊢
  have k1 : ((e0 : Int) == 4) = false := by simp; exact hk
  have k2 : decide ((e0 : Int) = 4) = false := by simp; exact hk
  clear hk
  have hR : (⟨4, be, bf, bd, br, es⟩ : BM).serve ⟨e0, e1, e2, e3, e4, e5⟩ = (⟨4, be, bf, bd, br, es⟩, ⟨7, 0, 0, 0⟩, false) := by
    (unfold BM.serve; dsimp only; repeat (first | rw [if_pos (by omega)] | rw [if_neg (by omega)]); try rfl)
  rw [hR]
  clear hR
  have HF := Lib.hid (fun W A' c' (h1 : n ≤ c') (h2 : St w0 W (evIt A' (es) :: I)) => (SPost.mk (r := (⟨4, be, bf, bd, br, es⟩, ⟨7, 0, 0, 0⟩, false)) HL.out h1 h2 : SPost w0 I (⟨4, be, bf, bd, br, es⟩, ⟨7, 0, 0, 0⟩, false) (.returned (.tuple #[.agg #[.int .i64 4, .int .i64 be, .int .i64 bf, .int .i64 bd, .int .i64 br, .slice A' (n) c'], .agg #[.int .i64 7, .int .i64 0, .int .i64 0, .int .i64 0], .bool false, .int .i64 0])) W))
  generalize SPost w0 I (⟨4, be, bf, bd, br, es⟩, ⟨7, 0, 0, 0⟩, false) = POST at *
  go_enter Try.func40, Try.ntmps40
  go_wp2_with (first | ((with_reducible refine here_box ?_); first | (refine wpList_box_st H rfl 58 _ rfl _ rfl ?_; clear H; intro gb wx H) | (refine wpList_box_st H rfl 44 _ rfl _ rfl ?_; clear H; intro gx wx H)) | (go_at_call 26; refine (CC.out _).mono ?_; rintro ed w9 ⟨rfl, hb9⟩; replace H := H.below hb9; clear hb9) | (go_at_call 41; have h := HI.out; refine (check_st ⟨4, be, bf, bd, br, es⟩ A n c m HL.out HB.out hm hc H).mono ?_; clear H h; rintro ed wy ⟨rfl, H⟩) | (go_at_call 58; refine (serving_st ⟨4, be, bf, bd, br, es⟩ A n c HS2.out H).mono ?_; clear H; rintro ed wy ⟨rfl, H⟩) | (go_at_call 45; have h := HI.out; refine (with_nil ⟨4, be, bf, bd, br, es⟩ A n c HL.out hn hc H).mono ?_; clear H h; rintro ed wy ⟨A9, c9, rfl, hc9, H⟩) | (first | ((with_reducible refine here_load ?_); first | refine ldR H rfl _ _ rfl rfl (by kernel_rfl) ?_ | refine ldS H rfl _ _ rfl rfl (by rfl) ?_ | refine ldSG H (by rfl) _ _ rfl rfl (by rfl) ?_ | refine ldRG H (by rfl) _ _ rfl rfl (by kernel_rfl) ?_) | ((with_reducible refine here_store ?_); first | (refine stR H rfl _ _ _ rfl rfl rfl (by rfl) (by rfl) (by kernel_rfl) ?_; clear H; intro wx H) | (refine stS H rfl _ _ _ rfl rfl _ rfl (by rfl) (by rfl) (by rfl) ?_; clear H; intro wx H)) | ((with_reducible refine here_alloc ?_); first | (refine wpList_alloc_st H rfl 37 rfl _ q_zero ?_; clear H; intro gq wx H) | (refine wpList_alloc_st H rfl 48 rfl _ ans_zero ?_; clear H; intro ga wx H) | (refine wpList_alloc_st H rfl 44 rfl _ ev_zero ?_; clear H; intro ge wx H) | (refine wpList_alloc_st H rfl 58 rfl _ ber_zero ?_; clear H; intro gr wx H)) | ((with_reducible refine here_box ?_); refine wpList_box_st H rfl _ _ rfl _ rfl ?_; clear H; intro gb wx H)))
  have l4 : (loadVar 58 ⟨gr, 0, none⟩).run Try.prog wx = .ok (.agg #[.int .i64 4, .int .i64 be, .int .i64 bf, .int .i64 bd, .int .i64 br, .slice A9 n c9]) wx := H.loadRow 58 gr row_Berth (P := Try.prog) (by kernel_rfl)
  have l5 : (loadVar 48 ⟨ga, 0, none⟩).run Try.prog wx = .ok (.agg #[.int .i64 7, .int .i64 0, .int .i64 0, .int .i64 0]) wx := H.loadRow 48 ga row_Answer (P := Try.prog) (by kernel_rfl)
  exact bodyPost_ret (v := .tuple #[.agg #[.int .i64 4, .int .i64 be, .int .i64 bf, .int .i64 bd, .int .i64 br, .slice A9 n c9], .agg #[.int .i64 7, .int .i64 0, .int .i64 0, .int .i64 0], .bool false, .int .i64 0]) (by simp [results, Try.results40, asAddr, l4, l5]) rfl (HF.out _ _ _ hc9 (H.subm _))
set_option maxRecDepth 100000 in
set_option maxHeartbeats 8000000 in
theorem serve_1 {w0 w : World} {I : List It} (be bf bd br : Int) (es : List Ev) (e : Ev) (A : Option Addr) (n c m : Nat) (hl : es.length = n) (hb : (⟨1, be, bf, bd, br, es⟩ : BM).Ok m) (hm : m ≤ 149) (hc : n ≤ c) (he : e.check = 0) (hk : e.kind ≠ 4) (H : St w0 w I) [h : Has I (evIt A es)] :
    Calls Try.prog 40 #[.agg (bArr ⟨1, be, bf, bd, br, es⟩ A n c), e.val] w (SPost w0 I ((⟨1, be, bf, bd, br, es⟩ : BM).serve e)) := by
  have hn : n ≤ 150 := by have := hb.len; have : n ≤ m := hl ▸ this; omega
  replace hm : m ≤ 150 := by omega
  have HI := Lib.hid h
  have HB := Lib.hid hb
  have HL := Lib.hid hl
  have HS2 := Lib.hid hb.shape
  have CC := Lib.hid (fun W => ((check_any e.kind e.prod e.id e.body e.hep e.hno W).mono (fun ed w' h => (⟨by rw [h.1]; exact congrArg (fun z => Ending.returned (.int .i64 z)) he, h.2⟩ : ed = .returned (.int .i64 0) ∧ Below W.heap.size W w'))))
  have HE := Lib.hid he
  clear h hb hl he
  obtain ⟨e0, e1, e2, e3, e4, e5⟩ := e
  unfold Ev.val bArr
  dsimp only at CC hk ⊢
  have k1 : ((e0 : Int) == 4) = false := by simp; exact hk
  have k2 : decide ((e0 : Int) = 4) = false := by simp; exact hk
  clear hk
  obtain ⟨hqi, hqr⟩ := HB.out.queue (m := 1) (by omega)
  have HR := Lib.hid (fun W J H h => replay_any (w0 := w0) (w := W) (I := J) (he := h) es A n c HL.out H HB.out.chk hn hc)
  have CD := Lib.hid (fun W J A1 c1 A2 c2 H h1 h2 k1 k2 => do_st (w0 := w0) (w := W) (I := J) (h1 := h1) (h2 := h2) (rq es) ⟨e0, e1, e2, e3, e4, e5⟩ (A1 := A1) (A2 := A2) (c1 := c1) (c2 := c2) H hqi hqr HE.out k1 k2)
  obtain ⟨rf0, hrf⟩ : ∃ x, rf es = x := ⟨_, rfl⟩
  rw [hrf] at HR
  have hR : (⟨1, be, bf, bd, br, es⟩ : BM).serve ⟨e0, e1, e2, e3, e4, e5⟩ = (if ((rq es).step ⟨e0, e1, e2, e3, e4, e5⟩).2.2 then ((⟨1, be, bf, bd, br, es ++ [⟨e0, e1, e2, e3, e4, e5⟩]⟩ : BM), ((rq es).step ⟨e0, e1, e2, e3, e4, e5⟩).2.1, true) else (⟨1, be, bf, bd, br, es⟩, ((rq es).step ⟨e0, e1, e2, e3, e4, e5⟩).2.1, false)) := by
    (unfold BM.serve; dsimp only; rw [if_neg (by omega), if_pos (by omega)])
  rw [hR]
  clear hR hqi hqr hrf
  generalize rq es = q at *
  generalize q.step ⟨e0, e1, e2, e3, e4, e5⟩ = st at *
  obtain ⟨q', ⟨a0, a1, a2, a3⟩, chg⟩ := st
  simp only [QA.val, ansV] at CD
  dsimp only at CD ⊢
  have hn2 : ¬ (1999 : Int) ≤ (n : Int) := by omega
  have hn3 : decide ((1999 : Int) ≤ (n : Int)) = false := decide_eq_false hn2
  cases chg
  · rw [if_neg (by decide)]
    have HF := Lib.hid (fun W A' c' (h1 : n ≤ c') (h2 : St w0 W (evIt A' (es) :: I)) => (SPost.mk (r := (⟨1, be, bf, bd, br, es⟩, ⟨a0, a1, a2, a3⟩, false)) HL.out h1 h2 : SPost w0 I (⟨1, be, bf, bd, br, es⟩, ⟨a0, a1, a2, a3⟩, false) (.returned (.tuple #[.agg #[.int .i64 1, .int .i64 be, .int .i64 bf, .int .i64 bd, .int .i64 br, .slice A' (n) c'], .agg #[.int .i64 a0, .int .i64 a1, .int .i64 a2, .int .i64 a3], .bool false, .int .i64 0])) W))
    generalize SPost w0 I (⟨1, be, bf, bd, br, es⟩, ⟨a0, a1, a2, a3⟩, false) = POST at *
    go_enter Try.func40, Try.ntmps40
    go_upto_region 14 with (first | ((with_reducible refine here_box ?_); first | (refine wpList_box_st H rfl 58 _ rfl _ rfl ?_; clear H; intro gb wx H) | (refine wpList_box_st H rfl 44 _ rfl _ rfl ?_; clear H; intro gx wx H)) | (go_at_call 26; refine (CC.out _).mono ?_; rintro ed w9 ⟨rfl, hb9⟩; replace H := H.below hb9; clear hb9) | (go_at_call 41; have h := HI.out; refine (check_st ⟨1, be, bf, bd, br, es⟩ A n c m HL.out HB.out hm hc H).mono ?_; clear H h; rintro ed wy ⟨rfl, H⟩) | (go_at_call 58; refine (serving_st ⟨1, be, bf, bd, br, es⟩ A n c HS2.out H).mono ?_; clear H; rintro ed wy ⟨rfl, H⟩) | (go_at_call 59; have h := HI.out; refine (HR.out _ _ H inferInstance).mono ?_; clear H h; rintro ed wy ⟨A1, c1, A2, c2, rfl, v1, v2, H⟩) | (first | ((with_reducible refine here_load ?_); first | refine ldR H rfl _ _ rfl rfl (by kernel_rfl) ?_ | refine ldS H rfl _ _ rfl rfl (by rfl) ?_ | refine ldSG H (by rfl) _ _ rfl rfl (by rfl) ?_ | refine ldRG H (by rfl) _ _ rfl rfl (by kernel_rfl) ?_) | ((with_reducible refine here_store ?_); first | (refine stR H rfl _ _ _ rfl rfl rfl (by rfl) (by rfl) (by kernel_rfl) ?_; clear H; intro wx H) | (refine stS H rfl _ _ _ rfl rfl _ rfl (by rfl) (by rfl) (by rfl) ?_; clear H; intro wx H)) | ((with_reducible refine here_alloc ?_); first | (refine wpList_alloc_st H rfl 37 rfl _ q_zero ?_; clear H; intro gq wx H) | (refine wpList_alloc_st H rfl 48 rfl _ ans_zero ?_; clear H; intro ga wx H) | (refine wpList_alloc_st H rfl 44 rfl _ ev_zero ?_; clear H; intro ge wx H) | (refine wpList_alloc_st H rfl 58 rfl _ ber_zero ?_; clear H; intro gr wx H)) | ((with_reducible refine here_box ?_); refine wpList_box_st H rfl _ _ rfl _ rfl ?_; clear H; intro gb wx H)))
    go_upto_region 16 with (first | (go_at_call 12; refine (CD.out _ _ _ _ _ _ H inferInstance inferInstance v1 v2).mono ?_; clear H; rintro ed wy ⟨G1, y1, G2, y2, rfl, u1, u2, H⟩) | (first | ((with_reducible refine here_load ?_); first | refine ldR H rfl _ _ rfl rfl (by kernel_rfl) ?_ | refine ldS H rfl _ _ rfl rfl (by rfl) ?_ | refine ldSG H (by rfl) _ _ rfl rfl (by rfl) ?_ | refine ldRG H (by rfl) _ _ rfl rfl (by kernel_rfl) ?_) | ((with_reducible refine here_store ?_); first | (refine stR H rfl _ _ _ rfl rfl rfl (by rfl) (by rfl) (by kernel_rfl) ?_; clear H; intro wx H) | (refine stS H rfl _ _ _ rfl rfl _ rfl (by rfl) (by rfl) (by rfl) ?_; clear H; intro wx H)) | ((with_reducible refine here_alloc ?_); first | (refine wpList_alloc_st H rfl 37 rfl _ q_zero ?_; clear H; intro gq2 wx H) | (refine wpList_alloc_st H rfl 48 rfl _ ans_zero ?_; clear H; intro ga2 wx H) | (refine wpList_alloc_st H rfl 44 rfl _ ev_zero ?_; clear H; intro ge2 wx H) | (refine wpList_alloc_st H rfl 58 rfl _ ber_zero ?_; clear H; intro gr2 wx H)) | ((with_reducible refine here_box ?_); refine wpList_box_st H rfl _ _ rfl _ rfl ?_; clear H; intro gb2 wx H)))
    (try simp only [Act.put])
    refine startS (H.subm (.bl gb 58 #[.int .i64 1, .int .i64 be, .int .i64 bf, .int .i64 bd, .int .i64 br, .slice A n c] :: .bl gx 44 #[.int .i64 e0, .int .i64 e1, .int .i64 e2, .int .i64 e3, .int .i64 e4, .int .i64 e5] :: .bl ga2 48 #[.int .i64 a0, .int .i64 a1, .int .i64 a2, .int .i64 a3] :: I)) (by kernel_rfl) (fun HS => ?_)
    replace H := H.drew
    refine takeRow_st (i := 0) 58 _ rfl rfl rfl row_Berth (by kernel_rfl) (by kernel_rfl) (by kernel_rfl) (by kernel_rfl) (fun _ _ _ _ h => h) (by rfl) HS ?_
    (try simp only [Act.put, List.setIfInBounds_toArray, List.set_cons_zero, List.set_cons_succ])
    refine takeRow_st (i := 2) 48 _ rfl rfl rfl row_Answer (by kernel_rfl) (by kernel_rfl) (by kernel_rfl) (by kernel_rfl) (fun _ _ _ _ h => h) (by rfl) HS ?_
    (try simp only [Act.put, List.setIfInBounds_toArray, List.set_cons_zero, List.set_cons_succ])
    refine branchH [1] (by kernel_rfl) (by kernel_rfl) (AllStep.cons ?_ AllStep.nil)
    refine stepH_do (i := 1) rfl (by rfl) ?_
    have h := HI.out
    refine wp_call_st rfl Try.func45 (by kernel_rfl) (by kernel_rfl) _ ?_ ((with_nil ⟨1, be, bf, bd, br, es⟩ A n c HL.out hn hc H).mono ?_)
    · rfl
    clear H h
    rintro ed wy ⟨A9, c9, rfl, hc9, H⟩
    replace HS := HS.of H
    refine ⟨_, rfl, HS, ?_⟩
    (try simp only [Act.put, List.setIfInBounds_toArray, List.set_cons_zero, List.set_cons_succ])
    refine branchH [3] (by kernel_rfl) (by kernel_rfl) (AllStep.cons ?_ AllStep.nil)
    refine stepH_do (i := 3) rfl (by rfl) ?_
    refine wp_store_st H 58 _ _ rfl rfl rfl (by kernel_rfl) (by rfl) (by kernel_rfl) ?_
    clear H
    intro wx H
    replace HS := HS.of H
    refine ⟨HS, ?_⟩
    (try simp only [Act.put])
    refine branchH [4] (by kernel_rfl) (by kernel_rfl) (AllStep.cons ?_ AllStep.nil)
    refine stepH_do (i := 4) rfl (by rfl) ?_
    refine wp_store_st H 48 _ _ rfl rfl rfl (by kernel_rfl) (by rfl) (by kernel_rfl) ?_
    clear H
    intro wx H
    replace HS := HS.of H
    refine ⟨HS, ?_⟩
    (try simp only [Act.put])
    refine takeV (i := 5) (v := ?_) rfl (by kernel_rfl) (by kernel_rfl) (by kernel_rfl) (fun _ _ _ h => h) (by rfl) ?_ HS ?_
    rotate_left
    · (intro W hW; go_simp; try with_reducible rfl)
    (try simp only [Act.put, List.setIfInBounds_toArray, List.set_cons_zero, List.set_cons_succ])
    refine takeV (i := 6) (v := ?_) rfl (by kernel_rfl) (by kernel_rfl) (by kernel_rfl) (fun _ _ _ h => h) (by rfl) ?_ HS ?_
    rotate_left
    · (intro W hW; go_simp; try with_reducible rfl)
    (try simp only [Act.put, List.setIfInBounds_toArray, List.set_cons_zero, List.set_cons_succ])
    refine doneH (by kernel_rfl) ?_
    go_wp2_with fail
    have l4 : (loadVar 58 ⟨gr, 0, none⟩).run Try.prog wx = .ok (.agg #[.int .i64 1, .int .i64 be, .int .i64 bf, .int .i64 bd, .int .i64 br, .slice A9 n c9]) wx := H.loadRow 58 gr row_Berth (P := Try.prog) (by kernel_rfl)
    have l5 : (loadVar 48 ⟨ga, 0, none⟩).run Try.prog wx = .ok (.agg #[.int .i64 a0, .int .i64 a1, .int .i64 a2, .int .i64 a3]) wx := H.loadRow 48 ga row_Answer (P := Try.prog) (by kernel_rfl)
    exact bodyPost_ret (v := .tuple #[.agg #[.int .i64 1, .int .i64 be, .int .i64 bf, .int .i64 bd, .int .i64 br, .slice A9 n c9], .agg #[.int .i64 a0, .int .i64 a1, .int .i64 a2, .int .i64 a3], .bool false, .int .i64 0]) (by simp [results, Try.results40, asAddr, l4, l5]) rfl (HF.out _ _ _ hc9 (H.subm _))
  · rw [if_pos rfl]
    have HF := Lib.hid (fun W A' c' (h1 : n + 1 ≤ c') (h2 : St w0 W (evIt A' (es ++ [⟨e0, e1, e2, e3, e4, e5⟩]) :: I)) => (SPost.mk (r := ((⟨1, be, bf, bd, br, es ++ [⟨e0, e1, e2, e3, e4, e5⟩]⟩ : BM), ⟨a0, a1, a2, a3⟩, true)) (by rw [List.length_append, HL.out]; rfl) h1 h2 : SPost w0 I ((⟨1, be, bf, bd, br, es ++ [⟨e0, e1, e2, e3, e4, e5⟩]⟩ : BM), ⟨a0, a1, a2, a3⟩, true) (.returned (.tuple #[.agg #[.int .i64 1, .int .i64 be, .int .i64 bf, .int .i64 bd, .int .i64 br, .slice A' (n + 1) c'], .agg #[.int .i64 a0, .int .i64 a1, .int .i64 a2, .int .i64 a3], .bool true, .int .i64 0])) W))
    generalize SPost w0 I ((⟨1, be, bf, bd, br, es ++ [⟨e0, e1, e2, e3, e4, e5⟩]⟩ : BM), ⟨a0, a1, a2, a3⟩, true) = POST at *
    go_enter Try.func40, Try.ntmps40
    go_upto_region 14 with (first | ((with_reducible refine here_box ?_); first | (refine wpList_box_st H rfl 58 _ rfl _ rfl ?_; clear H; intro gb wx H) | (refine wpList_box_st H rfl 44 _ rfl _ rfl ?_; clear H; intro gx wx H)) | (go_at_call 26; refine (CC.out _).mono ?_; rintro ed w9 ⟨rfl, hb9⟩; replace H := H.below hb9; clear hb9) | (go_at_call 41; have h := HI.out; refine (check_st ⟨1, be, bf, bd, br, es⟩ A n c m HL.out HB.out hm hc H).mono ?_; clear H h; rintro ed wy ⟨rfl, H⟩) | (go_at_call 58; refine (serving_st ⟨1, be, bf, bd, br, es⟩ A n c HS2.out H).mono ?_; clear H; rintro ed wy ⟨rfl, H⟩) | (go_at_call 59; have h := HI.out; refine (HR.out _ _ H inferInstance).mono ?_; clear H h; rintro ed wy ⟨A1, c1, A2, c2, rfl, v1, v2, H⟩) | (first | ((with_reducible refine here_load ?_); first | refine ldR H rfl _ _ rfl rfl (by kernel_rfl) ?_ | refine ldS H rfl _ _ rfl rfl (by rfl) ?_ | refine ldSG H (by rfl) _ _ rfl rfl (by rfl) ?_ | refine ldRG H (by rfl) _ _ rfl rfl (by kernel_rfl) ?_) | ((with_reducible refine here_store ?_); first | (refine stR H rfl _ _ _ rfl rfl rfl (by rfl) (by rfl) (by kernel_rfl) ?_; clear H; intro wx H) | (refine stS H rfl _ _ _ rfl rfl _ rfl (by rfl) (by rfl) (by rfl) ?_; clear H; intro wx H)) | ((with_reducible refine here_alloc ?_); first | (refine wpList_alloc_st H rfl 37 rfl _ q_zero ?_; clear H; intro gq wx H) | (refine wpList_alloc_st H rfl 48 rfl _ ans_zero ?_; clear H; intro ga wx H) | (refine wpList_alloc_st H rfl 44 rfl _ ev_zero ?_; clear H; intro ge wx H) | (refine wpList_alloc_st H rfl 58 rfl _ ber_zero ?_; clear H; intro gr wx H)) | ((with_reducible refine here_box ?_); refine wpList_box_st H rfl _ _ rfl _ rfl ?_; clear H; intro gb wx H)))
    go_upto_region 19 with (first | (go_at_call 12; refine (CD.out _ _ _ _ _ _ H inferInstance inferInstance v1 v2).mono ?_; clear H; rintro ed wy ⟨G1, y1, G2, y2, rfl, u1, u2, H⟩) | (first | ((with_reducible refine here_load ?_); first | refine ldR H rfl _ _ rfl rfl (by kernel_rfl) ?_ | refine ldS H rfl _ _ rfl rfl (by rfl) ?_ | refine ldSG H (by rfl) _ _ rfl rfl (by rfl) ?_ | refine ldRG H (by rfl) _ _ rfl rfl (by kernel_rfl) ?_) | ((with_reducible refine here_store ?_); first | (refine stR H rfl _ _ _ rfl rfl rfl (by rfl) (by rfl) (by kernel_rfl) ?_; clear H; intro wx H) | (refine stS H rfl _ _ _ rfl rfl _ rfl (by rfl) (by rfl) (by rfl) ?_; clear H; intro wx H)) | ((with_reducible refine here_alloc ?_); first | (refine wpList_alloc_st H rfl 37 rfl _ q_zero ?_; clear H; intro gq2 wx H) | (refine wpList_alloc_st H rfl 48 rfl _ ans_zero ?_; clear H; intro ga2 wx H) | (refine wpList_alloc_st H rfl 44 rfl _ ev_zero ?_; clear H; intro ge2 wx H) | (refine wpList_alloc_st H rfl 58 rfl _ ber_zero ?_; clear H; intro gr2 wx H)) | ((with_reducible refine here_box ?_); refine wpList_box_st H rfl _ _ rfl _ rfl ?_; clear H; intro gb2 wx H)))
    (try simp only [Act.put])
    refine startS (H.subm (.bl gb 58 #[.int .i64 1, .int .i64 be, .int .i64 bf, .int .i64 bd, .int .i64 br, .slice A n c] :: .bl gx 44 #[.int .i64 e0, .int .i64 e1, .int .i64 e2, .int .i64 e3, .int .i64 e4, .int .i64 e5] :: .bl ga2 48 #[.int .i64 a0, .int .i64 a1, .int .i64 a2, .int .i64 a3] :: I)) (by kernel_rfl) (fun HS => ?_)
    replace H := H.drew
    refine takeRow_st (i := 0) 58 _ rfl rfl rfl row_Berth (by kernel_rfl) (by kernel_rfl) (by kernel_rfl) (by kernel_rfl) (fun _ _ _ _ h => h) (by rfl) HS ?_
    (try simp only [Act.put, List.setIfInBounds_toArray, List.set_cons_zero, List.set_cons_succ])
    refine takeRow_st (i := 1) 44 _ rfl rfl rfl row_Event (by kernel_rfl) (by kernel_rfl) (by kernel_rfl) (by kernel_rfl) (fun _ _ _ _ h => h) (by rfl) HS ?_
    (try simp only [Act.put, List.setIfInBounds_toArray, List.set_cons_zero, List.set_cons_succ])
    refine takeRow_st (i := 4) 48 _ rfl rfl rfl row_Answer (by kernel_rfl) (by kernel_rfl) (by kernel_rfl) (by kernel_rfl) (fun _ _ _ _ h => h) (by rfl) HS ?_
    (try simp only [Act.put, List.setIfInBounds_toArray, List.set_cons_zero, List.set_cons_succ])
    refine branchH [2] (by kernel_rfl) (by kernel_rfl) (AllStep.cons ?_ AllStep.nil)
    refine stepH_do (i := 2) rfl (by rfl) ?_
    refine wp_buildSlice1_st H 23 _ rfl 44 Try.underlying23 _ rfl _ ev_info2 (by rfl) (by rfl) ?_
    clear H
    intro gs wx H
    replace H := H.oneEv
    replace HS := HS.of H
    refine ⟨HS, ?_⟩
    (try simp only [Act.put, List.setIfInBounds_toArray, List.set_cons_zero, List.set_cons_succ])
    refine branchH [3] (by kernel_rfl) (by kernel_rfl) (AllStep.cons ?_ AllStep.nil)
    refine stepH_do (i := 3) rfl (by rfl) ?_
    have h := HI.out
    refine wp_call_st rfl Try.func45 (by kernel_rfl) (by kernel_rfl) _ ?_ ((with_st ⟨1, be, bf, bd, br, es⟩ [⟨e0, e1, e2, e3, e4, e5⟩] A (some ⟨gs, 0, none⟩) n c 1 1 HL.out rfl hn (by omega) hc H).mono ?_)
    · rfl
    clear H h
    rintro ed wy ⟨A9, c9, rfl, hc9, H⟩
    replace HS := HS.of H
    refine ⟨_, rfl, HS, ?_⟩
    (try simp only [Act.put, List.setIfInBounds_toArray, List.set_cons_zero, List.set_cons_succ])
    refine branchH [5] (by kernel_rfl) (by kernel_rfl) (AllStep.cons ?_ AllStep.nil)
    refine stepH_do (i := 5) rfl (by rfl) ?_
    refine wp_store_st H 58 _ _ rfl rfl rfl (by kernel_rfl) (by rfl) (by kernel_rfl) ?_
    clear H
    intro wx H
    replace HS := HS.of H
    refine ⟨HS, ?_⟩
    (try simp only [Act.put])
    refine branchH [6] (by kernel_rfl) (by kernel_rfl) (AllStep.cons ?_ AllStep.nil)
    refine stepH_do (i := 6) rfl (by rfl) ?_
    refine wp_store_st H 48 _ _ rfl rfl rfl (by kernel_rfl) (by rfl) (by kernel_rfl) ?_
    clear H
    intro wx H
    replace HS := HS.of H
    refine ⟨HS, ?_⟩
    (try simp only [Act.put])
    refine takeV (i := 7) (v := ?_) rfl (by kernel_rfl) (by kernel_rfl) (by kernel_rfl) (fun _ _ _ h => h) (by rfl) ?_ HS ?_
    rotate_left
    · (intro W hW; go_simp; try with_reducible rfl)
    (try simp only [Act.put, List.setIfInBounds_toArray, List.set_cons_zero, List.set_cons_succ])
    refine takeV (i := 8) (v := ?_) rfl (by kernel_rfl) (by kernel_rfl) (by kernel_rfl) (fun _ _ _ h => h) (by rfl) ?_ HS ?_
    rotate_left
    · (intro W hW; go_simp; try with_reducible rfl)
    (try simp only [Act.put, List.setIfInBounds_toArray, List.set_cons_zero, List.set_cons_succ])
    refine doneH (by kernel_rfl) ?_
    go_wp2_with fail
    have l4 : (loadVar 58 ⟨gr, 0, none⟩).run Try.prog wx = .ok (.agg #[.int .i64 1, .int .i64 be, .int .i64 bf, .int .i64 bd, .int .i64 br, .slice A9 (n + 1) c9]) wx := H.loadRow 58 gr row_Berth (P := Try.prog) (by kernel_rfl)
    have l5 : (loadVar 48 ⟨ga, 0, none⟩).run Try.prog wx = .ok (.agg #[.int .i64 a0, .int .i64 a1, .int .i64 a2, .int .i64 a3]) wx := H.loadRow 48 ga row_Answer (P := Try.prog) (by kernel_rfl)
    exact bodyPost_ret (v := .tuple #[.agg #[.int .i64 1, .int .i64 be, .int .i64 bf, .int .i64 bd, .int .i64 br, .slice A9 (n + 1) c9], .agg #[.int .i64 a0, .int .i64 a1, .int .i64 a2, .int .i64 a3], .bool true, .int .i64 0]) (by simp [results, Try.results40, asAddr, l4, l5]) rfl (HF.out _ _ _ hc9 (H.subm _))
set_option maxRecDepth 100000 in
set_option maxHeartbeats 8000000 in
theorem serve_2 {w0 w : World} {I : List It} (be bf bd br : Int) (es : List Ev) (e : Ev) (A : Option Addr) (n c m : Nat) (hl : es.length = n) (hb : (⟨2, be, bf, bd, br, es⟩ : BM).Ok m) (hm : m ≤ 149) (hc : n ≤ c) (he : e.check = 0) (hk : e.kind ≠ 4) (H : St w0 w I) [h : Has I (evIt A es)] :
    Calls Try.prog 40 #[.agg (bArr ⟨2, be, bf, bd, br, es⟩ A n c), e.val] w (SPost w0 I ((⟨2, be, bf, bd, br, es⟩ : BM).serve e)) := by
  have hn : n ≤ 150 := by have := hb.len; have : n ≤ m := hl ▸ this; omega
  replace hm : m ≤ 150 := by omega
  have HI := Lib.hid h
  have HB := Lib.hid hb
  have HL := Lib.hid hl
  have HS2 := Lib.hid hb.shape
  have CC := Lib.hid (fun W => ((check_any e.kind e.prod e.id e.body e.hep e.hno W).mono (fun ed w' h => (⟨by rw [h.1]; exact congrArg (fun z => Ending.returned (.int .i64 z)) he, h.2⟩ : ed = .returned (.int .i64 0) ∧ Below W.heap.size W w'))))
  have HE := Lib.hid he
  clear h hb hl he
  obtain ⟨e0, e1, e2, e3, e4, e5⟩ := e
  unfold Ev.val bArr
  dsimp only at CC hk ⊢
  have k1 : ((e0 : Int) == 4) = false := by simp; exact hk
  have k2 : decide ((e0 : Int) = 4) = false := by simp; exact hk
  clear hk
  obtain ⟨hqi, hqr⟩ := HB.out.queue (m := 1) (by omega)
  have HR := Lib.hid (fun W J H h => replay_any (w0 := w0) (w := W) (I := J) (he := h) es A n c HL.out H HB.out.chk hn hc)
  have CD := Lib.hid (fun W J A1 c1 A2 c2 H h1 h2 k1 k2 => do_st (w0 := w0) (w := W) (I := J) (h1 := h1) (h2 := h2) (rq es) ⟨e0, e1, e2, e3, e4, e5⟩ (A1 := A1) (A2 := A2) (c1 := c1) (c2 := c2) H hqi hqr HE.out k1 k2)
  obtain ⟨rf0, hrf⟩ : ∃ x, rf es = x := ⟨_, rfl⟩
  rw [hrf] at HR
  have hR : (⟨2, be, bf, bd, br, es⟩ : BM).serve ⟨e0, e1, e2, e3, e4, e5⟩ = (if ((rq es).step ⟨e0, e1, e2, e3, e4, e5⟩).2.2 then ((⟨2, be, bf, bd, br, es ++ [⟨e0, e1, e2, e3, e4, e5⟩]⟩ : BM), ((rq es).step ⟨e0, e1, e2, e3, e4, e5⟩).2.1, true) else (⟨2, be, bf, bd, br, es⟩, ((rq es).step ⟨e0, e1, e2, e3, e4, e5⟩).2.1, false)) := by
    (unfold BM.serve; dsimp only; rw [if_neg (by omega), if_pos (by omega)])
  rw [hR]
  clear hR hqi hqr hrf
  generalize rq es = q at *
  generalize q.step ⟨e0, e1, e2, e3, e4, e5⟩ = st at *
  obtain ⟨q', ⟨a0, a1, a2, a3⟩, chg⟩ := st
  simp only [QA.val, ansV] at CD
  dsimp only at CD ⊢
  have hn2 : ¬ (1999 : Int) ≤ (n : Int) := by omega
  have hn3 : decide ((1999 : Int) ≤ (n : Int)) = false := decide_eq_false hn2
  cases chg
  · rw [if_neg (by decide)]
    have HF := Lib.hid (fun W A' c' (h1 : n ≤ c') (h2 : St w0 W (evIt A' (es) :: I)) => (SPost.mk (r := (⟨2, be, bf, bd, br, es⟩, ⟨a0, a1, a2, a3⟩, false)) HL.out h1 h2 : SPost w0 I (⟨2, be, bf, bd, br, es⟩, ⟨a0, a1, a2, a3⟩, false) (.returned (.tuple #[.agg #[.int .i64 2, .int .i64 be, .int .i64 bf, .int .i64 bd, .int .i64 br, .slice A' (n) c'], .agg #[.int .i64 a0, .int .i64 a1, .int .i64 a2, .int .i64 a3], .bool false, .int .i64 0])) W))
    generalize SPost w0 I (⟨2, be, bf, bd, br, es⟩, ⟨a0, a1, a2, a3⟩, false) = POST at *
    go_enter Try.func40, Try.ntmps40
    go_upto_region 14 with (first | ((with_reducible refine here_box ?_); first | (refine wpList_box_st H rfl 58 _ rfl _ rfl ?_; clear H; intro gb wx H) | (refine wpList_box_st H rfl 44 _ rfl _ rfl ?_; clear H; intro gx wx H)) | (go_at_call 26; refine (CC.out _).mono ?_; rintro ed w9 ⟨rfl, hb9⟩; replace H := H.below hb9; clear hb9) | (go_at_call 41; have h := HI.out; refine (check_st ⟨2, be, bf, bd, br, es⟩ A n c m HL.out HB.out hm hc H).mono ?_; clear H h; rintro ed wy ⟨rfl, H⟩) | (go_at_call 58; refine (serving_st ⟨2, be, bf, bd, br, es⟩ A n c HS2.out H).mono ?_; clear H; rintro ed wy ⟨rfl, H⟩) | (go_at_call 59; have h := HI.out; refine (HR.out _ _ H inferInstance).mono ?_; clear H h; rintro ed wy ⟨A1, c1, A2, c2, rfl, v1, v2, H⟩) | (first | ((with_reducible refine here_load ?_); first | refine ldR H rfl _ _ rfl rfl (by kernel_rfl) ?_ | refine ldS H rfl _ _ rfl rfl (by rfl) ?_ | refine ldSG H (by rfl) _ _ rfl rfl (by rfl) ?_ | refine ldRG H (by rfl) _ _ rfl rfl (by kernel_rfl) ?_) | ((with_reducible refine here_store ?_); first | (refine stR H rfl _ _ _ rfl rfl rfl (by rfl) (by rfl) (by kernel_rfl) ?_; clear H; intro wx H) | (refine stS H rfl _ _ _ rfl rfl _ rfl (by rfl) (by rfl) (by rfl) ?_; clear H; intro wx H)) | ((with_reducible refine here_alloc ?_); first | (refine wpList_alloc_st H rfl 37 rfl _ q_zero ?_; clear H; intro gq wx H) | (refine wpList_alloc_st H rfl 48 rfl _ ans_zero ?_; clear H; intro ga wx H) | (refine wpList_alloc_st H rfl 44 rfl _ ev_zero ?_; clear H; intro ge wx H) | (refine wpList_alloc_st H rfl 58 rfl _ ber_zero ?_; clear H; intro gr wx H)) | ((with_reducible refine here_box ?_); refine wpList_box_st H rfl _ _ rfl _ rfl ?_; clear H; intro gb wx H)))
    go_upto_region 16 with (first | (go_at_call 12; refine (CD.out _ _ _ _ _ _ H inferInstance inferInstance v1 v2).mono ?_; clear H; rintro ed wy ⟨G1, y1, G2, y2, rfl, u1, u2, H⟩) | (first | ((with_reducible refine here_load ?_); first | refine ldR H rfl _ _ rfl rfl (by kernel_rfl) ?_ | refine ldS H rfl _ _ rfl rfl (by rfl) ?_ | refine ldSG H (by rfl) _ _ rfl rfl (by rfl) ?_ | refine ldRG H (by rfl) _ _ rfl rfl (by kernel_rfl) ?_) | ((with_reducible refine here_store ?_); first | (refine stR H rfl _ _ _ rfl rfl rfl (by rfl) (by rfl) (by kernel_rfl) ?_; clear H; intro wx H) | (refine stS H rfl _ _ _ rfl rfl _ rfl (by rfl) (by rfl) (by rfl) ?_; clear H; intro wx H)) | ((with_reducible refine here_alloc ?_); first | (refine wpList_alloc_st H rfl 37 rfl _ q_zero ?_; clear H; intro gq2 wx H) | (refine wpList_alloc_st H rfl 48 rfl _ ans_zero ?_; clear H; intro ga2 wx H) | (refine wpList_alloc_st H rfl 44 rfl _ ev_zero ?_; clear H; intro ge2 wx H) | (refine wpList_alloc_st H rfl 58 rfl _ ber_zero ?_; clear H; intro gr2 wx H)) | ((with_reducible refine here_box ?_); refine wpList_box_st H rfl _ _ rfl _ rfl ?_; clear H; intro gb2 wx H)))
    (try simp only [Act.put])
    refine startS (H.subm (.bl gb 58 #[.int .i64 2, .int .i64 be, .int .i64 bf, .int .i64 bd, .int .i64 br, .slice A n c] :: .bl gx 44 #[.int .i64 e0, .int .i64 e1, .int .i64 e2, .int .i64 e3, .int .i64 e4, .int .i64 e5] :: .bl ga2 48 #[.int .i64 a0, .int .i64 a1, .int .i64 a2, .int .i64 a3] :: I)) (by kernel_rfl) (fun HS => ?_)
    replace H := H.drew
    refine takeRow_st (i := 0) 58 _ rfl rfl rfl row_Berth (by kernel_rfl) (by kernel_rfl) (by kernel_rfl) (by kernel_rfl) (fun _ _ _ _ h => h) (by rfl) HS ?_
    (try simp only [Act.put, List.setIfInBounds_toArray, List.set_cons_zero, List.set_cons_succ])
    refine takeRow_st (i := 2) 48 _ rfl rfl rfl row_Answer (by kernel_rfl) (by kernel_rfl) (by kernel_rfl) (by kernel_rfl) (fun _ _ _ _ h => h) (by rfl) HS ?_
    (try simp only [Act.put, List.setIfInBounds_toArray, List.set_cons_zero, List.set_cons_succ])
    refine branchH [1] (by kernel_rfl) (by kernel_rfl) (AllStep.cons ?_ AllStep.nil)
    refine stepH_do (i := 1) rfl (by rfl) ?_
    have h := HI.out
    refine wp_call_st rfl Try.func45 (by kernel_rfl) (by kernel_rfl) _ ?_ ((with_nil ⟨2, be, bf, bd, br, es⟩ A n c HL.out hn hc H).mono ?_)
    · rfl
    clear H h
    rintro ed wy ⟨A9, c9, rfl, hc9, H⟩
    replace HS := HS.of H
    refine ⟨_, rfl, HS, ?_⟩
    (try simp only [Act.put, List.setIfInBounds_toArray, List.set_cons_zero, List.set_cons_succ])
    refine branchH [3] (by kernel_rfl) (by kernel_rfl) (AllStep.cons ?_ AllStep.nil)
    refine stepH_do (i := 3) rfl (by rfl) ?_
    refine wp_store_st H 58 _ _ rfl rfl rfl (by kernel_rfl) (by rfl) (by kernel_rfl) ?_
    clear H
    intro wx H
    replace HS := HS.of H
    refine ⟨HS, ?_⟩
    (try simp only [Act.put])
    refine branchH [4] (by kernel_rfl) (by kernel_rfl) (AllStep.cons ?_ AllStep.nil)
    refine stepH_do (i := 4) rfl (by rfl) ?_
    refine wp_store_st H 48 _ _ rfl rfl rfl (by kernel_rfl) (by rfl) (by kernel_rfl) ?_
    clear H
    intro wx H
    replace HS := HS.of H
    refine ⟨HS, ?_⟩
    (try simp only [Act.put])
    refine takeV (i := 5) (v := ?_) rfl (by kernel_rfl) (by kernel_rfl) (by kernel_rfl) (fun _ _ _ h => h) (by rfl) ?_ HS ?_
    rotate_left
    · (intro W hW; go_simp; try with_reducible rfl)
    (try simp only [Act.put, List.setIfInBounds_toArray, List.set_cons_zero, List.set_cons_succ])
    refine takeV (i := 6) (v := ?_) rfl (by kernel_rfl) (by kernel_rfl) (by kernel_rfl) (fun _ _ _ h => h) (by rfl) ?_ HS ?_
    rotate_left
    · (intro W hW; go_simp; try with_reducible rfl)
    (try simp only [Act.put, List.setIfInBounds_toArray, List.set_cons_zero, List.set_cons_succ])
    refine doneH (by kernel_rfl) ?_
    go_wp2_with fail
    have l4 : (loadVar 58 ⟨gr, 0, none⟩).run Try.prog wx = .ok (.agg #[.int .i64 2, .int .i64 be, .int .i64 bf, .int .i64 bd, .int .i64 br, .slice A9 n c9]) wx := H.loadRow 58 gr row_Berth (P := Try.prog) (by kernel_rfl)
    have l5 : (loadVar 48 ⟨ga, 0, none⟩).run Try.prog wx = .ok (.agg #[.int .i64 a0, .int .i64 a1, .int .i64 a2, .int .i64 a3]) wx := H.loadRow 48 ga row_Answer (P := Try.prog) (by kernel_rfl)
    exact bodyPost_ret (v := .tuple #[.agg #[.int .i64 2, .int .i64 be, .int .i64 bf, .int .i64 bd, .int .i64 br, .slice A9 n c9], .agg #[.int .i64 a0, .int .i64 a1, .int .i64 a2, .int .i64 a3], .bool false, .int .i64 0]) (by simp [results, Try.results40, asAddr, l4, l5]) rfl (HF.out _ _ _ hc9 (H.subm _))
  · rw [if_pos rfl]
    have HF := Lib.hid (fun W A' c' (h1 : n + 1 ≤ c') (h2 : St w0 W (evIt A' (es ++ [⟨e0, e1, e2, e3, e4, e5⟩]) :: I)) => (SPost.mk (r := ((⟨2, be, bf, bd, br, es ++ [⟨e0, e1, e2, e3, e4, e5⟩]⟩ : BM), ⟨a0, a1, a2, a3⟩, true)) (by rw [List.length_append, HL.out]; rfl) h1 h2 : SPost w0 I ((⟨2, be, bf, bd, br, es ++ [⟨e0, e1, e2, e3, e4, e5⟩]⟩ : BM), ⟨a0, a1, a2, a3⟩, true) (.returned (.tuple #[.agg #[.int .i64 2, .int .i64 be, .int .i64 bf, .int .i64 bd, .int .i64 br, .slice A' (n + 1) c'], .agg #[.int .i64 a0, .int .i64 a1, .int .i64 a2, .int .i64 a3], .bool true, .int .i64 0])) W))
    generalize SPost w0 I ((⟨2, be, bf, bd, br, es ++ [⟨e0, e1, e2, e3, e4, e5⟩]⟩ : BM), ⟨a0, a1, a2, a3⟩, true) = POST at *
    go_enter Try.func40, Try.ntmps40
    go_upto_region 14 with (first | ((with_reducible refine here_box ?_); first | (refine wpList_box_st H rfl 58 _ rfl _ rfl ?_; clear H; intro gb wx H) | (refine wpList_box_st H rfl 44 _ rfl _ rfl ?_; clear H; intro gx wx H)) | (go_at_call 26; refine (CC.out _).mono ?_; rintro ed w9 ⟨rfl, hb9⟩; replace H := H.below hb9; clear hb9) | (go_at_call 41; have h := HI.out; refine (check_st ⟨2, be, bf, bd, br, es⟩ A n c m HL.out HB.out hm hc H).mono ?_; clear H h; rintro ed wy ⟨rfl, H⟩) | (go_at_call 58; refine (serving_st ⟨2, be, bf, bd, br, es⟩ A n c HS2.out H).mono ?_; clear H; rintro ed wy ⟨rfl, H⟩) | (go_at_call 59; have h := HI.out; refine (HR.out _ _ H inferInstance).mono ?_; clear H h; rintro ed wy ⟨A1, c1, A2, c2, rfl, v1, v2, H⟩) | (first | ((with_reducible refine here_load ?_); first | refine ldR H rfl _ _ rfl rfl (by kernel_rfl) ?_ | refine ldS H rfl _ _ rfl rfl (by rfl) ?_ | refine ldSG H (by rfl) _ _ rfl rfl (by rfl) ?_ | refine ldRG H (by rfl) _ _ rfl rfl (by kernel_rfl) ?_) | ((with_reducible refine here_store ?_); first | (refine stR H rfl _ _ _ rfl rfl rfl (by rfl) (by rfl) (by kernel_rfl) ?_; clear H; intro wx H) | (refine stS H rfl _ _ _ rfl rfl _ rfl (by rfl) (by rfl) (by rfl) ?_; clear H; intro wx H)) | ((with_reducible refine here_alloc ?_); first | (refine wpList_alloc_st H rfl 37 rfl _ q_zero ?_; clear H; intro gq wx H) | (refine wpList_alloc_st H rfl 48 rfl _ ans_zero ?_; clear H; intro ga wx H) | (refine wpList_alloc_st H rfl 44 rfl _ ev_zero ?_; clear H; intro ge wx H) | (refine wpList_alloc_st H rfl 58 rfl _ ber_zero ?_; clear H; intro gr wx H)) | ((with_reducible refine here_box ?_); refine wpList_box_st H rfl _ _ rfl _ rfl ?_; clear H; intro gb wx H)))
    go_upto_region 19 with (first | (go_at_call 12; refine (CD.out _ _ _ _ _ _ H inferInstance inferInstance v1 v2).mono ?_; clear H; rintro ed wy ⟨G1, y1, G2, y2, rfl, u1, u2, H⟩) | (first | ((with_reducible refine here_load ?_); first | refine ldR H rfl _ _ rfl rfl (by kernel_rfl) ?_ | refine ldS H rfl _ _ rfl rfl (by rfl) ?_ | refine ldSG H (by rfl) _ _ rfl rfl (by rfl) ?_ | refine ldRG H (by rfl) _ _ rfl rfl (by kernel_rfl) ?_) | ((with_reducible refine here_store ?_); first | (refine stR H rfl _ _ _ rfl rfl rfl (by rfl) (by rfl) (by kernel_rfl) ?_; clear H; intro wx H) | (refine stS H rfl _ _ _ rfl rfl _ rfl (by rfl) (by rfl) (by rfl) ?_; clear H; intro wx H)) | ((with_reducible refine here_alloc ?_); first | (refine wpList_alloc_st H rfl 37 rfl _ q_zero ?_; clear H; intro gq2 wx H) | (refine wpList_alloc_st H rfl 48 rfl _ ans_zero ?_; clear H; intro ga2 wx H) | (refine wpList_alloc_st H rfl 44 rfl _ ev_zero ?_; clear H; intro ge2 wx H) | (refine wpList_alloc_st H rfl 58 rfl _ ber_zero ?_; clear H; intro gr2 wx H)) | ((with_reducible refine here_box ?_); refine wpList_box_st H rfl _ _ rfl _ rfl ?_; clear H; intro gb2 wx H)))
    (try simp only [Act.put])
    refine startS (H.subm (.bl gb 58 #[.int .i64 2, .int .i64 be, .int .i64 bf, .int .i64 bd, .int .i64 br, .slice A n c] :: .bl gx 44 #[.int .i64 e0, .int .i64 e1, .int .i64 e2, .int .i64 e3, .int .i64 e4, .int .i64 e5] :: .bl ga2 48 #[.int .i64 a0, .int .i64 a1, .int .i64 a2, .int .i64 a3] :: I)) (by kernel_rfl) (fun HS => ?_)
    replace H := H.drew
    refine takeRow_st (i := 0) 58 _ rfl rfl rfl row_Berth (by kernel_rfl) (by kernel_rfl) (by kernel_rfl) (by kernel_rfl) (fun _ _ _ _ h => h) (by rfl) HS ?_
    (try simp only [Act.put, List.setIfInBounds_toArray, List.set_cons_zero, List.set_cons_succ])
    refine takeRow_st (i := 1) 44 _ rfl rfl rfl row_Event (by kernel_rfl) (by kernel_rfl) (by kernel_rfl) (by kernel_rfl) (fun _ _ _ _ h => h) (by rfl) HS ?_
    (try simp only [Act.put, List.setIfInBounds_toArray, List.set_cons_zero, List.set_cons_succ])
    refine takeRow_st (i := 4) 48 _ rfl rfl rfl row_Answer (by kernel_rfl) (by kernel_rfl) (by kernel_rfl) (by kernel_rfl) (fun _ _ _ _ h => h) (by rfl) HS ?_
    (try simp only [Act.put, List.setIfInBounds_toArray, List.set_cons_zero, List.set_cons_succ])
    refine branchH [2] (by kernel_rfl) (by kernel_rfl) (AllStep.cons ?_ AllStep.nil)
    refine stepH_do (i := 2) rfl (by rfl) ?_
    refine wp_buildSlice1_st H 23 _ rfl 44 Try.underlying23 _ rfl _ ev_info2 (by rfl) (by rfl) ?_
    clear H
    intro gs wx H
    replace H := H.oneEv
    replace HS := HS.of H
    refine ⟨HS, ?_⟩
    (try simp only [Act.put, List.setIfInBounds_toArray, List.set_cons_zero, List.set_cons_succ])
    refine branchH [3] (by kernel_rfl) (by kernel_rfl) (AllStep.cons ?_ AllStep.nil)
    refine stepH_do (i := 3) rfl (by rfl) ?_
    have h := HI.out
    refine wp_call_st rfl Try.func45 (by kernel_rfl) (by kernel_rfl) _ ?_ ((with_st ⟨2, be, bf, bd, br, es⟩ [⟨e0, e1, e2, e3, e4, e5⟩] A (some ⟨gs, 0, none⟩) n c 1 1 HL.out rfl hn (by omega) hc H).mono ?_)
    · rfl
    clear H h
    rintro ed wy ⟨A9, c9, rfl, hc9, H⟩
    replace HS := HS.of H
    refine ⟨_, rfl, HS, ?_⟩
    (try simp only [Act.put, List.setIfInBounds_toArray, List.set_cons_zero, List.set_cons_succ])
    refine branchH [5] (by kernel_rfl) (by kernel_rfl) (AllStep.cons ?_ AllStep.nil)
    refine stepH_do (i := 5) rfl (by rfl) ?_
    refine wp_store_st H 58 _ _ rfl rfl rfl (by kernel_rfl) (by rfl) (by kernel_rfl) ?_
    clear H
    intro wx H
    replace HS := HS.of H
    refine ⟨HS, ?_⟩
    (try simp only [Act.put])
    refine branchH [6] (by kernel_rfl) (by kernel_rfl) (AllStep.cons ?_ AllStep.nil)
    refine stepH_do (i := 6) rfl (by rfl) ?_
    refine wp_store_st H 48 _ _ rfl rfl rfl (by kernel_rfl) (by rfl) (by kernel_rfl) ?_
    clear H
    intro wx H
    replace HS := HS.of H
    refine ⟨HS, ?_⟩
    (try simp only [Act.put])
    refine takeV (i := 7) (v := ?_) rfl (by kernel_rfl) (by kernel_rfl) (by kernel_rfl) (fun _ _ _ h => h) (by rfl) ?_ HS ?_
    rotate_left
    · (intro W hW; go_simp; try with_reducible rfl)
    (try simp only [Act.put, List.setIfInBounds_toArray, List.set_cons_zero, List.set_cons_succ])
    refine takeV (i := 8) (v := ?_) rfl (by kernel_rfl) (by kernel_rfl) (by kernel_rfl) (fun _ _ _ h => h) (by rfl) ?_ HS ?_
    rotate_left
    · (intro W hW; go_simp; try with_reducible rfl)
    (try simp only [Act.put, List.setIfInBounds_toArray, List.set_cons_zero, List.set_cons_succ])
    refine doneH (by kernel_rfl) ?_
    go_wp2_with fail
    have l4 : (loadVar 58 ⟨gr, 0, none⟩).run Try.prog wx = .ok (.agg #[.int .i64 2, .int .i64 be, .int .i64 bf, .int .i64 bd, .int .i64 br, .slice A9 (n + 1) c9]) wx := H.loadRow 58 gr row_Berth (P := Try.prog) (by kernel_rfl)
    have l5 : (loadVar 48 ⟨ga, 0, none⟩).run Try.prog wx = .ok (.agg #[.int .i64 a0, .int .i64 a1, .int .i64 a2, .int .i64 a3]) wx := H.loadRow 48 ga row_Answer (P := Try.prog) (by kernel_rfl)
    exact bodyPost_ret (v := .tuple #[.agg #[.int .i64 2, .int .i64 be, .int .i64 bf, .int .i64 bd, .int .i64 br, .slice A9 (n + 1) c9], .agg #[.int .i64 a0, .int .i64 a1, .int .i64 a2, .int .i64 a3], .bool true, .int .i64 0]) (by simp [results, Try.results40, asAddr, l4, l5]) rfl (HF.out _ _ _ hc9 (H.subm _))
theorem serve_st {w0 w : World} {I : List It} (b : BM) (e : Ev) (A : Option Addr) (n c m : Nat) (hl : b.es.length = n) (hb : b.Ok m) (hm : m ≤ 149) (hc : n ≤ c) (he : e.check = 0) (hk : e.kind ≠ 4) (H : St w0 w I) [h : Has I (evIt A b.es)] :
    Calls Try.prog 40 #[.agg (bArr b A n c), e.val] w (SPost w0 I (b.serve e)) := by
  obtain ⟨r, be, bf, bd, br, es⟩ := b
  have HS := hb.shape
  unfold BM.Shape at HS
  dsimp only at HS hl
  have HR : r = 0 ∨ r = 1 ∨ r = 2 ∨ r = 3 ∨ r = 4 := by omega
  clear HS
  rcases HR with rfl | rfl | rfl | rfl | rfl
  · exact serve_0 be bf bd br es e A n c m hl hb hm hc he hk H
  · exact serve_1 be bf bd br es e A n c m hl hb hm hc he hk H
  · exact serve_2 be bf bd br es e A n c m hl hb hm hc he hk H
  · exact serve_3 be bf bd br es e A n c m hl hb hm hc he hk H
  · exact serve_4 be bf bd br es e A n c m hl hb hm hc he hk H

end Go.Proofs.Ytjmncbfmjeeneaa
