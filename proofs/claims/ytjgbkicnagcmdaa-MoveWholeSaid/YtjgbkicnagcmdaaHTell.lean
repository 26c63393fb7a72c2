/- Histories: tell, Replay, Answers. -/
import Derived.Test.YtjgbkicnagcmdaaHAdd
namespace Go.Proofs.Ytjgbkicnagcmdaa
open Go.RowKit

/-- a history, told: the queue and the answers; none: some event changes nothing -/
def tells : List Ev → QM → List QA → Option (QM × List QA)
  | [], q, la => some (q, la)
  | e :: es, q, la => if (q.step e).2.2 then tells es (q.step e).1 (la ++ [(q.step e).2.1]) else none
theorem tells_snoc (e : Ev) : ∀ (es : List Ev) (q : QM) (la : List QA), tells (es ++ [e]) q la = (tells es q la).bind fun r => tells [e] r.1 r.2
  | [], _, _ => rfl
  | x :: es, q, la => by
    simp only [List.cons_append, tells]
    split
    · exact tells_snoc e es _ _
    · rfl
theorem tells_none (e : Ev) : ∀ (es fs : List Ev) (q : QM) (la : List QA), tells es q la = none → tells (es ++ fs) q la = none
  | [], _, _, _, h => by cases h
  | x :: es, fs, q, la, h => by
    simp only [List.cons_append, tells] at h ⊢
    split
    · next hc => rw [if_pos hc] at h; exact tells_none e es fs _ _ h
    · rfl
theorem take_ev (es : List Ev) (i : Nat) (hi : i < es.length) : es.take (i + 1) = es.take i ++ [es.getD i .zero0] := by
  rw [List.take_add_one, List.getElem?_eq_getElem hi]
  simp [List.getD, List.getElem?_eq_getElem hi]
def TellPost (w0 : World) (I : List It) (es : List Ev) (ed : Ending) (w' : World) : Prop :=
  (∀ q la, tells es QM.zero [] = some (q, la) → ∃ g, ed = .returned (.tuple #[.pointer (some ⟨g, 0, none⟩), .int .i64 0]) ∧ TIs w0 w' I g q la) ∧
  (tells es QM.zero [] = none → ed = .returned (.tuple #[.pointer none, .int .i64 3]) ∧ St w0 w' I)

set_option maxRecDepth 100000 in
set_option maxHeartbeats 8000000 in
theorem tell_st {w0 w : World} {I : List It} (es : List Ev) (A : Option Addr) (c : Nat) (H : St w0 w I) [he : Has I (evIt A es)] (hck : ∀ e ∈ es, e.check = 0) (hn : es.length ≤ 150) (hc : es.length ≤ c) :
    Calls Try.prog 36 #[.slice A es.length c] w (TellPost w0 I es) := by
  have HCK := Lib.hid hck
  have HE := Lib.hid he
  have HY := Lib.hid (show ∀ W g q la, tells es QM.zero [] = some (q, la) → TIs w0 W I g q la → TellPost w0 I es (.returned (.tuple #[.pointer (some ⟨g, 0, none⟩), .int .i64 0])) W from
    fun W g q la h1 h2 => ⟨fun q' la' h => (by rw [h1] at h; cases h; exact ⟨g, rfl, h2⟩), fun h => (by rw [h1] at h; cases h)⟩)
  have HF := Lib.hid (show ∀ W, tells es QM.zero [] = none → St w0 W I → TellPost w0 I es (.returned (.tuple #[.pointer none, .int .i64 3])) W from
    fun W h1 h2 => ⟨fun q' la' h => (by rw [h1] at h; cases h), fun _ => ⟨rfl, h2⟩⟩)
  generalize TellPost w0 I es = POST at *
  obtain ⟨n, hn'⟩ : ∃ n, es.length = n := ⟨_, rfl⟩
  have HN := Lib.hid hn'
  rw [hn'] at hn hc ⊢
  have hn2 : ¬ (2000 : Int) < (n : Int) := by omega
  clear hck he hn'
  go_enter Try.func36, Try.ntmps36
  go_upto_region 5 with (first
    | ((with_reducible refine here_load ?_); first | (refine wpList_load_st H rfl 46 _ rfl rfl row_Queue (by kernel_rfl) ?_) | (refine wpList_load_st H rfl 50 _ rfl rfl row_Answer (by kernel_rfl) ?_) | (refine wpList_load_st H rfl 37 _ rfl rfl row_Event (by kernel_rfl) ?_) | (refine wpList_load1_st H rfl 3 _ rfl rfl sc_int (by rfl) ?_) | (refine wpList_load1_stG H (by rfl) 3 _ rfl rfl sc_int (by rfl) ?_) | (refine wpList_load1_st H rfl 4 _ rfl rfl sc_bool (by rfl) ?_) | (refine wpList_load1_stG H (by rfl) 4 _ rfl rfl sc_bool (by rfl) ?_) | (refine wpList_load1_st H rfl 30 _ rfl rfl sc_Errno (by rfl) ?_) | (refine wpList_load1_stG H (by rfl) 30 _ rfl rfl sc_Errno (by rfl) ?_) | (refine wpList_load1_st H rfl 39 _ rfl rfl sc_Msgs (by rfl) ?_) | (refine wpList_load1_stG H (by rfl) 39 _ rfl rfl sc_Msgs (by rfl) ?_) | (refine wpList_load1_st H rfl 40 _ rfl rfl sc_Lss (by rfl) ?_) | (refine wpList_load1_stG H (by rfl) 40 _ rfl rfl sc_Lss (by rfl) ?_))
    | ((with_reducible refine here_store ?_); first | (refine wpList_store_st H rfl 46 _ _ rfl rfl rfl (by kernel_rfl) (by rfl) (by kernel_rfl) ?_; clear H; intro wx H) | (refine wpList_store_st H rfl 50 _ _ rfl rfl rfl (by kernel_rfl) (by rfl) (by kernel_rfl) ?_; clear H; intro wx H) | (refine wpList_store_st H rfl 37 _ _ rfl rfl rfl (by kernel_rfl) (by rfl) (by kernel_rfl) ?_; clear H; intro wx H) | (refine wpList_store1_st H rfl 3 _ _ rfl rfl _ rfl (by rfl) s1_int (by rfl) (by rfl) ?_; clear H; intro wx H) | (refine wpList_store1_st H rfl 4 _ _ rfl rfl _ rfl (by rfl) s1_bool (by rfl) (by rfl) ?_; clear H; intro wx H) | (refine wpList_store1_st H rfl 30 _ _ rfl rfl _ rfl (by rfl) s1_Errno (by rfl) (by rfl) ?_; clear H; intro wx H) | (refine wpList_store1_st H rfl 39 _ _ rfl rfl _ rfl (by rfl) s1_Msgs (by rfl) (by rfl) ?_; clear H; intro wx H) | (refine wpList_store1_st H rfl 40 _ _ rfl rfl _ rfl (by rfl) s1_Lss (by rfl) (by rfl) ?_; clear H; intro wx H))
    | ((with_reducible refine here_alloc ?_); first | (refine wpList_alloc_st H rfl 46 rfl _ q_zero ?_; clear H; intro gq wx H) | (refine wpList_alloc_st H rfl 50 rfl _ ans_zero ?_; clear H; intro ga wx H) | (refine wpList_alloc_st H rfl 37 rfl _ ev_zero ?_; clear H; intro ge wx H))
    | ((with_reducible refine here_box ?_); first | (refine wpList_box_st H rfl _ _ rfl _ rfl ?_; clear H; intro gb wx H)))
  have HT : TIs w0 wx I gb QM.zero [] := ⟨none, 0, none, 0, .slice none 0 0, by simp [QM.zero], by simp [QM.zero],
    (show St w0 wx (.ow 50 4 (.slice none 0 0) ([] : List QA).length (qansCells []) :: rdIt QM.zero none :: lsIt QM.zero none :: .bl gb 83 (tArr QM.zero none 0 none 0 (.slice none 0 0)) :: I) from
      ((H.old (s := 4) (n := 0) (A := none) (xs := []) Reads.none_).old (s := 2) (n := 0) (A := none) (xs := []) Reads.none_).nilOwn _ _).subm _⟩
  clear H hn2
  go_loopw [14] (fun s14 wr => ∃ (i : Nat) (q : QM) (la : List QA), i ≤ n ∧ s14 = .int .i64 i ∧ tells (es.take i) QM.zero [] = some (q, la) ∧ la.length = i ∧ q.Inv ∧ q.Room (200 - i) ∧ TIs w0 wr I gb q la) (fun s14 _ => n - (intOf s14).toNat)
  case atStart => exact ⟨0, QM.zero, [], by omega, rfl, rfl, rfl, QM.zero_inv, ⟨by simp [QM.zero], by simp [QM.zero], by simp [QM.zero], by simp [QM.zero]⟩, HT⟩
  case round =>
    clear HT
    obtain ⟨i, q, la, hi, rfl, htl, hla, hinv, hroom, HT⟩ := hrel
    by_cases hlt : i < n
    · obtain ⟨A1, c1, A2, c2, va, k1, k2, H⟩ := HT
      have he := HE.out
      obtain ⟨b, off, hA, hb, q0, q1, q2, q3, q4, q5⟩ := qevAt (H.get (evIt A es)) rfl (show i < es.length by rw [HN.out]; exact hlt)
      clear he
      subst hA
      have hmem : es.getD i .zero0 ∈ es := by
        rw [List.getD, List.getElem?_eq_getElem (show i < es.length by rw [HN.out]; exact hlt)]
        exact List.getElem_mem _
      have hchk := HCK.out _ hmem
      have htk := take_ev es i (by rw [HN.out]; exact hlt)
      generalize es.getD i .zero0 = ev at *
      have htl2 : tells (es.take (i + 1)) QM.zero [] = if (q.step ev).2.2 then some ((q.step ev).1, la ++ [(q.step ev).2.1]) else none := by
        rw [htk, tells_snoc, htl]
        rfl
      have hroom2 : q.Room (200 - (i + 1) + 1) := hroom.less (by omega)
      have hrm := hroom2.step ev
      have hiv := hinv.step hchk
      have CA := Lib.hid (fun W J HT => tadd_st (w0 := w0) (w := W) (I := J) q ev gb la HT hinv (hroom.less (by omega)) hchk (by omega))
      unfold TAdd at CA
      obtain ⟨r, hr⟩ : ∃ r, q.step ev = r := ⟨_, rfl⟩
      rw [hr] at CA htl2 hrm hiv
      obtain ⟨q', a, chg⟩ := r
      dsimp only at CA htl2 hrm hiv
      have hlen : (la ++ [a]).length = i + 1 := by simp [hla]
      have HTL2 := Lib.hid htl2
      have HRM := Lib.hid hrm
      have HIV := Lib.hid hiv
      have HLEN := Lib.hid hlen
      have hI1 : (i : Int) < (n : Int) := by omega
      have hI0 : (0 : Int) ≤ (i : Int) := by omega
      have hI2 : (n : Int) ≤ (c : Int) := by omega
      have w1 : IntKind.i64.wrap ((i : Int) + 1) = (i : Int) + 1 := IntWalk.i64_in _ (by omega)
      obtain ⟨x0, x1, x2, x3, x4, x5⟩ := ev
      unfold Ev.val at CA
      dsimp only at q0 q1 q2 q3 q4 q5 CA
      clear htl2 hrm hiv hlen hroom2 hroom hinv hr htk hmem htl hla hchk hb
      go_upto_region 7 with (first
    | ((with_reducible refine here_load ?_); first | (refine wpList_load_st H rfl 46 _ rfl rfl row_Queue (by kernel_rfl) ?_) | (refine wpList_load_st H rfl 50 _ rfl rfl row_Answer (by kernel_rfl) ?_) | (refine wpList_load_st H rfl 37 _ rfl rfl row_Event (by kernel_rfl) ?_) | (refine wpList_load1_st H rfl 3 _ rfl rfl sc_int (by rfl) ?_) | (refine wpList_load1_stG H (by rfl) 3 _ rfl rfl sc_int (by rfl) ?_) | (refine wpList_load1_st H rfl 4 _ rfl rfl sc_bool (by rfl) ?_) | (refine wpList_load1_stG H (by rfl) 4 _ rfl rfl sc_bool (by rfl) ?_) | (refine wpList_load1_st H rfl 30 _ rfl rfl sc_Errno (by rfl) ?_) | (refine wpList_load1_stG H (by rfl) 30 _ rfl rfl sc_Errno (by rfl) ?_) | (refine wpList_load1_st H rfl 39 _ rfl rfl sc_Msgs (by rfl) ?_) | (refine wpList_load1_stG H (by rfl) 39 _ rfl rfl sc_Msgs (by rfl) ?_) | (refine wpList_load1_st H rfl 40 _ rfl rfl sc_Lss (by rfl) ?_) | (refine wpList_load1_stG H (by rfl) 40 _ rfl rfl sc_Lss (by rfl) ?_))
    | ((with_reducible refine here_store ?_); first | (refine wpList_store_st H rfl 46 _ _ rfl rfl rfl (by kernel_rfl) (by rfl) (by kernel_rfl) ?_; clear H; intro wx H) | (refine wpList_store_st H rfl 50 _ _ rfl rfl rfl (by kernel_rfl) (by rfl) (by kernel_rfl) ?_; clear H; intro wx H) | (refine wpList_store_st H rfl 37 _ _ rfl rfl rfl (by kernel_rfl) (by rfl) (by kernel_rfl) ?_; clear H; intro wx H) | (refine wpList_store1_st H rfl 3 _ _ rfl rfl _ rfl (by rfl) s1_int (by rfl) (by rfl) ?_; clear H; intro wx H) | (refine wpList_store1_st H rfl 4 _ _ rfl rfl _ rfl (by rfl) s1_bool (by rfl) (by rfl) ?_; clear H; intro wx H) | (refine wpList_store1_st H rfl 30 _ _ rfl rfl _ rfl (by rfl) s1_Errno (by rfl) (by rfl) ?_; clear H; intro wx H) | (refine wpList_store1_st H rfl 39 _ _ rfl rfl _ rfl (by rfl) s1_Msgs (by rfl) (by rfl) ?_; clear H; intro wx H) | (refine wpList_store1_st H rfl 40 _ _ rfl rfl _ rfl (by rfl) s1_Lss (by rfl) (by rfl) ?_; clear H; intro wx H))
    | ((with_reducible refine here_alloc ?_); first | (refine wpList_alloc_st H rfl 46 rfl _ q_zero ?_; clear H; intro gq2 wx H) | (refine wpList_alloc_st H rfl 50 rfl _ ans_zero ?_; clear H; intro ga2 wx H) | (refine wpList_alloc_st H rfl 37 rfl _ ev_zero ?_; clear H; intro ge2 wx H))
    | ((with_reducible refine here_box ?_); first | (refine wpList_box_st H rfl _ _ rfl _ rfl ?_; clear H; intro gb2 wx H)))
      clear q0 q1 q2 q3 q4 q5
      go_wp2_with (first
    | ((with_reducible refine here_load ?_); first | (refine wpList_load_st H rfl 46 _ rfl rfl row_Queue (by kernel_rfl) ?_) | (refine wpList_load_st H rfl 50 _ rfl rfl row_Answer (by kernel_rfl) ?_) | (refine wpList_load_st H rfl 37 _ rfl rfl row_Event (by kernel_rfl) ?_) | (refine wpList_load1_st H rfl 3 _ rfl rfl sc_int (by rfl) ?_) | (refine wpList_load1_stG H (by rfl) 3 _ rfl rfl sc_int (by rfl) ?_) | (refine wpList_load1_st H rfl 4 _ rfl rfl sc_bool (by rfl) ?_) | (refine wpList_load1_stG H (by rfl) 4 _ rfl rfl sc_bool (by rfl) ?_) | (refine wpList_load1_st H rfl 30 _ rfl rfl sc_Errno (by rfl) ?_) | (refine wpList_load1_stG H (by rfl) 30 _ rfl rfl sc_Errno (by rfl) ?_) | (refine wpList_load1_st H rfl 39 _ rfl rfl sc_Msgs (by rfl) ?_) | (refine wpList_load1_stG H (by rfl) 39 _ rfl rfl sc_Msgs (by rfl) ?_) | (refine wpList_load1_st H rfl 40 _ rfl rfl sc_Lss (by rfl) ?_) | (refine wpList_load1_stG H (by rfl) 40 _ rfl rfl sc_Lss (by rfl) ?_))
    | ((with_reducible refine here_store ?_); first | (refine wpList_store_st H rfl 46 _ _ rfl rfl rfl (by kernel_rfl) (by rfl) (by kernel_rfl) ?_; clear H; intro wx H) | (refine wpList_store_st H rfl 50 _ _ rfl rfl rfl (by kernel_rfl) (by rfl) (by kernel_rfl) ?_; clear H; intro wx H) | (refine wpList_store_st H rfl 37 _ _ rfl rfl rfl (by kernel_rfl) (by rfl) (by kernel_rfl) ?_; clear H; intro wx H) | (refine wpList_store1_st H rfl 3 _ _ rfl rfl _ rfl (by rfl) s1_int (by rfl) (by rfl) ?_; clear H; intro wx H) | (refine wpList_store1_st H rfl 4 _ _ rfl rfl _ rfl (by rfl) s1_bool (by rfl) (by rfl) ?_; clear H; intro wx H) | (refine wpList_store1_st H rfl 30 _ _ rfl rfl _ rfl (by rfl) s1_Errno (by rfl) (by rfl) ?_; clear H; intro wx H) | (refine wpList_store1_st H rfl 39 _ _ rfl rfl _ rfl (by rfl) s1_Msgs (by rfl) (by rfl) ?_; clear H; intro wx H) | (refine wpList_store1_st H rfl 40 _ _ rfl rfl _ rfl (by rfl) s1_Lss (by rfl) (by rfl) ?_; clear H; intro wx H))
    | ((with_reducible refine here_alloc ?_); first | (refine wpList_alloc_st H rfl 46 rfl _ q_zero ?_; clear H; intro gq2 wx H) | (refine wpList_alloc_st H rfl 50 rfl _ ans_zero ?_; clear H; intro ga2 wx H) | (refine wpList_alloc_st H rfl 37 rfl _ ev_zero ?_; clear H; intro ge2 wx H))
    | ((with_reducible refine here_box ?_); first | (refine wpList_box_st H rfl _ _ rfl _ rfl ?_; clear H; intro gb2 wx H)))
      have HT : TIs w0 wx (.bl ge2 37 #[.int .i64 x0, .int .i64 x1, .int .i64 x2, .int .i64 x3, .int .i64 x4, .int .i64 x5] :: I) gb q la := ⟨A1, c1, A2, c2, va, k1, k2, H.subm _⟩
      refine (CA.out _ _ HT).mono ?_
      clear CA H HT
      rintro ed wy ⟨rfl, hf, ht⟩
      have HFX := Lib.hid hf
      have HTX := Lib.hid ht
      clear hf ht
      cases chg
      · go_wp2_with fail
        exact HF.out _ (by rw [← List.take_append_drop (i + 1) es]; exact tells_none .zero0 _ _ _ _ (by rw [HTL2.out]; rfl)) ((HFX.out (by first | rfl | trivial)).subm _)
      · obtain ⟨A3, c3, A4, c4, vb, k3, k4, H⟩ := HTX.out (by first | rfl | trivial)
        go_wp2_with fail
        go_roundw
        case rel => exact ⟨i + 1, q', la ++ [a], by omega, by go_num, by rw [HTL2.out]; rfl, HLEN.out, HIV.out, HRM.out, A3, c3, A4, c4, vb, k3, k4, H.subm _⟩
        case measure => simp [intOf]; omega
    · obtain rfl : i = n := by omega
      have hlt2 : ¬ (i : Int) < (i : Int) := by omega
      rw [← HN.out, List.take_length] at htl
      have HTL := Lib.hid htl
      clear htl hla hinv hroom
      go_wp2_with fail
      exact HY.out _ _ _ _ HTL.out HT

def ReplayPost (w0 : World) (I : List It) (es : List Ev) (ed : Ending) (w' : World) : Prop :=
  (∀ q la, tells es QM.zero [] = some (q, la) → ∃ A1 c1 A2 c2, ed = .returned (.tuple #[.agg (qArr q A1 c1 A2 c2), .int .i64 0]) ∧ q.rd.length ≤ c1 ∧ q.ls.length ≤ c2 ∧ St w0 w' (rdIt q A1 :: lsIt q A2 :: I)) ∧
  (tells es QM.zero [] = none → ed = .returned (.tuple #[.agg (qArr QM.zero none 0 none 0), .int .i64 3]) ∧ St w0 w' I)
def AnswersPost (w0 : World) (I : List It) (es : List Ev) (ed : Ending) (w' : World) : Prop :=
  (∀ q la, tells es QM.zero [] = some (q, la) → ∃ A c, ed = .returned (.tuple #[.slice A la.length c, .int .i64 0]) ∧ la.length ≤ c ∧ St w0 w' (anIt A la :: I)) ∧
  (tells es QM.zero [] = none → ed = .returned (.tuple #[.slice none 0 0, .int .i64 3]) ∧ St w0 w' I)

set_option maxRecDepth 100000 in
set_option maxHeartbeats 8000000 in
theorem replay_st {w0 w : World} {I : List It} (es : List Ev) (A : Option Addr) (c : Nat) (H : St w0 w I) [he : Has I (evIt A es)] (hck : ∀ e ∈ es, e.check = 0) (hn : es.length ≤ 150) (hc : es.length ≤ c) :
    Calls Try.prog 19 #[.slice A es.length c] w (ReplayPost w0 I es) := by
  have CT := Lib.hid (fun W J H he => tell_st (w0 := w0) (w := W) (I := J) es A c H (he := he) hck hn hc)
  have HE := Lib.hid he
  obtain hT | ⟨r, hT⟩ : tells es QM.zero [] = none ∨ ∃ r, tells es QM.zero [] = some r := by cases tells es QM.zero [] <;> simp
  · have HF := Lib.hid (show ∀ W, St w0 W I → ReplayPost w0 I es (.returned (.tuple #[.agg (qArr QM.zero none 0 none 0), .int .i64 3])) W from
      fun W h2 => ⟨fun q' la' h => (by rw [hT] at h; cases h), fun _ => ⟨rfl, h2⟩⟩)
    unfold TellPost at CT
    have HTN := Lib.hid hT
    generalize ReplayPost w0 I es = POST at *
    clear he hck hn hc hT
    go_enter Try.func19, Try.ntmps19
    go_upto_region 1 with (first
    | ((with_reducible refine here_load ?_); first | (refine wpList_load_st H rfl 46 _ rfl rfl row_Queue (by kernel_rfl) ?_) | (refine wpList_load_st H rfl 50 _ rfl rfl row_Answer (by kernel_rfl) ?_) | (refine wpList_load_st H rfl 37 _ rfl rfl row_Event (by kernel_rfl) ?_) | (refine wpList_load1_st H rfl 3 _ rfl rfl sc_int (by rfl) ?_) | (refine wpList_load1_stG H (by rfl) 3 _ rfl rfl sc_int (by rfl) ?_) | (refine wpList_load1_st H rfl 4 _ rfl rfl sc_bool (by rfl) ?_) | (refine wpList_load1_stG H (by rfl) 4 _ rfl rfl sc_bool (by rfl) ?_) | (refine wpList_load1_st H rfl 30 _ rfl rfl sc_Errno (by rfl) ?_) | (refine wpList_load1_stG H (by rfl) 30 _ rfl rfl sc_Errno (by rfl) ?_) | (refine wpList_load1_st H rfl 39 _ rfl rfl sc_Msgs (by rfl) ?_) | (refine wpList_load1_stG H (by rfl) 39 _ rfl rfl sc_Msgs (by rfl) ?_) | (refine wpList_load1_st H rfl 40 _ rfl rfl sc_Lss (by rfl) ?_) | (refine wpList_load1_stG H (by rfl) 40 _ rfl rfl sc_Lss (by rfl) ?_))
    | ((with_reducible refine here_store ?_); first | (refine wpList_store_st H rfl 46 _ _ rfl rfl rfl (by kernel_rfl) (by rfl) (by kernel_rfl) ?_; clear H; intro wx H) | (refine wpList_store_st H rfl 50 _ _ rfl rfl rfl (by kernel_rfl) (by rfl) (by kernel_rfl) ?_; clear H; intro wx H) | (refine wpList_store_st H rfl 37 _ _ rfl rfl rfl (by kernel_rfl) (by rfl) (by kernel_rfl) ?_; clear H; intro wx H) | (refine wpList_store1_st H rfl 3 _ _ rfl rfl _ rfl (by rfl) s1_int (by rfl) (by rfl) ?_; clear H; intro wx H) | (refine wpList_store1_st H rfl 4 _ _ rfl rfl _ rfl (by rfl) s1_bool (by rfl) (by rfl) ?_; clear H; intro wx H) | (refine wpList_store1_st H rfl 30 _ _ rfl rfl _ rfl (by rfl) s1_Errno (by rfl) (by rfl) ?_; clear H; intro wx H) | (refine wpList_store1_st H rfl 39 _ _ rfl rfl _ rfl (by rfl) s1_Msgs (by rfl) (by rfl) ?_; clear H; intro wx H) | (refine wpList_store1_st H rfl 40 _ _ rfl rfl _ rfl (by rfl) s1_Lss (by rfl) (by rfl) ?_; clear H; intro wx H))
    | ((with_reducible refine here_alloc ?_); first | (refine wpList_alloc_st H rfl 46 rfl _ q_zero ?_; clear H; intro gq wx H) | (refine wpList_alloc_st H rfl 50 rfl _ ans_zero ?_; clear H; intro ga wx H) | (refine wpList_alloc_st H rfl 37 rfl _ ev_zero ?_; clear H; intro ge wx H))
    | ((with_reducible refine here_box ?_); first | (refine wpList_box_st H rfl _ _ rfl _ rfl ?_; clear H; intro gb wx H)))
    go_wp2_with (first
    | ((with_reducible refine here_load ?_); first | (refine wpList_load_st H rfl 46 _ rfl rfl row_Queue (by kernel_rfl) ?_) | (refine wpList_load_st H rfl 50 _ rfl rfl row_Answer (by kernel_rfl) ?_) | (refine wpList_load_st H rfl 37 _ rfl rfl row_Event (by kernel_rfl) ?_) | (refine wpList_load1_st H rfl 3 _ rfl rfl sc_int (by rfl) ?_) | (refine wpList_load1_stG H (by rfl) 3 _ rfl rfl sc_int (by rfl) ?_) | (refine wpList_load1_st H rfl 4 _ rfl rfl sc_bool (by rfl) ?_) | (refine wpList_load1_stG H (by rfl) 4 _ rfl rfl sc_bool (by rfl) ?_) | (refine wpList_load1_st H rfl 30 _ rfl rfl sc_Errno (by rfl) ?_) | (refine wpList_load1_stG H (by rfl) 30 _ rfl rfl sc_Errno (by rfl) ?_) | (refine wpList_load1_st H rfl 39 _ rfl rfl sc_Msgs (by rfl) ?_) | (refine wpList_load1_stG H (by rfl) 39 _ rfl rfl sc_Msgs (by rfl) ?_) | (refine wpList_load1_st H rfl 40 _ rfl rfl sc_Lss (by rfl) ?_) | (refine wpList_load1_stG H (by rfl) 40 _ rfl rfl sc_Lss (by rfl) ?_))
    | ((with_reducible refine here_store ?_); first | (refine wpList_store_st H rfl 46 _ _ rfl rfl rfl (by kernel_rfl) (by rfl) (by kernel_rfl) ?_; clear H; intro wx H) | (refine wpList_store_st H rfl 50 _ _ rfl rfl rfl (by kernel_rfl) (by rfl) (by kernel_rfl) ?_; clear H; intro wx H) | (refine wpList_store_st H rfl 37 _ _ rfl rfl rfl (by kernel_rfl) (by rfl) (by kernel_rfl) ?_; clear H; intro wx H) | (refine wpList_store1_st H rfl 3 _ _ rfl rfl _ rfl (by rfl) s1_int (by rfl) (by rfl) ?_; clear H; intro wx H) | (refine wpList_store1_st H rfl 4 _ _ rfl rfl _ rfl (by rfl) s1_bool (by rfl) (by rfl) ?_; clear H; intro wx H) | (refine wpList_store1_st H rfl 30 _ _ rfl rfl _ rfl (by rfl) s1_Errno (by rfl) (by rfl) ?_; clear H; intro wx H) | (refine wpList_store1_st H rfl 39 _ _ rfl rfl _ rfl (by rfl) s1_Msgs (by rfl) (by rfl) ?_; clear H; intro wx H) | (refine wpList_store1_st H rfl 40 _ _ rfl rfl _ rfl (by rfl) s1_Lss (by rfl) (by rfl) ?_; clear H; intro wx H))
    | ((with_reducible refine here_alloc ?_); first | (refine wpList_alloc_st H rfl 46 rfl _ q_zero ?_; clear H; intro gq wx H) | (refine wpList_alloc_st H rfl 50 rfl _ ans_zero ?_; clear H; intro ga wx H) | (refine wpList_alloc_st H rfl 37 rfl _ ev_zero ?_; clear H; intro ge wx H))
    | ((with_reducible refine here_box ?_); first | (refine wpList_box_st H rfl _ _ rfl _ rfl ?_; clear H; intro gb wx H)))
    have he := HE.out
    refine (CT.out _ _ H inferInstance).mono ?_
    clear H he
    rintro ed wy ⟨_, h2⟩
    obtain ⟨rfl, H⟩ := h2 HTN.out
    clear CT h2
    go_wp2_with (first
    | ((with_reducible refine here_load ?_); first | (refine wpList_load_st H rfl 46 _ rfl rfl row_Queue (by kernel_rfl) ?_) | (refine wpList_load_st H rfl 50 _ rfl rfl row_Answer (by kernel_rfl) ?_) | (refine wpList_load_st H rfl 37 _ rfl rfl row_Event (by kernel_rfl) ?_) | (refine wpList_load1_st H rfl 3 _ rfl rfl sc_int (by rfl) ?_) | (refine wpList_load1_stG H (by rfl) 3 _ rfl rfl sc_int (by rfl) ?_) | (refine wpList_load1_st H rfl 4 _ rfl rfl sc_bool (by rfl) ?_) | (refine wpList_load1_stG H (by rfl) 4 _ rfl rfl sc_bool (by rfl) ?_) | (refine wpList_load1_st H rfl 30 _ rfl rfl sc_Errno (by rfl) ?_) | (refine wpList_load1_stG H (by rfl) 30 _ rfl rfl sc_Errno (by rfl) ?_) | (refine wpList_load1_st H rfl 39 _ rfl rfl sc_Msgs (by rfl) ?_) | (refine wpList_load1_stG H (by rfl) 39 _ rfl rfl sc_Msgs (by rfl) ?_) | (refine wpList_load1_st H rfl 40 _ rfl rfl sc_Lss (by rfl) ?_) | (refine wpList_load1_stG H (by rfl) 40 _ rfl rfl sc_Lss (by rfl) ?_))
    | ((with_reducible refine here_store ?_); first | (refine wpList_store_st H rfl 46 _ _ rfl rfl rfl (by kernel_rfl) (by rfl) (by kernel_rfl) ?_; clear H; intro wx H) | (refine wpList_store_st H rfl 50 _ _ rfl rfl rfl (by kernel_rfl) (by rfl) (by kernel_rfl) ?_; clear H; intro wx H) | (refine wpList_store_st H rfl 37 _ _ rfl rfl rfl (by kernel_rfl) (by rfl) (by kernel_rfl) ?_; clear H; intro wx H) | (refine wpList_store1_st H rfl 3 _ _ rfl rfl _ rfl (by rfl) s1_int (by rfl) (by rfl) ?_; clear H; intro wx H) | (refine wpList_store1_st H rfl 4 _ _ rfl rfl _ rfl (by rfl) s1_bool (by rfl) (by rfl) ?_; clear H; intro wx H) | (refine wpList_store1_st H rfl 30 _ _ rfl rfl _ rfl (by rfl) s1_Errno (by rfl) (by rfl) ?_; clear H; intro wx H) | (refine wpList_store1_st H rfl 39 _ _ rfl rfl _ rfl (by rfl) s1_Msgs (by rfl) (by rfl) ?_; clear H; intro wx H) | (refine wpList_store1_st H rfl 40 _ _ rfl rfl _ rfl (by rfl) s1_Lss (by rfl) (by rfl) ?_; clear H; intro wx H))
    | ((with_reducible refine here_alloc ?_); first | (refine wpList_alloc_st H rfl 46 rfl _ q_zero ?_; clear H; intro gq wx H) | (refine wpList_alloc_st H rfl 50 rfl _ ans_zero ?_; clear H; intro ga wx H) | (refine wpList_alloc_st H rfl 37 rfl _ ev_zero ?_; clear H; intro ge wx H))
    | ((with_reducible refine here_box ?_); first | (refine wpList_box_st H rfl _ _ rfl _ rfl ?_; clear H; intro gb wx H)))
    have l4 := H.loadRow 46 gq row_Queue (P := Try.prog) (by kernel_rfl)
    exact bodyPost_ret (v := .tuple #[.agg (qArr QM.zero none 0 none 0), .int .i64 3]) (by simp [results, Try.results19, asAddr, l4]; rfl) rfl (HF.out _ (H.subm _))
  · obtain ⟨q, la⟩ := r
    have HF := Lib.hid (show ∀ W A1 c1 A2 c2, q.rd.length ≤ c1 → q.ls.length ≤ c2 → St w0 W (rdIt q A1 :: lsIt q A2 :: I) → ReplayPost w0 I es (.returned (.tuple #[.agg (qArr q A1 c1 A2 c2), .int .i64 0])) W from
      fun W A1 c1 A2 c2 h1 h2 h3 => ⟨fun q' la' h => (by rw [hT] at h; cases h; exact ⟨A1, c1, A2, c2, rfl, h1, h2, h3⟩), fun h => (by rw [hT] at h; cases h)⟩)
    unfold TellPost at CT
    have HTN := Lib.hid hT
    generalize ReplayPost w0 I es = POST at *
    clear he hck hn hc hT
    go_enter Try.func19, Try.ntmps19
    go_upto_region 1 with (first
    | ((with_reducible refine here_load ?_); first | (refine wpList_load_st H rfl 46 _ rfl rfl row_Queue (by kernel_rfl) ?_) | (refine wpList_load_st H rfl 50 _ rfl rfl row_Answer (by kernel_rfl) ?_) | (refine wpList_load_st H rfl 37 _ rfl rfl row_Event (by kernel_rfl) ?_) | (refine wpList_load1_st H rfl 3 _ rfl rfl sc_int (by rfl) ?_) | (refine wpList_load1_stG H (by rfl) 3 _ rfl rfl sc_int (by rfl) ?_) | (refine wpList_load1_st H rfl 4 _ rfl rfl sc_bool (by rfl) ?_) | (refine wpList_load1_stG H (by rfl) 4 _ rfl rfl sc_bool (by rfl) ?_) | (refine wpList_load1_st H rfl 30 _ rfl rfl sc_Errno (by rfl) ?_) | (refine wpList_load1_stG H (by rfl) 30 _ rfl rfl sc_Errno (by rfl) ?_) | (refine wpList_load1_st H rfl 39 _ rfl rfl sc_Msgs (by rfl) ?_) | (refine wpList_load1_stG H (by rfl) 39 _ rfl rfl sc_Msgs (by rfl) ?_) | (refine wpList_load1_st H rfl 40 _ rfl rfl sc_Lss (by rfl) ?_) | (refine wpList_load1_stG H (by rfl) 40 _ rfl rfl sc_Lss (by rfl) ?_))
    | ((with_reducible refine here_store ?_); first | (refine wpList_store_st H rfl 46 _ _ rfl rfl rfl (by kernel_rfl) (by rfl) (by kernel_rfl) ?_; clear H; intro wx H) | (refine wpList_store_st H rfl 50 _ _ rfl rfl rfl (by kernel_rfl) (by rfl) (by kernel_rfl) ?_; clear H; intro wx H) | (refine wpList_store_st H rfl 37 _ _ rfl rfl rfl (by kernel_rfl) (by rfl) (by kernel_rfl) ?_; clear H; intro wx H) | (refine wpList_store1_st H rfl 3 _ _ rfl rfl _ rfl (by rfl) s1_int (by rfl) (by rfl) ?_; clear H; intro wx H) | (refine wpList_store1_st H rfl 4 _ _ rfl rfl _ rfl (by rfl) s1_bool (by rfl) (by rfl) ?_; clear H; intro wx H) | (refine wpList_store1_st H rfl 30 _ _ rfl rfl _ rfl (by rfl) s1_Errno (by rfl) (by rfl) ?_; clear H; intro wx H) | (refine wpList_store1_st H rfl 39 _ _ rfl rfl _ rfl (by rfl) s1_Msgs (by rfl) (by rfl) ?_; clear H; intro wx H) | (refine wpList_store1_st H rfl 40 _ _ rfl rfl _ rfl (by rfl) s1_Lss (by rfl) (by rfl) ?_; clear H; intro wx H))
    | ((with_reducible refine here_alloc ?_); first | (refine wpList_alloc_st H rfl 46 rfl _ q_zero ?_; clear H; intro gq wx H) | (refine wpList_alloc_st H rfl 50 rfl _ ans_zero ?_; clear H; intro ga wx H) | (refine wpList_alloc_st H rfl 37 rfl _ ev_zero ?_; clear H; intro ge wx H))
    | ((with_reducible refine here_box ?_); first | (refine wpList_box_st H rfl _ _ rfl _ rfl ?_; clear H; intro gb wx H)))
    go_wp2_with (first
    | ((with_reducible refine here_load ?_); first | (refine wpList_load_st H rfl 46 _ rfl rfl row_Queue (by kernel_rfl) ?_) | (refine wpList_load_st H rfl 50 _ rfl rfl row_Answer (by kernel_rfl) ?_) | (refine wpList_load_st H rfl 37 _ rfl rfl row_Event (by kernel_rfl) ?_) | (refine wpList_load1_st H rfl 3 _ rfl rfl sc_int (by rfl) ?_) | (refine wpList_load1_stG H (by rfl) 3 _ rfl rfl sc_int (by rfl) ?_) | (refine wpList_load1_st H rfl 4 _ rfl rfl sc_bool (by rfl) ?_) | (refine wpList_load1_stG H (by rfl) 4 _ rfl rfl sc_bool (by rfl) ?_) | (refine wpList_load1_st H rfl 30 _ rfl rfl sc_Errno (by rfl) ?_) | (refine wpList_load1_stG H (by rfl) 30 _ rfl rfl sc_Errno (by rfl) ?_) | (refine wpList_load1_st H rfl 39 _ rfl rfl sc_Msgs (by rfl) ?_) | (refine wpList_load1_stG H (by rfl) 39 _ rfl rfl sc_Msgs (by rfl) ?_) | (refine wpList_load1_st H rfl 40 _ rfl rfl sc_Lss (by rfl) ?_) | (refine wpList_load1_stG H (by rfl) 40 _ rfl rfl sc_Lss (by rfl) ?_))
    | ((with_reducible refine here_store ?_); first | (refine wpList_store_st H rfl 46 _ _ rfl rfl rfl (by kernel_rfl) (by rfl) (by kernel_rfl) ?_; clear H; intro wx H) | (refine wpList_store_st H rfl 50 _ _ rfl rfl rfl (by kernel_rfl) (by rfl) (by kernel_rfl) ?_; clear H; intro wx H) | (refine wpList_store_st H rfl 37 _ _ rfl rfl rfl (by kernel_rfl) (by rfl) (by kernel_rfl) ?_; clear H; intro wx H) | (refine wpList_store1_st H rfl 3 _ _ rfl rfl _ rfl (by rfl) s1_int (by rfl) (by rfl) ?_; clear H; intro wx H) | (refine wpList_store1_st H rfl 4 _ _ rfl rfl _ rfl (by rfl) s1_bool (by rfl) (by rfl) ?_; clear H; intro wx H) | (refine wpList_store1_st H rfl 30 _ _ rfl rfl _ rfl (by rfl) s1_Errno (by rfl) (by rfl) ?_; clear H; intro wx H) | (refine wpList_store1_st H rfl 39 _ _ rfl rfl _ rfl (by rfl) s1_Msgs (by rfl) (by rfl) ?_; clear H; intro wx H) | (refine wpList_store1_st H rfl 40 _ _ rfl rfl _ rfl (by rfl) s1_Lss (by rfl) (by rfl) ?_; clear H; intro wx H))
    | ((with_reducible refine here_alloc ?_); first | (refine wpList_alloc_st H rfl 46 rfl _ q_zero ?_; clear H; intro gq wx H) | (refine wpList_alloc_st H rfl 50 rfl _ ans_zero ?_; clear H; intro ga wx H) | (refine wpList_alloc_st H rfl 37 rfl _ ev_zero ?_; clear H; intro ge wx H))
    | ((with_reducible refine here_box ?_); first | (refine wpList_box_st H rfl _ _ rfl _ rfl ?_; clear H; intro gb wx H)))
    have he := HE.out
    refine (CT.out _ _ H inferInstance).mono ?_
    clear H he
    rintro ed wy ⟨h1, _⟩
    obtain ⟨gt, rfl, A1, c1, A2, c2, va, k1, k2, H⟩ := h1 q la HTN.out
    clear CT h1
    go_wp2_with (first
    | ((with_reducible refine here_load ?_); refine wpList_loadPart_st H rfl 46 _ rfl rfl row_Queue (by kernel_rfl) (by rfl) _ (tArr_q _ _ _ _ _ _) ?_)
    | ((with_reducible refine here_load ?_); first | (refine wpList_load_st H rfl 46 _ rfl rfl row_Queue (by kernel_rfl) ?_) | (refine wpList_load_st H rfl 50 _ rfl rfl row_Answer (by kernel_rfl) ?_) | (refine wpList_load_st H rfl 37 _ rfl rfl row_Event (by kernel_rfl) ?_) | (refine wpList_load1_st H rfl 3 _ rfl rfl sc_int (by rfl) ?_) | (refine wpList_load1_stG H (by rfl) 3 _ rfl rfl sc_int (by rfl) ?_) | (refine wpList_load1_st H rfl 4 _ rfl rfl sc_bool (by rfl) ?_) | (refine wpList_load1_stG H (by rfl) 4 _ rfl rfl sc_bool (by rfl) ?_) | (refine wpList_load1_st H rfl 30 _ rfl rfl sc_Errno (by rfl) ?_) | (refine wpList_load1_stG H (by rfl) 30 _ rfl rfl sc_Errno (by rfl) ?_) | (refine wpList_load1_st H rfl 39 _ rfl rfl sc_Msgs (by rfl) ?_) | (refine wpList_load1_stG H (by rfl) 39 _ rfl rfl sc_Msgs (by rfl) ?_) | (refine wpList_load1_st H rfl 40 _ rfl rfl sc_Lss (by rfl) ?_) | (refine wpList_load1_stG H (by rfl) 40 _ rfl rfl sc_Lss (by rfl) ?_))
    | ((with_reducible refine here_store ?_); first | (refine wpList_store_st H rfl 46 _ _ rfl rfl rfl (by kernel_rfl) (by rfl) (by kernel_rfl) ?_; clear H; intro wx H) | (refine wpList_store_st H rfl 50 _ _ rfl rfl rfl (by kernel_rfl) (by rfl) (by kernel_rfl) ?_; clear H; intro wx H) | (refine wpList_store_st H rfl 37 _ _ rfl rfl rfl (by kernel_rfl) (by rfl) (by kernel_rfl) ?_; clear H; intro wx H) | (refine wpList_store1_st H rfl 3 _ _ rfl rfl _ rfl (by rfl) s1_int (by rfl) (by rfl) ?_; clear H; intro wx H) | (refine wpList_store1_st H rfl 4 _ _ rfl rfl _ rfl (by rfl) s1_bool (by rfl) (by rfl) ?_; clear H; intro wx H) | (refine wpList_store1_st H rfl 30 _ _ rfl rfl _ rfl (by rfl) s1_Errno (by rfl) (by rfl) ?_; clear H; intro wx H) | (refine wpList_store1_st H rfl 39 _ _ rfl rfl _ rfl (by rfl) s1_Msgs (by rfl) (by rfl) ?_; clear H; intro wx H) | (refine wpList_store1_st H rfl 40 _ _ rfl rfl _ rfl (by rfl) s1_Lss (by rfl) (by rfl) ?_; clear H; intro wx H))
    | ((with_reducible refine here_alloc ?_); first | (refine wpList_alloc_st H rfl 46 rfl _ q_zero ?_; clear H; intro gq wx H) | (refine wpList_alloc_st H rfl 50 rfl _ ans_zero ?_; clear H; intro ga wx H) | (refine wpList_alloc_st H rfl 37 rfl _ ev_zero ?_; clear H; intro ge wx H))
    | ((with_reducible refine here_box ?_); first | (refine wpList_box_st H rfl _ _ rfl _ rfl ?_; clear H; intro gb wx H)))
    have l4 := H.loadRow 46 gq row_Queue (P := Try.prog) (by kernel_rfl)
    exact bodyPost_ret (v := .tuple #[.agg (qArr q A1 c1 A2 c2), .int .i64 0]) (by simp [results, Try.results19, asAddr, l4]) rfl (HF.out _ _ _ _ _ k1 k2 (H.subm _))

end Go.Proofs.Ytjgbkicnagcmdaa
