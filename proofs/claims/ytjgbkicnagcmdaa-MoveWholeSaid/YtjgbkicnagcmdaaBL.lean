/- Berths' laws: what they have in common. -/
import Derived.Test.YtjgbkicnagcmdaaBerV
import Derived.Test.YtjgbkicnagcmdaaBerI
import Derived.Test.YtjgbkicnagcmdaaBerC
import Derived.Test.YtjgbkicnagcmdaaSEv
import Derived.Test.YtjgbkicnagcmdaaHSame
import Derived.Deep.Cut
import Derived.Deep.DeepCutAuto
import Derived.Deep.QuietTactic
import Derived.BigQuiet
namespace Go.Proofs.Ytjgbkicnagcmdaa
open Go.RowKit

theorem bpost_to {P : Program} {f : FuncId} {args : Array Value} {w W : World} {J : List It} {r : BM × Int} {m : Nat} (hl : r.1.es.length = m) (h : Calls P f args W (BPost w J r)) :
    Calls P f args W (fun ed w' => ∃ A c, ed = .returned (.tuple #[.agg (bArr r.1 A m c), .int .i64 r.2]) ∧ m ≤ c ∧ St w w' (evIt A r.1.es :: J)) := by
  subst hl
  exact h
/-- no break among what was served -/
theorem servedN_nobrk (ep : Int) (rows : List (List Int)) : ∀ k, ∀ e ∈ (servedN ep rows k).es, e.kind ≠ 4
  | 0 => fun e h => by cases h
  | k + 1 => by
    have ih := servedN_nobrk ep rows k
    simp only [servedN]
    generalize servedN ep rows k = b at *
    generalize evIn rows k = x
    unfold BM.take
    split
    · exact ih
    · next hx =>
      unfold BM.serve
      split
      · exact ih
      · split
        · split
          · intro e he
            rcases List.mem_append.1 he with he | he
            · exact ih e he
            · rw [List.mem_singleton.1 he]
              exact hx
          · exact ih
        · exact ih
/-- the first events -/
theorem BM.Ok.cut {b b' : BM} {n : Nat} (h : b.Ok n) (k : Nat) (hs : b'.Shape) (he : b'.es = b.es.take k) : b'.Ok n := by
  obtain ⟨la, ht⟩ := h.told
  obtain ⟨⟨q, la'⟩, ht2⟩ := tells_take b.es _ _ _ k ht
  refine ⟨hs, fun e hm => h.chk e (by rw [he] at hm; exact List.mem_of_mem_take hm), by have := h.len; rw [he, List.length_take]; omega, ⟨la', ?_⟩⟩
  rw [he, rq_of ht2]
  exact ht2
/-- another berth with the same events -/
theorem BM.Ok.same {b b' : BM} {n : Nat} (h : b.Ok n) (hs : b'.Shape) (he : b'.es = b.es) : b'.Ok n :=
  ⟨hs, by rw [he]; exact h.chk, by rw [he]; exact h.len, by rw [he]; exact h.told⟩
/-- what 'served' makes, by its numbers -/
theorem served_is (ep : Int) (rows : List (List Int)) (h1 : 1 ≤ ep) (h2 : ep ≤ 1048576) (k : Nat) : ∃ es, servedN ep rows k = ⟨1, ep, 0, 0, 0, es⟩ ∧ es.length ≤ k ∧ (⟨1, ep, 0, 0, 0, es⟩ : BM).Ok k ∧ (∀ e ∈ es, e.kind ≠ 4) := by
  obtain ⟨h3, h4, h5⟩ := servedN_ok ep rows h1 h2 k
  have hnb := servedN_nobrk ep rows k
  generalize servedN ep rows k = b at *
  obtain ⟨r, e, f, d, o, es⟩ := b
  dsimp only at h4 h5
  subst h4
  subst h5
  rcases h3.shape with h6 | ⟨_, _, h6 | h6 | h6 | h6⟩
  · cases h6.1
  · obtain ⟨_, h7, h8, h9⟩ := h6
    dsimp only at h7 h8 h9
    subst h7 h8 h9
    exact ⟨es, rfl, h3.len, h3, hnb⟩
  · cases h6.1
  · cases h6.1
  · cases h6.1
theorem vpost_to {P : Program} {f : FuncId} {args : Array Value} {w W : World} {J : List It} {b : BM} {m : Nat} (hl : b.es.length = m) (h : Calls P f args W (VPost w J b)) :
    Calls P f args W (fun ed w' => ∃ A c, ed = .returned (.tuple #[.agg (bArr b A m c), .bool true]) ∧ m ≤ c ∧ St w w' (evIt A b.es :: J)) := by
  subst hl
  exact h
theorem HZ_less {m : Nat} : (⟨0, 0, 0, 0, 0, []⟩ : BM).Ok m := BM.zero_ok.more (Nat.zero_le _)
theorem arr6_all (a b c d e f : Value) : (#[a, b, c, d, e, f] : Array Value).extract 0 (0 + 6) = #[a, b, c, d, e, f] := by rfl
theorem arr4_all (a b c d : Value) : (#[a, b, c, d] : Array Value).extract 0 (0 + 4) = #[a, b, c, d] := by rfl
set_option maxRecDepth 100000 in
set_option maxHeartbeats 8000000 in
theorem sameBerth_st {w0 w : World} {I : List It} (r e f d o : Int) (es : List Ev) (A B : Option Addr) (n c d' : Nat) (hn : es.length = n) (H : St w0 w I) [h1 : Has I (evIt A es)] [h2 : Has I (evIt B es)] (hn1 : n ≤ 1000) (hc : n ≤ c) (hd : n ≤ d') :
    Calls Try.prog 28 #[.agg #[.int .i64 r, .int .i64 e, .int .i64 f, .int .i64 d, .int .i64 o, .slice A n c], .agg #[.int .i64 r, .int .i64 e, .int .i64 f, .int .i64 d, .int .i64 o, .slice B n d']] w (fun ed w' => ed = .returned (.bool true) ∧ St w0 w' I) := by
  have HF := Lib.hid (show ∀ W, St w0 W I → (fun ed w' => ed = Ending.returned (.bool true) ∧ St w0 w' I) (Ending.returned (.bool true)) W from fun W h => ⟨rfl, h⟩)
  generalize (fun ed w' => ed = Ending.returned (.bool true) ∧ St w0 w' I) = POST at *
  have HI := Lib.hid (show Has I (evIt A es) ∧ Has I (evIt B es) from ⟨h1, h2⟩)
  have HL := Lib.hid hn
  clear h1 h2 hn
  go_enter Try.func28, Try.ntmps28
  go_upto_region 1 with (first | ((with_reducible refine here_box ?_); refine wpList_box_st H rfl 27 _ rfl _ rfl ?_; clear H; intro gb wx H) | fail)
  go_wp2_with (first | (go_at_call 25; have h1 := HI.out.1; have h2 := HI.out.2; refine (sameEv_st es A B n c d' HL.out H hn1 hc hd).mono ?_; clear H h1 h2; rintro ed wy ⟨rfl, H⟩) | (first
    | ((with_reducible refine here_load ?_); first | (refine wpList_load_st H rfl 46 _ rfl rfl row_Queue (by kernel_rfl) ?_) | (refine wpList_load_st H rfl 50 _ rfl rfl row_Answer (by kernel_rfl) ?_) | (refine wpList_load_st H rfl 37 _ rfl rfl row_Event (by kernel_rfl) ?_) | (refine wpList_load_st H rfl 27 _ rfl rfl row_Berth (by kernel_rfl) ?_) | (refine wpList_load1_st H rfl 3 _ rfl rfl sc_int (by rfl) ?_) | (refine wpList_load1_stG H (by rfl) 3 _ rfl rfl sc_int (by rfl) ?_) | (refine wpList_load1_st H rfl 4 _ rfl rfl sc_bool (by rfl) ?_) | (refine wpList_load1_stG H (by rfl) 4 _ rfl rfl sc_bool (by rfl) ?_) | (refine wpList_load1_st H rfl 30 _ rfl rfl sc_Errno (by rfl) ?_) | (refine wpList_load1_stG H (by rfl) 30 _ rfl rfl sc_Errno (by rfl) ?_) | (refine wpList_load1_st H rfl 25 _ rfl rfl sc_Evs (by rfl) ?_) | (refine wpList_load1_stG H (by rfl) 25 _ rfl rfl sc_Evs (by rfl) ?_))
    | ((with_reducible refine here_store ?_); first | (refine wpList_store_st H rfl 46 _ _ rfl rfl rfl (by kernel_rfl) (by rfl) (by kernel_rfl) ?_; clear H; intro wx H) | (refine wpList_store_st H rfl 50 _ _ rfl rfl rfl (by kernel_rfl) (by rfl) (by kernel_rfl) ?_; clear H; intro wx H) | (refine wpList_store_st H rfl 37 _ _ rfl rfl rfl (by kernel_rfl) (by rfl) (by kernel_rfl) ?_; clear H; intro wx H) | (refine wpList_store_st H rfl 27 _ _ rfl rfl rfl (by kernel_rfl) (by rfl) (by kernel_rfl) ?_; clear H; intro wx H) | (refine wpList_store1_st H rfl 3 _ _ rfl rfl _ rfl (by rfl) s1_int (by rfl) (by rfl) ?_; clear H; intro wx H) | (refine wpList_store1_st H rfl 4 _ _ rfl rfl _ rfl (by rfl) s1_bool (by rfl) (by rfl) ?_; clear H; intro wx H) | (refine wpList_store1_st H rfl 30 _ _ rfl rfl _ rfl (by rfl) s1_Errno (by rfl) (by rfl) ?_; clear H; intro wx H) | (refine wpList_store1_st H rfl 25 _ _ rfl rfl _ rfl (by rfl) s1_Evs (by rfl) (by rfl) ?_; clear H; intro wx H))
    | ((with_reducible refine here_alloc ?_); first | (refine wpList_alloc_st H rfl 46 rfl _ q_zero ?_; clear H; intro gq wx H) | (refine wpList_alloc_st H rfl 50 rfl _ ans_zero ?_; clear H; intro ga wx H) | (refine wpList_alloc_st H rfl 37 rfl _ ev_zero ?_; clear H; intro ge wx H) | (refine wpList_alloc_st H rfl 27 rfl _ ber_zero ?_; clear H; intro gr wx H))
    | ((with_reducible refine here_box ?_); first | (refine wpList_box_st H rfl _ _ rfl _ rfl ?_; clear H; intro gb wx H))))
  exact HF.out _ (H.subm _)
theorem replay_ok {w0 w : World} {I : List It} (es : List Ev) (A : Option Addr) (n c : Nat) (q : QM) (la : List QA) (ht : tells es QM.zero [] = some (q, la)) (hl : es.length = n) (H : St w0 w I) [he : Has I (evIt A es)] (hck : ∀ e ∈ es, e.check = 0) (hn : n ≤ 150) (hc : n ≤ c) :
    Calls Try.prog 19 #[.slice A n c] w (fun ed w' => ∃ A1 c1 A2 c2, ed = .returned (.tuple #[.agg (qArr q A1 c1 A2 c2), .int .i64 0]) ∧ q.rd.length ≤ c1 ∧ q.ls.length ≤ c2 ∧ St w0 w' (rdIt q A1 :: lsIt q A2 :: I)) :=
  (replay_n es A n c hl H hck hn hc).mono fun _ _ h => h.1 _ _ ht
theorem spost_to {P : Program} {f : FuncId} {args : Array Value} {w W : World} {J : List It} {r : BM × QA × Bool} {m : Nat} (hl : r.1.es.length = m) (h : Calls P f args W (SPost w J r)) :
    Calls P f args W (fun ed w' => ∃ A c, ed = .returned (.tuple #[.agg (bArr r.1 A m c), r.2.1.val, .bool r.2.2, .int .i64 0]) ∧ m ≤ c ∧ St w w' (evIt A r.1.es :: J)) := by
  subst hl
  exact h
theorem evOf_brk {a b c d : Int} (h : (evOf a b c d).kind = 4) : evOf a b c d = ⟨4, 0, 0, 0, 0, 0⟩ := by
  unfold evOf at h ⊢
  split at h
  · cases h
  · next h1 =>
    rw [if_neg h1]
    split at h
    · cases h
    · next h2 =>
      rw [if_neg h2]
      split at h
      · cases h
      · next h3 => rw [if_neg h3]
theorem ans_eql_same (a b c d : Int) (w : World) : (binOp .eql 50 (.agg #[.int .i64 a, .int .i64 b, .int .i64 c, .int .i64 d]) (.agg #[.int .i64 a, .int .i64 b, .int .i64 c, .int .i64 d])).run Try.prog w = .ok (.bool true) w := by
  have h1 : Try.prog.underlying 50 = some (.struct (Try.prog.fieldsOf 50)) := by kernel_rfl
  have h2 : Try.prog.stoodInHeld 50 = false := by kernel_rfl
  rw [run_eql_struct, run_equalIn_struct _ _ _ _ _ h1 h2]
  simp [go_sem]
set_option maxRecDepth 100000 in
set_option maxHeartbeats 8000000 in
theorem serve_brk {w0 w : World} {I : List It} (b : BM) (A : Option Addr) (n c m : Nat) (hl : b.es.length = n) (hb : b.Ok m) (hm : m ≤ 150) (hc : n ≤ c) (H : St w0 w I) [h : Has I (evIt A b.es)] :
    Calls Try.prog 21 #[.agg (bArr b A n c), .agg #[.int .i64 4, .int .i64 0, .int .i64 0, .int .i64 0, .int .i64 0, .int .i64 0]] w (fun ed w' => ed = .returned (.tuple #[.agg #[.int .i64 0, .int .i64 0, .int .i64 0, .int .i64 0, .int .i64 0, .slice none 0 0], .agg #[.int .i64 0, .int .i64 0, .int .i64 0, .int .i64 0], .bool false, .int .i64 3]) ∧ St w0 w' I) := by
  have HF := Lib.hid (show ∀ W, St w0 W I → (fun ed w' => ed = Ending.returned (.tuple #[.agg #[.int .i64 0, .int .i64 0, .int .i64 0, .int .i64 0, .int .i64 0, .slice none 0 0], .agg #[.int .i64 0, .int .i64 0, .int .i64 0, .int .i64 0], .bool false, .int .i64 3]) ∧ St w0 w' I) (Ending.returned (.tuple #[.agg #[.int .i64 0, .int .i64 0, .int .i64 0, .int .i64 0, .int .i64 0, .slice none 0 0], .agg #[.int .i64 0, .int .i64 0, .int .i64 0, .int .i64 0], .bool false, .int .i64 3])) W from fun W h => ⟨rfl, h⟩)
  generalize (fun ed w' => ed = Ending.returned (.tuple #[.agg #[.int .i64 0, .int .i64 0, .int .i64 0, .int .i64 0, .int .i64 0, .slice none 0 0], .agg #[.int .i64 0, .int .i64 0, .int .i64 0, .int .i64 0], .bool false, .int .i64 3]) ∧ St w0 w' I) = POST at *
  have HI := Lib.hid h
  have HB := Lib.hid hb
  have HL := Lib.hid hl
  have CC := Lib.hid (fun W => ((check_any 4 0 0 0 0 0 W).mono (fun ed w' h => (⟨h.1, h.2⟩ : ed = .returned (.int .i64 0) ∧ Below W.heap.size W w'))))
  clear h hb hl
  obtain ⟨r, be, bf, bd, br, es⟩ := b
  unfold bArr
  dsimp only at HI HB HL ⊢
  go_enter Try.func21, Try.ntmps21
  go_wp2_with (first | ((with_reducible refine here_box ?_); first | (refine wpList_box_st H rfl 27 _ rfl _ rfl ?_; clear H; intro gb wx H) | (refine wpList_box_st H rfl 37 _ rfl _ rfl ?_; clear H; intro gx wx H)) | (go_at_call 38; refine (CC.out _).mono ?_; rintro ed w9 ⟨rfl, hb9⟩; replace H := H.below hb9; clear hb9) | (go_at_call 33; have h := HI.out; refine (check_st ⟨r, be, bf, bd, br, es⟩ A n c m HL.out HB.out hm hc H).mono ?_; clear H h; rintro ed wy ⟨rfl, H⟩) | (first
    | ((with_reducible refine here_load ?_); first | (refine wpList_load_st H rfl 46 _ rfl rfl row_Queue (by kernel_rfl) ?_) | (refine wpList_load_st H rfl 50 _ rfl rfl row_Answer (by kernel_rfl) ?_) | (refine wpList_load_st H rfl 37 _ rfl rfl row_Event (by kernel_rfl) ?_) | (refine wpList_load_st H rfl 27 _ rfl rfl row_Berth (by kernel_rfl) ?_) | (refine wpList_load1_st H rfl 3 _ rfl rfl sc_int (by rfl) ?_) | (refine wpList_load1_stG H (by rfl) 3 _ rfl rfl sc_int (by rfl) ?_) | (refine wpList_load1_st H rfl 4 _ rfl rfl sc_bool (by rfl) ?_) | (refine wpList_load1_stG H (by rfl) 4 _ rfl rfl sc_bool (by rfl) ?_) | (refine wpList_load1_st H rfl 30 _ rfl rfl sc_Errno (by rfl) ?_) | (refine wpList_load1_stG H (by rfl) 30 _ rfl rfl sc_Errno (by rfl) ?_) | (refine wpList_load1_st H rfl 25 _ rfl rfl sc_Evs (by rfl) ?_) | (refine wpList_load1_stG H (by rfl) 25 _ rfl rfl sc_Evs (by rfl) ?_))
    | ((with_reducible refine here_store ?_); first | (refine wpList_store_st H rfl 46 _ _ rfl rfl rfl (by kernel_rfl) (by rfl) (by kernel_rfl) ?_; clear H; intro wx H) | (refine wpList_store_st H rfl 50 _ _ rfl rfl rfl (by kernel_rfl) (by rfl) (by kernel_rfl) ?_; clear H; intro wx H) | (refine wpList_store_st H rfl 37 _ _ rfl rfl rfl (by kernel_rfl) (by rfl) (by kernel_rfl) ?_; clear H; intro wx H) | (refine wpList_store_st H rfl 27 _ _ rfl rfl rfl (by kernel_rfl) (by rfl) (by kernel_rfl) ?_; clear H; intro wx H) | (refine wpList_store1_st H rfl 3 _ _ rfl rfl _ rfl (by rfl) s1_int (by rfl) (by rfl) ?_; clear H; intro wx H) | (refine wpList_store1_st H rfl 4 _ _ rfl rfl _ rfl (by rfl) s1_bool (by rfl) (by rfl) ?_; clear H; intro wx H) | (refine wpList_store1_st H rfl 30 _ _ rfl rfl _ rfl (by rfl) s1_Errno (by rfl) (by rfl) ?_; clear H; intro wx H) | (refine wpList_store1_st H rfl 25 _ _ rfl rfl _ rfl (by rfl) s1_Evs (by rfl) (by rfl) ?_; clear H; intro wx H))
    | ((with_reducible refine here_alloc ?_); first | (refine wpList_alloc_st H rfl 46 rfl _ q_zero ?_; clear H; intro gq wx H) | (refine wpList_alloc_st H rfl 50 rfl _ ans_zero ?_; clear H; intro ga wx H) | (refine wpList_alloc_st H rfl 37 rfl _ ev_zero ?_; clear H; intro ge wx H) | (refine wpList_alloc_st H rfl 27 rfl _ ber_zero ?_; clear H; intro gr wx H))
    | ((with_reducible refine here_box ?_); first | (refine wpList_box_st H rfl _ _ rfl _ rfl ?_; clear H; intro gb wx H))))
  have l4 : (loadVar 27 ⟨gr, 0, none⟩).run Try.prog wx = .ok (.agg #[.int .i64 0, .int .i64 0, .int .i64 0, .int .i64 0, .int .i64 0, .slice none 0 0]) wx := H.loadRow 27 gr row_Berth (P := Try.prog) (by kernel_rfl)
  have l5 : (loadVar 50 ⟨ga, 0, none⟩).run Try.prog wx = .ok (.agg #[.int .i64 0, .int .i64 0, .int .i64 0, .int .i64 0]) wx := H.loadRow 50 ga row_Answer (P := Try.prog) (by kernel_rfl)
  exact bodyPost_ret (v := .tuple #[.agg #[.int .i64 0, .int .i64 0, .int .i64 0, .int .i64 0, .int .i64 0, .slice none 0 0], .agg #[.int .i64 0, .int .i64 0, .int .i64 0, .int .i64 0], .bool false, .int .i64 3]) (by simp [results, Try.results21, asAddr, l4, l5]) rfl (HF.out _ (H.subm _))

end Go.Proofs.Ytjgbkicnagcmdaa
