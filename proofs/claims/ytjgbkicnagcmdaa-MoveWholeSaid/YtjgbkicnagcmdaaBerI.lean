/- Berths: Import. -/
import Derived.Test.YtjgbkicnagcmdaaBerT
import Derived.Test.YtjgbkicnagcmdaaEqE
namespace Go.Proofs.Ytjgbkicnagcmdaa
open Go.RowKit

set_option linter.unusedVariables false
def BM.known (b : BM) (k : Nat) (l : List Ev) : Nat := min (b.es.length - k) l.length
/-- a berth behind an import that goes through -/
def BM.imported (b : BM) (k : Nat) (l : List Ev) (last : Bool) : BM :=
  if last = true then ⟨1, b.ep, 0, 0, 0, b.es ++ l.drop (b.known k l) ++ [⟨4, 0, 0, 0, 0, 0⟩]⟩ else ⟨b.role, b.ep, b.frm, b.dst, b.rounds, b.es ++ l.drop (b.known k l)⟩
/-- what is known is the same -/
def BM.alike (b : BM) (k : Nat) (l : List Ev) : Prop := (b.es.drop k).take (b.known k l) = (l.drop 0).take (b.known k l)
open Classical in
noncomputable def BM.importR (b : BM) (ep k : Int) (l : List Ev) (last : Bool) : BM × Int :=
  if b.role ≠ 4 then (BM.zero, 7) else if b.ep ≠ ep then (BM.zero, 15) else if k < 0 ∨ (b.es.length : Int) < k then (BM.zero, 2)
  else if ¬ b.alike k.toNat l then (BM.zero, 3) else if last = true ∧ k.toNat + l.length < b.es.length then (BM.zero, 3) else (b.imported k.toNat l last, 0)

set_option maxRecDepth 100000 in
set_option maxHeartbeats 8000000 in
theorem import_none0 {w0 w : World} {I : List It} (be bf bd br ep k : Int) (es l : List Ev) (A B : Option Addr) (n c p d m : Nat) (last : Bool) (hl : es.length = n) (hlp : l.length = p) (hb : (⟨0, be, bf, bd, br, es⟩ : BM).Ok m) (hm : m ≤ 150) (hp : p ≤ 150) (hc : n ≤ c) (hd : p ≤ d) (H : St w0 w I) [h : Has I (evIt A es)] [h2 : Has I (evIt B l)] :
    Calls Try.prog 31 #[.agg (bArr ⟨0, be, bf, bd, br, es⟩ A n c), .int .i64 ep, .int .i64 k, .slice B p d, .bool last] w (BPost w0 I (⟨0, 0, 0, 0, 0, []⟩, 7)) := by
  have hn : n ≤ 150 := by have := hb.len; have : n ≤ m := hl ▸ this; omega
  have HI := Lib.hid h
  have HI2 := Lib.hid h2
  have HB := Lib.hid hb
  have HL := Lib.hid hl
  have HLP := Lib.hid hlp
  clear h h2 hb hl hlp
  unfold bArr
  dsimp only
  have HF := Lib.hid (fun W (h2 : St w0 W I) => (BPost.mk (r := (⟨0, 0, 0, 0, 0, []⟩, 7)) (n := 0) (c := 0) (A := none) rfl (Nat.le_refl _) (h2.old (s := 6) (n := 0) (A := none) (xs := []) Reads.none_) : BPost w0 I (⟨0, 0, 0, 0, 0, []⟩, 7) (.returned (.tuple #[.agg #[.int .i64 0, .int .i64 0, .int .i64 0, .int .i64 0, .int .i64 0, .slice none 0 0], .int .i64 7])) W))
  generalize BPost w0 I (⟨0, 0, 0, 0, 0, []⟩, 7) = POST at *
  go_enter Try.func31, Try.ntmps31
  go_wp2_with (first | (go_at_call 33; have h := HI.out; refine (check_st ⟨0, be, bf, bd, br, es⟩ A n c m HL.out HB.out hm hc H).mono ?_; clear H h; rintro ed wy ⟨rfl, H⟩) | (first
      | ((with_reducible refine here_load ?_); first | (refine wpList_load_st H rfl 46 _ rfl rfl row_Queue (by kernel_rfl) ?_) | (refine wpList_load_st H rfl 50 _ rfl rfl row_Answer (by kernel_rfl) ?_) | (refine wpList_load_st H rfl 37 _ rfl rfl row_Event (by kernel_rfl) ?_) | (refine wpList_load_st H rfl 27 _ rfl rfl row_Berth (by kernel_rfl) ?_) | (refine wpList_load1_st H rfl 3 _ rfl rfl sc_int (by rfl) ?_) | (refine wpList_load1_stG H (by rfl) 3 _ rfl rfl sc_int (by rfl) ?_) | (refine wpList_load1_st H rfl 4 _ rfl rfl sc_bool (by rfl) ?_) | (refine wpList_load1_stG H (by rfl) 4 _ rfl rfl sc_bool (by rfl) ?_) | (refine wpList_load1_st H rfl 30 _ rfl rfl sc_Errno (by rfl) ?_) | (refine wpList_load1_stG H (by rfl) 30 _ rfl rfl sc_Errno (by rfl) ?_) | (refine wpList_load1_st H rfl 25 _ rfl rfl sc_Evs (by rfl) ?_) | (refine wpList_load1_stG H (by rfl) 25 _ rfl rfl sc_Evs (by rfl) ?_))
      | ((with_reducible refine here_store ?_); first | (refine wpList_store_st H rfl 46 _ _ rfl rfl rfl (by kernel_rfl) (by rfl) (by kernel_rfl) ?_; clear H; intro wx H) | (refine wpList_store_st H rfl 50 _ _ rfl rfl rfl (by kernel_rfl) (by rfl) (by kernel_rfl) ?_; clear H; intro wx H) | (refine wpList_store_st H rfl 37 _ _ rfl rfl rfl (by kernel_rfl) (by rfl) (by kernel_rfl) ?_; clear H; intro wx H) | (refine wpList_store_st H rfl 27 _ _ rfl rfl rfl (by kernel_rfl) (by rfl) (by kernel_rfl) ?_; clear H; intro wx H) | (refine wpList_store1_st H rfl 3 _ _ rfl rfl _ rfl (by rfl) s1_int (by rfl) (by rfl) ?_; clear H; intro wx H) | (refine wpList_store1_st H rfl 4 _ _ rfl rfl _ rfl (by rfl) s1_bool (by rfl) (by rfl) ?_; clear H; intro wx H) | (refine wpList_store1_st H rfl 30 _ _ rfl rfl _ rfl (by rfl) s1_Errno (by rfl) (by rfl) ?_; clear H; intro wx H) | (refine wpList_store1_st H rfl 25 _ _ rfl rfl _ rfl (by rfl) s1_Evs (by rfl) (by rfl) ?_; clear H; intro wx H))
      | ((with_reducible refine here_alloc ?_); first | (refine wpList_alloc_st H rfl 46 rfl _ q_zero ?_; clear H; intro gq wx H) | (refine wpList_alloc_st H rfl 50 rfl _ ans_zero ?_; clear H; intro ga wx H) | (refine wpList_alloc_st H rfl 37 rfl _ ev_zero ?_; clear H; intro ge wx H) | (refine wpList_alloc_st H rfl 27 rfl _ ber_zero ?_; clear H; intro gr wx H))
      | ((with_reducible refine here_box ?_); first | (refine wpList_box_st H rfl _ _ rfl _ rfl ?_; clear H; intro gb wx H))))
  have l4 : (loadVar 27 ⟨gr, 0, none⟩).run Try.prog wx = .ok (.agg #[.int .i64 0, .int .i64 0, .int .i64 0, .int .i64 0, .int .i64 0, .slice none 0 0]) wx := H.loadRow 27 gr row_Berth (P := Try.prog) (by kernel_rfl)
  exact bodyPost_ret (v := .tuple #[.agg #[.int .i64 0, .int .i64 0, .int .i64 0, .int .i64 0, .int .i64 0, .slice none 0 0], .int .i64 7]) (by simp [results, Try.results31, asAddr, l4]) rfl (HF.out _ (H.subm _))
set_option maxRecDepth 100000 in
set_option maxHeartbeats 8000000 in
theorem import_none1 {w0 w : World} {I : List It} (be bf bd br ep k : Int) (es l : List Ev) (A B : Option Addr) (n c p d m : Nat) (last : Bool) (hl : es.length = n) (hlp : l.length = p) (hb : (⟨1, be, bf, bd, br, es⟩ : BM).Ok m) (hm : m ≤ 150) (hp : p ≤ 150) (hc : n ≤ c) (hd : p ≤ d) (H : St w0 w I) [h : Has I (evIt A es)] [h2 : Has I (evIt B l)] :
    Calls Try.prog 31 #[.agg (bArr ⟨1, be, bf, bd, br, es⟩ A n c), .int .i64 ep, .int .i64 k, .slice B p d, .bool last] w (BPost w0 I (⟨0, 0, 0, 0, 0, []⟩, 7)) := by
  have hn : n ≤ 150 := by have := hb.len; have : n ≤ m := hl ▸ this; omega
  have HI := Lib.hid h
  have HI2 := Lib.hid h2
  have HB := Lib.hid hb
  have HL := Lib.hid hl
  have HLP := Lib.hid hlp
  clear h h2 hb hl hlp
  unfold bArr
  dsimp only
  have HF := Lib.hid (fun W (h2 : St w0 W I) => (BPost.mk (r := (⟨0, 0, 0, 0, 0, []⟩, 7)) (n := 0) (c := 0) (A := none) rfl (Nat.le_refl _) (h2.old (s := 6) (n := 0) (A := none) (xs := []) Reads.none_) : BPost w0 I (⟨0, 0, 0, 0, 0, []⟩, 7) (.returned (.tuple #[.agg #[.int .i64 0, .int .i64 0, .int .i64 0, .int .i64 0, .int .i64 0, .slice none 0 0], .int .i64 7])) W))
  generalize BPost w0 I (⟨0, 0, 0, 0, 0, []⟩, 7) = POST at *
  go_enter Try.func31, Try.ntmps31
  go_wp2_with (first | (go_at_call 33; have h := HI.out; refine (check_st ⟨1, be, bf, bd, br, es⟩ A n c m HL.out HB.out hm hc H).mono ?_; clear H h; rintro ed wy ⟨rfl, H⟩) | (first
      | ((with_reducible refine here_load ?_); first | (refine wpList_load_st H rfl 46 _ rfl rfl row_Queue (by kernel_rfl) ?_) | (refine wpList_load_st H rfl 50 _ rfl rfl row_Answer (by kernel_rfl) ?_) | (refine wpList_load_st H rfl 37 _ rfl rfl row_Event (by kernel_rfl) ?_) | (refine wpList_load_st H rfl 27 _ rfl rfl row_Berth (by kernel_rfl) ?_) | (refine wpList_load1_st H rfl 3 _ rfl rfl sc_int (by rfl) ?_) | (refine wpList_load1_stG H (by rfl) 3 _ rfl rfl sc_int (by rfl) ?_) | (refine wpList_load1_st H rfl 4 _ rfl rfl sc_bool (by rfl) ?_) | (refine wpList_load1_stG H (by rfl) 4 _ rfl rfl sc_bool (by rfl) ?_) | (refine wpList_load1_st H rfl 30 _ rfl rfl sc_Errno (by rfl) ?_) | (refine wpList_load1_stG H (by rfl) 30 _ rfl rfl sc_Errno (by rfl) ?_) | (refine wpList_load1_st H rfl 25 _ rfl rfl sc_Evs (by rfl) ?_) | (refine wpList_load1_stG H (by rfl) 25 _ rfl rfl sc_Evs (by rfl) ?_))
      | ((with_reducible refine here_store ?_); first | (refine wpList_store_st H rfl 46 _ _ rfl rfl rfl (by kernel_rfl) (by rfl) (by kernel_rfl) ?_; clear H; intro wx H) | (refine wpList_store_st H rfl 50 _ _ rfl rfl rfl (by kernel_rfl) (by rfl) (by kernel_rfl) ?_; clear H; intro wx H) | (refine wpList_store_st H rfl 37 _ _ rfl rfl rfl (by kernel_rfl) (by rfl) (by kernel_rfl) ?_; clear H; intro wx H) | (refine wpList_store_st H rfl 27 _ _ rfl rfl rfl (by kernel_rfl) (by rfl) (by kernel_rfl) ?_; clear H; intro wx H) | (refine wpList_store1_st H rfl 3 _ _ rfl rfl _ rfl (by rfl) s1_int (by rfl) (by rfl) ?_; clear H; intro wx H) | (refine wpList_store1_st H rfl 4 _ _ rfl rfl _ rfl (by rfl) s1_bool (by rfl) (by rfl) ?_; clear H; intro wx H) | (refine wpList_store1_st H rfl 30 _ _ rfl rfl _ rfl (by rfl) s1_Errno (by rfl) (by rfl) ?_; clear H; intro wx H) | (refine wpList_store1_st H rfl 25 _ _ rfl rfl _ rfl (by rfl) s1_Evs (by rfl) (by rfl) ?_; clear H; intro wx H))
      | ((with_reducible refine here_alloc ?_); first | (refine wpList_alloc_st H rfl 46 rfl _ q_zero ?_; clear H; intro gq wx H) | (refine wpList_alloc_st H rfl 50 rfl _ ans_zero ?_; clear H; intro ga wx H) | (refine wpList_alloc_st H rfl 37 rfl _ ev_zero ?_; clear H; intro ge wx H) | (refine wpList_alloc_st H rfl 27 rfl _ ber_zero ?_; clear H; intro gr wx H))
      | ((with_reducible refine here_box ?_); first | (refine wpList_box_st H rfl _ _ rfl _ rfl ?_; clear H; intro gb wx H))))
  have l4 : (loadVar 27 ⟨gr, 0, none⟩).run Try.prog wx = .ok (.agg #[.int .i64 0, .int .i64 0, .int .i64 0, .int .i64 0, .int .i64 0, .slice none 0 0]) wx := H.loadRow 27 gr row_Berth (P := Try.prog) (by kernel_rfl)
  exact bodyPost_ret (v := .tuple #[.agg #[.int .i64 0, .int .i64 0, .int .i64 0, .int .i64 0, .int .i64 0, .slice none 0 0], .int .i64 7]) (by simp [results, Try.results31, asAddr, l4]) rfl (HF.out _ (H.subm _))
set_option maxRecDepth 100000 in
set_option maxHeartbeats 8000000 in
theorem import_none2 {w0 w : World} {I : List It} (be bf bd br ep k : Int) (es l : List Ev) (A B : Option Addr) (n c p d m : Nat) (last : Bool) (hl : es.length = n) (hlp : l.length = p) (hb : (⟨2, be, bf, bd, br, es⟩ : BM).Ok m) (hm : m ≤ 150) (hp : p ≤ 150) (hc : n ≤ c) (hd : p ≤ d) (H : St w0 w I) [h : Has I (evIt A es)] [h2 : Has I (evIt B l)] :
    Calls Try.prog 31 #[.agg (bArr ⟨2, be, bf, bd, br, es⟩ A n c), .int .i64 ep, .int .i64 k, .slice B p d, .bool last] w (BPost w0 I (⟨0, 0, 0, 0, 0, []⟩, 7)) := by
  have hn : n ≤ 150 := by have := hb.len; have : n ≤ m := hl ▸ this; omega
  have HI := Lib.hid h
  have HI2 := Lib.hid h2
  have HB := Lib.hid hb
  have HL := Lib.hid hl
  have HLP := Lib.hid hlp
  clear h h2 hb hl hlp
  unfold bArr
  dsimp only
  have HF := Lib.hid (fun W (h2 : St w0 W I) => (BPost.mk (r := (⟨0, 0, 0, 0, 0, []⟩, 7)) (n := 0) (c := 0) (A := none) rfl (Nat.le_refl _) (h2.old (s := 6) (n := 0) (A := none) (xs := []) Reads.none_) : BPost w0 I (⟨0, 0, 0, 0, 0, []⟩, 7) (.returned (.tuple #[.agg #[.int .i64 0, .int .i64 0, .int .i64 0, .int .i64 0, .int .i64 0, .slice none 0 0], .int .i64 7])) W))
  generalize BPost w0 I (⟨0, 0, 0, 0, 0, []⟩, 7) = POST at *
  go_enter Try.func31, Try.ntmps31
  go_wp2_with (first | (go_at_call 33; have h := HI.out; refine (check_st ⟨2, be, bf, bd, br, es⟩ A n c m HL.out HB.out hm hc H).mono ?_; clear H h; rintro ed wy ⟨rfl, H⟩) | (first
      | ((with_reducible refine here_load ?_); first | (refine wpList_load_st H rfl 46 _ rfl rfl row_Queue (by kernel_rfl) ?_) | (refine wpList_load_st H rfl 50 _ rfl rfl row_Answer (by kernel_rfl) ?_) | (refine wpList_load_st H rfl 37 _ rfl rfl row_Event (by kernel_rfl) ?_) | (refine wpList_load_st H rfl 27 _ rfl rfl row_Berth (by kernel_rfl) ?_) | (refine wpList_load1_st H rfl 3 _ rfl rfl sc_int (by rfl) ?_) | (refine wpList_load1_stG H (by rfl) 3 _ rfl rfl sc_int (by rfl) ?_) | (refine wpList_load1_st H rfl 4 _ rfl rfl sc_bool (by rfl) ?_) | (refine wpList_load1_stG H (by rfl) 4 _ rfl rfl sc_bool (by rfl) ?_) | (refine wpList_load1_st H rfl 30 _ rfl rfl sc_Errno (by rfl) ?_) | (refine wpList_load1_stG H (by rfl) 30 _ rfl rfl sc_Errno (by rfl) ?_) | (refine wpList_load1_st H rfl 25 _ rfl rfl sc_Evs (by rfl) ?_) | (refine wpList_load1_stG H (by rfl) 25 _ rfl rfl sc_Evs (by rfl) ?_))
      | ((with_reducible refine here_store ?_); first | (refine wpList_store_st H rfl 46 _ _ rfl rfl rfl (by kernel_rfl) (by rfl) (by kernel_rfl) ?_; clear H; intro wx H) | (refine wpList_store_st H rfl 50 _ _ rfl rfl rfl (by kernel_rfl) (by rfl) (by kernel_rfl) ?_; clear H; intro wx H) | (refine wpList_store_st H rfl 37 _ _ rfl rfl rfl (by kernel_rfl) (by rfl) (by kernel_rfl) ?_; clear H; intro wx H) | (refine wpList_store_st H rfl 27 _ _ rfl rfl rfl (by kernel_rfl) (by rfl) (by kernel_rfl) ?_; clear H; intro wx H) | (refine wpList_store1_st H rfl 3 _ _ rfl rfl _ rfl (by rfl) s1_int (by rfl) (by rfl) ?_; clear H; intro wx H) | (refine wpList_store1_st H rfl 4 _ _ rfl rfl _ rfl (by rfl) s1_bool (by rfl) (by rfl) ?_; clear H; intro wx H) | (refine wpList_store1_st H rfl 30 _ _ rfl rfl _ rfl (by rfl) s1_Errno (by rfl) (by rfl) ?_; clear H; intro wx H) | (refine wpList_store1_st H rfl 25 _ _ rfl rfl _ rfl (by rfl) s1_Evs (by rfl) (by rfl) ?_; clear H; intro wx H))
      | ((with_reducible refine here_alloc ?_); first | (refine wpList_alloc_st H rfl 46 rfl _ q_zero ?_; clear H; intro gq wx H) | (refine wpList_alloc_st H rfl 50 rfl _ ans_zero ?_; clear H; intro ga wx H) | (refine wpList_alloc_st H rfl 37 rfl _ ev_zero ?_; clear H; intro ge wx H) | (refine wpList_alloc_st H rfl 27 rfl _ ber_zero ?_; clear H; intro gr wx H))
      | ((with_reducible refine here_box ?_); first | (refine wpList_box_st H rfl _ _ rfl _ rfl ?_; clear H; intro gb wx H))))
  have l4 : (loadVar 27 ⟨gr, 0, none⟩).run Try.prog wx = .ok (.agg #[.int .i64 0, .int .i64 0, .int .i64 0, .int .i64 0, .int .i64 0, .slice none 0 0]) wx := H.loadRow 27 gr row_Berth (P := Try.prog) (by kernel_rfl)
  exact bodyPost_ret (v := .tuple #[.agg #[.int .i64 0, .int .i64 0, .int .i64 0, .int .i64 0, .int .i64 0, .slice none 0 0], .int .i64 7]) (by simp [results, Try.results31, asAddr, l4]) rfl (HF.out _ (H.subm _))
set_option maxRecDepth 100000 in
set_option maxHeartbeats 8000000 in
theorem import_none3 {w0 w : World} {I : List It} (be bf bd br ep k : Int) (es l : List Ev) (A B : Option Addr) (n c p d m : Nat) (last : Bool) (hl : es.length = n) (hlp : l.length = p) (hb : (⟨3, be, bf, bd, br, es⟩ : BM).Ok m) (hm : m ≤ 150) (hp : p ≤ 150) (hc : n ≤ c) (hd : p ≤ d) (H : St w0 w I) [h : Has I (evIt A es)] [h2 : Has I (evIt B l)] :
    Calls Try.prog 31 #[.agg (bArr ⟨3, be, bf, bd, br, es⟩ A n c), .int .i64 ep, .int .i64 k, .slice B p d, .bool last] w (BPost w0 I (⟨0, 0, 0, 0, 0, []⟩, 7)) := by
  have hn : n ≤ 150 := by have := hb.len; have : n ≤ m := hl ▸ this; omega
  have HI := Lib.hid h
  have HI2 := Lib.hid h2
  have HB := Lib.hid hb
  have HL := Lib.hid hl
  have HLP := Lib.hid hlp
  clear h h2 hb hl hlp
  unfold bArr
  dsimp only
  have HF := Lib.hid (fun W (h2 : St w0 W I) => (BPost.mk (r := (⟨0, 0, 0, 0, 0, []⟩, 7)) (n := 0) (c := 0) (A := none) rfl (Nat.le_refl _) (h2.old (s := 6) (n := 0) (A := none) (xs := []) Reads.none_) : BPost w0 I (⟨0, 0, 0, 0, 0, []⟩, 7) (.returned (.tuple #[.agg #[.int .i64 0, .int .i64 0, .int .i64 0, .int .i64 0, .int .i64 0, .slice none 0 0], .int .i64 7])) W))
  generalize BPost w0 I (⟨0, 0, 0, 0, 0, []⟩, 7) = POST at *
  go_enter Try.func31, Try.ntmps31
  go_wp2_with (first | (go_at_call 33; have h := HI.out; refine (check_st ⟨3, be, bf, bd, br, es⟩ A n c m HL.out HB.out hm hc H).mono ?_; clear H h; rintro ed wy ⟨rfl, H⟩) | (first
      | ((with_reducible refine here_load ?_); first | (refine wpList_load_st H rfl 46 _ rfl rfl row_Queue (by kernel_rfl) ?_) | (refine wpList_load_st H rfl 50 _ rfl rfl row_Answer (by kernel_rfl) ?_) | (refine wpList_load_st H rfl 37 _ rfl rfl row_Event (by kernel_rfl) ?_) | (refine wpList_load_st H rfl 27 _ rfl rfl row_Berth (by kernel_rfl) ?_) | (refine wpList_load1_st H rfl 3 _ rfl rfl sc_int (by rfl) ?_) | (refine wpList_load1_stG H (by rfl) 3 _ rfl rfl sc_int (by rfl) ?_) | (refine wpList_load1_st H rfl 4 _ rfl rfl sc_bool (by rfl) ?_) | (refine wpList_load1_stG H (by rfl) 4 _ rfl rfl sc_bool (by rfl) ?_) | (refine wpList_load1_st H rfl 30 _ rfl rfl sc_Errno (by rfl) ?_) | (refine wpList_load1_stG H (by rfl) 30 _ rfl rfl sc_Errno (by rfl) ?_) | (refine wpList_load1_st H rfl 25 _ rfl rfl sc_Evs (by rfl) ?_) | (refine wpList_load1_stG H (by rfl) 25 _ rfl rfl sc_Evs (by rfl) ?_))
      | ((with_reducible refine here_store ?_); first | (refine wpList_store_st H rfl 46 _ _ rfl rfl rfl (by kernel_rfl) (by rfl) (by kernel_rfl) ?_; clear H; intro wx H) | (refine wpList_store_st H rfl 50 _ _ rfl rfl rfl (by kernel_rfl) (by rfl) (by kernel_rfl) ?_; clear H; intro wx H) | (refine wpList_store_st H rfl 37 _ _ rfl rfl rfl (by kernel_rfl) (by rfl) (by kernel_rfl) ?_; clear H; intro wx H) | (refine wpList_store_st H rfl 27 _ _ rfl rfl rfl (by kernel_rfl) (by rfl) (by kernel_rfl) ?_; clear H; intro wx H) | (refine wpList_store1_st H rfl 3 _ _ rfl rfl _ rfl (by rfl) s1_int (by rfl) (by rfl) ?_; clear H; intro wx H) | (refine wpList_store1_st H rfl 4 _ _ rfl rfl _ rfl (by rfl) s1_bool (by rfl) (by rfl) ?_; clear H; intro wx H) | (refine wpList_store1_st H rfl 30 _ _ rfl rfl _ rfl (by rfl) s1_Errno (by rfl) (by rfl) ?_; clear H; intro wx H) | (refine wpList_store1_st H rfl 25 _ _ rfl rfl _ rfl (by rfl) s1_Evs (by rfl) (by rfl) ?_; clear H; intro wx H))
      | ((with_reducible refine here_alloc ?_); first | (refine wpList_alloc_st H rfl 46 rfl _ q_zero ?_; clear H; intro gq wx H) | (refine wpList_alloc_st H rfl 50 rfl _ ans_zero ?_; clear H; intro ga wx H) | (refine wpList_alloc_st H rfl 37 rfl _ ev_zero ?_; clear H; intro ge wx H) | (refine wpList_alloc_st H rfl 27 rfl _ ber_zero ?_; clear H; intro gr wx H))
      | ((with_reducible refine here_box ?_); first | (refine wpList_box_st H rfl _ _ rfl _ rfl ?_; clear H; intro gb wx H))))
  have l4 : (loadVar 27 ⟨gr, 0, none⟩).run Try.prog wx = .ok (.agg #[.int .i64 0, .int .i64 0, .int .i64 0, .int .i64 0, .int .i64 0, .slice none 0 0]) wx := H.loadRow 27 gr row_Berth (P := Try.prog) (by kernel_rfl)
  exact bodyPost_ret (v := .tuple #[.agg #[.int .i64 0, .int .i64 0, .int .i64 0, .int .i64 0, .int .i64 0, .slice none 0 0], .int .i64 7]) (by simp [results, Try.results31, asAddr, l4]) rfl (HF.out _ (H.subm _))
set_option maxRecDepth 100000 in
set_option maxHeartbeats 8000000 in
theorem import_epoch {w0 w : World} {I : List It} (be bf bd br ep k : Int) (es l : List Ev) (A B : Option Addr) (n c p d m : Nat) (last : Bool) (hl : es.length = n) (hlp : l.length = p) (hb : (⟨4, be, bf, bd, br, es⟩ : BM).Ok m) (hm : m ≤ 150) (hp : p ≤ 150) (hc : n ≤ c) (hd : p ≤ d) (he : be ≠ ep) (H : St w0 w I) [h : Has I (evIt A es)] [h2 : Has I (evIt B l)] :
    Calls Try.prog 31 #[.agg (bArr ⟨4, be, bf, bd, br, es⟩ A n c), .int .i64 ep, .int .i64 k, .slice B p d, .bool last] w (BPost w0 I (⟨0, 0, 0, 0, 0, []⟩, 15)) := by
  have hn : n ≤ 150 := by have := hb.len; have : n ≤ m := hl ▸ this; omega
  have HI := Lib.hid h
  have HI2 := Lib.hid h2
  have HB := Lib.hid hb
  have HL := Lib.hid hl
  have HLP := Lib.hid hlp
  clear h h2 hb hl hlp
  unfold bArr
  dsimp only
  have g1a : ((be : Int) == ep) = false := by simp; omega
  have g1b : decide ((be : Int) = ep) = false := by simp; omega
  have g2 : ((be : Int) != ep) = true := by simpa using he
  clear he
  have HF := Lib.hid (fun W (h2 : St w0 W I) => (BPost.mk (r := (⟨0, 0, 0, 0, 0, []⟩, 15)) (n := 0) (c := 0) (A := none) rfl (Nat.le_refl _) (h2.old (s := 6) (n := 0) (A := none) (xs := []) Reads.none_) : BPost w0 I (⟨0, 0, 0, 0, 0, []⟩, 15) (.returned (.tuple #[.agg #[.int .i64 0, .int .i64 0, .int .i64 0, .int .i64 0, .int .i64 0, .slice none 0 0], .int .i64 15])) W))
  generalize BPost w0 I (⟨0, 0, 0, 0, 0, []⟩, 15) = POST at *
  go_enter Try.func31, Try.ntmps31
  go_wp2_with (first | (go_at_call 33; have h := HI.out; refine (check_st ⟨4, be, bf, bd, br, es⟩ A n c m HL.out HB.out hm hc H).mono ?_; clear H h; rintro ed wy ⟨rfl, H⟩) | (first
      | ((with_reducible refine here_load ?_); first | (refine wpList_load_st H rfl 46 _ rfl rfl row_Queue (by kernel_rfl) ?_) | (refine wpList_load_st H rfl 50 _ rfl rfl row_Answer (by kernel_rfl) ?_) | (refine wpList_load_st H rfl 37 _ rfl rfl row_Event (by kernel_rfl) ?_) | (refine wpList_load_st H rfl 27 _ rfl rfl row_Berth (by kernel_rfl) ?_) | (refine wpList_load1_st H rfl 3 _ rfl rfl sc_int (by rfl) ?_) | (refine wpList_load1_stG H (by rfl) 3 _ rfl rfl sc_int (by rfl) ?_) | (refine wpList_load1_st H rfl 4 _ rfl rfl sc_bool (by rfl) ?_) | (refine wpList_load1_stG H (by rfl) 4 _ rfl rfl sc_bool (by rfl) ?_) | (refine wpList_load1_st H rfl 30 _ rfl rfl sc_Errno (by rfl) ?_) | (refine wpList_load1_stG H (by rfl) 30 _ rfl rfl sc_Errno (by rfl) ?_) | (refine wpList_load1_st H rfl 25 _ rfl rfl sc_Evs (by rfl) ?_) | (refine wpList_load1_stG H (by rfl) 25 _ rfl rfl sc_Evs (by rfl) ?_))
      | ((with_reducible refine here_store ?_); first | (refine wpList_store_st H rfl 46 _ _ rfl rfl rfl (by kernel_rfl) (by rfl) (by kernel_rfl) ?_; clear H; intro wx H) | (refine wpList_store_st H rfl 50 _ _ rfl rfl rfl (by kernel_rfl) (by rfl) (by kernel_rfl) ?_; clear H; intro wx H) | (refine wpList_store_st H rfl 37 _ _ rfl rfl rfl (by kernel_rfl) (by rfl) (by kernel_rfl) ?_; clear H; intro wx H) | (refine wpList_store_st H rfl 27 _ _ rfl rfl rfl (by kernel_rfl) (by rfl) (by kernel_rfl) ?_; clear H; intro wx H) | (refine wpList_store1_st H rfl 3 _ _ rfl rfl _ rfl (by rfl) s1_int (by rfl) (by rfl) ?_; clear H; intro wx H) | (refine wpList_store1_st H rfl 4 _ _ rfl rfl _ rfl (by rfl) s1_bool (by rfl) (by rfl) ?_; clear H; intro wx H) | (refine wpList_store1_st H rfl 30 _ _ rfl rfl _ rfl (by rfl) s1_Errno (by rfl) (by rfl) ?_; clear H; intro wx H) | (refine wpList_store1_st H rfl 25 _ _ rfl rfl _ rfl (by rfl) s1_Evs (by rfl) (by rfl) ?_; clear H; intro wx H))
      | ((with_reducible refine here_alloc ?_); first | (refine wpList_alloc_st H rfl 46 rfl _ q_zero ?_; clear H; intro gq wx H) | (refine wpList_alloc_st H rfl 50 rfl _ ans_zero ?_; clear H; intro ga wx H) | (refine wpList_alloc_st H rfl 37 rfl _ ev_zero ?_; clear H; intro ge wx H) | (refine wpList_alloc_st H rfl 27 rfl _ ber_zero ?_; clear H; intro gr wx H))
      | ((with_reducible refine here_box ?_); first | (refine wpList_box_st H rfl _ _ rfl _ rfl ?_; clear H; intro gb wx H))))
  have l4 : (loadVar 27 ⟨gr, 0, none⟩).run Try.prog wx = .ok (.agg #[.int .i64 0, .int .i64 0, .int .i64 0, .int .i64 0, .int .i64 0, .slice none 0 0]) wx := H.loadRow 27 gr row_Berth (P := Try.prog) (by kernel_rfl)
  exact bodyPost_ret (v := .tuple #[.agg #[.int .i64 0, .int .i64 0, .int .i64 0, .int .i64 0, .int .i64 0, .slice none 0 0], .int .i64 15]) (by simp [results, Try.results31, asAddr, l4]) rfl (HF.out _ (H.subm _))
set_option maxRecDepth 100000 in
set_option maxHeartbeats 8000000 in
theorem import_low {w0 w : World} {I : List It} (be bf bd br k : Int) (es l : List Ev) (A B : Option Addr) (n c p d m : Nat) (last : Bool) (hl : es.length = n) (hlp : l.length = p) (hb : (⟨4, be, bf, bd, br, es⟩ : BM).Ok m) (hm : m ≤ 150) (hp : p ≤ 150) (hc : n ≤ c) (hd : p ≤ d) (hk : k < 0) (H : St w0 w I) [h : Has I (evIt A es)] [h2 : Has I (evIt B l)] :
    Calls Try.prog 31 #[.agg (bArr ⟨4, be, bf, bd, br, es⟩ A n c), .int .i64 be, .int .i64 k, .slice B p d, .bool last] w (BPost w0 I (⟨0, 0, 0, 0, 0, []⟩, 2)) := by
  have hn : n ≤ 150 := by have := hb.len; have : n ≤ m := hl ▸ this; omega
  have HI := Lib.hid h
  have HI2 := Lib.hid h2
  have HB := Lib.hid hb
  have HL := Lib.hid hl
  have HLP := Lib.hid hlp
  clear h h2 hb hl hlp
  unfold bArr
  dsimp only
  have d1 := decide_eq_true hk
  have HF := Lib.hid (fun W (h2 : St w0 W I) => (BPost.mk (r := (⟨0, 0, 0, 0, 0, []⟩, 2)) (n := 0) (c := 0) (A := none) rfl (Nat.le_refl _) (h2.old (s := 6) (n := 0) (A := none) (xs := []) Reads.none_) : BPost w0 I (⟨0, 0, 0, 0, 0, []⟩, 2) (.returned (.tuple #[.agg #[.int .i64 0, .int .i64 0, .int .i64 0, .int .i64 0, .int .i64 0, .slice none 0 0], .int .i64 2])) W))
  generalize BPost w0 I (⟨0, 0, 0, 0, 0, []⟩, 2) = POST at *
  go_enter Try.func31, Try.ntmps31
  go_wp2_with (first | (go_at_call 33; have h := HI.out; refine (check_st ⟨4, be, bf, bd, br, es⟩ A n c m HL.out HB.out hm hc H).mono ?_; clear H h; rintro ed wy ⟨rfl, H⟩) | (first
      | ((with_reducible refine here_load ?_); first | (refine wpList_load_st H rfl 46 _ rfl rfl row_Queue (by kernel_rfl) ?_) | (refine wpList_load_st H rfl 50 _ rfl rfl row_Answer (by kernel_rfl) ?_) | (refine wpList_load_st H rfl 37 _ rfl rfl row_Event (by kernel_rfl) ?_) | (refine wpList_load_st H rfl 27 _ rfl rfl row_Berth (by kernel_rfl) ?_) | (refine wpList_load1_st H rfl 3 _ rfl rfl sc_int (by rfl) ?_) | (refine wpList_load1_stG H (by rfl) 3 _ rfl rfl sc_int (by rfl) ?_) | (refine wpList_load1_st H rfl 4 _ rfl rfl sc_bool (by rfl) ?_) | (refine wpList_load1_stG H (by rfl) 4 _ rfl rfl sc_bool (by rfl) ?_) | (refine wpList_load1_st H rfl 30 _ rfl rfl sc_Errno (by rfl) ?_) | (refine wpList_load1_stG H (by rfl) 30 _ rfl rfl sc_Errno (by rfl) ?_) | (refine wpList_load1_st H rfl 25 _ rfl rfl sc_Evs (by rfl) ?_) | (refine wpList_load1_stG H (by rfl) 25 _ rfl rfl sc_Evs (by rfl) ?_))
      | ((with_reducible refine here_store ?_); first | (refine wpList_store_st H rfl 46 _ _ rfl rfl rfl (by kernel_rfl) (by rfl) (by kernel_rfl) ?_; clear H; intro wx H) | (refine wpList_store_st H rfl 50 _ _ rfl rfl rfl (by kernel_rfl) (by rfl) (by kernel_rfl) ?_; clear H; intro wx H) | (refine wpList_store_st H rfl 37 _ _ rfl rfl rfl (by kernel_rfl) (by rfl) (by kernel_rfl) ?_; clear H; intro wx H) | (refine wpList_store_st H rfl 27 _ _ rfl rfl rfl (by kernel_rfl) (by rfl) (by kernel_rfl) ?_; clear H; intro wx H) | (refine wpList_store1_st H rfl 3 _ _ rfl rfl _ rfl (by rfl) s1_int (by rfl) (by rfl) ?_; clear H; intro wx H) | (refine wpList_store1_st H rfl 4 _ _ rfl rfl _ rfl (by rfl) s1_bool (by rfl) (by rfl) ?_; clear H; intro wx H) | (refine wpList_store1_st H rfl 30 _ _ rfl rfl _ rfl (by rfl) s1_Errno (by rfl) (by rfl) ?_; clear H; intro wx H) | (refine wpList_store1_st H rfl 25 _ _ rfl rfl _ rfl (by rfl) s1_Evs (by rfl) (by rfl) ?_; clear H; intro wx H))
      | ((with_reducible refine here_alloc ?_); first | (refine wpList_alloc_st H rfl 46 rfl _ q_zero ?_; clear H; intro gq wx H) | (refine wpList_alloc_st H rfl 50 rfl _ ans_zero ?_; clear H; intro ga wx H) | (refine wpList_alloc_st H rfl 37 rfl _ ev_zero ?_; clear H; intro ge wx H) | (refine wpList_alloc_st H rfl 27 rfl _ ber_zero ?_; clear H; intro gr wx H))
      | ((with_reducible refine here_box ?_); first | (refine wpList_box_st H rfl _ _ rfl _ rfl ?_; clear H; intro gb wx H))))
  have l4 : (loadVar 27 ⟨gr, 0, none⟩).run Try.prog wx = .ok (.agg #[.int .i64 0, .int .i64 0, .int .i64 0, .int .i64 0, .int .i64 0, .slice none 0 0]) wx := H.loadRow 27 gr row_Berth (P := Try.prog) (by kernel_rfl)
  exact bodyPost_ret (v := .tuple #[.agg #[.int .i64 0, .int .i64 0, .int .i64 0, .int .i64 0, .int .i64 0, .slice none 0 0], .int .i64 2]) (by simp [results, Try.results31, asAddr, l4]) rfl (HF.out _ (H.subm _))
set_option maxRecDepth 100000 in
set_option maxHeartbeats 8000000 in
theorem import_high {w0 w : World} {I : List It} (be bf bd br k : Int) (es l : List Ev) (A B : Option Addr) (n c p d m : Nat) (last : Bool) (hl : es.length = n) (hlp : l.length = p) (hb : (⟨4, be, bf, bd, br, es⟩ : BM).Ok m) (hm : m ≤ 150) (hp : p ≤ 150) (hc : n ≤ c) (hd : p ≤ d) (hk : (n : Int) < k) (H : St w0 w I) [h : Has I (evIt A es)] [h2 : Has I (evIt B l)] :
    Calls Try.prog 31 #[.agg (bArr ⟨4, be, bf, bd, br, es⟩ A n c), .int .i64 be, .int .i64 k, .slice B p d, .bool last] w (BPost w0 I (⟨0, 0, 0, 0, 0, []⟩, 2)) := by
  have hn : n ≤ 150 := by have := hb.len; have : n ≤ m := hl ▸ this; omega
  have HI := Lib.hid h
  have HI2 := Lib.hid h2
  have HB := Lib.hid hb
  have HL := Lib.hid hl
  have HLP := Lib.hid hlp
  clear h h2 hb hl hlp
  unfold bArr
  dsimp only
  have d2 := decide_eq_true hk
  have d0 : ¬ k < 0 := by omega
  have d1 := decide_eq_false d0
  have HF := Lib.hid (fun W (h2 : St w0 W I) => (BPost.mk (r := (⟨0, 0, 0, 0, 0, []⟩, 2)) (n := 0) (c := 0) (A := none) rfl (Nat.le_refl _) (h2.old (s := 6) (n := 0) (A := none) (xs := []) Reads.none_) : BPost w0 I (⟨0, 0, 0, 0, 0, []⟩, 2) (.returned (.tuple #[.agg #[.int .i64 0, .int .i64 0, .int .i64 0, .int .i64 0, .int .i64 0, .slice none 0 0], .int .i64 2])) W))
  generalize BPost w0 I (⟨0, 0, 0, 0, 0, []⟩, 2) = POST at *
  go_enter Try.func31, Try.ntmps31
  go_wp2_with (first | (go_at_call 33; have h := HI.out; refine (check_st ⟨4, be, bf, bd, br, es⟩ A n c m HL.out HB.out hm hc H).mono ?_; clear H h; rintro ed wy ⟨rfl, H⟩) | (first
      | ((with_reducible refine here_load ?_); first | (refine wpList_load_st H rfl 46 _ rfl rfl row_Queue (by kernel_rfl) ?_) | (refine wpList_load_st H rfl 50 _ rfl rfl row_Answer (by kernel_rfl) ?_) | (refine wpList_load_st H rfl 37 _ rfl rfl row_Event (by kernel_rfl) ?_) | (refine wpList_load_st H rfl 27 _ rfl rfl row_Berth (by kernel_rfl) ?_) | (refine wpList_load1_st H rfl 3 _ rfl rfl sc_int (by rfl) ?_) | (refine wpList_load1_stG H (by rfl) 3 _ rfl rfl sc_int (by rfl) ?_) | (refine wpList_load1_st H rfl 4 _ rfl rfl sc_bool (by rfl) ?_) | (refine wpList_load1_stG H (by rfl) 4 _ rfl rfl sc_bool (by rfl) ?_) | (refine wpList_load1_st H rfl 30 _ rfl rfl sc_Errno (by rfl) ?_) | (refine wpList_load1_stG H (by rfl) 30 _ rfl rfl sc_Errno (by rfl) ?_) | (refine wpList_load1_st H rfl 25 _ rfl rfl sc_Evs (by rfl) ?_) | (refine wpList_load1_stG H (by rfl) 25 _ rfl rfl sc_Evs (by rfl) ?_))
      | ((with_reducible refine here_store ?_); first | (refine wpList_store_st H rfl 46 _ _ rfl rfl rfl (by kernel_rfl) (by rfl) (by kernel_rfl) ?_; clear H; intro wx H) | (refine wpList_store_st H rfl 50 _ _ rfl rfl rfl (by kernel_rfl) (by rfl) (by kernel_rfl) ?_; clear H; intro wx H) | (refine wpList_store_st H rfl 37 _ _ rfl rfl rfl (by kernel_rfl) (by rfl) (by kernel_rfl) ?_; clear H; intro wx H) | (refine wpList_store_st H rfl 27 _ _ rfl rfl rfl (by kernel_rfl) (by rfl) (by kernel_rfl) ?_; clear H; intro wx H) | (refine wpList_store1_st H rfl 3 _ _ rfl rfl _ rfl (by rfl) s1_int (by rfl) (by rfl) ?_; clear H; intro wx H) | (refine wpList_store1_st H rfl 4 _ _ rfl rfl _ rfl (by rfl) s1_bool (by rfl) (by rfl) ?_; clear H; intro wx H) | (refine wpList_store1_st H rfl 30 _ _ rfl rfl _ rfl (by rfl) s1_Errno (by rfl) (by rfl) ?_; clear H; intro wx H) | (refine wpList_store1_st H rfl 25 _ _ rfl rfl _ rfl (by rfl) s1_Evs (by rfl) (by rfl) ?_; clear H; intro wx H))
      | ((with_reducible refine here_alloc ?_); first | (refine wpList_alloc_st H rfl 46 rfl _ q_zero ?_; clear H; intro gq wx H) | (refine wpList_alloc_st H rfl 50 rfl _ ans_zero ?_; clear H; intro ga wx H) | (refine wpList_alloc_st H rfl 37 rfl _ ev_zero ?_; clear H; intro ge wx H) | (refine wpList_alloc_st H rfl 27 rfl _ ber_zero ?_; clear H; intro gr wx H))
      | ((with_reducible refine here_box ?_); first | (refine wpList_box_st H rfl _ _ rfl _ rfl ?_; clear H; intro gb wx H))))
  have l4 : (loadVar 27 ⟨gr, 0, none⟩).run Try.prog wx = .ok (.agg #[.int .i64 0, .int .i64 0, .int .i64 0, .int .i64 0, .int .i64 0, .slice none 0 0]) wx := H.loadRow 27 gr row_Berth (P := Try.prog) (by kernel_rfl)
  exact bodyPost_ret (v := .tuple #[.agg #[.int .i64 0, .int .i64 0, .int .i64 0, .int .i64 0, .int .i64 0, .slice none 0 0], .int .i64 2]) (by simp [results, Try.results31, asAddr, l4]) rfl (HF.out _ (H.subm _))
set_option maxRecDepth 100000 in
set_option maxHeartbeats 8000000 in
theorem import_unlike {w0 w : World} {I : List It} (be bf bd br : Int) (es l : List Ev) (A B : Option Addr) (n c p d m k N : Nat) (last : Bool) (hl : es.length = n) (hlp : l.length = p) (hb : (⟨4, be, bf, bd, br, es⟩ : BM).Ok m) (hm : m ≤ 150) (hp : p ≤ 150) (hc : n ≤ c) (hd : p ≤ d) (hk : k ≤ n) (hN : min (n - k) p = N) (hx : ¬ (es.drop k).take N = (l.drop 0).take N) (H : St w0 w I) [h : Has I (evIt A es)] [h2 : Has I (evIt B l)] :
    Calls Try.prog 31 #[.agg (bArr ⟨4, be, bf, bd, br, es⟩ A n c), .int .i64 be, .int .i64 k, .slice B p d, .bool last] w (BPost w0 I (⟨0, 0, 0, 0, 0, []⟩, 3)) := by
  have hn : n ≤ 150 := by have := hb.len; have : n ≤ m := hl ▸ this; omega
  have HI := Lib.hid h
  have HI2 := Lib.hid h2
  have HB := Lib.hid hb
  have HL := Lib.hid hl
  have HLP := Lib.hid hlp
  clear h h2 hb hl hlp
  unfold bArr
  dsimp only
  have d0 : ¬ (k : Int) < 0 := by omega
  have d1 := decide_eq_false d0
  have d3 : ¬ (n : Int) < (k : Int) := by omega
  have d2 := decide_eq_false d3
  have w1 : IntKind.i64.wrap ((n : Int) - (k : Int)) = (n : Int) - (k : Int) := IntWalk.i64_in _ (by omega)
  have hmin : min ((n : Int) - (k : Int)) (p : Int) = (N : Int) := by omega
  have w2 : IntKind.i64.wrap ((k : Int) + (N : Int)) = (k : Int) + (N : Int) := IntWalk.i64_in _ (by omega)
  have w3 : IntKind.i64.wrap ((k : Int) + (p : Int)) = (k : Int) + (p : Int) := IntWalk.i64_in _ (by omega)
  have n1 : k + N ≤ n := by omega
  have n2 : N ≤ p := by omega
  have HN1 := Lib.hid (show ((es.drop k).take N).length = N by simp; have := HL.out; omega)
  have HN2 := Lib.hid (show ((l.drop 0).take N).length = N by simp; have := HLP.out; omega)
  have HF := Lib.hid (fun W (h2 : St w0 W I) => (BPost.mk (r := (⟨0, 0, 0, 0, 0, []⟩, 3)) (n := 0) (c := 0) (A := none) rfl (Nat.le_refl _) (h2.old (s := 6) (n := 0) (A := none) (xs := []) Reads.none_) : BPost w0 I (⟨0, 0, 0, 0, 0, []⟩, 3) (.returned (.tuple #[.agg #[.int .i64 0, .int .i64 0, .int .i64 0, .int .i64 0, .int .i64 0, .slice none 0 0], .int .i64 3])) W))
  generalize BPost w0 I (⟨0, 0, 0, 0, 0, []⟩, 3) = POST at *
  go_enter Try.func31, Try.ntmps31
  go_upto_region 11 with (first | (go_at_call 33; have h := HI.out; refine (check_st ⟨4, be, bf, bd, br, es⟩ A n c m HL.out HB.out hm hc H).mono ?_; clear H h; rintro ed wy ⟨rfl, H⟩) | (first
      | ((with_reducible refine here_load ?_); first | (refine wpList_load_st H rfl 46 _ rfl rfl row_Queue (by kernel_rfl) ?_) | (refine wpList_load_st H rfl 50 _ rfl rfl row_Answer (by kernel_rfl) ?_) | (refine wpList_load_st H rfl 37 _ rfl rfl row_Event (by kernel_rfl) ?_) | (refine wpList_load_st H rfl 27 _ rfl rfl row_Berth (by kernel_rfl) ?_) | (refine wpList_load1_st H rfl 3 _ rfl rfl sc_int (by rfl) ?_) | (refine wpList_load1_stG H (by rfl) 3 _ rfl rfl sc_int (by rfl) ?_) | (refine wpList_load1_st H rfl 4 _ rfl rfl sc_bool (by rfl) ?_) | (refine wpList_load1_stG H (by rfl) 4 _ rfl rfl sc_bool (by rfl) ?_) | (refine wpList_load1_st H rfl 30 _ rfl rfl sc_Errno (by rfl) ?_) | (refine wpList_load1_stG H (by rfl) 30 _ rfl rfl sc_Errno (by rfl) ?_) | (refine wpList_load1_st H rfl 25 _ rfl rfl sc_Evs (by rfl) ?_) | (refine wpList_load1_stG H (by rfl) 25 _ rfl rfl sc_Evs (by rfl) ?_))
      | ((with_reducible refine here_store ?_); first | (refine wpList_store_st H rfl 46 _ _ rfl rfl rfl (by kernel_rfl) (by rfl) (by kernel_rfl) ?_; clear H; intro wx H) | (refine wpList_store_st H rfl 50 _ _ rfl rfl rfl (by kernel_rfl) (by rfl) (by kernel_rfl) ?_; clear H; intro wx H) | (refine wpList_store_st H rfl 37 _ _ rfl rfl rfl (by kernel_rfl) (by rfl) (by kernel_rfl) ?_; clear H; intro wx H) | (refine wpList_store_st H rfl 27 _ _ rfl rfl rfl (by kernel_rfl) (by rfl) (by kernel_rfl) ?_; clear H; intro wx H) | (refine wpList_store1_st H rfl 3 _ _ rfl rfl _ rfl (by rfl) s1_int (by rfl) (by rfl) ?_; clear H; intro wx H) | (refine wpList_store1_st H rfl 4 _ _ rfl rfl _ rfl (by rfl) s1_bool (by rfl) (by rfl) ?_; clear H; intro wx H) | (refine wpList_store1_st H rfl 30 _ _ rfl rfl _ rfl (by rfl) s1_Errno (by rfl) (by rfl) ?_; clear H; intro wx H) | (refine wpList_store1_st H rfl 25 _ _ rfl rfl _ rfl (by rfl) s1_Evs (by rfl) (by rfl) ?_; clear H; intro wx H))
      | ((with_reducible refine here_alloc ?_); first | (refine wpList_alloc_st H rfl 46 rfl _ q_zero ?_; clear H; intro gq wx H) | (refine wpList_alloc_st H rfl 50 rfl _ ans_zero ?_; clear H; intro ga wx H) | (refine wpList_alloc_st H rfl 37 rfl _ ev_zero ?_; clear H; intro ge wx H) | (refine wpList_alloc_st H rfl 27 rfl _ ber_zero ?_; clear H; intro gr wx H))
      | ((with_reducible refine here_box ?_); first | (refine wpList_box_st H rfl _ _ rfl _ rfl ?_; clear H; intro gb wx H))))
  (try simp only [Act.put])
  
  refine startS (H.subm (.bl gb 27 #[.int .i64 4, .int .i64 be, .int .i64 bf, .int .i64 bd, .int .i64 br, .slice A n c] :: I)) (by kernel_rfl) (fun HS => ?_)
  replace H := H.drew
  refine takeV (i := 0) (v := ?_) rfl (by kernel_rfl) (by kernel_rfl) (by kernel_rfl) (fun _ _ _ h => h) (by rfl) ?_ HS ?_
  rotate_left
  · (intro W hW; go_simp; try with_reducible rfl)
  (try simp only [Act.put, List.setIfInBounds_toArray, List.set_cons_zero, List.set_cons_succ])
  refine take1_st (i := 1) 25 _ rfl rfl rfl sc_Evs _ (by rfl) (by kernel_rfl) (by kernel_rfl) (by kernel_rfl) (fun _ _ _ _ h => h) (by rfl) HS ?_
  (try simp only [Act.put, List.setIfInBounds_toArray, List.set_cons_zero, List.set_cons_succ])
  refine takeMove (i := 2) rfl rfl _ (by rfl) (by kernel_rfl) (by kernel_rfl) (by kernel_rfl) (fun _ _ _ _ h => h) (by rfl) HS ?_
  (try simp only [Act.put, List.setIfInBounds_toArray, List.set_cons_zero, List.set_cons_succ])
  refine takeMove (i := 3) rfl rfl _ (by rfl) (by kernel_rfl) (by kernel_rfl) (by kernel_rfl) (fun _ _ _ _ h => h) (by rfl) HS ?_
  (try simp only [Act.put, List.setIfInBounds_toArray, List.set_cons_zero, List.set_cons_succ])
  refine takeMove (i := 4) rfl rfl _ (by rfl) (by kernel_rfl) (by kernel_rfl) (by kernel_rfl) (fun _ _ _ _ h => h) (by rfl) HS ?_
  (try simp only [Act.put, List.setIfInBounds_toArray, List.set_cons_zero, List.set_cons_succ])
  refine takeV (i := 5) (v := ?_) rfl (by kernel_rfl) (by kernel_rfl) (by kernel_rfl) (fun _ _ _ h => h) (by rfl) ?_ HS ?_
  rotate_left
  · (intro W hW; go_simp; try with_reducible rfl)
  (try simp only [Act.put, List.setIfInBounds_toArray, List.set_cons_zero, List.set_cons_succ])
  refine takeMove (i := 6) rfl rfl _ (by rfl) (by kernel_rfl) (by kernel_rfl) (by kernel_rfl) (fun _ _ _ _ h => h) (by rfl) HS ?_
  (try simp only [Act.put, List.setIfInBounds_toArray, List.set_cons_zero, List.set_cons_succ])
  refine takeMove (i := 7) rfl rfl _ (by rfl) (by kernel_rfl) (by kernel_rfl) (by kernel_rfl) (fun _ _ _ _ h => h) (by rfl) HS ?_
  (try simp only [Act.put, List.setIfInBounds_toArray, List.set_cons_zero, List.set_cons_succ])
  refine takeV (i := 8) (v := ?_) rfl (by kernel_rfl) (by kernel_rfl) (by kernel_rfl) (fun _ _ _ h => h) (by rfl) ?_ HS ?_
  rotate_left
  · (intro W hW; go_simp; try with_reducible rfl)
  (try simp only [Act.put, List.setIfInBounds_toArray, List.set_cons_zero, List.set_cons_succ])
  refine takeSlice (i := 9) rfl rfl Try.underlying25 (s := 6) (by kernel_rfl) rfl (k) (k + N) (k + N) (.inl ⟨_, rfl, by omega⟩) (.inl ⟨_, rfl, by omega⟩) (.inl ⟨_, rfl, by omega⟩) (fun h => by cases h) (by omega) (by omega) (by omega) (N) (N) (by omega) (by omega) (by kernel_rfl) (by kernel_rfl) (by kernel_rfl) (fun _ _ _ _ h => h) (by rfl) HS ?_
  (try simp only [Act.put, List.setIfInBounds_toArray, List.set_cons_zero, List.set_cons_succ])
  refine takeMove (i := 10) rfl rfl _ (by rfl) (by kernel_rfl) (by kernel_rfl) (by kernel_rfl) (fun _ _ _ _ h => h) (by rfl) HS ?_
  (try simp only [Act.put, List.setIfInBounds_toArray, List.set_cons_zero, List.set_cons_succ])
  refine takeMove (i := 11) rfl rfl _ (by rfl) (by kernel_rfl) (by kernel_rfl) (by kernel_rfl) (fun _ _ _ _ h => h) (by rfl) HS ?_
  (try simp only [Act.put, List.setIfInBounds_toArray, List.set_cons_zero, List.set_cons_succ])
  refine takeMove (i := 12) rfl rfl _ (by rfl) (by kernel_rfl) (by kernel_rfl) (by kernel_rfl) (fun _ _ _ _ h => h) (by rfl) HS ?_
  (try simp only [Act.put, List.setIfInBounds_toArray, List.set_cons_zero, List.set_cons_succ])
  refine takeSlice (i := 13) rfl rfl Try.underlying25 (s := 6) (by kernel_rfl) rfl (0) (N) (N) (.inr ⟨rfl, rfl⟩) (.inl ⟨_, rfl, by omega⟩) (.inl ⟨_, rfl, by omega⟩) (fun h => by cases h) (by omega) (by omega) (by omega) (N) (N) (by omega) (by omega) (by kernel_rfl) (by kernel_rfl) (by kernel_rfl) (fun _ _ _ _ h => h) (by rfl) HS ?_
  (try simp only [Act.put, List.setIfInBounds_toArray, List.set_cons_zero, List.set_cons_succ])
  refine branchH [14] (by kernel_rfl) (by kernel_rfl) (AllStep.cons ?_ AllStep.nil)
  refine stepH_do (i := 14) rfl (by rfl) ?_
  have h := HI.out
  have h2 := HI2.out
  replace H := (H.subEv (A := A) (es := es) k N (k + N) (by rw [HL.out]; omega) (by omega)).subEv (A := B) (es := l) 0 N N (by rw [HLP.out]; omega) (by omega)
  refine wp_call_st rfl Try.func47 (by kernel_rfl) (by kernel_rfl) _ ?_ ((eqEv_st ((es.drop k).take N) ((l.drop 0).take N) (subA A k (k + N) 6) (subA B 0 N 6) N N N HN1.out HN2.out H (by omega) (Nat.le_refl _) (Nat.le_refl _)).mono ?_)
  · rfl
  clear H h h2
  rintro ed wy ⟨v, rfl, hv, H⟩
  obtain rfl : v = false := by
    cases v
    · rfl
    · exact absurd (hv.1 rfl) hx
  clear hv hx
  replace HS := HS.of H
  refine ⟨_, rfl, HS, ?_⟩
  (try simp only [Act.put, List.setIfInBounds_toArray, List.set_cons_zero, List.set_cons_succ])
  refine takeV (i := 15) (v := ?_) rfl (by kernel_rfl) (by kernel_rfl) (by kernel_rfl) (fun _ _ _ h => h) (by rfl) ?_ HS ?_
  rotate_left
  · (intro W hW; go_simp; try with_reducible rfl)
  (try simp only [Act.put, List.setIfInBounds_toArray, List.set_cons_zero, List.set_cons_succ])
  refine doneH (by kernel_rfl) ?_
  go_wp2_with (first
      | ((with_reducible refine here_load ?_); first | (refine wpList_load_st H rfl 46 _ rfl rfl row_Queue (by kernel_rfl) ?_) | (refine wpList_load_st H rfl 50 _ rfl rfl row_Answer (by kernel_rfl) ?_) | (refine wpList_load_st H rfl 37 _ rfl rfl row_Event (by kernel_rfl) ?_) | (refine wpList_load_st H rfl 27 _ rfl rfl row_Berth (by kernel_rfl) ?_) | (refine wpList_load1_st H rfl 3 _ rfl rfl sc_int (by rfl) ?_) | (refine wpList_load1_stG H (by rfl) 3 _ rfl rfl sc_int (by rfl) ?_) | (refine wpList_load1_st H rfl 4 _ rfl rfl sc_bool (by rfl) ?_) | (refine wpList_load1_stG H (by rfl) 4 _ rfl rfl sc_bool (by rfl) ?_) | (refine wpList_load1_st H rfl 30 _ rfl rfl sc_Errno (by rfl) ?_) | (refine wpList_load1_stG H (by rfl) 30 _ rfl rfl sc_Errno (by rfl) ?_) | (refine wpList_load1_st H rfl 25 _ rfl rfl sc_Evs (by rfl) ?_) | (refine wpList_load1_stG H (by rfl) 25 _ rfl rfl sc_Evs (by rfl) ?_))
      | ((with_reducible refine here_store ?_); first | (refine wpList_store_st H rfl 46 _ _ rfl rfl rfl (by kernel_rfl) (by rfl) (by kernel_rfl) ?_; clear H; intro wx H) | (refine wpList_store_st H rfl 50 _ _ rfl rfl rfl (by kernel_rfl) (by rfl) (by kernel_rfl) ?_; clear H; intro wx H) | (refine wpList_store_st H rfl 37 _ _ rfl rfl rfl (by kernel_rfl) (by rfl) (by kernel_rfl) ?_; clear H; intro wx H) | (refine wpList_store_st H rfl 27 _ _ rfl rfl rfl (by kernel_rfl) (by rfl) (by kernel_rfl) ?_; clear H; intro wx H) | (refine wpList_store1_st H rfl 3 _ _ rfl rfl _ rfl (by rfl) s1_int (by rfl) (by rfl) ?_; clear H; intro wx H) | (refine wpList_store1_st H rfl 4 _ _ rfl rfl _ rfl (by rfl) s1_bool (by rfl) (by rfl) ?_; clear H; intro wx H) | (refine wpList_store1_st H rfl 30 _ _ rfl rfl _ rfl (by rfl) s1_Errno (by rfl) (by rfl) ?_; clear H; intro wx H) | (refine wpList_store1_st H rfl 25 _ _ rfl rfl _ rfl (by rfl) s1_Evs (by rfl) (by rfl) ?_; clear H; intro wx H))
      | ((with_reducible refine here_alloc ?_); first | (refine wpList_alloc_st H rfl 46 rfl _ q_zero ?_; clear H; intro gq2 wx H) | (refine wpList_alloc_st H rfl 50 rfl _ ans_zero ?_; clear H; intro ga2 wx H) | (refine wpList_alloc_st H rfl 37 rfl _ ev_zero ?_; clear H; intro ge2 wx H) | (refine wpList_alloc_st H rfl 27 rfl _ ber_zero ?_; clear H; intro gr2 wx H))
      | ((with_reducible refine here_box ?_); first | (refine wpList_box_st H rfl _ _ rfl _ rfl ?_; clear H; intro gb2 wx H)))
  have l4 : (loadVar 27 ⟨gr, 0, none⟩).run Try.prog wx = .ok (.agg #[.int .i64 0, .int .i64 0, .int .i64 0, .int .i64 0, .int .i64 0, .slice none 0 0]) wx := H.loadRow 27 gr row_Berth (P := Try.prog) (by kernel_rfl)
  exact bodyPost_ret (v := .tuple #[.agg #[.int .i64 0, .int .i64 0, .int .i64 0, .int .i64 0, .int .i64 0, .slice none 0 0], .int .i64 3]) (by simp [results, Try.results31, asAddr, l4]) rfl (HF.out _ (H.subm _))
set_option maxRecDepth 100000 in
set_option maxHeartbeats 8000000 in
theorem import_few {w0 w : World} {I : List It} (be bf bd br : Int) (es l : List Ev) (A B : Option Addr) (n c p d m k N : Nat) (hl : es.length = n) (hlp : l.length = p) (hb : (⟨4, be, bf, bd, br, es⟩ : BM).Ok m) (hm : m ≤ 150) (hp : p ≤ 150) (hc : n ≤ c) (hd : p ≤ d) (hk : k ≤ n) (hN : min (n - k) p = N) (hx : (es.drop k).take N = (l.drop 0).take N) (hf : k + p < n) (H : St w0 w I) [h : Has I (evIt A es)] [h2 : Has I (evIt B l)] :
    Calls Try.prog 31 #[.agg (bArr ⟨4, be, bf, bd, br, es⟩ A n c), .int .i64 be, .int .i64 k, .slice B p d, .bool true] w (BPost w0 I (⟨0, 0, 0, 0, 0, []⟩, 3)) := by
  have hn : n ≤ 150 := by have := hb.len; have : n ≤ m := hl ▸ this; omega
  have HI := Lib.hid h
  have HI2 := Lib.hid h2
  have HB := Lib.hid hb
  have HL := Lib.hid hl
  have HLP := Lib.hid hlp
  clear h h2 hb hl hlp
  unfold bArr
  dsimp only
  have d0 : ¬ (k : Int) < 0 := by omega
  have d1 := decide_eq_false d0
  have d3 : ¬ (n : Int) < (k : Int) := by omega
  have d2 := decide_eq_false d3
  have w1 : IntKind.i64.wrap ((n : Int) - (k : Int)) = (n : Int) - (k : Int) := IntWalk.i64_in _ (by omega)
  have hmin : min ((n : Int) - (k : Int)) (p : Int) = (N : Int) := by omega
  have w2 : IntKind.i64.wrap ((k : Int) + (N : Int)) = (k : Int) + (N : Int) := IntWalk.i64_in _ (by omega)
  have w3 : IntKind.i64.wrap ((k : Int) + (p : Int)) = (k : Int) + (p : Int) := IntWalk.i64_in _ (by omega)
  have n1 : k + N ≤ n := by omega
  have n2 : N ≤ p := by omega
  have HN1 := Lib.hid (show ((es.drop k).take N).length = N by simp; have := HL.out; omega)
  have HN2 := Lib.hid (show ((l.drop 0).take N).length = N by simp; have := HLP.out; omega)
  have HTK := Lib.hid (show ((l.drop N).take (p - N)) = l.drop N from List.take_of_length_le (by simp; have := HLP.out; omega))
  have HDR := Lib.hid (show (l.drop N).length = p - N by simp; have := HLP.out; omega)
  obtain ⟨Q, hQ⟩ : ∃ Q, n + (p - N) = Q := ⟨_, rfl⟩
  have HLQ := Lib.hid (show (es ++ l.drop N).length = Q by rw [List.length_append, HL.out, HDR.out]; exact hQ)
  have HQ := Lib.hid hQ
  have hf1 : (k : Int) + (p : Int) < (n : Int) := by omega
  have hf2 := decide_eq_true hf1
  have HF := Lib.hid (fun W (h2 : St w0 W I) => (BPost.mk (r := (⟨0, 0, 0, 0, 0, []⟩, 3)) (n := 0) (c := 0) (A := none) rfl (Nat.le_refl _) (h2.old (s := 6) (n := 0) (A := none) (xs := []) Reads.none_) : BPost w0 I (⟨0, 0, 0, 0, 0, []⟩, 3) (.returned (.tuple #[.agg #[.int .i64 0, .int .i64 0, .int .i64 0, .int .i64 0, .int .i64 0, .slice none 0 0], .int .i64 3])) W))
  generalize BPost w0 I (⟨0, 0, 0, 0, 0, []⟩, 3) = POST at *
  go_enter Try.func31, Try.ntmps31
  go_upto_region 11 with (first | (go_at_call 33; have h := HI.out; refine (check_st ⟨4, be, bf, bd, br, es⟩ A n c m HL.out HB.out hm hc H).mono ?_; clear H h; rintro ed wy ⟨rfl, H⟩) | (first
      | ((with_reducible refine here_load ?_); first | (refine wpList_load_st H rfl 46 _ rfl rfl row_Queue (by kernel_rfl) ?_) | (refine wpList_load_st H rfl 50 _ rfl rfl row_Answer (by kernel_rfl) ?_) | (refine wpList_load_st H rfl 37 _ rfl rfl row_Event (by kernel_rfl) ?_) | (refine wpList_load_st H rfl 27 _ rfl rfl row_Berth (by kernel_rfl) ?_) | (refine wpList_load1_st H rfl 3 _ rfl rfl sc_int (by rfl) ?_) | (refine wpList_load1_stG H (by rfl) 3 _ rfl rfl sc_int (by rfl) ?_) | (refine wpList_load1_st H rfl 4 _ rfl rfl sc_bool (by rfl) ?_) | (refine wpList_load1_stG H (by rfl) 4 _ rfl rfl sc_bool (by rfl) ?_) | (refine wpList_load1_st H rfl 30 _ rfl rfl sc_Errno (by rfl) ?_) | (refine wpList_load1_stG H (by rfl) 30 _ rfl rfl sc_Errno (by rfl) ?_) | (refine wpList_load1_st H rfl 25 _ rfl rfl sc_Evs (by rfl) ?_) | (refine wpList_load1_stG H (by rfl) 25 _ rfl rfl sc_Evs (by rfl) ?_))
      | ((with_reducible refine here_store ?_); first | (refine wpList_store_st H rfl 46 _ _ rfl rfl rfl (by kernel_rfl) (by rfl) (by kernel_rfl) ?_; clear H; intro wx H) | (refine wpList_store_st H rfl 50 _ _ rfl rfl rfl (by kernel_rfl) (by rfl) (by kernel_rfl) ?_; clear H; intro wx H) | (refine wpList_store_st H rfl 37 _ _ rfl rfl rfl (by kernel_rfl) (by rfl) (by kernel_rfl) ?_; clear H; intro wx H) | (refine wpList_store_st H rfl 27 _ _ rfl rfl rfl (by kernel_rfl) (by rfl) (by kernel_rfl) ?_; clear H; intro wx H) | (refine wpList_store1_st H rfl 3 _ _ rfl rfl _ rfl (by rfl) s1_int (by rfl) (by rfl) ?_; clear H; intro wx H) | (refine wpList_store1_st H rfl 4 _ _ rfl rfl _ rfl (by rfl) s1_bool (by rfl) (by rfl) ?_; clear H; intro wx H) | (refine wpList_store1_st H rfl 30 _ _ rfl rfl _ rfl (by rfl) s1_Errno (by rfl) (by rfl) ?_; clear H; intro wx H) | (refine wpList_store1_st H rfl 25 _ _ rfl rfl _ rfl (by rfl) s1_Evs (by rfl) (by rfl) ?_; clear H; intro wx H))
      | ((with_reducible refine here_alloc ?_); first | (refine wpList_alloc_st H rfl 46 rfl _ q_zero ?_; clear H; intro gq wx H) | (refine wpList_alloc_st H rfl 50 rfl _ ans_zero ?_; clear H; intro ga wx H) | (refine wpList_alloc_st H rfl 37 rfl _ ev_zero ?_; clear H; intro ge wx H) | (refine wpList_alloc_st H rfl 27 rfl _ ber_zero ?_; clear H; intro gr wx H))
      | ((with_reducible refine here_box ?_); first | (refine wpList_box_st H rfl _ _ rfl _ rfl ?_; clear H; intro gb wx H))))
  (try simp only [Act.put])
  
  refine startS (H.subm (.bl gb 27 #[.int .i64 4, .int .i64 be, .int .i64 bf, .int .i64 bd, .int .i64 br, .slice A n c] :: I)) (by kernel_rfl) (fun HS => ?_)
  replace H := H.drew
  refine takeV (i := 0) (v := ?_) rfl (by kernel_rfl) (by kernel_rfl) (by kernel_rfl) (fun _ _ _ h => h) (by rfl) ?_ HS ?_
  rotate_left
  · (intro W hW; go_simp; try with_reducible rfl)
  (try simp only [Act.put, List.setIfInBounds_toArray, List.set_cons_zero, List.set_cons_succ])
  refine take1_st (i := 1) 25 _ rfl rfl rfl sc_Evs _ (by rfl) (by kernel_rfl) (by kernel_rfl) (by kernel_rfl) (fun _ _ _ _ h => h) (by rfl) HS ?_
  (try simp only [Act.put, List.setIfInBounds_toArray, List.set_cons_zero, List.set_cons_succ])
  refine takeMove (i := 2) rfl rfl _ (by rfl) (by kernel_rfl) (by kernel_rfl) (by kernel_rfl) (fun _ _ _ _ h => h) (by rfl) HS ?_
  (try simp only [Act.put, List.setIfInBounds_toArray, List.set_cons_zero, List.set_cons_succ])
  refine takeMove (i := 3) rfl rfl _ (by rfl) (by kernel_rfl) (by kernel_rfl) (by kernel_rfl) (fun _ _ _ _ h => h) (by rfl) HS ?_
  (try simp only [Act.put, List.setIfInBounds_toArray, List.set_cons_zero, List.set_cons_succ])
  refine takeMove (i := 4) rfl rfl _ (by rfl) (by kernel_rfl) (by kernel_rfl) (by kernel_rfl) (fun _ _ _ _ h => h) (by rfl) HS ?_
  (try simp only [Act.put, List.setIfInBounds_toArray, List.set_cons_zero, List.set_cons_succ])
  refine takeV (i := 5) (v := ?_) rfl (by kernel_rfl) (by kernel_rfl) (by kernel_rfl) (fun _ _ _ h => h) (by rfl) ?_ HS ?_
  rotate_left
  · (intro W hW; go_simp; try with_reducible rfl)
  (try simp only [Act.put, List.setIfInBounds_toArray, List.set_cons_zero, List.set_cons_succ])
  refine takeMove (i := 6) rfl rfl _ (by rfl) (by kernel_rfl) (by kernel_rfl) (by kernel_rfl) (fun _ _ _ _ h => h) (by rfl) HS ?_
  (try simp only [Act.put, List.setIfInBounds_toArray, List.set_cons_zero, List.set_cons_succ])
  refine takeMove (i := 7) rfl rfl _ (by rfl) (by kernel_rfl) (by kernel_rfl) (by kernel_rfl) (fun _ _ _ _ h => h) (by rfl) HS ?_
  (try simp only [Act.put, List.setIfInBounds_toArray, List.set_cons_zero, List.set_cons_succ])
  refine takeV (i := 8) (v := ?_) rfl (by kernel_rfl) (by kernel_rfl) (by kernel_rfl) (fun _ _ _ h => h) (by rfl) ?_ HS ?_
  rotate_left
  · (intro W hW; go_simp; try with_reducible rfl)
  (try simp only [Act.put, List.setIfInBounds_toArray, List.set_cons_zero, List.set_cons_succ])
  refine takeSlice (i := 9) rfl rfl Try.underlying25 (s := 6) (by kernel_rfl) rfl (k) (k + N) (k + N) (.inl ⟨_, rfl, by omega⟩) (.inl ⟨_, rfl, by omega⟩) (.inl ⟨_, rfl, by omega⟩) (fun h => by cases h) (by omega) (by omega) (by omega) (N) (N) (by omega) (by omega) (by kernel_rfl) (by kernel_rfl) (by kernel_rfl) (fun _ _ _ _ h => h) (by rfl) HS ?_
  (try simp only [Act.put, List.setIfInBounds_toArray, List.set_cons_zero, List.set_cons_succ])
  refine takeMove (i := 10) rfl rfl _ (by rfl) (by kernel_rfl) (by kernel_rfl) (by kernel_rfl) (fun _ _ _ _ h => h) (by rfl) HS ?_
  (try simp only [Act.put, List.setIfInBounds_toArray, List.set_cons_zero, List.set_cons_succ])
  refine takeMove (i := 11) rfl rfl _ (by rfl) (by kernel_rfl) (by kernel_rfl) (by kernel_rfl) (fun _ _ _ _ h => h) (by rfl) HS ?_
  (try simp only [Act.put, List.setIfInBounds_toArray, List.set_cons_zero, List.set_cons_succ])
  refine takeMove (i := 12) rfl rfl _ (by rfl) (by kernel_rfl) (by kernel_rfl) (by kernel_rfl) (fun _ _ _ _ h => h) (by rfl) HS ?_
  (try simp only [Act.put, List.setIfInBounds_toArray, List.set_cons_zero, List.set_cons_succ])
  refine takeSlice (i := 13) rfl rfl Try.underlying25 (s := 6) (by kernel_rfl) rfl (0) (N) (N) (.inr ⟨rfl, rfl⟩) (.inl ⟨_, rfl, by omega⟩) (.inl ⟨_, rfl, by omega⟩) (fun h => by cases h) (by omega) (by omega) (by omega) (N) (N) (by omega) (by omega) (by kernel_rfl) (by kernel_rfl) (by kernel_rfl) (fun _ _ _ _ h => h) (by rfl) HS ?_
  (try simp only [Act.put, List.setIfInBounds_toArray, List.set_cons_zero, List.set_cons_succ])
  refine branchH [14] (by kernel_rfl) (by kernel_rfl) (AllStep.cons ?_ AllStep.nil)
  refine stepH_do (i := 14) rfl (by rfl) ?_
  have h := HI.out
  have h2 := HI2.out
  replace H := (H.subEv (A := A) (es := es) k N (k + N) (by rw [HL.out]; omega) (by omega)).subEv (A := B) (es := l) 0 N N (by rw [HLP.out]; omega) (by omega)
  refine wp_call_st rfl Try.func47 (by kernel_rfl) (by kernel_rfl) _ ?_ ((eqEv_st ((es.drop k).take N) ((l.drop 0).take N) (subA A k (k + N) 6) (subA B 0 N 6) N N N HN1.out HN2.out H (by omega) (Nat.le_refl _) (Nat.le_refl _)).mono ?_)
  · rfl
  clear H h h2
  rintro ed wy ⟨v, rfl, hv, H⟩
  obtain rfl : v = true := hv.2 hx
  clear hv hx
  replace HS := HS.of H
  refine ⟨_, rfl, HS, ?_⟩
  (try simp only [Act.put, List.setIfInBounds_toArray, List.set_cons_zero, List.set_cons_succ])
  refine takeV (i := 15) (v := ?_) rfl (by kernel_rfl) (by kernel_rfl) (by kernel_rfl) (fun _ _ _ h => h) (by rfl) ?_ HS ?_
  rotate_left
  · (intro W hW; go_simp; try with_reducible rfl)
  (try simp only [Act.put, List.setIfInBounds_toArray, List.set_cons_zero, List.set_cons_succ])
  refine doneH (by kernel_rfl) ?_
  go_upto_region 13 with (first
      | ((with_reducible refine here_load ?_); first | (refine wpList_load_st H rfl 46 _ rfl rfl row_Queue (by kernel_rfl) ?_) | (refine wpList_load_st H rfl 50 _ rfl rfl row_Answer (by kernel_rfl) ?_) | (refine wpList_load_st H rfl 37 _ rfl rfl row_Event (by kernel_rfl) ?_) | (refine wpList_load_st H rfl 27 _ rfl rfl row_Berth (by kernel_rfl) ?_) | (refine wpList_load1_st H rfl 3 _ rfl rfl sc_int (by rfl) ?_) | (refine wpList_load1_stG H (by rfl) 3 _ rfl rfl sc_int (by rfl) ?_) | (refine wpList_load1_st H rfl 4 _ rfl rfl sc_bool (by rfl) ?_) | (refine wpList_load1_stG H (by rfl) 4 _ rfl rfl sc_bool (by rfl) ?_) | (refine wpList_load1_st H rfl 30 _ rfl rfl sc_Errno (by rfl) ?_) | (refine wpList_load1_stG H (by rfl) 30 _ rfl rfl sc_Errno (by rfl) ?_) | (refine wpList_load1_st H rfl 25 _ rfl rfl sc_Evs (by rfl) ?_) | (refine wpList_load1_stG H (by rfl) 25 _ rfl rfl sc_Evs (by rfl) ?_))
      | ((with_reducible refine here_store ?_); first | (refine wpList_store_st H rfl 46 _ _ rfl rfl rfl (by kernel_rfl) (by rfl) (by kernel_rfl) ?_; clear H; intro wx H) | (refine wpList_store_st H rfl 50 _ _ rfl rfl rfl (by kernel_rfl) (by rfl) (by kernel_rfl) ?_; clear H; intro wx H) | (refine wpList_store_st H rfl 37 _ _ rfl rfl rfl (by kernel_rfl) (by rfl) (by kernel_rfl) ?_; clear H; intro wx H) | (refine wpList_store_st H rfl 27 _ _ rfl rfl rfl (by kernel_rfl) (by rfl) (by kernel_rfl) ?_; clear H; intro wx H) | (refine wpList_store1_st H rfl 3 _ _ rfl rfl _ rfl (by rfl) s1_int (by rfl) (by rfl) ?_; clear H; intro wx H) | (refine wpList_store1_st H rfl 4 _ _ rfl rfl _ rfl (by rfl) s1_bool (by rfl) (by rfl) ?_; clear H; intro wx H) | (refine wpList_store1_st H rfl 30 _ _ rfl rfl _ rfl (by rfl) s1_Errno (by rfl) (by rfl) ?_; clear H; intro wx H) | (refine wpList_store1_st H rfl 25 _ _ rfl rfl _ rfl (by rfl) s1_Evs (by rfl) (by rfl) ?_; clear H; intro wx H))
      | ((with_reducible refine here_alloc ?_); first | (refine wpList_alloc_st H rfl 46 rfl _ q_zero ?_; clear H; intro gq2 wx H) | (refine wpList_alloc_st H rfl 50 rfl _ ans_zero ?_; clear H; intro ga2 wx H) | (refine wpList_alloc_st H rfl 37 rfl _ ev_zero ?_; clear H; intro ge2 wx H) | (refine wpList_alloc_st H rfl 27 rfl _ ber_zero ?_; clear H; intro gr2 wx H))
      | ((with_reducible refine here_box ?_); first | (refine wpList_box_st H rfl _ _ rfl _ rfl ?_; clear H; intro gb2 wx H)))
  (try simp only [Act.put])
  
  refine startS (H.subm (.bl gb 27 #[.int .i64 4, .int .i64 be, .int .i64 bf, .int .i64 bd, .int .i64 br, .slice A n c] :: I)) (by kernel_rfl) (fun HS => ?_)
  replace H := H.drew
  refine takeRow_st (i := 0) 27 _ rfl rfl rfl row_Berth (by kernel_rfl) (by kernel_rfl) (by kernel_rfl) (by kernel_rfl) (fun _ _ _ _ h => h) (by rfl) HS ?_
  (try simp only [Act.put, List.setIfInBounds_toArray, List.set_cons_zero, List.set_cons_succ])
  refine takeMove (i := 1) rfl rfl _ (by rfl) (by kernel_rfl) (by kernel_rfl) (by kernel_rfl) (fun _ _ _ _ h => h) (by rfl) HS ?_
  (try simp only [Act.put, List.setIfInBounds_toArray, List.set_cons_zero, List.set_cons_succ])
  refine takeMove (i := 2) rfl rfl _ (by rfl) (by kernel_rfl) (by kernel_rfl) (by kernel_rfl) (fun _ _ _ _ h => h) (by rfl) HS ?_
  (try simp only [Act.put, List.setIfInBounds_toArray, List.set_cons_zero, List.set_cons_succ])
  refine takeSlice (i := 3) rfl rfl Try.underlying25 (s := 6) (by kernel_rfl) rfl (N) (p) (d) (.inl ⟨_, rfl, by omega⟩) (.inr ⟨rfl, rfl⟩) (.inr ⟨rfl, rfl⟩) (fun _ => rfl) (by omega) (by omega) (by omega) (p - N) (d - N) (by omega) (by omega) (by kernel_rfl) (by kernel_rfl) (by kernel_rfl) (fun _ _ _ _ h => h) (by rfl) HS ?_
  (try simp only [Act.put, List.setIfInBounds_toArray, List.set_cons_zero, List.set_cons_succ])
  refine branchH [4, 5] (by kernel_rfl) (by kernel_rfl) (AllStep.cons ?_ (AllStep.cons ?_ AllStep.nil))
  · refine stepH_do (i := 4) rfl (by rfl) ?_
    have h := HI.out
    have h2 := HI2.out
    replace H := H.subEv (A := B) (es := l) N (p - N) d (by rw [HLP.out]; omega) (by omega)
    rw [HTK.out] at H
    refine wp_call_st rfl Try.func35 (by kernel_rfl) (by kernel_rfl) _ ?_ ((with_st ⟨4, be, bf, bd, br, es⟩ (l.drop N) A (subA B N d 6) n c (p - N) (d - N) HL.out HDR.out hn (by omega) hc H).mono ?_)
    · rfl
    clear H h h2
    rintro ed wy ⟨A9, c9, rfl, hc9, H⟩
    rw [HQ.out] at hc9 ⊢
    replace HS := HS.of H
    refine ⟨_, rfl, HS, ?_⟩
    (try simp only [Act.put, List.setIfInBounds_toArray, List.set_cons_zero, List.set_cons_succ])
    refine branchH [5] (by kernel_rfl) (by kernel_rfl) (AllStep.cons ?_ AllStep.nil)
    refine stepH_do (i := 5) rfl (by rfl) ?_
    refine wp_alloc_st H 27 rfl _ ber_zero ?_
    clear H
    intro gro wx H
    replace HS := HS.of H
    refine ⟨HS, ?_⟩
    (try simp only [Act.put, List.setIfInBounds_toArray, List.set_cons_zero, List.set_cons_succ])
    refine branchH [6] (by kernel_rfl) (by kernel_rfl) (AllStep.cons ?_ AllStep.nil)
    refine stepH_do (i := 6) rfl (by rfl) ?_
    refine wp_store_st H 27 _ _ rfl rfl rfl (by kernel_rfl) (by rfl) (by kernel_rfl) ?_
    clear H
    intro wx H
    replace HS := HS.of H
    refine ⟨HS, ?_⟩
    (try simp only [Act.put])
    refine doneH (by kernel_rfl) ?_
    go_wp2_with (first
        | ((with_reducible refine here_load ?_); first | (refine wpList_load_st H rfl 46 _ rfl rfl row_Queue (by kernel_rfl) ?_) | (refine wpList_load_st H rfl 50 _ rfl rfl row_Answer (by kernel_rfl) ?_) | (refine wpList_load_st H rfl 37 _ rfl rfl row_Event (by kernel_rfl) ?_) | (refine wpList_load_st H rfl 27 _ rfl rfl row_Berth (by kernel_rfl) ?_) | (refine wpList_load1_st H rfl 3 _ rfl rfl sc_int (by rfl) ?_) | (refine wpList_load1_stG H (by rfl) 3 _ rfl rfl sc_int (by rfl) ?_) | (refine wpList_load1_st H rfl 4 _ rfl rfl sc_bool (by rfl) ?_) | (refine wpList_load1_stG H (by rfl) 4 _ rfl rfl sc_bool (by rfl) ?_) | (refine wpList_load1_st H rfl 30 _ rfl rfl sc_Errno (by rfl) ?_) | (refine wpList_load1_stG H (by rfl) 30 _ rfl rfl sc_Errno (by rfl) ?_) | (refine wpList_load1_st H rfl 25 _ rfl rfl sc_Evs (by rfl) ?_) | (refine wpList_load1_stG H (by rfl) 25 _ rfl rfl sc_Evs (by rfl) ?_))
        | ((with_reducible refine here_store ?_); first | (refine wpList_store_st H rfl 46 _ _ rfl rfl rfl (by kernel_rfl) (by rfl) (by kernel_rfl) ?_; clear H; intro wx H) | (refine wpList_store_st H rfl 50 _ _ rfl rfl rfl (by kernel_rfl) (by rfl) (by kernel_rfl) ?_; clear H; intro wx H) | (refine wpList_store_st H rfl 37 _ _ rfl rfl rfl (by kernel_rfl) (by rfl) (by kernel_rfl) ?_; clear H; intro wx H) | (refine wpList_store_st H rfl 27 _ _ rfl rfl rfl (by kernel_rfl) (by rfl) (by kernel_rfl) ?_; clear H; intro wx H) | (refine wpList_store1_st H rfl 3 _ _ rfl rfl _ rfl (by rfl) s1_int (by rfl) (by rfl) ?_; clear H; intro wx H) | (refine wpList_store1_st H rfl 4 _ _ rfl rfl _ rfl (by rfl) s1_bool (by rfl) (by rfl) ?_; clear H; intro wx H) | (refine wpList_store1_st H rfl 30 _ _ rfl rfl _ rfl (by rfl) s1_Errno (by rfl) (by rfl) ?_; clear H; intro wx H) | (refine wpList_store1_st H rfl 25 _ _ rfl rfl _ rfl (by rfl) s1_Evs (by rfl) (by rfl) ?_; clear H; intro wx H))
        | ((with_reducible refine here_alloc ?_); first | (refine wpList_alloc_st H rfl 46 rfl _ q_zero ?_; clear H; intro gq3 wx H) | (refine wpList_alloc_st H rfl 50 rfl _ ans_zero ?_; clear H; intro ga3 wx H) | (refine wpList_alloc_st H rfl 37 rfl _ ev_zero ?_; clear H; intro ge3 wx H) | (refine wpList_alloc_st H rfl 27 rfl _ ber_zero ?_; clear H; intro gr3 wx H))
        | ((with_reducible refine here_box ?_); first | (refine wpList_box_st H rfl _ _ rfl _ rfl ?_; clear H; intro gb3 wx H)))
    have l4 : (loadVar 27 ⟨gr, 0, none⟩).run Try.prog wx = .ok (.agg #[.int .i64 0, .int .i64 0, .int .i64 0, .int .i64 0, .int .i64 0, .slice none 0 0]) wx := H.loadRow 27 gr row_Berth (P := Try.prog) (by kernel_rfl)
    exact bodyPost_ret (v := .tuple #[.agg #[.int .i64 0, .int .i64 0, .int .i64 0, .int .i64 0, .int .i64 0, .slice none 0 0], .int .i64 3]) (by simp [results, Try.results31, asAddr, l4]) rfl (HF.out _ (H.subm _))
  · refine stepH_do (i := 5) rfl (by rfl) ?_
    refine wp_alloc_st H 27 rfl _ ber_zero ?_
    clear H
    intro gro wx H
    replace HS := HS.of H
    refine ⟨HS, ?_⟩
    (try simp only [Act.put, List.setIfInBounds_toArray, List.set_cons_zero, List.set_cons_succ])
    refine branchH [4] (by kernel_rfl) (by kernel_rfl) (AllStep.cons ?_ AllStep.nil)
    refine stepH_do (i := 4) rfl (by rfl) ?_
    have h := HI.out
    have h2 := HI2.out
    replace H := H.subEv (A := B) (es := l) N (p - N) d (by rw [HLP.out]; omega) (by omega)
    rw [HTK.out] at H
    refine wp_call_st rfl Try.func35 (by kernel_rfl) (by kernel_rfl) _ ?_ ((with_st ⟨4, be, bf, bd, br, es⟩ (l.drop N) A (subA B N d 6) n c (p - N) (d - N) HL.out HDR.out hn (by omega) hc H).mono ?_)
    · rfl
    clear H h h2
    rintro ed wy ⟨A9, c9, rfl, hc9, H⟩
    rw [HQ.out] at hc9 ⊢
    replace HS := HS.of H
    refine ⟨_, rfl, HS, ?_⟩
    (try simp only [Act.put, List.setIfInBounds_toArray, List.set_cons_zero, List.set_cons_succ])
    refine branchH [6] (by kernel_rfl) (by kernel_rfl) (AllStep.cons ?_ AllStep.nil)
    refine stepH_do (i := 6) rfl (by rfl) ?_
    refine wp_store_st H 27 _ _ rfl rfl rfl (by kernel_rfl) (by rfl) (by kernel_rfl) ?_
    clear H
    intro wx H
    replace HS := HS.of H
    refine ⟨HS, ?_⟩
    (try simp only [Act.put])
    refine doneH (by kernel_rfl) ?_
    go_wp2_with (first
        | ((with_reducible refine here_load ?_); first | (refine wpList_load_st H rfl 46 _ rfl rfl row_Queue (by kernel_rfl) ?_) | (refine wpList_load_st H rfl 50 _ rfl rfl row_Answer (by kernel_rfl) ?_) | (refine wpList_load_st H rfl 37 _ rfl rfl row_Event (by kernel_rfl) ?_) | (refine wpList_load_st H rfl 27 _ rfl rfl row_Berth (by kernel_rfl) ?_) | (refine wpList_load1_st H rfl 3 _ rfl rfl sc_int (by rfl) ?_) | (refine wpList_load1_stG H (by rfl) 3 _ rfl rfl sc_int (by rfl) ?_) | (refine wpList_load1_st H rfl 4 _ rfl rfl sc_bool (by rfl) ?_) | (refine wpList_load1_stG H (by rfl) 4 _ rfl rfl sc_bool (by rfl) ?_) | (refine wpList_load1_st H rfl 30 _ rfl rfl sc_Errno (by rfl) ?_) | (refine wpList_load1_stG H (by rfl) 30 _ rfl rfl sc_Errno (by rfl) ?_) | (refine wpList_load1_st H rfl 25 _ rfl rfl sc_Evs (by rfl) ?_) | (refine wpList_load1_stG H (by rfl) 25 _ rfl rfl sc_Evs (by rfl) ?_))
        | ((with_reducible refine here_store ?_); first | (refine wpList_store_st H rfl 46 _ _ rfl rfl rfl (by kernel_rfl) (by rfl) (by kernel_rfl) ?_; clear H; intro wx H) | (refine wpList_store_st H rfl 50 _ _ rfl rfl rfl (by kernel_rfl) (by rfl) (by kernel_rfl) ?_; clear H; intro wx H) | (refine wpList_store_st H rfl 37 _ _ rfl rfl rfl (by kernel_rfl) (by rfl) (by kernel_rfl) ?_; clear H; intro wx H) | (refine wpList_store_st H rfl 27 _ _ rfl rfl rfl (by kernel_rfl) (by rfl) (by kernel_rfl) ?_; clear H; intro wx H) | (refine wpList_store1_st H rfl 3 _ _ rfl rfl _ rfl (by rfl) s1_int (by rfl) (by rfl) ?_; clear H; intro wx H) | (refine wpList_store1_st H rfl 4 _ _ rfl rfl _ rfl (by rfl) s1_bool (by rfl) (by rfl) ?_; clear H; intro wx H) | (refine wpList_store1_st H rfl 30 _ _ rfl rfl _ rfl (by rfl) s1_Errno (by rfl) (by rfl) ?_; clear H; intro wx H) | (refine wpList_store1_st H rfl 25 _ _ rfl rfl _ rfl (by rfl) s1_Evs (by rfl) (by rfl) ?_; clear H; intro wx H))
        | ((with_reducible refine here_alloc ?_); first | (refine wpList_alloc_st H rfl 46 rfl _ q_zero ?_; clear H; intro gq3 wx H) | (refine wpList_alloc_st H rfl 50 rfl _ ans_zero ?_; clear H; intro ga3 wx H) | (refine wpList_alloc_st H rfl 37 rfl _ ev_zero ?_; clear H; intro ge3 wx H) | (refine wpList_alloc_st H rfl 27 rfl _ ber_zero ?_; clear H; intro gr3 wx H))
        | ((with_reducible refine here_box ?_); first | (refine wpList_box_st H rfl _ _ rfl _ rfl ?_; clear H; intro gb3 wx H)))
    have l4 : (loadVar 27 ⟨gr, 0, none⟩).run Try.prog wx = .ok (.agg #[.int .i64 0, .int .i64 0, .int .i64 0, .int .i64 0, .int .i64 0, .slice none 0 0]) wx := H.loadRow 27 gr row_Berth (P := Try.prog) (by kernel_rfl)
    exact bodyPost_ret (v := .tuple #[.agg #[.int .i64 0, .int .i64 0, .int .i64 0, .int .i64 0, .int .i64 0, .slice none 0 0], .int .i64 3]) (by simp [results, Try.results31, asAddr, l4]) rfl (HF.out _ (H.subm _))
set_option maxRecDepth 100000 in
set_option maxHeartbeats 8000000 in
theorem import_on {w0 w : World} {I : List It} (be bf bd br : Int) (es l : List Ev) (A B : Option Addr) (n c p d m k N M : Nat) (hl : es.length = n) (hlp : l.length = p) (hb : (⟨4, be, bf, bd, br, es⟩ : BM).Ok m) (hm : m ≤ 150) (hp : p ≤ 150) (hc : n ≤ c) (hd : p ≤ d) (hk : k ≤ n) (hN : min (n - k) p = N) (hx : (es.drop k).take N = (l.drop 0).take N) (hbn : (⟨4, be, bf, bd, br, es ++ l.drop N⟩ : BM).Ok M) (hM : M ≤ 150) (H : St w0 w I) [h : Has I (evIt A es)] [h2 : Has I (evIt B l)] :
    Calls Try.prog 31 #[.agg (bArr ⟨4, be, bf, bd, br, es⟩ A n c), .int .i64 be, .int .i64 k, .slice B p d, .bool false] w (BPost w0 I (⟨4, be, bf, bd, br, es ++ l.drop N⟩, 0)) := by
  have hn : n ≤ 150 := by have := hb.len; have : n ≤ m := hl ▸ this; omega
  have HI := Lib.hid h
  have HI2 := Lib.hid h2
  have HB := Lib.hid hb
  have HL := Lib.hid hl
  have HLP := Lib.hid hlp
  clear h h2 hb hl hlp
  unfold bArr
  dsimp only
  have d0 : ¬ (k : Int) < 0 := by omega
  have d1 := decide_eq_false d0
  have d3 : ¬ (n : Int) < (k : Int) := by omega
  have d2 := decide_eq_false d3
  have w1 : IntKind.i64.wrap ((n : Int) - (k : Int)) = (n : Int) - (k : Int) := IntWalk.i64_in _ (by omega)
  have hmin : min ((n : Int) - (k : Int)) (p : Int) = (N : Int) := by omega
  have w2 : IntKind.i64.wrap ((k : Int) + (N : Int)) = (k : Int) + (N : Int) := IntWalk.i64_in _ (by omega)
  have w3 : IntKind.i64.wrap ((k : Int) + (p : Int)) = (k : Int) + (p : Int) := IntWalk.i64_in _ (by omega)
  have n1 : k + N ≤ n := by omega
  have n2 : N ≤ p := by omega
  have HN1 := Lib.hid (show ((es.drop k).take N).length = N by simp; have := HL.out; omega)
  have HN2 := Lib.hid (show ((l.drop 0).take N).length = N by simp; have := HLP.out; omega)
  have HTK := Lib.hid (show ((l.drop N).take (p - N)) = l.drop N from List.take_of_length_le (by simp; have := HLP.out; omega))
  have HDR := Lib.hid (show (l.drop N).length = p - N by simp; have := HLP.out; omega)
  obtain ⟨Q, hQ⟩ : ∃ Q, n + (p - N) = Q := ⟨_, rfl⟩
  have HLQ := Lib.hid (show (es ++ l.drop N).length = Q by rw [List.length_append, HL.out, HDR.out]; exact hQ)
  have HQ := Lib.hid hQ
  have HBN := Lib.hid hbn
  have HF := Lib.hid (fun W A' c' (h1 : Q ≤ c') (h2 : St w0 W (evIt A' (es ++ l.drop N) :: I)) => (BPost.mk (r := (⟨4, be, bf, bd, br, es ++ l.drop N⟩, 0)) HLQ.out h1 h2 : BPost w0 I (⟨4, be, bf, bd, br, es ++ l.drop N⟩, 0) (.returned (.tuple #[.agg #[.int .i64 4, .int .i64 be, .int .i64 bf, .int .i64 bd, .int .i64 br, .slice A' Q c'], .int .i64 0])) W))
  generalize BPost w0 I (⟨4, be, bf, bd, br, es ++ l.drop N⟩, 0) = POST at *
  clear hbn hQ
  go_enter Try.func31, Try.ntmps31
  go_upto_region 11 with (first | (go_at_call 33; have h := HI.out; refine (check_st ⟨4, be, bf, bd, br, es⟩ A n c m HL.out HB.out hm hc H).mono ?_; clear H h; rintro ed wy ⟨rfl, H⟩) | (first
      | ((with_reducible refine here_load ?_); first | (refine wpList_load_st H rfl 46 _ rfl rfl row_Queue (by kernel_rfl) ?_) | (refine wpList_load_st H rfl 50 _ rfl rfl row_Answer (by kernel_rfl) ?_) | (refine wpList_load_st H rfl 37 _ rfl rfl row_Event (by kernel_rfl) ?_) | (refine wpList_load_st H rfl 27 _ rfl rfl row_Berth (by kernel_rfl) ?_) | (refine wpList_load1_st H rfl 3 _ rfl rfl sc_int (by rfl) ?_) | (refine wpList_load1_stG H (by rfl) 3 _ rfl rfl sc_int (by rfl) ?_) | (refine wpList_load1_st H rfl 4 _ rfl rfl sc_bool (by rfl) ?_) | (refine wpList_load1_stG H (by rfl) 4 _ rfl rfl sc_bool (by rfl) ?_) | (refine wpList_load1_st H rfl 30 _ rfl rfl sc_Errno (by rfl) ?_) | (refine wpList_load1_stG H (by rfl) 30 _ rfl rfl sc_Errno (by rfl) ?_) | (refine wpList_load1_st H rfl 25 _ rfl rfl sc_Evs (by rfl) ?_) | (refine wpList_load1_stG H (by rfl) 25 _ rfl rfl sc_Evs (by rfl) ?_))
      | ((with_reducible refine here_store ?_); first | (refine wpList_store_st H rfl 46 _ _ rfl rfl rfl (by kernel_rfl) (by rfl) (by kernel_rfl) ?_; clear H; intro wx H) | (refine wpList_store_st H rfl 50 _ _ rfl rfl rfl (by kernel_rfl) (by rfl) (by kernel_rfl) ?_; clear H; intro wx H) | (refine wpList_store_st H rfl 37 _ _ rfl rfl rfl (by kernel_rfl) (by rfl) (by kernel_rfl) ?_; clear H; intro wx H) | (refine wpList_store_st H rfl 27 _ _ rfl rfl rfl (by kernel_rfl) (by rfl) (by kernel_rfl) ?_; clear H; intro wx H) | (refine wpList_store1_st H rfl 3 _ _ rfl rfl _ rfl (by rfl) s1_int (by rfl) (by rfl) ?_; clear H; intro wx H) | (refine wpList_store1_st H rfl 4 _ _ rfl rfl _ rfl (by rfl) s1_bool (by rfl) (by rfl) ?_; clear H; intro wx H) | (refine wpList_store1_st H rfl 30 _ _ rfl rfl _ rfl (by rfl) s1_Errno (by rfl) (by rfl) ?_; clear H; intro wx H) | (refine wpList_store1_st H rfl 25 _ _ rfl rfl _ rfl (by rfl) s1_Evs (by rfl) (by rfl) ?_; clear H; intro wx H))
      | ((with_reducible refine here_alloc ?_); first | (refine wpList_alloc_st H rfl 46 rfl _ q_zero ?_; clear H; intro gq wx H) | (refine wpList_alloc_st H rfl 50 rfl _ ans_zero ?_; clear H; intro ga wx H) | (refine wpList_alloc_st H rfl 37 rfl _ ev_zero ?_; clear H; intro ge wx H) | (refine wpList_alloc_st H rfl 27 rfl _ ber_zero ?_; clear H; intro gr wx H))
      | ((with_reducible refine here_box ?_); first | (refine wpList_box_st H rfl _ _ rfl _ rfl ?_; clear H; intro gb wx H))))
  (try simp only [Act.put])
  
  refine startS (H.subm (.bl gb 27 #[.int .i64 4, .int .i64 be, .int .i64 bf, .int .i64 bd, .int .i64 br, .slice A n c] :: I)) (by kernel_rfl) (fun HS => ?_)
  replace H := H.drew
  refine takeV (i := 0) (v := ?_) rfl (by kernel_rfl) (by kernel_rfl) (by kernel_rfl) (fun _ _ _ h => h) (by rfl) ?_ HS ?_
  rotate_left
  · (intro W hW; go_simp; try with_reducible rfl)
  (try simp only [Act.put, List.setIfInBounds_toArray, List.set_cons_zero, List.set_cons_succ])
  refine take1_st (i := 1) 25 _ rfl rfl rfl sc_Evs _ (by rfl) (by kernel_rfl) (by kernel_rfl) (by kernel_rfl) (fun _ _ _ _ h => h) (by rfl) HS ?_
  (try simp only [Act.put, List.setIfInBounds_toArray, List.set_cons_zero, List.set_cons_succ])
  refine takeMove (i := 2) rfl rfl _ (by rfl) (by kernel_rfl) (by kernel_rfl) (by kernel_rfl) (fun _ _ _ _ h => h) (by rfl) HS ?_
  (try simp only [Act.put, List.setIfInBounds_toArray, List.set_cons_zero, List.set_cons_succ])
  refine takeMove (i := 3) rfl rfl _ (by rfl) (by kernel_rfl) (by kernel_rfl) (by kernel_rfl) (fun _ _ _ _ h => h) (by rfl) HS ?_
  (try simp only [Act.put, List.setIfInBounds_toArray, List.set_cons_zero, List.set_cons_succ])
  refine takeMove (i := 4) rfl rfl _ (by rfl) (by kernel_rfl) (by kernel_rfl) (by kernel_rfl) (fun _ _ _ _ h => h) (by rfl) HS ?_
  (try simp only [Act.put, List.setIfInBounds_toArray, List.set_cons_zero, List.set_cons_succ])
  refine takeV (i := 5) (v := ?_) rfl (by kernel_rfl) (by kernel_rfl) (by kernel_rfl) (fun _ _ _ h => h) (by rfl) ?_ HS ?_
  rotate_left
  · (intro W hW; go_simp; try with_reducible rfl)
  (try simp only [Act.put, List.setIfInBounds_toArray, List.set_cons_zero, List.set_cons_succ])
  refine takeMove (i := 6) rfl rfl _ (by rfl) (by kernel_rfl) (by kernel_rfl) (by kernel_rfl) (fun _ _ _ _ h => h) (by rfl) HS ?_
  (try simp only [Act.put, List.setIfInBounds_toArray, List.set_cons_zero, List.set_cons_succ])
  refine takeMove (i := 7) rfl rfl _ (by rfl) (by kernel_rfl) (by kernel_rfl) (by kernel_rfl) (fun _ _ _ _ h => h) (by rfl) HS ?_
  (try simp only [Act.put, List.setIfInBounds_toArray, List.set_cons_zero, List.set_cons_succ])
  refine takeV (i := 8) (v := ?_) rfl (by kernel_rfl) (by kernel_rfl) (by kernel_rfl) (fun _ _ _ h => h) (by rfl) ?_ HS ?_
  rotate_left
  · (intro W hW; go_simp; try with_reducible rfl)
  (try simp only [Act.put, List.setIfInBounds_toArray, List.set_cons_zero, List.set_cons_succ])
  refine takeSlice (i := 9) rfl rfl Try.underlying25 (s := 6) (by kernel_rfl) rfl (k) (k + N) (k + N) (.inl ⟨_, rfl, by omega⟩) (.inl ⟨_, rfl, by omega⟩) (.inl ⟨_, rfl, by omega⟩) (fun h => by cases h) (by omega) (by omega) (by omega) (N) (N) (by omega) (by omega) (by kernel_rfl) (by kernel_rfl) (by kernel_rfl) (fun _ _ _ _ h => h) (by rfl) HS ?_
  (try simp only [Act.put, List.setIfInBounds_toArray, List.set_cons_zero, List.set_cons_succ])
  refine takeMove (i := 10) rfl rfl _ (by rfl) (by kernel_rfl) (by kernel_rfl) (by kernel_rfl) (fun _ _ _ _ h => h) (by rfl) HS ?_
  (try simp only [Act.put, List.setIfInBounds_toArray, List.set_cons_zero, List.set_cons_succ])
  refine takeMove (i := 11) rfl rfl _ (by rfl) (by kernel_rfl) (by kernel_rfl) (by kernel_rfl) (fun _ _ _ _ h => h) (by rfl) HS ?_
  (try simp only [Act.put, List.setIfInBounds_toArray, List.set_cons_zero, List.set_cons_succ])
  refine takeMove (i := 12) rfl rfl _ (by rfl) (by kernel_rfl) (by kernel_rfl) (by kernel_rfl) (fun _ _ _ _ h => h) (by rfl) HS ?_
  (try simp only [Act.put, List.setIfInBounds_toArray, List.set_cons_zero, List.set_cons_succ])
  refine takeSlice (i := 13) rfl rfl Try.underlying25 (s := 6) (by kernel_rfl) rfl (0) (N) (N) (.inr ⟨rfl, rfl⟩) (.inl ⟨_, rfl, by omega⟩) (.inl ⟨_, rfl, by omega⟩) (fun h => by cases h) (by omega) (by omega) (by omega) (N) (N) (by omega) (by omega) (by kernel_rfl) (by kernel_rfl) (by kernel_rfl) (fun _ _ _ _ h => h) (by rfl) HS ?_
  (try simp only [Act.put, List.setIfInBounds_toArray, List.set_cons_zero, List.set_cons_succ])
  refine branchH [14] (by kernel_rfl) (by kernel_rfl) (AllStep.cons ?_ AllStep.nil)
  refine stepH_do (i := 14) rfl (by rfl) ?_
  have h := HI.out
  have h2 := HI2.out
  replace H := (H.subEv (A := A) (es := es) k N (k + N) (by rw [HL.out]; omega) (by omega)).subEv (A := B) (es := l) 0 N N (by rw [HLP.out]; omega) (by omega)
  refine wp_call_st rfl Try.func47 (by kernel_rfl) (by kernel_rfl) _ ?_ ((eqEv_st ((es.drop k).take N) ((l.drop 0).take N) (subA A k (k + N) 6) (subA B 0 N 6) N N N HN1.out HN2.out H (by omega) (Nat.le_refl _) (Nat.le_refl _)).mono ?_)
  · rfl
  clear H h h2
  rintro ed wy ⟨v, rfl, hv, H⟩
  obtain rfl : v = true := hv.2 hx
  clear hv hx
  replace HS := HS.of H
  refine ⟨_, rfl, HS, ?_⟩
  (try simp only [Act.put, List.setIfInBounds_toArray, List.set_cons_zero, List.set_cons_succ])
  refine takeV (i := 15) (v := ?_) rfl (by kernel_rfl) (by kernel_rfl) (by kernel_rfl) (fun _ _ _ h => h) (by rfl) ?_ HS ?_
  rotate_left
  · (intro W hW; go_simp; try with_reducible rfl)
  (try simp only [Act.put, List.setIfInBounds_toArray, List.set_cons_zero, List.set_cons_succ])
  refine doneH (by kernel_rfl) ?_
  go_upto_region 13 with (first
      | ((with_reducible refine here_load ?_); first | (refine wpList_load_st H rfl 46 _ rfl rfl row_Queue (by kernel_rfl) ?_) | (refine wpList_load_st H rfl 50 _ rfl rfl row_Answer (by kernel_rfl) ?_) | (refine wpList_load_st H rfl 37 _ rfl rfl row_Event (by kernel_rfl) ?_) | (refine wpList_load_st H rfl 27 _ rfl rfl row_Berth (by kernel_rfl) ?_) | (refine wpList_load1_st H rfl 3 _ rfl rfl sc_int (by rfl) ?_) | (refine wpList_load1_stG H (by rfl) 3 _ rfl rfl sc_int (by rfl) ?_) | (refine wpList_load1_st H rfl 4 _ rfl rfl sc_bool (by rfl) ?_) | (refine wpList_load1_stG H (by rfl) 4 _ rfl rfl sc_bool (by rfl) ?_) | (refine wpList_load1_st H rfl 30 _ rfl rfl sc_Errno (by rfl) ?_) | (refine wpList_load1_stG H (by rfl) 30 _ rfl rfl sc_Errno (by rfl) ?_) | (refine wpList_load1_st H rfl 25 _ rfl rfl sc_Evs (by rfl) ?_) | (refine wpList_load1_stG H (by rfl) 25 _ rfl rfl sc_Evs (by rfl) ?_))
      | ((with_reducible refine here_store ?_); first | (refine wpList_store_st H rfl 46 _ _ rfl rfl rfl (by kernel_rfl) (by rfl) (by kernel_rfl) ?_; clear H; intro wx H) | (refine wpList_store_st H rfl 50 _ _ rfl rfl rfl (by kernel_rfl) (by rfl) (by kernel_rfl) ?_; clear H; intro wx H) | (refine wpList_store_st H rfl 37 _ _ rfl rfl rfl (by kernel_rfl) (by rfl) (by kernel_rfl) ?_; clear H; intro wx H) | (refine wpList_store_st H rfl 27 _ _ rfl rfl rfl (by kernel_rfl) (by rfl) (by kernel_rfl) ?_; clear H; intro wx H) | (refine wpList_store1_st H rfl 3 _ _ rfl rfl _ rfl (by rfl) s1_int (by rfl) (by rfl) ?_; clear H; intro wx H) | (refine wpList_store1_st H rfl 4 _ _ rfl rfl _ rfl (by rfl) s1_bool (by rfl) (by rfl) ?_; clear H; intro wx H) | (refine wpList_store1_st H rfl 30 _ _ rfl rfl _ rfl (by rfl) s1_Errno (by rfl) (by rfl) ?_; clear H; intro wx H) | (refine wpList_store1_st H rfl 25 _ _ rfl rfl _ rfl (by rfl) s1_Evs (by rfl) (by rfl) ?_; clear H; intro wx H))
      | ((with_reducible refine here_alloc ?_); first | (refine wpList_alloc_st H rfl 46 rfl _ q_zero ?_; clear H; intro gq2 wx H) | (refine wpList_alloc_st H rfl 50 rfl _ ans_zero ?_; clear H; intro ga2 wx H) | (refine wpList_alloc_st H rfl 37 rfl _ ev_zero ?_; clear H; intro ge2 wx H) | (refine wpList_alloc_st H rfl 27 rfl _ ber_zero ?_; clear H; intro gr2 wx H))
      | ((with_reducible refine here_box ?_); first | (refine wpList_box_st H rfl _ _ rfl _ rfl ?_; clear H; intro gb2 wx H)))
  (try simp only [Act.put])
  
  refine startS (H.subm (.bl gb 27 #[.int .i64 4, .int .i64 be, .int .i64 bf, .int .i64 bd, .int .i64 br, .slice A n c] :: I)) (by kernel_rfl) (fun HS => ?_)
  replace H := H.drew
  refine takeRow_st (i := 0) 27 _ rfl rfl rfl row_Berth (by kernel_rfl) (by kernel_rfl) (by kernel_rfl) (by kernel_rfl) (fun _ _ _ _ h => h) (by rfl) HS ?_
  (try simp only [Act.put, List.setIfInBounds_toArray, List.set_cons_zero, List.set_cons_succ])
  refine takeMove (i := 1) rfl rfl _ (by rfl) (by kernel_rfl) (by kernel_rfl) (by kernel_rfl) (fun _ _ _ _ h => h) (by rfl) HS ?_
  (try simp only [Act.put, List.setIfInBounds_toArray, List.set_cons_zero, List.set_cons_succ])
  refine takeMove (i := 2) rfl rfl _ (by rfl) (by kernel_rfl) (by kernel_rfl) (by kernel_rfl) (fun _ _ _ _ h => h) (by rfl) HS ?_
  (try simp only [Act.put, List.setIfInBounds_toArray, List.set_cons_zero, List.set_cons_succ])
  refine takeSlice (i := 3) rfl rfl Try.underlying25 (s := 6) (by kernel_rfl) rfl (N) (p) (d) (.inl ⟨_, rfl, by omega⟩) (.inr ⟨rfl, rfl⟩) (.inr ⟨rfl, rfl⟩) (fun _ => rfl) (by omega) (by omega) (by omega) (p - N) (d - N) (by omega) (by omega) (by kernel_rfl) (by kernel_rfl) (by kernel_rfl) (fun _ _ _ _ h => h) (by rfl) HS ?_
  (try simp only [Act.put, List.setIfInBounds_toArray, List.set_cons_zero, List.set_cons_succ])
  refine branchH [4, 5] (by kernel_rfl) (by kernel_rfl) (AllStep.cons ?_ (AllStep.cons ?_ AllStep.nil))
  · refine stepH_do (i := 4) rfl (by rfl) ?_
    have h := HI.out
    have h2 := HI2.out
    replace H := H.subEv (A := B) (es := l) N (p - N) d (by rw [HLP.out]; omega) (by omega)
    rw [HTK.out] at H
    refine wp_call_st rfl Try.func35 (by kernel_rfl) (by kernel_rfl) _ ?_ ((with_st ⟨4, be, bf, bd, br, es⟩ (l.drop N) A (subA B N d 6) n c (p - N) (d - N) HL.out HDR.out hn (by omega) hc H).mono ?_)
    · rfl
    clear H h h2
    rintro ed wy ⟨A9, c9, rfl, hc9, H⟩
    rw [HQ.out] at hc9 ⊢
    replace HS := HS.of H
    refine ⟨_, rfl, HS, ?_⟩
    (try simp only [Act.put, List.setIfInBounds_toArray, List.set_cons_zero, List.set_cons_succ])
    refine branchH [5] (by kernel_rfl) (by kernel_rfl) (AllStep.cons ?_ AllStep.nil)
    refine stepH_do (i := 5) rfl (by rfl) ?_
    refine wp_alloc_st H 27 rfl _ ber_zero ?_
    clear H
    intro gro wx H
    replace HS := HS.of H
    refine ⟨HS, ?_⟩
    (try simp only [Act.put, List.setIfInBounds_toArray, List.set_cons_zero, List.set_cons_succ])
    refine branchH [6] (by kernel_rfl) (by kernel_rfl) (AllStep.cons ?_ AllStep.nil)
    refine stepH_do (i := 6) rfl (by rfl) ?_
    refine wp_store_st H 27 _ _ rfl rfl rfl (by kernel_rfl) (by rfl) (by kernel_rfl) ?_
    clear H
    intro wx H
    replace HS := HS.of H
    refine ⟨HS, ?_⟩
    (try simp only [Act.put])
    refine doneH (by kernel_rfl) ?_
    go_wp2_with (first | (go_at_call 33; refine (check_st ⟨4, be, bf, bd, br, es ++ l.drop N⟩ A9 Q c9 M HLQ.out HBN.out hM hc9 H).mono ?_; clear H; rintro ed wy ⟨rfl, H⟩) | (first
        | ((with_reducible refine here_load ?_); first | (refine wpList_load_st H rfl 46 _ rfl rfl row_Queue (by kernel_rfl) ?_) | (refine wpList_load_st H rfl 50 _ rfl rfl row_Answer (by kernel_rfl) ?_) | (refine wpList_load_st H rfl 37 _ rfl rfl row_Event (by kernel_rfl) ?_) | (refine wpList_load_st H rfl 27 _ rfl rfl row_Berth (by kernel_rfl) ?_) | (refine wpList_load1_st H rfl 3 _ rfl rfl sc_int (by rfl) ?_) | (refine wpList_load1_stG H (by rfl) 3 _ rfl rfl sc_int (by rfl) ?_) | (refine wpList_load1_st H rfl 4 _ rfl rfl sc_bool (by rfl) ?_) | (refine wpList_load1_stG H (by rfl) 4 _ rfl rfl sc_bool (by rfl) ?_) | (refine wpList_load1_st H rfl 30 _ rfl rfl sc_Errno (by rfl) ?_) | (refine wpList_load1_stG H (by rfl) 30 _ rfl rfl sc_Errno (by rfl) ?_) | (refine wpList_load1_st H rfl 25 _ rfl rfl sc_Evs (by rfl) ?_) | (refine wpList_load1_stG H (by rfl) 25 _ rfl rfl sc_Evs (by rfl) ?_))
        | ((with_reducible refine here_store ?_); first | (refine wpList_store_st H rfl 46 _ _ rfl rfl rfl (by kernel_rfl) (by rfl) (by kernel_rfl) ?_; clear H; intro wx H) | (refine wpList_store_st H rfl 50 _ _ rfl rfl rfl (by kernel_rfl) (by rfl) (by kernel_rfl) ?_; clear H; intro wx H) | (refine wpList_store_st H rfl 37 _ _ rfl rfl rfl (by kernel_rfl) (by rfl) (by kernel_rfl) ?_; clear H; intro wx H) | (refine wpList_store_st H rfl 27 _ _ rfl rfl rfl (by kernel_rfl) (by rfl) (by kernel_rfl) ?_; clear H; intro wx H) | (refine wpList_store1_st H rfl 3 _ _ rfl rfl _ rfl (by rfl) s1_int (by rfl) (by rfl) ?_; clear H; intro wx H) | (refine wpList_store1_st H rfl 4 _ _ rfl rfl _ rfl (by rfl) s1_bool (by rfl) (by rfl) ?_; clear H; intro wx H) | (refine wpList_store1_st H rfl 30 _ _ rfl rfl _ rfl (by rfl) s1_Errno (by rfl) (by rfl) ?_; clear H; intro wx H) | (refine wpList_store1_st H rfl 25 _ _ rfl rfl _ rfl (by rfl) s1_Evs (by rfl) (by rfl) ?_; clear H; intro wx H))
        | ((with_reducible refine here_alloc ?_); first | (refine wpList_alloc_st H rfl 46 rfl _ q_zero ?_; clear H; intro gq3 wx H) | (refine wpList_alloc_st H rfl 50 rfl _ ans_zero ?_; clear H; intro ga3 wx H) | (refine wpList_alloc_st H rfl 37 rfl _ ev_zero ?_; clear H; intro ge3 wx H) | (refine wpList_alloc_st H rfl 27 rfl _ ber_zero ?_; clear H; intro gr3 wx H))
        | ((with_reducible refine here_box ?_); first | (refine wpList_box_st H rfl _ _ rfl _ rfl ?_; clear H; intro gb3 wx H))))
    have l4 : (loadVar 27 ⟨gr, 0, none⟩).run Try.prog wx = .ok (.agg #[.int .i64 4, .int .i64 be, .int .i64 bf, .int .i64 bd, .int .i64 br, .slice A9 Q c9]) wx := H.loadRow 27 gr row_Berth (P := Try.prog) (by kernel_rfl)
    exact bodyPost_ret (v := .tuple #[.agg #[.int .i64 4, .int .i64 be, .int .i64 bf, .int .i64 bd, .int .i64 br, .slice A9 Q c9], .int .i64 0]) (by simp [results, Try.results31, asAddr, l4]) rfl (HF.out _ _ _ hc9 (H.subm _))
  · refine stepH_do (i := 5) rfl (by rfl) ?_
    refine wp_alloc_st H 27 rfl _ ber_zero ?_
    clear H
    intro gro wx H
    replace HS := HS.of H
    refine ⟨HS, ?_⟩
    (try simp only [Act.put, List.setIfInBounds_toArray, List.set_cons_zero, List.set_cons_succ])
    refine branchH [4] (by kernel_rfl) (by kernel_rfl) (AllStep.cons ?_ AllStep.nil)
    refine stepH_do (i := 4) rfl (by rfl) ?_
    have h := HI.out
    have h2 := HI2.out
    replace H := H.subEv (A := B) (es := l) N (p - N) d (by rw [HLP.out]; omega) (by omega)
    rw [HTK.out] at H
    refine wp_call_st rfl Try.func35 (by kernel_rfl) (by kernel_rfl) _ ?_ ((with_st ⟨4, be, bf, bd, br, es⟩ (l.drop N) A (subA B N d 6) n c (p - N) (d - N) HL.out HDR.out hn (by omega) hc H).mono ?_)
    · rfl
    clear H h h2
    rintro ed wy ⟨A9, c9, rfl, hc9, H⟩
    rw [HQ.out] at hc9 ⊢
    replace HS := HS.of H
    refine ⟨_, rfl, HS, ?_⟩
    (try simp only [Act.put, List.setIfInBounds_toArray, List.set_cons_zero, List.set_cons_succ])
    refine branchH [6] (by kernel_rfl) (by kernel_rfl) (AllStep.cons ?_ AllStep.nil)
    refine stepH_do (i := 6) rfl (by rfl) ?_
    refine wp_store_st H 27 _ _ rfl rfl rfl (by kernel_rfl) (by rfl) (by kernel_rfl) ?_
    clear H
    intro wx H
    replace HS := HS.of H
    refine ⟨HS, ?_⟩
    (try simp only [Act.put])
    refine doneH (by kernel_rfl) ?_
    go_wp2_with (first | (go_at_call 33; refine (check_st ⟨4, be, bf, bd, br, es ++ l.drop N⟩ A9 Q c9 M HLQ.out HBN.out hM hc9 H).mono ?_; clear H; rintro ed wy ⟨rfl, H⟩) | (first
        | ((with_reducible refine here_load ?_); first | (refine wpList_load_st H rfl 46 _ rfl rfl row_Queue (by kernel_rfl) ?_) | (refine wpList_load_st H rfl 50 _ rfl rfl row_Answer (by kernel_rfl) ?_) | (refine wpList_load_st H rfl 37 _ rfl rfl row_Event (by kernel_rfl) ?_) | (refine wpList_load_st H rfl 27 _ rfl rfl row_Berth (by kernel_rfl) ?_) | (refine wpList_load1_st H rfl 3 _ rfl rfl sc_int (by rfl) ?_) | (refine wpList_load1_stG H (by rfl) 3 _ rfl rfl sc_int (by rfl) ?_) | (refine wpList_load1_st H rfl 4 _ rfl rfl sc_bool (by rfl) ?_) | (refine wpList_load1_stG H (by rfl) 4 _ rfl rfl sc_bool (by rfl) ?_) | (refine wpList_load1_st H rfl 30 _ rfl rfl sc_Errno (by rfl) ?_) | (refine wpList_load1_stG H (by rfl) 30 _ rfl rfl sc_Errno (by rfl) ?_) | (refine wpList_load1_st H rfl 25 _ rfl rfl sc_Evs (by rfl) ?_) | (refine wpList_load1_stG H (by rfl) 25 _ rfl rfl sc_Evs (by rfl) ?_))
        | ((with_reducible refine here_store ?_); first | (refine wpList_store_st H rfl 46 _ _ rfl rfl rfl (by kernel_rfl) (by rfl) (by kernel_rfl) ?_; clear H; intro wx H) | (refine wpList_store_st H rfl 50 _ _ rfl rfl rfl (by kernel_rfl) (by rfl) (by kernel_rfl) ?_; clear H; intro wx H) | (refine wpList_store_st H rfl 37 _ _ rfl rfl rfl (by kernel_rfl) (by rfl) (by kernel_rfl) ?_; clear H; intro wx H) | (refine wpList_store_st H rfl 27 _ _ rfl rfl rfl (by kernel_rfl) (by rfl) (by kernel_rfl) ?_; clear H; intro wx H) | (refine wpList_store1_st H rfl 3 _ _ rfl rfl _ rfl (by rfl) s1_int (by rfl) (by rfl) ?_; clear H; intro wx H) | (refine wpList_store1_st H rfl 4 _ _ rfl rfl _ rfl (by rfl) s1_bool (by rfl) (by rfl) ?_; clear H; intro wx H) | (refine wpList_store1_st H rfl 30 _ _ rfl rfl _ rfl (by rfl) s1_Errno (by rfl) (by rfl) ?_; clear H; intro wx H) | (refine wpList_store1_st H rfl 25 _ _ rfl rfl _ rfl (by rfl) s1_Evs (by rfl) (by rfl) ?_; clear H; intro wx H))
        | ((with_reducible refine here_alloc ?_); first | (refine wpList_alloc_st H rfl 46 rfl _ q_zero ?_; clear H; intro gq3 wx H) | (refine wpList_alloc_st H rfl 50 rfl _ ans_zero ?_; clear H; intro ga3 wx H) | (refine wpList_alloc_st H rfl 37 rfl _ ev_zero ?_; clear H; intro ge3 wx H) | (refine wpList_alloc_st H rfl 27 rfl _ ber_zero ?_; clear H; intro gr3 wx H))
        | ((with_reducible refine here_box ?_); first | (refine wpList_box_st H rfl _ _ rfl _ rfl ?_; clear H; intro gb3 wx H))))
    have l4 : (loadVar 27 ⟨gr, 0, none⟩).run Try.prog wx = .ok (.agg #[.int .i64 4, .int .i64 be, .int .i64 bf, .int .i64 bd, .int .i64 br, .slice A9 Q c9]) wx := H.loadRow 27 gr row_Berth (P := Try.prog) (by kernel_rfl)
    exact bodyPost_ret (v := .tuple #[.agg #[.int .i64 4, .int .i64 be, .int .i64 bf, .int .i64 bd, .int .i64 br, .slice A9 Q c9], .int .i64 0]) (by simp [results, Try.results31, asAddr, l4]) rfl (HF.out _ _ _ hc9 (H.subm _))
set_option maxRecDepth 100000 in
set_option maxHeartbeats 8000000 in
theorem import_last {w0 w : World} {I : List It} (be bf bd br : Int) (es l : List Ev) (A B : Option Addr) (n c p d m k N M : Nat) (hl : es.length = n) (hlp : l.length = p) (hb : (⟨4, be, bf, bd, br, es⟩ : BM).Ok m) (hm : m ≤ 150) (hp : p ≤ 150) (hc : n ≤ c) (hd : p ≤ d) (hk : k ≤ n) (hN : min (n - k) p = N) (hx : (es.drop k).take N = (l.drop 0).take N) (hf : ¬ k + p < n) (hbn : (⟨1, be, 0, 0, 0, es ++ l.drop N ++ [⟨4, 0, 0, 0, 0, 0⟩]⟩ : BM).Ok M) (hM : M ≤ 150) (H : St w0 w I) [h : Has I (evIt A es)] [h2 : Has I (evIt B l)] :
    Calls Try.prog 31 #[.agg (bArr ⟨4, be, bf, bd, br, es⟩ A n c), .int .i64 be, .int .i64 k, .slice B p d, .bool true] w (BPost w0 I (⟨1, be, 0, 0, 0, es ++ l.drop N ++ [⟨4, 0, 0, 0, 0, 0⟩]⟩, 0)) := by
  have hn : n ≤ 150 := by have := hb.len; have : n ≤ m := hl ▸ this; omega
  have HI := Lib.hid h
  have HI2 := Lib.hid h2
  have HB := Lib.hid hb
  have HL := Lib.hid hl
  have HLP := Lib.hid hlp
  clear h h2 hb hl hlp
  unfold bArr
  dsimp only
  have d0 : ¬ (k : Int) < 0 := by omega
  have d1 := decide_eq_false d0
  have d3 : ¬ (n : Int) < (k : Int) := by omega
  have d2 := decide_eq_false d3
  have w1 : IntKind.i64.wrap ((n : Int) - (k : Int)) = (n : Int) - (k : Int) := IntWalk.i64_in _ (by omega)
  have hmin : min ((n : Int) - (k : Int)) (p : Int) = (N : Int) := by omega
  have w2 : IntKind.i64.wrap ((k : Int) + (N : Int)) = (k : Int) + (N : Int) := IntWalk.i64_in _ (by omega)
  have w3 : IntKind.i64.wrap ((k : Int) + (p : Int)) = (k : Int) + (p : Int) := IntWalk.i64_in _ (by omega)
  have n1 : k + N ≤ n := by omega
  have n2 : N ≤ p := by omega
  have HN1 := Lib.hid (show ((es.drop k).take N).length = N by simp; have := HL.out; omega)
  have HN2 := Lib.hid (show ((l.drop 0).take N).length = N by simp; have := HLP.out; omega)
  have HTK := Lib.hid (show ((l.drop N).take (p - N)) = l.drop N from List.take_of_length_le (by simp; have := HLP.out; omega))
  have HDR := Lib.hid (show (l.drop N).length = p - N by simp; have := HLP.out; omega)
  obtain ⟨Q, hQ⟩ : ∃ Q, n + (p - N) = Q := ⟨_, rfl⟩
  have HLQ := Lib.hid (show (es ++ l.drop N).length = Q by rw [List.length_append, HL.out, HDR.out]; exact hQ)
  have HQ := Lib.hid hQ
  have HBN := Lib.hid hbn
  have hf1 : ¬ (k : Int) + (p : Int) < (n : Int) := by omega
  have hf2 := decide_eq_false hf1
  have HLQ1 := Lib.hid (show (es ++ l.drop N ++ [(⟨4, 0, 0, 0, 0, 0⟩ : Ev)]).length = Q + 1 by rw [List.length_append, HLQ.out]; rfl)
  have hQ150 : Q ≤ 150 := by have := hbn.len; have h8 : Q + 1 ≤ M := HLQ1.out ▸ this; omega
  have HF := Lib.hid (fun W A' c' (h1 : Q + 1 ≤ c') (h2 : St w0 W (evIt A' (es ++ l.drop N ++ [⟨4, 0, 0, 0, 0, 0⟩]) :: I)) => (BPost.mk (r := (⟨1, be, 0, 0, 0, es ++ l.drop N ++ [⟨4, 0, 0, 0, 0, 0⟩]⟩, 0)) HLQ1.out h1 h2 : BPost w0 I (⟨1, be, 0, 0, 0, es ++ l.drop N ++ [⟨4, 0, 0, 0, 0, 0⟩]⟩, 0) (.returned (.tuple #[.agg #[.int .i64 1, .int .i64 be, .int .i64 0, .int .i64 0, .int .i64 0, .slice A' (Q + 1) c'], .int .i64 0])) W))
  generalize BPost w0 I (⟨1, be, 0, 0, 0, es ++ l.drop N ++ [⟨4, 0, 0, 0, 0, 0⟩]⟩, 0) = POST at *
  clear hbn hQ
  go_enter Try.func31, Try.ntmps31
  go_upto_region 11 with (first | (go_at_call 33; have h := HI.out; refine (check_st ⟨4, be, bf, bd, br, es⟩ A n c m HL.out HB.out hm hc H).mono ?_; clear H h; rintro ed wy ⟨rfl, H⟩) | (first
      | ((with_reducible refine here_load ?_); first | (refine wpList_load_st H rfl 46 _ rfl rfl row_Queue (by kernel_rfl) ?_) | (refine wpList_load_st H rfl 50 _ rfl rfl row_Answer (by kernel_rfl) ?_) | (refine wpList_load_st H rfl 37 _ rfl rfl row_Event (by kernel_rfl) ?_) | (refine wpList_load_st H rfl 27 _ rfl rfl row_Berth (by kernel_rfl) ?_) | (refine wpList_load1_st H rfl 3 _ rfl rfl sc_int (by rfl) ?_) | (refine wpList_load1_stG H (by rfl) 3 _ rfl rfl sc_int (by rfl) ?_) | (refine wpList_load1_st H rfl 4 _ rfl rfl sc_bool (by rfl) ?_) | (refine wpList_load1_stG H (by rfl) 4 _ rfl rfl sc_bool (by rfl) ?_) | (refine wpList_load1_st H rfl 30 _ rfl rfl sc_Errno (by rfl) ?_) | (refine wpList_load1_stG H (by rfl) 30 _ rfl rfl sc_Errno (by rfl) ?_) | (refine wpList_load1_st H rfl 25 _ rfl rfl sc_Evs (by rfl) ?_) | (refine wpList_load1_stG H (by rfl) 25 _ rfl rfl sc_Evs (by rfl) ?_))
      | ((with_reducible refine here_store ?_); first | (refine wpList_store_st H rfl 46 _ _ rfl rfl rfl (by kernel_rfl) (by rfl) (by kernel_rfl) ?_; clear H; intro wx H) | (refine wpList_store_st H rfl 50 _ _ rfl rfl rfl (by kernel_rfl) (by rfl) (by kernel_rfl) ?_; clear H; intro wx H) | (refine wpList_store_st H rfl 37 _ _ rfl rfl rfl (by kernel_rfl) (by rfl) (by kernel_rfl) ?_; clear H; intro wx H) | (refine wpList_store_st H rfl 27 _ _ rfl rfl rfl (by kernel_rfl) (by rfl) (by kernel_rfl) ?_; clear H; intro wx H) | (refine wpList_store1_st H rfl 3 _ _ rfl rfl _ rfl (by rfl) s1_int (by rfl) (by rfl) ?_; clear H; intro wx H) | (refine wpList_store1_st H rfl 4 _ _ rfl rfl _ rfl (by rfl) s1_bool (by rfl) (by rfl) ?_; clear H; intro wx H) | (refine wpList_store1_st H rfl 30 _ _ rfl rfl _ rfl (by rfl) s1_Errno (by rfl) (by rfl) ?_; clear H; intro wx H) | (refine wpList_store1_st H rfl 25 _ _ rfl rfl _ rfl (by rfl) s1_Evs (by rfl) (by rfl) ?_; clear H; intro wx H))
      | ((with_reducible refine here_alloc ?_); first | (refine wpList_alloc_st H rfl 46 rfl _ q_zero ?_; clear H; intro gq wx H) | (refine wpList_alloc_st H rfl 50 rfl _ ans_zero ?_; clear H; intro ga wx H) | (refine wpList_alloc_st H rfl 37 rfl _ ev_zero ?_; clear H; intro ge wx H) | (refine wpList_alloc_st H rfl 27 rfl _ ber_zero ?_; clear H; intro gr wx H))
      | ((with_reducible refine here_box ?_); first | (refine wpList_box_st H rfl _ _ rfl _ rfl ?_; clear H; intro gb wx H))))
  (try simp only [Act.put])
  
  refine startS (H.subm (.bl gb 27 #[.int .i64 4, .int .i64 be, .int .i64 bf, .int .i64 bd, .int .i64 br, .slice A n c] :: I)) (by kernel_rfl) (fun HS => ?_)
  replace H := H.drew
  refine takeV (i := 0) (v := ?_) rfl (by kernel_rfl) (by kernel_rfl) (by kernel_rfl) (fun _ _ _ h => h) (by rfl) ?_ HS ?_
  rotate_left
  · (intro W hW; go_simp; try with_reducible rfl)
  (try simp only [Act.put, List.setIfInBounds_toArray, List.set_cons_zero, List.set_cons_succ])
  refine take1_st (i := 1) 25 _ rfl rfl rfl sc_Evs _ (by rfl) (by kernel_rfl) (by kernel_rfl) (by kernel_rfl) (fun _ _ _ _ h => h) (by rfl) HS ?_
  (try simp only [Act.put, List.setIfInBounds_toArray, List.set_cons_zero, List.set_cons_succ])
  refine takeMove (i := 2) rfl rfl _ (by rfl) (by kernel_rfl) (by kernel_rfl) (by kernel_rfl) (fun _ _ _ _ h => h) (by rfl) HS ?_
  (try simp only [Act.put, List.setIfInBounds_toArray, List.set_cons_zero, List.set_cons_succ])
  refine takeMove (i := 3) rfl rfl _ (by rfl) (by kernel_rfl) (by kernel_rfl) (by kernel_rfl) (fun _ _ _ _ h => h) (by rfl) HS ?_
  (try simp only [Act.put, List.setIfInBounds_toArray, List.set_cons_zero, List.set_cons_succ])
  refine takeMove (i := 4) rfl rfl _ (by rfl) (by kernel_rfl) (by kernel_rfl) (by kernel_rfl) (fun _ _ _ _ h => h) (by rfl) HS ?_
  (try simp only [Act.put, List.setIfInBounds_toArray, List.set_cons_zero, List.set_cons_succ])
  refine takeV (i := 5) (v := ?_) rfl (by kernel_rfl) (by kernel_rfl) (by kernel_rfl) (fun _ _ _ h => h) (by rfl) ?_ HS ?_
  rotate_left
  · (intro W hW; go_simp; try with_reducible rfl)
  (try simp only [Act.put, List.setIfInBounds_toArray, List.set_cons_zero, List.set_cons_succ])
  refine takeMove (i := 6) rfl rfl _ (by rfl) (by kernel_rfl) (by kernel_rfl) (by kernel_rfl) (fun _ _ _ _ h => h) (by rfl) HS ?_
  (try simp only [Act.put, List.setIfInBounds_toArray, List.set_cons_zero, List.set_cons_succ])
  refine takeMove (i := 7) rfl rfl _ (by rfl) (by kernel_rfl) (by kernel_rfl) (by kernel_rfl) (fun _ _ _ _ h => h) (by rfl) HS ?_
  (try simp only [Act.put, List.setIfInBounds_toArray, List.set_cons_zero, List.set_cons_succ])
  refine takeV (i := 8) (v := ?_) rfl (by kernel_rfl) (by kernel_rfl) (by kernel_rfl) (fun _ _ _ h => h) (by rfl) ?_ HS ?_
  rotate_left
  · (intro W hW; go_simp; try with_reducible rfl)
  (try simp only [Act.put, List.setIfInBounds_toArray, List.set_cons_zero, List.set_cons_succ])
  refine takeSlice (i := 9) rfl rfl Try.underlying25 (s := 6) (by kernel_rfl) rfl (k) (k + N) (k + N) (.inl ⟨_, rfl, by omega⟩) (.inl ⟨_, rfl, by omega⟩) (.inl ⟨_, rfl, by omega⟩) (fun h => by cases h) (by omega) (by omega) (by omega) (N) (N) (by omega) (by omega) (by kernel_rfl) (by kernel_rfl) (by kernel_rfl) (fun _ _ _ _ h => h) (by rfl) HS ?_
  (try simp only [Act.put, List.setIfInBounds_toArray, List.set_cons_zero, List.set_cons_succ])
  refine takeMove (i := 10) rfl rfl _ (by rfl) (by kernel_rfl) (by kernel_rfl) (by kernel_rfl) (fun _ _ _ _ h => h) (by rfl) HS ?_
  (try simp only [Act.put, List.setIfInBounds_toArray, List.set_cons_zero, List.set_cons_succ])
  refine takeMove (i := 11) rfl rfl _ (by rfl) (by kernel_rfl) (by kernel_rfl) (by kernel_rfl) (fun _ _ _ _ h => h) (by rfl) HS ?_
  (try simp only [Act.put, List.setIfInBounds_toArray, List.set_cons_zero, List.set_cons_succ])
  refine takeMove (i := 12) rfl rfl _ (by rfl) (by kernel_rfl) (by kernel_rfl) (by kernel_rfl) (fun _ _ _ _ h => h) (by rfl) HS ?_
  (try simp only [Act.put, List.setIfInBounds_toArray, List.set_cons_zero, List.set_cons_succ])
  refine takeSlice (i := 13) rfl rfl Try.underlying25 (s := 6) (by kernel_rfl) rfl (0) (N) (N) (.inr ⟨rfl, rfl⟩) (.inl ⟨_, rfl, by omega⟩) (.inl ⟨_, rfl, by omega⟩) (fun h => by cases h) (by omega) (by omega) (by omega) (N) (N) (by omega) (by omega) (by kernel_rfl) (by kernel_rfl) (by kernel_rfl) (fun _ _ _ _ h => h) (by rfl) HS ?_
  (try simp only [Act.put, List.setIfInBounds_toArray, List.set_cons_zero, List.set_cons_succ])
  refine branchH [14] (by kernel_rfl) (by kernel_rfl) (AllStep.cons ?_ AllStep.nil)
  refine stepH_do (i := 14) rfl (by rfl) ?_
  have h := HI.out
  have h2 := HI2.out
  replace H := (H.subEv (A := A) (es := es) k N (k + N) (by rw [HL.out]; omega) (by omega)).subEv (A := B) (es := l) 0 N N (by rw [HLP.out]; omega) (by omega)
  refine wp_call_st rfl Try.func47 (by kernel_rfl) (by kernel_rfl) _ ?_ ((eqEv_st ((es.drop k).take N) ((l.drop 0).take N) (subA A k (k + N) 6) (subA B 0 N 6) N N N HN1.out HN2.out H (by omega) (Nat.le_refl _) (Nat.le_refl _)).mono ?_)
  · rfl
  clear H h h2
  rintro ed wy ⟨v, rfl, hv, H⟩
  obtain rfl : v = true := hv.2 hx
  clear hv hx
  replace HS := HS.of H
  refine ⟨_, rfl, HS, ?_⟩
  (try simp only [Act.put, List.setIfInBounds_toArray, List.set_cons_zero, List.set_cons_succ])
  refine takeV (i := 15) (v := ?_) rfl (by kernel_rfl) (by kernel_rfl) (by kernel_rfl) (fun _ _ _ h => h) (by rfl) ?_ HS ?_
  rotate_left
  · (intro W hW; go_simp; try with_reducible rfl)
  (try simp only [Act.put, List.setIfInBounds_toArray, List.set_cons_zero, List.set_cons_succ])
  refine doneH (by kernel_rfl) ?_
  go_upto_region 13 with (first
      | ((with_reducible refine here_load ?_); first | (refine wpList_load_st H rfl 46 _ rfl rfl row_Queue (by kernel_rfl) ?_) | (refine wpList_load_st H rfl 50 _ rfl rfl row_Answer (by kernel_rfl) ?_) | (refine wpList_load_st H rfl 37 _ rfl rfl row_Event (by kernel_rfl) ?_) | (refine wpList_load_st H rfl 27 _ rfl rfl row_Berth (by kernel_rfl) ?_) | (refine wpList_load1_st H rfl 3 _ rfl rfl sc_int (by rfl) ?_) | (refine wpList_load1_stG H (by rfl) 3 _ rfl rfl sc_int (by rfl) ?_) | (refine wpList_load1_st H rfl 4 _ rfl rfl sc_bool (by rfl) ?_) | (refine wpList_load1_stG H (by rfl) 4 _ rfl rfl sc_bool (by rfl) ?_) | (refine wpList_load1_st H rfl 30 _ rfl rfl sc_Errno (by rfl) ?_) | (refine wpList_load1_stG H (by rfl) 30 _ rfl rfl sc_Errno (by rfl) ?_) | (refine wpList_load1_st H rfl 25 _ rfl rfl sc_Evs (by rfl) ?_) | (refine wpList_load1_stG H (by rfl) 25 _ rfl rfl sc_Evs (by rfl) ?_))
      | ((with_reducible refine here_store ?_); first | (refine wpList_store_st H rfl 46 _ _ rfl rfl rfl (by kernel_rfl) (by rfl) (by kernel_rfl) ?_; clear H; intro wx H) | (refine wpList_store_st H rfl 50 _ _ rfl rfl rfl (by kernel_rfl) (by rfl) (by kernel_rfl) ?_; clear H; intro wx H) | (refine wpList_store_st H rfl 37 _ _ rfl rfl rfl (by kernel_rfl) (by rfl) (by kernel_rfl) ?_; clear H; intro wx H) | (refine wpList_store_st H rfl 27 _ _ rfl rfl rfl (by kernel_rfl) (by rfl) (by kernel_rfl) ?_; clear H; intro wx H) | (refine wpList_store1_st H rfl 3 _ _ rfl rfl _ rfl (by rfl) s1_int (by rfl) (by rfl) ?_; clear H; intro wx H) | (refine wpList_store1_st H rfl 4 _ _ rfl rfl _ rfl (by rfl) s1_bool (by rfl) (by rfl) ?_; clear H; intro wx H) | (refine wpList_store1_st H rfl 30 _ _ rfl rfl _ rfl (by rfl) s1_Errno (by rfl) (by rfl) ?_; clear H; intro wx H) | (refine wpList_store1_st H rfl 25 _ _ rfl rfl _ rfl (by rfl) s1_Evs (by rfl) (by rfl) ?_; clear H; intro wx H))
      | ((with_reducible refine here_alloc ?_); first | (refine wpList_alloc_st H rfl 46 rfl _ q_zero ?_; clear H; intro gq2 wx H) | (refine wpList_alloc_st H rfl 50 rfl _ ans_zero ?_; clear H; intro ga2 wx H) | (refine wpList_alloc_st H rfl 37 rfl _ ev_zero ?_; clear H; intro ge2 wx H) | (refine wpList_alloc_st H rfl 27 rfl _ ber_zero ?_; clear H; intro gr2 wx H))
      | ((with_reducible refine here_box ?_); first | (refine wpList_box_st H rfl _ _ rfl _ rfl ?_; clear H; intro gb2 wx H)))
  (try simp only [Act.put])
  
  refine startS (H.subm (.bl gb 27 #[.int .i64 4, .int .i64 be, .int .i64 bf, .int .i64 bd, .int .i64 br, .slice A n c] :: I)) (by kernel_rfl) (fun HS => ?_)
  replace H := H.drew
  refine takeRow_st (i := 0) 27 _ rfl rfl rfl row_Berth (by kernel_rfl) (by kernel_rfl) (by kernel_rfl) (by kernel_rfl) (fun _ _ _ _ h => h) (by rfl) HS ?_
  (try simp only [Act.put, List.setIfInBounds_toArray, List.set_cons_zero, List.set_cons_succ])
  refine takeMove (i := 1) rfl rfl _ (by rfl) (by kernel_rfl) (by kernel_rfl) (by kernel_rfl) (fun _ _ _ _ h => h) (by rfl) HS ?_
  (try simp only [Act.put, List.setIfInBounds_toArray, List.set_cons_zero, List.set_cons_succ])
  refine takeMove (i := 2) rfl rfl _ (by rfl) (by kernel_rfl) (by kernel_rfl) (by kernel_rfl) (fun _ _ _ _ h => h) (by rfl) HS ?_
  (try simp only [Act.put, List.setIfInBounds_toArray, List.set_cons_zero, List.set_cons_succ])
  refine takeSlice (i := 3) rfl rfl Try.underlying25 (s := 6) (by kernel_rfl) rfl (N) (p) (d) (.inl ⟨_, rfl, by omega⟩) (.inr ⟨rfl, rfl⟩) (.inr ⟨rfl, rfl⟩) (fun _ => rfl) (by omega) (by omega) (by omega) (p - N) (d - N) (by omega) (by omega) (by kernel_rfl) (by kernel_rfl) (by kernel_rfl) (fun _ _ _ _ h => h) (by rfl) HS ?_
  (try simp only [Act.put, List.setIfInBounds_toArray, List.set_cons_zero, List.set_cons_succ])
  refine branchH [4, 5] (by kernel_rfl) (by kernel_rfl) (AllStep.cons ?_ (AllStep.cons ?_ AllStep.nil))
  · refine stepH_do (i := 4) rfl (by rfl) ?_
    have h := HI.out
    have h2 := HI2.out
    replace H := H.subEv (A := B) (es := l) N (p - N) d (by rw [HLP.out]; omega) (by omega)
    rw [HTK.out] at H
    refine wp_call_st rfl Try.func35 (by kernel_rfl) (by kernel_rfl) _ ?_ ((with_st ⟨4, be, bf, bd, br, es⟩ (l.drop N) A (subA B N d 6) n c (p - N) (d - N) HL.out HDR.out hn (by omega) hc H).mono ?_)
    · rfl
    clear H h h2
    rintro ed wy ⟨A9, c9, rfl, hc9, H⟩
    rw [HQ.out] at hc9 ⊢
    replace HS := HS.of H
    refine ⟨_, rfl, HS, ?_⟩
    (try simp only [Act.put, List.setIfInBounds_toArray, List.set_cons_zero, List.set_cons_succ])
    refine branchH [5] (by kernel_rfl) (by kernel_rfl) (AllStep.cons ?_ AllStep.nil)
    refine stepH_do (i := 5) rfl (by rfl) ?_
    refine wp_alloc_st H 27 rfl _ ber_zero ?_
    clear H
    intro gro wx H
    replace HS := HS.of H
    refine ⟨HS, ?_⟩
    (try simp only [Act.put, List.setIfInBounds_toArray, List.set_cons_zero, List.set_cons_succ])
    refine branchH [6] (by kernel_rfl) (by kernel_rfl) (AllStep.cons ?_ AllStep.nil)
    refine stepH_do (i := 6) rfl (by rfl) ?_
    refine wp_store_st H 27 _ _ rfl rfl rfl (by kernel_rfl) (by rfl) (by kernel_rfl) ?_
    clear H
    intro wx H
    replace HS := HS.of H
    refine ⟨HS, ?_⟩
    (try simp only [Act.put])
    refine doneH (by kernel_rfl) ?_
    go_wp2_with (first | (go_at_call 33; refine (check_st ⟨1, be, 0, 0, 0, es ++ l.drop N ++ [⟨4, 0, 0, 0, 0, 0⟩]⟩ A8 (Q + 1) c8 M HLQ1.out HBN.out hM hc8 H).mono ?_; clear H; rintro ed wy ⟨rfl, H⟩) | (go_at_call 35; refine (with_st ⟨1, be, 0, 0, 0, es ++ l.drop N⟩ [⟨4, 0, 0, 0, 0, 0⟩] A9 (some ⟨gs, 0, none⟩) Q c9 1 1 HLQ.out rfl hQ150 (by omega) hc9 H).mono ?_; clear H; rintro ed wy ⟨A8, c8, rfl, hc8, H⟩) | ((with_reducible refine here_buildSlice ?_); refine wpList_buildSlice1_st H rfl 25 _ rfl 37 Try.underlying25 _ rfl _ ev_info2 (by rfl) (by rfl) ?_; clear H; intro gs wx H; replace H := H.oneEv) | (first
        | ((with_reducible refine here_load ?_); first | (refine wpList_load_st H rfl 46 _ rfl rfl row_Queue (by kernel_rfl) ?_) | (refine wpList_load_st H rfl 50 _ rfl rfl row_Answer (by kernel_rfl) ?_) | (refine wpList_load_st H rfl 37 _ rfl rfl row_Event (by kernel_rfl) ?_) | (refine wpList_load_st H rfl 27 _ rfl rfl row_Berth (by kernel_rfl) ?_) | (refine wpList_load1_st H rfl 3 _ rfl rfl sc_int (by rfl) ?_) | (refine wpList_load1_stG H (by rfl) 3 _ rfl rfl sc_int (by rfl) ?_) | (refine wpList_load1_st H rfl 4 _ rfl rfl sc_bool (by rfl) ?_) | (refine wpList_load1_stG H (by rfl) 4 _ rfl rfl sc_bool (by rfl) ?_) | (refine wpList_load1_st H rfl 30 _ rfl rfl sc_Errno (by rfl) ?_) | (refine wpList_load1_stG H (by rfl) 30 _ rfl rfl sc_Errno (by rfl) ?_) | (refine wpList_load1_st H rfl 25 _ rfl rfl sc_Evs (by rfl) ?_) | (refine wpList_load1_stG H (by rfl) 25 _ rfl rfl sc_Evs (by rfl) ?_))
        | ((with_reducible refine here_store ?_); first | (refine wpList_store_st H rfl 46 _ _ rfl rfl rfl (by kernel_rfl) (by rfl) (by kernel_rfl) ?_; clear H; intro wx H) | (refine wpList_store_st H rfl 50 _ _ rfl rfl rfl (by kernel_rfl) (by rfl) (by kernel_rfl) ?_; clear H; intro wx H) | (refine wpList_store_st H rfl 37 _ _ rfl rfl rfl (by kernel_rfl) (by rfl) (by kernel_rfl) ?_; clear H; intro wx H) | (refine wpList_store_st H rfl 27 _ _ rfl rfl rfl (by kernel_rfl) (by rfl) (by kernel_rfl) ?_; clear H; intro wx H) | (refine wpList_store1_st H rfl 3 _ _ rfl rfl _ rfl (by rfl) s1_int (by rfl) (by rfl) ?_; clear H; intro wx H) | (refine wpList_store1_st H rfl 4 _ _ rfl rfl _ rfl (by rfl) s1_bool (by rfl) (by rfl) ?_; clear H; intro wx H) | (refine wpList_store1_st H rfl 30 _ _ rfl rfl _ rfl (by rfl) s1_Errno (by rfl) (by rfl) ?_; clear H; intro wx H) | (refine wpList_store1_st H rfl 25 _ _ rfl rfl _ rfl (by rfl) s1_Evs (by rfl) (by rfl) ?_; clear H; intro wx H))
        | ((with_reducible refine here_alloc ?_); first | (refine wpList_alloc_st H rfl 46 rfl _ q_zero ?_; clear H; intro gq3 wx H) | (refine wpList_alloc_st H rfl 50 rfl _ ans_zero ?_; clear H; intro ga3 wx H) | (refine wpList_alloc_st H rfl 37 rfl _ ev_zero ?_; clear H; intro ge3 wx H) | (refine wpList_alloc_st H rfl 27 rfl _ ber_zero ?_; clear H; intro gr3 wx H))
        | ((with_reducible refine here_box ?_); first | (refine wpList_box_st H rfl _ _ rfl _ rfl ?_; clear H; intro gb3 wx H))))
    have l4 : (loadVar 27 ⟨gr, 0, none⟩).run Try.prog wx = .ok (.agg #[.int .i64 1, .int .i64 be, .int .i64 0, .int .i64 0, .int .i64 0, .slice A8 (Q + 1) c8]) wx := H.loadRow 27 gr row_Berth (P := Try.prog) (by kernel_rfl)
    exact bodyPost_ret (v := .tuple #[.agg #[.int .i64 1, .int .i64 be, .int .i64 0, .int .i64 0, .int .i64 0, .slice A8 (Q + 1) c8], .int .i64 0]) (by simp [results, Try.results31, asAddr, l4]) rfl (HF.out _ _ _ hc8 (H.subm _))
  · refine stepH_do (i := 5) rfl (by rfl) ?_
    refine wp_alloc_st H 27 rfl _ ber_zero ?_
    clear H
    intro gro wx H
    replace HS := HS.of H
    refine ⟨HS, ?_⟩
    (try simp only [Act.put, List.setIfInBounds_toArray, List.set_cons_zero, List.set_cons_succ])
    refine branchH [4] (by kernel_rfl) (by kernel_rfl) (AllStep.cons ?_ AllStep.nil)
    refine stepH_do (i := 4) rfl (by rfl) ?_
    have h := HI.out
    have h2 := HI2.out
    replace H := H.subEv (A := B) (es := l) N (p - N) d (by rw [HLP.out]; omega) (by omega)
    rw [HTK.out] at H
    refine wp_call_st rfl Try.func35 (by kernel_rfl) (by kernel_rfl) _ ?_ ((with_st ⟨4, be, bf, bd, br, es⟩ (l.drop N) A (subA B N d 6) n c (p - N) (d - N) HL.out HDR.out hn (by omega) hc H).mono ?_)
    · rfl
    clear H h h2
    rintro ed wy ⟨A9, c9, rfl, hc9, H⟩
    rw [HQ.out] at hc9 ⊢
    replace HS := HS.of H
    refine ⟨_, rfl, HS, ?_⟩
    (try simp only [Act.put, List.setIfInBounds_toArray, List.set_cons_zero, List.set_cons_succ])
    refine branchH [6] (by kernel_rfl) (by kernel_rfl) (AllStep.cons ?_ AllStep.nil)
    refine stepH_do (i := 6) rfl (by rfl) ?_
    refine wp_store_st H 27 _ _ rfl rfl rfl (by kernel_rfl) (by rfl) (by kernel_rfl) ?_
    clear H
    intro wx H
    replace HS := HS.of H
    refine ⟨HS, ?_⟩
    (try simp only [Act.put])
    refine doneH (by kernel_rfl) ?_
    go_wp2_with (first | (go_at_call 33; refine (check_st ⟨1, be, 0, 0, 0, es ++ l.drop N ++ [⟨4, 0, 0, 0, 0, 0⟩]⟩ A8 (Q + 1) c8 M HLQ1.out HBN.out hM hc8 H).mono ?_; clear H; rintro ed wy ⟨rfl, H⟩) | (go_at_call 35; refine (with_st ⟨1, be, 0, 0, 0, es ++ l.drop N⟩ [⟨4, 0, 0, 0, 0, 0⟩] A9 (some ⟨gs, 0, none⟩) Q c9 1 1 HLQ.out rfl hQ150 (by omega) hc9 H).mono ?_; clear H; rintro ed wy ⟨A8, c8, rfl, hc8, H⟩) | ((with_reducible refine here_buildSlice ?_); refine wpList_buildSlice1_st H rfl 25 _ rfl 37 Try.underlying25 _ rfl _ ev_info2 (by rfl) (by rfl) ?_; clear H; intro gs wx H; replace H := H.oneEv) | (first
        | ((with_reducible refine here_load ?_); first | (refine wpList_load_st H rfl 46 _ rfl rfl row_Queue (by kernel_rfl) ?_) | (refine wpList_load_st H rfl 50 _ rfl rfl row_Answer (by kernel_rfl) ?_) | (refine wpList_load_st H rfl 37 _ rfl rfl row_Event (by kernel_rfl) ?_) | (refine wpList_load_st H rfl 27 _ rfl rfl row_Berth (by kernel_rfl) ?_) | (refine wpList_load1_st H rfl 3 _ rfl rfl sc_int (by rfl) ?_) | (refine wpList_load1_stG H (by rfl) 3 _ rfl rfl sc_int (by rfl) ?_) | (refine wpList_load1_st H rfl 4 _ rfl rfl sc_bool (by rfl) ?_) | (refine wpList_load1_stG H (by rfl) 4 _ rfl rfl sc_bool (by rfl) ?_) | (refine wpList_load1_st H rfl 30 _ rfl rfl sc_Errno (by rfl) ?_) | (refine wpList_load1_stG H (by rfl) 30 _ rfl rfl sc_Errno (by rfl) ?_) | (refine wpList_load1_st H rfl 25 _ rfl rfl sc_Evs (by rfl) ?_) | (refine wpList_load1_stG H (by rfl) 25 _ rfl rfl sc_Evs (by rfl) ?_))
        | ((with_reducible refine here_store ?_); first | (refine wpList_store_st H rfl 46 _ _ rfl rfl rfl (by kernel_rfl) (by rfl) (by kernel_rfl) ?_; clear H; intro wx H) | (refine wpList_store_st H rfl 50 _ _ rfl rfl rfl (by kernel_rfl) (by rfl) (by kernel_rfl) ?_; clear H; intro wx H) | (refine wpList_store_st H rfl 37 _ _ rfl rfl rfl (by kernel_rfl) (by rfl) (by kernel_rfl) ?_; clear H; intro wx H) | (refine wpList_store_st H rfl 27 _ _ rfl rfl rfl (by kernel_rfl) (by rfl) (by kernel_rfl) ?_; clear H; intro wx H) | (refine wpList_store1_st H rfl 3 _ _ rfl rfl _ rfl (by rfl) s1_int (by rfl) (by rfl) ?_; clear H; intro wx H) | (refine wpList_store1_st H rfl 4 _ _ rfl rfl _ rfl (by rfl) s1_bool (by rfl) (by rfl) ?_; clear H; intro wx H) | (refine wpList_store1_st H rfl 30 _ _ rfl rfl _ rfl (by rfl) s1_Errno (by rfl) (by rfl) ?_; clear H; intro wx H) | (refine wpList_store1_st H rfl 25 _ _ rfl rfl _ rfl (by rfl) s1_Evs (by rfl) (by rfl) ?_; clear H; intro wx H))
        | ((with_reducible refine here_alloc ?_); first | (refine wpList_alloc_st H rfl 46 rfl _ q_zero ?_; clear H; intro gq3 wx H) | (refine wpList_alloc_st H rfl 50 rfl _ ans_zero ?_; clear H; intro ga3 wx H) | (refine wpList_alloc_st H rfl 37 rfl _ ev_zero ?_; clear H; intro ge3 wx H) | (refine wpList_alloc_st H rfl 27 rfl _ ber_zero ?_; clear H; intro gr3 wx H))
        | ((with_reducible refine here_box ?_); first | (refine wpList_box_st H rfl _ _ rfl _ rfl ?_; clear H; intro gb3 wx H))))
    have l4 : (loadVar 27 ⟨gr, 0, none⟩).run Try.prog wx = .ok (.agg #[.int .i64 1, .int .i64 be, .int .i64 0, .int .i64 0, .int .i64 0, .slice A8 (Q + 1) c8]) wx := H.loadRow 27 gr row_Berth (P := Try.prog) (by kernel_rfl)
    exact bodyPost_ret (v := .tuple #[.agg #[.int .i64 1, .int .i64 be, .int .i64 0, .int .i64 0, .int .i64 0, .slice A8 (Q + 1) c8], .int .i64 0]) (by simp [results, Try.results31, asAddr, l4]) rfl (HF.out _ _ _ hc8 (H.subm _))

end Go.Proofs.Ytjgbkicnagcmdaa
