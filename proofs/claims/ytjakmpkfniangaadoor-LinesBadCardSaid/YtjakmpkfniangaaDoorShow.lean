/- lines.Show at any acts. -/
import Derived.Test.YtjakmpkfniangaaDoorLine
import Derived.Test.YtjakmpkfniangaaDoorBld
namespace Go.Proofs.YtjakmpkfniangaaDoor
open Go.RowKit

set_option linter.unusedVariables false
open Go.Lib
theorem rowAtA {w : World} {B n s i : Nat} {A : Option Addr} {rows : List (List Int)} (hr : Reads w B s A n (rowCells rows)) (hl : rows.length = n) (hs : ∀ r ∈ rows, r.length = s) (h0 : 0 < s) (hi : i < n) {r : List Int} (hri : rows[i]? = some r) :
    ∃ b off, A = some ⟨b, off, none⟩ ∧ b < B ∧ ∀ j z, r[j]? = some z → w.cell? ⟨b, off + i * s + j, none⟩ = some (.int .i64 z) := by
  obtain ⟨b, off, rfl, hb, hc⟩ := hr.plain (by omega) h0
  refine ⟨b, off, rfl, hb, fun j z hz => ?_⟩
  have hj : j < s := by
    have := hs r (List.mem_of_getElem? hri)
    rcases Nat.lt_or_ge j r.length with h | h
    · omega
    · rw [List.getElem?_eq_none h] at hz; cases hz
  rw [Nat.add_assoc]
  refine hc _ _ ?_
  rw [rowCells_at s rows hs i j r hri hj, hz]
  rfl
def actsCells (al : List (List Int)) : List Value := rowCells al
def actsIt (A : Option Addr) (al : List (List Int)) : It := .rd 11 A al.length (actsCells al)
/-- acts: eleven ints each -/
def Acts (al : List (List Int)) : Prop := ∀ a ∈ al, a.length = 11 ∧ I64s a
theorem Acts.at_ {al : List (List Int)} (h : Acts al) {k : Nat} (hk : k < al.length) : (al.getD k []).length = 11 ∧ I64s (al.getD k []) := by
  rw [List.getD, List.getElem?_eq_getElem hk]
  exact h _ (List.getElem_mem _)
theorem actsAt {w : World} {B n k : Nat} {A : Option Addr} {al : List (List Int)} (hr : Reads w B 11 A n (actsCells al)) (hl : al.length = n) (hk : k < n) (h : Acts al) {x0 x1 x2 x3 x4 x5 x6 x7 x8 x9 x10 : Int} (hx : al.getD k [] = [x0, x1, x2, x3, x4, x5, x6, x7, x8, x9, x10]) :
    ∃ b off, A = some ⟨b, off, none⟩ ∧ b < B ∧ w.cell? ⟨b, off + k * 11, none⟩ = some (.int .i64 x0) ∧ w.cell? ⟨b, off + k * 11 + 1, none⟩ = some (.int .i64 x1) ∧ w.cell? ⟨b, off + k * 11 + 2, none⟩ = some (.int .i64 x2) ∧ w.cell? ⟨b, off + k * 11 + 3, none⟩ = some (.int .i64 x3) ∧ w.cell? ⟨b, off + k * 11 + 4, none⟩ = some (.int .i64 x4) ∧ w.cell? ⟨b, off + k * 11 + 5, none⟩ = some (.int .i64 x5) ∧ w.cell? ⟨b, off + k * 11 + 6, none⟩ = some (.int .i64 x6) ∧ w.cell? ⟨b, off + k * 11 + 7, none⟩ = some (.int .i64 x7) ∧ w.cell? ⟨b, off + k * 11 + 8, none⟩ = some (.int .i64 x8) ∧ w.cell? ⟨b, off + k * 11 + 9, none⟩ = some (.int .i64 x9) ∧ w.cell? ⟨b, off + k * 11 + 10, none⟩ = some (.int .i64 x10) := by
  have hr1 : al[k]? = some (al.getD k []) := by rw [List.getElem?_eq_getElem (show k < al.length by omega)]; simp [List.getD, List.getElem?_eq_getElem (show k < al.length by omega)]
  rw [hx] at hr1
  obtain ⟨b, off, h1, h2, h3⟩ := rowAtA hr hl (fun r hr => (h r hr).1) (by omega) hk hr1
  exact ⟨b, off, h1, h2, h3 0 _ rfl, h3 1 _ rfl, h3 2 _ rfl, h3 3 _ rfl, h3 4 _ rfl, h3 5 _ rfl, h3 6 _ rfl, h3 7 _ rfl, h3 8 _ rfl, h3 9 _ rfl, h3 10 _ rfl⟩
/-- what Show makes of acts -/
def showGo : List (List Int) → Int → ByteArray → ByteArray × Int × Int
  | [], _, acc => (acc, 0, 0)
  | a :: al, i, acc => if checkR a = 0 then showGo al (i + 1) (acc ++ lineR a) else (⟨#[]⟩, i, checkR a)
def showR (al : List (List Int)) : ByteArray × Int × Int := if 100000 < al.length then (⟨#[]⟩, 0, 1) else showGo al 0 ⟨#[]⟩
theorem showGo_drop (al : List (List Int)) (k : Nat) (hk : k < al.length) (acc : ByteArray) : showGo (al.drop k) k acc = if checkR (al.getD k []) = 0 then showGo (al.drop (k + 1)) ((k : Int) + 1) (acc ++ lineR (al.getD k [])) else (⟨#[]⟩, (k : Int), checkR (al.getD k [])) := by
  rw [List.drop_eq_getElem_cons hk, List.getD, List.getElem?_eq_getElem hk]
  rfl
theorem lineR_size (vs : List Int) (hl : vs.length = 11) (hi : I64s vs) : (lineR vs).size ≤ 118 := by
  unfold lineR
  have h1 := lineAcc_size vs hi (formR (vs.getD 0 0) (vs.getD 5 0)).2.1 (fun s h => by rw [hl]; exact formR_off _ _ s h) (formR (vs.getD 0 0) (vs.getD 5 0)).1
  have h2 := formR_len (vs.getD 0 0) (vs.getD 5 0)
  have h3 := formR_wd (vs.getD 0 0) (vs.getD 5 0)
  rw [ByteArray.size_append, one_size]
  omega
def ShowPost (w0 : World) (I : List It) (r : ByteArray × Int × Int) (ed : Ending) (w' : World) : Prop := ed = .returned (.tuple #[.string r.1, .int .i64 r.2.1, .int .i64 r.2.2]) ∧ St w0 w' I
set_option maxRecDepth 100000 in
set_option maxHeartbeats 8000000 in
theorem show_st {w0 w : World} {I : List It} (L : LibW w0) (A : Option Addr) (al : List (List Int)) (c : Nat) (hlc : al.length ≤ c) (ha : Acts al) (H : St w0 w I) [Has I (actsIt A al)] :
    Calls Tryd.prog 7 #[.slice A al.length c] w (ShowPost w0 I (showR al)) := by
  have HF := Lib.hid (fun W r (hr : showR al = r) (hb : Below w.heap.size w W) => (show ShowPost w0 I (showR al) (.returned (.tuple #[.string r.1, .int .i64 r.2.1, .int .i64 r.2.2])) W from by rw [hr]; exact ⟨rfl, H.below hb⟩))
  have L1 := L.at H
  have H1 : St w w [actsIt A al] := (St.start w).old (H.get (actsIt A al))
  clear H L
  generalize ShowPost w0 I (showR al) = POST at *
  obtain ⟨n, hn⟩ : ∃ n, al.length = n := ⟨_, rfl⟩
  rw [hn] at hlc ⊢
  have HN := Lib.hid hn
  have HA := Lib.hid ha
  have HL1 := Lib.hid L1
  have H := H1
  clear H1 L1 hn ha
  go_enter Tryd.func7, Tryd.ntmps7
  by_cases hbig : 100000 < n
  · have hb1 : (100000 : Int) < (n : Int) := by omega
    go_wp2_with (first | ((with_reducible refine here_load ?_); first | refine ldR H rfl _ _ rfl rfl (by kernel_rfl) ?_ | refine ldS H rfl _ _ rfl rfl (by rfl) ?_ | refine ldSG H (by rfl) _ _ rfl rfl (by rfl) ?_ | refine ldRG H (by rfl) _ _ rfl rfl (by kernel_rfl) ?_) | ((with_reducible refine here_store ?_); first | (refine stR H rfl _ _ _ rfl rfl rfl (by rfl) (by rfl) (by kernel_rfl) ?_; clear H; intro wx H) | (refine stS H rfl _ _ _ rfl rfl _ rfl (by rfl) (by rfl) (by rfl) ?_; clear H; intro wx H)) | ((with_reducible refine here_alloc ?_); first | (refine wpList_alloc_st H rfl 41 rfl _ act_zero ?_; clear H; intro gac1 wx H) | (refine wpList_alloc_st H rfl 52 rfl _ bld_zero ?_; clear H; intro gbd1 wx H)) | ((with_reducible refine here_box ?_); refine wpList_box_st H rfl _ _ rfl _ rfl ?_; clear H; intro gb1 wx H))
    exact bodyPost_ret (v := .tuple #[.string ⟨#[]⟩, .int .i64 0, .int .i64 1]) (by simp [results, Tryd.results7, asAddr]) rfl (HF.out _ (⟨#[]⟩, 0, 1) (by unfold showR; rw [HN.out, if_pos hbig]) H.bel)
  · have hb1 : ¬ (100000 : Int) < (n : Int) := by omega
    have HS0 := Lib.hid (show showR al = showGo (al.drop 0) (0 : Nat) ⟨#[]⟩ from by unfold showR; rw [HN.out, if_neg hbig]; rfl)
    have hn100 : n ≤ 100000 := by omega
    clear hbig
    go_upto_region 5 with (first | ((with_reducible refine here_load ?_); first | refine ldR H rfl _ _ rfl rfl (by kernel_rfl) ?_ | refine ldS H rfl _ _ rfl rfl (by rfl) ?_ | refine ldSG H (by rfl) _ _ rfl rfl (by rfl) ?_ | refine ldRG H (by rfl) _ _ rfl rfl (by kernel_rfl) ?_) | ((with_reducible refine here_store ?_); first | (refine stR H rfl _ _ _ rfl rfl rfl (by rfl) (by rfl) (by kernel_rfl) ?_; clear H; intro wx H) | (refine stS H rfl _ _ _ rfl rfl _ rfl (by rfl) (by rfl) (by rfl) ?_; clear H; intro wx H)) | ((with_reducible refine here_alloc ?_); first | (refine wpList_alloc_st H rfl 41 rfl _ act_zero ?_; clear H; intro gac2 wx H) | (refine wpList_alloc_st H rfl 52 rfl _ bld_zero ?_; clear H; intro gbd2 wx H)) | ((with_reducible refine here_box ?_); refine wpList_box_st H rfl _ _ rfl _ rfl ?_; clear H; intro gb2 wx H))
    (try simp only [Act.put])
    replace H : St w wx (bldIs gbd2 (.pointer none) (.slice none 0 0) [] [actsIt A al]) := by
      exact (H.nilOwn 5 1).subm _
    go_loopw [14] (fun s14 wr => ∃ (k : Nat) (acc : ByteArray) (p v : Value), k ≤ n ∧ s14 = .int .i64 k ∧ Hid (showR al = showGo (al.drop k) k acc) ∧ Hid (acc.size ≤ 118 * k) ∧ Hid (p = .pointer none ∨ p = .pointer (some ⟨gbd2, 0, none⟩)) ∧ St w wr (bldIs gbd2 p v (byteCells acc.data.toList) [actsIt A al])) (fun s14 _ => n - (RowKit.intOf s14).toNat)
    case atStart => exact ⟨0, ⟨#[]⟩, _, _, by omega, rfl, HS0, Lib.hid (Nat.zero_le _), Lib.hid (.inl rfl), H⟩
    case round =>
      clear H HS0
      obtain ⟨k, acc, p, v, hk, rfl, hs, hsz, hp, H⟩ := hrel
      have k0 : (0 : Int) ≤ (k : Int) := by omega
      have wk : IntKind.i64.wrap ((k : Int) + 1) = (k : Int) + 1 := IntWalk.i64_in _ (by omega)
      by_cases hlt : k < n
      · have k1 : (k : Int) < (n : Int) := by omega
        have hkl : k < al.length := by rw [HN.out]; exact hlt
        obtain ⟨h11, hi64⟩ := HA.out.at_ hkl
        obtain ⟨x0, x1, x2, x3, x4, x5, x6, x7, x8, x9, x10, hx⟩ := iCells_11 h11
        obtain ⟨b8, o8, hA8, hb8, q0, q1, q2, q3, q4, q5, q6, q7, q8, q9, q10⟩ := actsAt (H.get (actsIt A al)) rfl hkl HA.out hx
        subst hA8
        have hgo := showGo_drop al k hkl acc
        rw [hx] at h11 hi64 hgo
        rw [← hs.out] at hgo
        obtain ⟨ck, hck⟩ : ∃ ck, checkR [x0, x1, x2, x3, x4, x5, x6, x7, x8, x9, x10] = ck := ⟨_, rfl⟩
        have CC := Lib.hid (fun W J (H : St w W J) => lcheck_st (w0 := w) (w := W) (I := J) [x0, x1, x2, x3, x4, x5, x6, x7, x8, x9, x10] h11 H)
        have CL := Lib.hid (fun W J (H : St w W J) => line_st (w0 := w) (w := W) (I := J) HL1.out [x0, x1, x2, x3, x4, x5, x6, x7, x8, x9, x10] h11 hi64 H)
        have hls := lineR_size _ h11 hi64
        obtain ⟨ln, hln⟩ : ∃ ln, lineR [x0, x1, x2, x3, x4, x5, x6, x7, x8, x9, x10] = ln := ⟨_, rfl⟩
        rw [hck] at CC hgo
        rw [hln] at CL hgo hls
        have CW := Lib.hid (fun W (H : St w W (bldIs gbd2 p v (byteCells acc.data.toList) [actsIt (some ⟨b8, o8, none⟩) al])) => wstr_st (w0 := w) (w := W) (I := [actsIt (some ⟨b8, o8, none⟩) al]) gbd2 p v (byteCells acc.data.toList) ln (by
          rw [byteCells_length]
          have h1 : acc.data.toList.length = acc.size := by rw [Lib.size_eq]
          have := hsz.out
          omega) hp.out H)
        have HGO := Lib.hid hgo
        have HLT := Lib.hid hlt
        have HLS := Lib.hid hls
        clear hgo hls hln hi64 h11 hx hkl hlt hb8 hk
        go_upto_region 7 with (first | ((with_reducible refine here_alloc ?_); refine wpList_alloc_st H rfl 41 rfl _ act_zero ?_; clear H; intro g7 wx H) | (first | ((with_reducible refine here_load ?_); first | refine ldR H rfl _ _ rfl rfl (by kernel_rfl) ?_ | refine ldS H rfl _ _ rfl rfl (by rfl) ?_ | refine ldSG H (by rfl) _ _ rfl rfl (by rfl) ?_ | refine ldRG H (by rfl) _ _ rfl rfl (by kernel_rfl) ?_) | ((with_reducible refine here_store ?_); first | (refine stR H rfl _ _ _ rfl rfl rfl (by rfl) (by rfl) (by kernel_rfl) ?_; clear H; intro wx H) | (refine stS H rfl _ _ _ rfl rfl _ rfl (by rfl) (by rfl) (by rfl) ?_; clear H; intro wx H)) | ((with_reducible refine here_alloc ?_); first | (refine wpList_alloc_st H rfl 41 rfl _ act_zero ?_; clear H; intro gac3 wx H) | (refine wpList_alloc_st H rfl 52 rfl _ bld_zero ?_; clear H; intro gbd3 wx H)) | ((with_reducible refine here_box ?_); refine wpList_box_st H rfl _ _ rfl _ rfl ?_; clear H; intro gb3 wx H)))
        (try simp only [Act.put])
        replace H : St w wx (.bl g7 41 (iCells [x0, x1, x2, x3, x4, x5, x6, x7, x8, x9, x10]) :: bldIs gbd2 p v (byteCells acc.data.toList) [actsIt (some ⟨b8, o8, none⟩) al]) := H
        unfold bldIs at H
        go_upto_region 8 with (first | (go_at_call 13; (with_reducible refine (CC.out _ _ H).mono ?_); clear H; rintro ed wy ⟨rfl, H⟩) | (first | ((with_reducible refine here_load ?_); first | refine ldR H rfl _ _ rfl rfl (by kernel_rfl) ?_ | refine ldS H rfl _ _ rfl rfl (by rfl) ?_ | refine ldSG H (by rfl) _ _ rfl rfl (by rfl) ?_ | refine ldRG H (by rfl) _ _ rfl rfl (by kernel_rfl) ?_) | ((with_reducible refine here_store ?_); first | (refine stR H rfl _ _ _ rfl rfl rfl (by rfl) (by rfl) (by kernel_rfl) ?_; clear H; intro wx H) | (refine stS H rfl _ _ _ rfl rfl _ rfl (by rfl) (by rfl) (by rfl) ?_; clear H; intro wx H)) | ((with_reducible refine here_alloc ?_); first | (refine wpList_alloc_st H rfl 41 rfl _ act_zero ?_; clear H; intro gac4 wx H) | (refine wpList_alloc_st H rfl 52 rfl _ bld_zero ?_; clear H; intro gbd4 wx H)) | ((with_reducible refine here_box ?_); refine wpList_box_st H rfl _ _ rfl _ rfl ?_; clear H; intro gb4 wx H)))
        (try simp only [Act.put])
        by_cases hc0 : ck = 0
        · subst hc0
          have HGG := Lib.hid (show showR al = showGo (al.drop (k + 1)) ((k + 1 : Nat) : Int) (acc ++ ln) from by rw [HGO.out, if_pos rfl]; rfl)
          go_wp2_with (first | (go_at_call 14; (with_reducible refine (CL.out _ _ H).mono ?_); clear H; rintro ed wz ⟨rfl, H⟩) | (go_at_call 15; (with_reducible refine (CW.out _ (by unfold bldIs; exact H.subm _)).mono ?_); clear H; rintro ed wq ⟨v', rfl, H⟩) | (first | ((with_reducible refine here_load ?_); first | refine ldR H rfl _ _ rfl rfl (by kernel_rfl) ?_ | refine ldS H rfl _ _ rfl rfl (by rfl) ?_ | refine ldSG H (by rfl) _ _ rfl rfl (by rfl) ?_ | refine ldRG H (by rfl) _ _ rfl rfl (by kernel_rfl) ?_) | ((with_reducible refine here_store ?_); first | (refine stR H rfl _ _ _ rfl rfl rfl (by rfl) (by rfl) (by kernel_rfl) ?_; clear H; intro wx H) | (refine stS H rfl _ _ _ rfl rfl _ rfl (by rfl) (by rfl) (by rfl) ?_; clear H; intro wx H)) | ((with_reducible refine here_alloc ?_); first | (refine wpList_alloc_st H rfl 41 rfl _ act_zero ?_; clear H; intro gac5 wx H) | (refine wpList_alloc_st H rfl 52 rfl _ bld_zero ?_; clear H; intro gbd5 wx H)) | ((with_reducible refine here_box ?_); refine wpList_box_st H rfl _ _ rfl _ rfl ?_; clear H; intro gb5 wx H)))
          go_roundw
          case rel => exact ⟨k + 1, acc ++ ln, _, v', by have := HLT.out; omega, by go_num, HGG, Lib.hid (by rw [ByteArray.size_append]; have := hsz.out; have := HLS.out; omega), Lib.hid (.inr rfl), by
            have h2 : byteCells (acc ++ ln).data.toList = byteCells acc.data.toList ++ strCells ln := by simp [byteCells, strCells]
            rw [h2]
            exact H⟩
          case measure => have := HLT.out; simp [RowKit.intOf] <;> omega
        · have hcb : (ck == 0) = false := by simpa using hc0
          have HGG := Lib.hid (show showR al = (⟨#[]⟩, (k : Int), ck) from by rw [HGO.out, if_neg hc0])
          go_wp2_with (first | ((with_reducible refine here_load ?_); first | refine ldR H rfl _ _ rfl rfl (by kernel_rfl) ?_ | refine ldS H rfl _ _ rfl rfl (by rfl) ?_ | refine ldSG H (by rfl) _ _ rfl rfl (by rfl) ?_ | refine ldRG H (by rfl) _ _ rfl rfl (by kernel_rfl) ?_) | ((with_reducible refine here_store ?_); first | (refine stR H rfl _ _ _ rfl rfl rfl (by rfl) (by rfl) (by kernel_rfl) ?_; clear H; intro wx H) | (refine stS H rfl _ _ _ rfl rfl _ rfl (by rfl) (by rfl) (by rfl) ?_; clear H; intro wx H)) | ((with_reducible refine here_alloc ?_); first | (refine wpList_alloc_st H rfl 41 rfl _ act_zero ?_; clear H; intro gac6 wx H) | (refine wpList_alloc_st H rfl 52 rfl _ bld_zero ?_; clear H; intro gbd6 wx H)) | ((with_reducible refine here_box ?_); refine wpList_box_st H rfl _ _ rfl _ rfl ?_; clear H; intro gb6 wx H))
          exact bodyPost_ret (v := .tuple #[.string ⟨#[]⟩, .int .i64 (k : Int), .int .i64 ck]) (by simp [results, Tryd.results7, asAddr]) rfl (HF.out _ _ HGG.out H.bel)
      · obtain rfl : k = n := by omega
        have k1 : ¬ (k : Int) < (k : Int) := by omega
        have HGG := Lib.hid (show showR al = (acc, 0, 0) from by rw [hs.out, List.drop_of_length_le (Nat.le_of_eq HN.out)]; rfl)
        clear hlt hk
        have CB := Lib.hid (fun W (H : St w W (bldIs gbd2 p v (byteCells acc.data.toList) [])) => bstring_st (w0 := w) (w := W) gbd2 p v acc.data.toList hp.out H)
        have H2 : St w wr (bldIs gbd2 p v (byteCells acc.data.toList) []) := by unfold bldIs at *; exact H.subm _
        clear H
        have H := H2
        clear H2
        go_wp2_with (first | (go_at_call 16; (with_reducible refine (CB.out _ H).mono ?_); clear H; rintro ed wz ⟨rfl, hbel⟩) | (first | ((with_reducible refine here_load ?_); first | refine ldR H rfl _ _ rfl rfl (by kernel_rfl) ?_ | refine ldS H rfl _ _ rfl rfl (by rfl) ?_ | refine ldSG H (by rfl) _ _ rfl rfl (by rfl) ?_ | refine ldRG H (by rfl) _ _ rfl rfl (by kernel_rfl) ?_) | ((with_reducible refine here_store ?_); first | (refine stR H rfl _ _ _ rfl rfl rfl (by rfl) (by rfl) (by kernel_rfl) ?_; clear H; intro wx H) | (refine stS H rfl _ _ _ rfl rfl _ rfl (by rfl) (by rfl) (by rfl) ?_; clear H; intro wx H)) | ((with_reducible refine here_alloc ?_); first | (refine wpList_alloc_st H rfl 41 rfl _ act_zero ?_; clear H; intro gac7 wx H) | (refine wpList_alloc_st H rfl 52 rfl _ bld_zero ?_; clear H; intro gbd7 wx H)) | ((with_reducible refine here_box ?_); refine wpList_box_st H rfl _ _ rfl _ rfl ?_; clear H; intro gb7 wx H)))
        exact bodyPost_ret (v := .tuple #[.string acc, .int .i64 0, .int .i64 0]) (by simp [results, Tryd.results7, asAddr]) rfl (HF.out _ (acc, 0, 0) HGG.out hbel)


end Go.Proofs.YtjakmpkfniangaaDoor
