/- LinesBad: the walk. -/
import Derived.Test.YtjakmpkfniangaaDoorFeats
import Derived.Test.YtjakmpkfniangaaDoorSlB
namespace Go.Proofs.YtjakmpkfniangaaDoor
open Go.RowKit

set_option linter.unusedVariables false
theorem actsCells_app (a b : List (List Int)) : actsCells (a ++ b) = actsCells a ++ actsCells b := by simp [actsCells, rowCells]
theorem actsCells_len (al : List (List Int)) (h : ∀ a ∈ al, a.length = 11) : (actsCells al).length = al.length * 11 := rowCells_len 11 _ h
theorem actsCells_drop (al : List (List Int)) (h : ∀ a ∈ al, a.length = 11) (k : Nat) (hk : k ≤ al.length) : (actsCells al).drop (k * 11) = actsCells (al.drop k) := by
  have h1 : actsCells al = actsCells (al.take k) ++ actsCells (al.drop k) := by
    rw [← actsCells_app, List.take_append_drop]
  have h2 : (actsCells (al.take k)).length = k * 11 := by
    rw [actsCells_len _ (fun a ha => h a (List.mem_of_mem_take ha))]
    simp [Nat.min_eq_left hk]
  rw [h1, ← h2, List.drop_left]
theorem actsCells_take (al : List (List Int)) (h : ∀ a ∈ al, a.length = 11) (k : Nat) (hk : k ≤ al.length) : (actsCells al).take (k * 11) = actsCells (al.take k) := by
  have h1 : actsCells al = actsCells (al.take k) ++ actsCells (al.drop k) := by
    rw [← actsCells_app, List.take_append_drop]
  have h2 : (actsCells (al.take k)).length = k * 11 := by
    rw [actsCells_len _ (fun a ha => h a (List.mem_of_mem_take ha))]
    simp [Nat.min_eq_left hk]
  rw [h1, ← h2, List.take_left]
/-- some acts of a slice -/
theorem St.subActs {w0 w : World} {I : List It} {A : Option Addr} {al : List (List Int)} (ha : ∀ a ∈ al, a.length = 11) (H : St w0 w I) [hI : Has I (actsIt A al)] (k p m : Nat) (hk : k + p ≤ al.length) (hm : k + p ≤ m) : St w0 w (actsIt (subA A k m 11) ((al.drop k).take p) :: I) := by
  have hr : Reads w w.heap.size 11 A al.length (actsCells al) := H.get (actsIt A al)
  have hl : ((al.drop k).take p).length = p := by simp; omega
  have hd : ∀ a ∈ al.drop k, a.length = 11 := fun a h => ha a (List.mem_of_mem_drop h)
  by_cases hp : p = 0
  · subst hp
    have := H.old (s := 11) (n := 0) (A := subA A k m 11) (xs := []) ⟨by simp, fun h => absurd h (by omega)⟩
    simpa [actsIt, actsCells, rowCells] using this
  · obtain ⟨ad, rfl, hb, hc⟩ := hr.2 (by omega)
    have hA : subA (some ad) k m 11 = some (ad.add (k * 11)) := by
      unfold subA
      rw [if_neg (by omega)]
      rfl
    refine St.again (h := hI) H (A' := subA (some ad) k m 11) ⟨by rw [actsCells_len _ (fun a h => hd a (List.mem_of_mem_take h))], fun _ => ⟨_, hA, by rw [block_of_add]; exact hb, fun j u hu => ?_⟩⟩ (fun g hg => ?_)
    · have h2 : (actsCells al)[k * 11 + j]? = some u := by
        rw [← actsCells_take _ hd p (by simp; omega), ← actsCells_drop al ha k (by omega), List.getElem?_take] at hu
        split at hu
        · rwa [List.getElem?_drop] at hu
        · cases hu
      rw [Addr.add_add]
      exact hc _ _ h2
    · simp only [It.area] at hg ⊢
      rw [if_neg (by omega), hA] at hg
      rw [if_neg (by omega)]
      simpa [block_of_add] using hg
def wordCells : Array Value := #[.string ⟨#[97, 108, 108, 32, 49, 10]⟩, .string ⟨#[115, 116, 101, 112, 10]⟩, .string ⟨#[115, 116, 101, 112, 32, 53, 10]⟩, .string ⟨#[109, 97, 107, 101, 32, 52, 32, 48, 10]⟩, .string ⟨#[10]⟩, .string ⟨#[112, 117, 98, 108, 105, 115, 104, 32, 48, 32, 48, 32, 48, 32, 48, 10]⟩, .string ⟨#[114, 101, 99, 101, 105, 118, 101, 32, 49, 10]⟩, .string ⟨#[99, 97, 114, 114, 121, 32, 48, 49, 10]⟩, .string ⟨#[99, 114, 97, 115, 104, 32, 49, 32, 49, 48, 48, 48, 48, 49, 10]⟩, .string ⟨#[65, 108, 108, 10]⟩]
theorem bs_words (W : World) : (Instr.buildSlice 32 10 #[(0, .string ⟨#[97, 108, 108, 32, 49, 10]⟩), (1, .string ⟨#[115, 116, 101, 112, 10]⟩), (2, .string ⟨#[115, 116, 101, 112, 32, 53, 10]⟩), (3, .string ⟨#[109, 97, 107, 101, 32, 52, 32, 48, 10]⟩), (4, .string ⟨#[10]⟩), (5, .string ⟨#[112, 117, 98, 108, 105, 115, 104, 32, 48, 32, 48, 32, 48, 32, 48, 10]⟩), (6, .string ⟨#[114, 101, 99, 101, 105, 118, 101, 32, 49, 10]⟩), (7, .string ⟨#[99, 97, 114, 114, 121, 32, 48, 49, 10]⟩), (8, .string ⟨#[99, 114, 97, 115, 104, 32, 49, 32, 49, 48, 48, 48, 48, 49, 10]⟩), (9, .string ⟨#[65, 108, 108, 10]⟩)]).run Tryd.prog W = .ok (.slice (some ⟨W.heap.size, 0, none⟩) 10 10) (W.alloc (.cells wordCells 9)) := by kernel_rfl
theorem word_at (m : Nat) (hm : m < 10) : ∃ p, p ∈ badWords ∧ wordCells.toList[m]? = some (.string ⟨(p ++ [10]).toArray⟩) ∧ (p ++ [10]).length ≤ 100 := by
  rcases (show m = 0 ∨ m = 1 ∨ m = 2 ∨ m = 3 ∨ m = 4 ∨ m = 5 ∨ m = 6 ∨ m = 7 ∨ m = 8 ∨ m = 9 by omega) with h | h | h | h | h | h | h | h | h | h <;> subst h
  · exact ⟨[97, 108, 108, 32, 49], by simp [badWords], rfl, by decide⟩
  · exact ⟨[115, 116, 101, 112], by simp [badWords], rfl, by decide⟩
  · exact ⟨[115, 116, 101, 112, 32, 53], by simp [badWords], rfl, by decide⟩
  · exact ⟨[109, 97, 107, 101, 32, 52, 32, 48], by simp [badWords], rfl, by decide⟩
  · exact ⟨[], by simp [badWords], rfl, by decide⟩
  · exact ⟨[112, 117, 98, 108, 105, 115, 104, 32, 48, 32, 48, 32, 48, 32, 48], by simp [badWords], rfl, by decide⟩
  · exact ⟨[114, 101, 99, 101, 105, 118, 101, 32, 49], by simp [badWords], rfl, by decide⟩
  · exact ⟨[99, 97, 114, 114, 121, 32, 48, 49], by simp [badWords], rfl, by decide⟩
  · exact ⟨[99, 114, 97, 115, 104, 32, 49, 32, 49, 48, 48, 48, 48, 49], by simp [badWords], rfl, by decide⟩
  · exact ⟨[65, 108, 108], by simp [badWords], rfl, by decide⟩
set_option maxRecDepth 100000 in
set_option maxHeartbeats 8000000 in
theorem linesBad_walk (A : Option Addr) (n c : Nat) (rows : List (List Int)) (a b : Int) (w : World) (L : LibW w) (h : IsRows 5 40 w A n c rows) (ha : Is64 a) (hb : Is64 b) :
    Calls Tryd.prog 4 #[.slice A n c, .int .i64 a, .int .i64 b] w (fun e w' => e = .returned (.bool true) ∧ Below w.heap.size w w') := by
  have H := St.start w
  have CF0 := feats_st (w0 := w) (I := []) A n c 20 rows h (by decide) H
  rw [show ((20 : Nat) : Int) = 20 from rfl] at CF0
  have CF := Lib.hid CF0
  clear CF0
  have CS := Lib.hid (fun W J A c al (ha : Acts al) (hc : al.length ≤ c) (H : St w W J) (hh : Has J (actsIt A al)) => show_st (w0 := w) (w := W) (I := J) L A al c hc ha H)
  have CR := Lib.hid (fun W J s (H : St w W J) => read_st (w0 := w) (w := W) (I := J) L s H)
  have PK := Lib.hid (fun W n m h1 h2 (h3 : (1 : Int) ≤ m) (h4 : m ≤ 1000) => picked_any n m W h1 h2 h3 (by omega))
  obtain ⟨ha1, ha2⟩ := ha
  obtain ⟨hb1, hb2⟩ := hb
  clear h
  go_enter Tryd.func4, Tryd.ntmps4
  go_upto_region 2 with (first | (go_at_call 8; (with_reducible refine CF.out.mono ?_); clear H; rintro ed wx ⟨A1, c1, al, hg, hc1, hl50, rfl, H⟩))
  have h11 : ∀ a ∈ al, a.length = 11 := fun a ha => (hg a ha).1
  obtain ⟨N, hN⟩ : ∃ N, al.length = N := ⟨_, rfl⟩
  rw [hN] at hc1 hl50 ⊢
  have HN := Lib.hid hN
  have HG := Lib.hid hg
  have H11 := Lib.hid h11
  have wN : IntKind.i64.wrap ((N : Int) + 1) = (N : Int) + 1 := IntWalk.i64_in _ (by omega)
  clear hN hg h11
  have p0 := pick_lo a ((N : Int) + 1) (by omega)
  have p1 := pick_hi a ((N : Int) + 1) (by omega)
  go_upto_region 3 with (first | (go_at_call 9; (with_reducible refine (PK.out _ _ _ (by omega) (by omega) (by omega) (by omega)).mono ?_); rintro ed wy ⟨rfl, rfl⟩))
  obtain ⟨k, hk⟩ : ∃ k : Nat, pick a ((N : Int) + 1) = (k : Int) := ⟨(pick a ((N : Int) + 1)).toNat, by omega⟩
  rw [hk] at p0 p1 ⊢
  have hkN : k ≤ N := by omega
  clear hk p0 p1
  have hgt : GoodActs (al.take k) := fun x hx => HG.out x (List.mem_of_mem_take hx)
  have hgd : GoodActs (al.drop k) := fun x hx => HG.out x (List.mem_of_mem_drop hx)
  have hlt : (al.take k).length = k := by rw [List.length_take, HN.out]; omega
  have hld : (al.drop k).length = N - k := by rw [List.length_drop, HN.out]
  have hs1 : showR (al.take k) = (linesR (al.take k), 0, 0) := showR_ok _ (by omega) (fun a ha => (hgt a ha).2.1)
  have hs2 : showR (al.drop k) = (linesR (al.drop k), 0, 0) := showR_ok _ (by omega) (fun a ha => (hgd a ha).2.1)
  have hz1 := linesR_size _ hgt.acts
  have hz2 := linesR_size _ hgd.acts
  replace H := H.subActs H11.out (A := A1) (al := al) 0 k k (by rw [HN.out]; omega) (by omega)
  replace H := H.subActs H11.out (A := A1) (al := al) k (N - k) c1 (by rw [HN.out]; omega) (by omega)
  rw [List.drop_zero, List.take_of_length_le (show (al.drop k).length ≤ N - k by omega)] at H
  have CS1 := CS.out (al := al.take k)
  have CS2 := CS.out (al := al.drop k)
  rw [hs1, hlt] at CS1
  rw [hs2, hld] at CS2
  have HZ := Lib.hid (And.intro hz1 hz2)
  have CS1 := Lib.hid (fun W J A c hc H hh => CS1 W J A c hgt.acts hc H hh)
  have CS2 := Lib.hid (fun W J A c hc H hh => CS2 W J A c hgd.acts hc H hh)
  have RB := Lib.hid (fun p hp hz => read_bad (al.take k) hgt.acts hgt.good (by omega) ⟨(p ++ [10]).toArray⟩ (linesR (al.drop k)) p rfl (badWords_bad p hp).2 (badWords_bad p hp).1 hz)
  rw [hlt] at RB
  have HLT := Lib.hid (And.intro hlt hld)
  clear hgt hgd hlt hld hs1 hs2 hz1 hz2 CS
  (try simp only [Act.put])
  go_upto_region 5 with (first | ((with_reducible refine here_slice ?_); first | (refine wpList_slice_st (s := 11) rfl rfl Tryd.underlying22 (by kernel_rfl) rfl 0 k k (.inr ⟨rfl, rfl⟩) (.inl ⟨_, rfl, by omega⟩) (.inl ⟨_, rfl, by omega⟩) (fun h => by cases h) (by omega) (by omega) (by omega) k k (by omega) (by omega) ?_) | (refine wpList_slice_st (s := 11) rfl rfl Tryd.underlying22 (by kernel_rfl) rfl k N c1 (.inl ⟨_, rfl, by omega⟩) (.inr ⟨rfl, rfl⟩) (.inr ⟨rfl, rfl⟩) (fun _ => rfl) (by omega) (by omega) (by omega) (N - k) (c1 - k) (by omega) (by omega) ?_)) | (go_at_call 7; first | ((with_reducible refine (CS1.out _ _ _ _ (Nat.le_refl _) H inferInstance).mono ?_); clear H; rintro ed wx ⟨rfl, H⟩) | ((with_reducible refine (CS2.out _ _ _ _ (by omega) H inferInstance).mono ?_); clear H; rintro ed wx ⟨rfl, H⟩)))
  (try simp only [Act.put])
  have q0 := pick_lo b 10 (by omega)
  have q1 := pick_hi b 10 (by omega)
  go_upto_region 6 with fail
  replace H := H.box 9 wordCells
  generalize hgw : wx.heap.size = gw at H ⊢
  clear hgw
  unfold wordCells at H
  generalize World.alloc wx _ = wz at H ⊢
  obtain ⟨m, hm⟩ : ∃ m : Nat, pick b 10 = (m : Int) := ⟨(pick b 10).toNat, by omega⟩
  have hm10 : m < 10 := by omega
  have m0 : (0 : Int) ≤ (m : Int) := by omega
  have m1 : (m : Int) < 10 := by omega
  obtain ⟨p, hp, hw, hpl⟩ := word_at m hm10
  unfold wordCells at hw
  have HRB := RB.out p hp
  have hws : (⟨(p ++ [10]).toArray⟩ : ByteArray).size ≤ 100 := by rw [baSize]; exact hpl
  generalize hwd : (⟨(p ++ [10]).toArray⟩ : ByteArray) = wd at *
  clear hwd hpl q0 q1 hm10 RB
  obtain ⟨z1, z2⟩ := HZ.out
  rw [HLT.out.1] at z1
  rw [HLT.out.2] at z2
  have RR := Lib.hid (HRB (by rw [ByteArray.size_append]; omega))
  have sa : (linesR (al.take k)).size + wd.size ≤ 9223372036854775807 := by omega
  have sb : (linesR (al.take k) ++ wd).size + (linesR (al.drop k)).size ≤ 9223372036854775807 := by rw [ByteArray.size_append]; omega
  clear HRB
  go_upto_region 7 with (first | (go_at_call 9; (with_reducible refine (PK.out _ _ _ (by omega) (by omega) (by omega) (by omega)).mono ?_); rintro ed wy ⟨rfl, rfl⟩; try rw [hm]) | ((with_reducible refine here_load ?_); refine ldS H rfl _ _ rfl rfl hw ?_) | ((with_reducible refine here_sadd ?_); first | refine wpList_sadd rfl _ _ rfl _ _ rfl rfl sa ?_ | refine wpList_sadd rfl _ _ rfl _ _ rfl rfl sb ?_) | (go_at_call 6; (with_reducible refine (CR.out _ _ _ H).mono ?_); clear H; rintro ed wx ⟨A5, c5, rfl, hc5, H⟩))
  have RR2 := RR.out
  rw [← ByteArray.append_assoc] at RR2
  rw [RR2] at H
  (try simp only [Act.put])
  rw [RR2]
  clear RR RR2 hc5 hm
  go_wp2
  exact bodyPost_ret (v := .bool true) (by simp [results, Tryd.f4]) rfl ⟨rfl, H.bel⟩


end Go.Proofs.YtjakmpkfniangaaDoor
