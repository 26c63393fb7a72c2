/- The library's contracts over St. -/
import Derived.Test.YtjakmpkfniangaaDoorStT
import Derived.Test.YtjakmpkfniangaaDoorLay
import Derived.Lib.AppendIntMem
import Derived.Lib.SmallJoins
namespace Go.Proofs.YtjakmpkfniangaaDoor
open Go.RowKit

open Go.Lib
/-- what of the library's variables lies where the world began -/
structure LibW (w : World) : Prop where
  tab : TabBelow Tryd.prog w.heap.size w "internal/strconv.uint64pow10" .u64 pow10Tab
  mx : ∃ m, w.cell? ⟨0, 0, none⟩ = some (.int .i64 m)
  es : ∃ ev, w.cell? ⟨1, 0, none⟩ = some ev ∧ (ev = .nilIface ∨ ∃ te pe, ev = .iface te pe)
  er : ∃ ev, w.cell? ⟨2, 0, none⟩ = some ev ∧ (ev = .nilIface ∨ ∃ te pe, ev = .iface te pe)
theorem cell_lt {w : World} {b j : Nat} {v : Value} (h : w.cell? ⟨b, j, none⟩ = some v) : b < w.heap.size := by
  rcases Nat.lt_or_ge b w.heap.size with h' | h'
  · exact h'
  · simp [World.cell?, Array.getElem?_eq_none h'] at h
theorem LibW.on {w w' : World} (h : LibW w) (hb : Below w.heap.size w w') : LibW w' := by
  obtain ⟨m, hm⟩ := h.mx
  obtain ⟨e1, h1, k1⟩ := h.es
  obtain ⟨e2, h2, k2⟩ := h.er
  exact ⟨fun w2 hb2 => h.tab w2 (hb.trans (hb2.mono hb.size)), ⟨m, (hb.cell (cell_lt hm)).trans hm⟩, ⟨e1, (hb.cell (cell_lt h1)).trans h1, k1⟩, ⟨e2, (hb.cell (cell_lt h2)).trans h2, k2⟩⟩
theorem LibW.at {w0 w : World} {I : List It} (h : LibW w0) (H : St w0 w I) : LibW w := h.on H.bel
theorem itoa_st {w0 w : World} {I : List It} (L : LibW w0) (n : Int) (h0 : -9223372036854775808 ≤ n) (h1 : n ≤ 9223372036854775807) (H : St w0 w I) :
    Calls Tryd.prog 26 #[.int .i64 n] w (fun ed w' => ed = .returned (.string ⟨(itoa n).toArray⟩) ∧ St w0 w' I) :=
  (Lay.strconv_Itoa n h0 h1 w ((L.at H).tab.here)).mono fun ed w' h => by
    obtain ⟨rfl, k, os, rfl⟩ := h
    exact ⟨rfl, H.below (below_grow _ _ (Nat.le_refl _) _ _)⟩
/-- what strconv.Atoi answers, but for its error -/
def atoiV (s : ByteArray) : Int :=
  match atoiAll s.data.toList with
  | .ok v => v
  | .range => atoiSat s.data.toList
  | _ => 0
theorem atoi_st {w0 w : World} {I : List It} (L : LibW w0) (s : ByteArray) (hs : s.size ≤ 281474976710656) (H : St w0 w I) :
    Calls Tryd.prog 25 #[.string s] w (fun ed w' => (∃ e, ed = .returned (.tuple #[.int .i64 (atoiV s), e])) ∧ St w0 w' I) := by
  unfold atoiV
  cases h : atoiAll s.data.toList with
  | ok v =>
    refine (Lay.strconv_Atoi_ok s (by omega) v h w).mono fun ed w' k => ?_
    obtain ⟨rfl, rfl | ⟨t, rfl⟩⟩ := k
    · exact ⟨⟨_, rfl⟩, H⟩
    · exact ⟨⟨_, rfl⟩, H.below (Go.Joins.below_bytesWorld _ _ _ _ (Nat.le_refl _))⟩
  | range =>
    obtain ⟨ev, h1, h2⟩ := (L.at H).er
    refine (Lay.strconv_Atoi_range s hs h ev w h1 h2).mono fun ed w' k => ?_
    obtain ⟨N, rfl, _, _, hb⟩ := k
    exact ⟨⟨_, rfl⟩, H.below hb⟩
  | _ =>
    obtain ⟨ev, h1, h2⟩ := (L.at H).es
    refine (Lay.strconv_Atoi_syntax s hs (fun v k => by rw [h] at k; cases k) (fun k => by rw [h] at k; cases k) ev w h1 h2).mono fun ed w' k => ?_
    obtain ⟨N, rfl, _, _, hb⟩ := k
    exact ⟨⟨_, rfl⟩, H.below hb⟩
/-- the words of a line -/
def wordsR (s : ByteArray) : List ByteArray := splitB ⟨#[32]⟩ 0 (countB s ⟨#[32]⟩) s
theorem split_st {w0 w : World} {I : List It} (L : LibW w0) (s : ByteArray) (hs : s.size < 4294967281) (H : St w0 w I) :
    Calls Tryd.prog 21 #[.string s, .string ⟨#[32]⟩] w (fun ed w' => ∃ g, ed = .returned (.slice (some ⟨g, 0, none⟩) (countB s ⟨#[32]⟩ + 1) (countB s ⟨#[32]⟩ + 1)) ∧ St w0 w' (.bl g 9 ((wordsR s).map Value.string).toArray :: I)) := by
  obtain ⟨m, hm⟩ := (L.at H).mx
  refine (Lay.strings_Split s ⟨#[32]⟩ m w hs hm (by decide)).mono fun ed w' k => ?_
  obtain ⟨rfl, rfl⟩ := k
  exact ⟨_, rfl, H.box _ _⟩

end Go.Proofs.YtjakmpkfniangaaDoor
