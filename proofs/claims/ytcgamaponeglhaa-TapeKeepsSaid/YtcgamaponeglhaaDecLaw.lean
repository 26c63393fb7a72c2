/- Plain law: what was encoded is decoded; what is decoded was encoded; what is torn is told. -/
import Derived.Test.YtcgamaponeglhaaDecode
namespace Go.Proofs.Ytcgamaponeglhaa
open Go.RowKit

theorem four_take (n : Int) (t : List Int) : (four n ++ t).take 4 = four n := by simp [four]
theorem four_drop (n : Int) (t : List Int) : (four n ++ t).drop 4 = t := by simp [four]
theorem four_len (n : Int) : (four n).length = 4 := rfl

/-- the loop does not stop ahead of one of these numbers -/
def GoesOn (acc ns : List Int) : Prop := ∀ i, i < ns.length → ¬ ((acc ++ ns.take i).length = 4 ∧ hasEv ((acc ++ ns.take i).getD 0 0) = false)
theorem GoesOn.head {acc : List Int} {n : Int} {ns : List Int} (h : GoesOn acc (n :: ns)) : ¬ (acc.length = 4 ∧ hasEv (acc.getD 0 0) = false) := by simpa using h 0 (by simp)
theorem GoesOn.tail {acc : List Int} {n : Int} {ns : List Int} (h : GoesOn acc (n :: ns)) : GoesOn (acc ++ [n]) ns := by
  intro i hi
  have := h (i + 1) (by simpa using hi)
  simpa [List.append_assoc] using this

theorem decGo_bytes (f : Nat) (t : List Int) : ∀ (ns acc : List Int), (∀ n ∈ ns, 0 ≤ n ∧ n ≤ 2147483647) → GoesOn acc ns → decGo (ns.length + f) acc (bytesOf ns ++ t) = decGo f (acc ++ ns) t
  | [], acc, _, _ => by simp [bytesOf]
  | n :: ns, acc, hb, hg => by
    have e : bytesOf (n :: ns) ++ t = four n ++ (bytesOf ns ++ t) := by simp [bytesOf]
    have hn := hb n (by simp)
    rw [e, show (n :: ns).length + f = (ns.length + f) + 1 by simp; omega, decGo_more hg.head (by simp [four]) (by rw [four_take, valOf_four]; exact hn.2), four_take, four_drop, valOf_four,
      decGo_bytes f t ns (acc ++ [n]) (fun x hx => hb x (by simp [hx])) hg.tail]
    simp
theorem decGo_torn (f : Nat) : ∀ (ns acc : List Int) (k : Nat), k < 4 * ns.length → (∀ n ∈ ns, 0 ≤ n ∧ n ≤ 2147483647) → GoesOn acc ns → decGo (ns.length + f) acc ((bytesOf ns).take k) = (4, [], [])
  | [], _, k, hk, _, _ => by simp at hk
  | n :: ns, acc, k, hk, hb, hg => by
    have hn := hb n (by simp)
    rw [show (n :: ns).length + f = (ns.length + f) + 1 by simp; omega]
    by_cases h4 : k < 4
    · exact decGo_short hg.head (by simp; omega)
    · have e : (bytesOf (n :: ns)).take k = four n ++ (bytesOf ns).take (k - 4) := by
        have : bytesOf (n :: ns) = four n ++ bytesOf ns := by simp [bytesOf]
        rw [this, List.take_append, four_len, List.take_of_length_le (by rw [four_len]; omega)]
      rw [e, decGo_more hg.head (by simp [four]) (by rw [four_take, valOf_four]; exact hn.2), four_take, four_drop, valOf_four,
        decGo_torn f ns (acc ++ [n]) (k - 4) (by simp at hk; omega) (fun x hx => hb x (by simp [hx])) hg.tail]

theorem ofNums_ev (r : Rc) : ofNums ([r.kind, r.queue, r.epoch, r.peer] ++ r.ev.nums) = r := by
  rcases r with ⟨k, q, e, p, ⟨a, b, c, d, f, g⟩⟩
  rfl
theorem ofNums_no (r : Rc) (h : r.ev = Ev.zero) : ofNums [r.kind, r.queue, r.epoch, r.peer] = r := by
  rcases r with ⟨k, q, e, p, v⟩
  simp only at h
  subst h
  rfl

theorem goesOn_no (r : Rc) : GoesOn [] [r.kind, r.queue, r.epoch, r.peer] := by
  intro i hi
  simp only [List.length_cons, List.length_nil, Nat.reduceAdd] at hi
  rintro ⟨h1, _⟩
  simp at h1
  omega
theorem goesOn_ev (r : Rc) (h : hasEv r.kind = true) : GoesOn [] ([r.kind, r.queue, r.epoch, r.peer] ++ r.ev.nums) := by
  intro i hi
  rintro ⟨h1, h2⟩
  have hi4 : i = 4 := by
    simp [Ev.nums] at h1 hi
    omega
  subst hi4
  simp [Ev.nums] at h2
  rw [h] at h2
  cases h2

/-- what was encoded, and t behind it -/
theorem decode_enc (r : Rc) (hc : r.check = 0) (t : List Int) : decode (recBytes r ++ t) = if t = [] then (0, r) else (3, Rc.zero) := by
  have hok := rc_ok r hc
  have hbd := hok.bd
  unfold Rc.nums at hbd
  unfold decode
  cases h : hasEv r.kind with
  | true =>
    rw [if_pos h] at hbd
    have hb : recBytes r = bytesOf ([r.kind, r.queue, r.epoch, r.peer] ++ r.ev.nums) := by unfold recBytes Rc.nums; rw [if_pos h]
    have h1 := decGo_bytes 0 t ([r.kind, r.queue, r.epoch, r.peer] ++ r.ev.nums) [] hbd (goesOn_ev r h)
    rw [hb, show (10 : Nat) = ([r.kind, r.queue, r.epoch, r.peer] ++ r.ev.nums).length + 0 by simp [Ev.nums], h1]
    rw [List.nil_append]
    unfold decGo
    split
    · rename_i ht; subst ht; rw [decEnd_ok rfl (by rw [ofNums_ev]; exact hc), ofNums_ev]
    · rename_i ht; exact decEnd_more ht
  | false =>
    rw [if_neg (by rw [h]; simp), List.append_nil] at hbd
    have hb : recBytes r = bytesOf [r.kind, r.queue, r.epoch, r.peer] := recBytes_no r h
    have h1 := decGo_bytes 6 t [r.kind, r.queue, r.epoch, r.peer] [] hbd (goesOn_no r)
    rw [hb, show (10 : Nat) = [r.kind, r.queue, r.epoch, r.peer].length + 6 by simp, h1]
    rw [List.nil_append, decGo_stop (by simp) (by simpa using h)]
    split
    · rename_i ht; subst ht; rw [decEnd_ok rfl (by rw [ofNums_no r (hok.no h)]; exact hc), ofNums_no r (hok.no h)]
    · rename_i ht; exact decEnd_more ht

theorem decode_torn (r : Rc) (hc : r.check = 0) (k : Nat) (hk : k < (recBytes r).length) : decode ((recBytes r).take k) = (4, Rc.zero) := by
  have hok := rc_ok r hc
  have hbd := hok.bd
  have hl := recBytes_length r
  unfold Rc.nums at hbd
  unfold decode
  cases h : hasEv r.kind with
  | true =>
    rw [if_pos h] at hbd hl
    have hb : recBytes r = bytesOf ([r.kind, r.queue, r.epoch, r.peer] ++ r.ev.nums) := by unfold recBytes Rc.nums; rw [if_pos h]
    have h1 := decGo_torn 0 ([r.kind, r.queue, r.epoch, r.peer] ++ r.ev.nums) [] k (by simp [Ev.nums]; omega) hbd (goesOn_ev r h)
    rw [hb, show (10 : Nat) = ([r.kind, r.queue, r.epoch, r.peer] ++ r.ev.nums).length + 0 by simp [Ev.nums], h1]
    rfl
  | false =>
    rw [if_neg (by rw [h]; simp), List.append_nil] at hbd
    rw [if_neg (by rw [h]; simp)] at hl
    have hb : recBytes r = bytesOf [r.kind, r.queue, r.epoch, r.peer] := recBytes_no r h
    have h1 := decGo_torn 6 [r.kind, r.queue, r.epoch, r.peer] [] k (by simp; omega) hbd (goesOn_no r)
    rw [hb, show (10 : Nat) = [r.kind, r.queue, r.epoch, r.peer].length + 6 by simp, h1]
    rfl

theorem four_valOf (a b c d : Int) (_ha : 0 ≤ a ∧ a ≤ 255) (hb : 0 ≤ b ∧ b ≤ 255) (hc : 0 ≤ c ∧ c ≤ 255) (hd : 0 ≤ d ∧ d ≤ 255) : four (valOf [a, b, c, d]) = [a, b, c, d] := by
  simp only [valOf, List.foldl_cons, List.foldl_nil, four]
  simp only [List.cons.injEq, and_true]
  omega
theorem four_take_val (zs : List Int) (h : 4 ≤ zs.length) (hz : ∀ z ∈ zs, 0 ≤ z ∧ z ≤ 255) : four (valOf (zs.take 4)) ++ zs.drop 4 = zs := by
  match zs, h with
  | a :: b :: c :: d :: t, _ =>
    have := four_valOf a b c d (hz a (by simp)) (hz b (by simp)) (hz c (by simp)) (hz d (by simp))
    simp [this]

/-- what the loop has read was there -/
theorem decGo_back : ∀ (f : Nat) (acc zs acc' rest : List Int), (∀ z ∈ zs, 0 ≤ z ∧ z ≤ 255) → (4 < acc.length → hasEv (acc.getD 0 0) = true) → acc.length + f = 10 → decGo f acc zs = (0, acc', rest) →
    bytesOf acc' ++ rest = bytesOf acc ++ zs ∧ ((acc'.length = 4 ∧ hasEv (acc'.getD 0 0) = false) ∨ (acc'.length = 10 ∧ hasEv (acc'.getD 0 0) = true))
  | 0, acc, zs, acc', rest, _, hev, hl, h => by
    unfold decGo at h
    simp only [Prod.mk.injEq, true_and] at h
    obtain ⟨rfl, rfl⟩ := h
    exact ⟨rfl, .inr ⟨by omega, hev (by omega)⟩⟩
  | f + 1, acc, zs, acc', rest, hz, hev, hl, h => by
    by_cases h4 : acc.length = 4 ∧ hasEv (acc.getD 0 0) = false
    · rw [decGo_stop h4.1 h4.2] at h
      simp only [Prod.mk.injEq, true_and] at h
      obtain ⟨rfl, rfl⟩ := h
      exact ⟨rfl, .inl h4⟩
    · by_cases hs : zs.length < 4
      · rw [decGo_short h4 hs] at h; simp at h
      · by_cases hv : valOf (zs.take 4) ≤ 2147483647
        · rw [decGo_more h4 (by omega) hv] at h
          have hev' : 4 < (acc ++ [valOf (zs.take 4)]).length → hasEv ((acc ++ [valOf (zs.take 4)]).getD 0 0) = true := by
            intro hlen
            simp only [List.length_append, List.length_cons, List.length_nil] at hlen
            have e : (acc ++ [valOf (zs.take 4)]).getD 0 0 = acc.getD 0 0 := by
              match acc, hlen with
              | a :: l, _ => rfl
            rw [e]
            by_cases h5 : acc.length = 4
            · cases hh : hasEv (acc.getD 0 0) with
              | true => rfl
              | false => exact absurd ⟨h5, hh⟩ h4
            · exact hev (by omega)
          have := decGo_back f (acc ++ [valOf (zs.take 4)]) (zs.drop 4) acc' rest (fun z hz' => hz z (List.mem_of_mem_drop hz')) hev' (by simp; omega) h
          refine ⟨this.1.trans ?_, this.2⟩
          rw [bytesOf_snoc, List.append_assoc, four_take_val zs (by omega) hz]
        · rw [decGo_range h4 (by omega) hv] at h; simp at h

theorem nums4 (l : List Int) (h : l.length = 4) : [(ofNums l).kind, (ofNums l).queue, (ofNums l).epoch, (ofNums l).peer] = l := by
  match l, h with
  | [a, b, c, d], _ => rfl
theorem nums10 (l : List Int) (h : l.length = 10) : [(ofNums l).kind, (ofNums l).queue, (ofNums l).epoch, (ofNums l).peer] ++ (ofNums l).ev.nums = l := by
  match l, h with
  | [a, b, c, d, e, f, g, i, j, k], _ => rfl

/-- no record has two forms -/
theorem decode_fixed (zs : List Int) (hz : ∀ z ∈ zs, 0 ≤ z ∧ z ≤ 255) : ((decode zs).1 ≠ 0 ∧ (decode zs).2 = Rc.zero) ∨ ((decode zs).1 = 0 ∧ (decode zs).2.check = 0 ∧ recBytes (decode zs).2 = zs) := by
  unfold decode
  rcases hT : decGo 10 [] zs with ⟨code, acc, rest⟩
  by_cases hc : code = 0
  · subst hc
    obtain ⟨h1, h2⟩ := decGo_back 10 [] zs acc rest hz (by simp) rfl hT
    rw [show bytesOf [] ++ zs = zs from rfl] at h1
    by_cases he : rest = [] ∧ (ofNums acc).check = 0
    · rw [decEnd_ok he.1 he.2]
      refine .inr ⟨rfl, he.2, ?_⟩
      rw [he.1, List.append_nil] at h1
      rw [← h1]
      have e : (ofNums acc).kind = acc.getD 0 0 := rfl
      rcases h2 with ⟨h3, h4⟩ | ⟨h3, h4⟩
      · rw [recBytes_no _ (by rw [e]; exact h4), nums4 acc h3]
      · rw [show recBytes (ofNums acc) = bytesOf ([(ofNums acc).kind, (ofNums acc).queue, (ofNums acc).epoch, (ofNums acc).peer] ++ (ofNums acc).ev.nums) by unfold recBytes Rc.nums; rw [if_pos (by rw [e]; exact h4)], nums10 acc h3]
    · have : decEnd (0, acc, rest) = (3, Rc.zero) := by unfold decEnd; rw [if_pos rfl, if_neg he]
      rw [this]
      exact .inl ⟨by simp, rfl⟩
  · have : decEnd (code, acc, rest) = (code, Rc.zero) := by unfold decEnd; rw [if_neg hc]
    rw [this]
    exact .inl ⟨hc, rfl⟩

end Go.Proofs.Ytcgamaponeglhaa
