/- LinesBack: the walk. -/
import Derived.Test.YtjakmpkfniangaaDoorFeats
import Derived.Test.YtjakmpkfniangaaDoorCalls
namespace Go.Proofs.YtjakmpkfniangaaDoor
open Go.RowKit

set_option linter.unusedVariables false
/-- an act that may be is a client's where it is a call -/
theorem asksR_good {vs : List Int} (h : GoodAct vs) : asksR vs = (vs.getD 0 0 == 2) := by
  obtain ⟨hl, hc, _⟩ := h
  obtain ⟨x0, x1, x2, x3, x4, x5, x6, x7, x8, x9, x10, rfl⟩ := iCells_11 hl
  unfold asksR
  simp only [List.getD_cons_zero, List.getD_cons_succ]
  by_cases h2 : x0 = 2
  · subst h2
    have hs := checkR_slots hc
    simp only [List.getD_cons_zero, List.getD_cons_succ] at hs
    have h5 : x5 = 1 ∨ x5 = 2 ∨ x5 = 3 := by
      refine Classical.byContradiction fun hn => ?_
      have : formR 2 x5 = (⟨#[]⟩, [], false) := by
        unfold formR
        rw [if_neg (by omega), if_neg (by omega), if_neg (by omega), if_neg (by omega), if_neg (by omega), if_neg (by omega), if_neg (by omega), if_neg (by omega), if_neg (by omega), if_neg (by omega), if_neg (by omega), if_neg (by omega)]
      rw [this] at hs
      cases hs.1
    have hs2 := hs.2
    clear hs hl
    rcases h5 with h5 | h5 | h5 <;> subst h5
    · have b1 := hs2 (6, 3) (by simp [formR])
      have b2 := hs2 (7, 1073741824) (by simp [formR])
      have b3 := hs2 (8, 1000000) (by simp [formR])
      simp only [List.getD_cons_zero, List.getD_cons_succ] at b1 b2 b3
      simp [checkR, formR, zeroed] at hc
      have hz := two_ite hc
      obtain ⟨rfl, rfl, rfl, rfl⟩ := hz
      simp [Ev.check, Ev.ok1, inB]
      omega
    · simp [checkR, formR, zeroed] at hc
      have hz := two_ite hc
      repeat (obtain ⟨hh, hz⟩ := hz; subst hh)
      subst hz
      simp [Ev.check]
    · have b1 := hs2 (9, 1048576) (by simp [formR])
      have b2 := hs2 (10, 1073741824) (by simp [formR])
      simp only [List.getD_cons_zero, List.getD_cons_succ] at b1 b2
      simp [checkR, formR, zeroed] at hc
      have hz := two_ite hc
      repeat (obtain ⟨hh, hz⟩ := hz; subst hh)
      subst hz
      simp [Ev.check, Ev.ok3, inB]
      omega
  · have : (x0 == 2) = false := by simpa using h2
    rw [this, Bool.false_and]
theorem callsGo_end : ∀ (al : List (List Int)) (m : Int), (∀ a ∈ al, checkR a = 0) → (callsGo al m).2 = 0
  | [], m, _ => rfl
  | a :: al, m, h => by
    rw [callsGo, if_pos (h a (List.mem_cons_self ..))]
    exact callsGo_end al _ (fun x hx => h x (List.mem_cons_of_mem _ hx))
set_option maxRecDepth 100000 in
set_option maxHeartbeats 8000000 in
theorem linesBack_walk (A : Option Addr) (n c : Nat) (rows : List (List Int)) (w : World) (L : LibW w) (h : IsRows 5 40 w A n c rows) :
    Calls Tryd.prog 5 #[.slice A n c] w (fun e w' => e = .returned (.bool true) ∧ Below w.heap.size w w') := by
  have H := St.start w
  have CF0 := feats_st (w0 := w) (I := []) A n c 50 rows h (by decide) H
  rw [show ((50 : Nat) : Int) = 50 from rfl] at CF0
  have CF := Lib.hid CF0
  clear CF0
  have CS := Lib.hid (fun W A c al (ha : Acts al) (hc : al.length ≤ c) (H : St w W [actsIt A al]) => show_st (w0 := w) (w := W) (I := [actsIt A al]) L A al c hc ha H)
  have CR := Lib.hid (fun W J s (H : St w W J) => read_st (w0 := w) (w := W) (I := J) L s H)
  clear h
  go_enter Tryd.func5, Tryd.ntmps5
  go_upto_region 2 with (first | (go_at_call 8; (with_reducible refine CF.out.mono ?_); clear H; rintro ed wx ⟨A1, c1, al, hg, hc1, hl50, rfl, H⟩))
  have HG := Lib.hid hg
  have HC1 := Lib.hid hc1
  have hshow : showR al = (linesR al, 0, 0) := showR_ok al (by omega) (fun a ha => (hg a ha).2.1)
  have hread : readR (linesR al) = (al, 0, 0) := read_back al hg.acts hg.good (by omega)
  have CS2 := Lib.hid (fun W A c hc H => CS.out W A c al HG.out.acts hc H)
  have CR2 := Lib.hid (fun W J H => CR.out W J (linesR al) H)
  rw [hshow] at CS2
  rw [hread] at CR2
  have CC := Lib.hid (fun W J A c (hc : al.length ≤ c) (hcap : al.length ≤ 1000000) (H : St w W J) (hh : Has J (actsIt A al)) => calls_st (w0 := w) (w := W) (I := J) A al c hc hcap HG.out.acts H)
  obtain ⟨m0, hm0⟩ : ∃ m0 : Int, callsGo al 0 = (m0, 0) := ⟨(callsGo al 0).1, Prod.ext rfl (callsGo_end al 0 (fun a ha => (HG.out a ha).2.1))⟩
  rw [hm0] at CC
  have HM := Lib.hid hm0
  have HL := Lib.hid hl50
  clear hshow hread hg hm0 hc1 CS CR
  generalize hlen : al.length = N at *
  have HN := Lib.hid hlen
  clear hlen
  go_upto_region 3 with (first | (go_at_call 7; (with_reducible refine (CS2.out _ _ _ HC1.out H).mono ?_); clear H; rintro ed wx ⟨rfl, H⟩))
  go_upto_region 4 with (first | (go_at_call 6; (with_reducible refine (CR2.out _ _ H).mono ?_); clear H; rintro ed wx ⟨A2, c2, rfl, hc2, H⟩))
  (try simp only [Act.put])
  replace hc2 : al.length ≤ c2 := hc2
  rw [HN.out] at hc2
  (try rw [HN.out])
  have HC2 := Lib.hid hc2
  clear hc2
  go_upto_region 5 with (first | (go_at_call 10; (with_reducible refine (CC.out _ _ A1 c1 HC1.out (by have := HL.out; omega) H inferInstance).mono ?_); clear H; rintro ed wx ⟨rfl, H⟩))
  (try simp only [Act.put])
  go_upto_region 9 with fail
  go_loopw [12, 13] (fun s12 s13 wr => ∃ (k : Nat) (m : Int), k ≤ N ∧ 0 ≤ m ∧ m ≤ k ∧ s13 = .int .i64 k ∧ s12 = .int .i64 m ∧ Hid (callsGo al 0 = callsGo (al.drop k) m) ∧ St w wr [actsIt A2 al, actsIt A1 al]) (fun _ s13 _ => N - (RowKit.intOf s13).toNat)
  case atStart => exact ⟨0, 0, by omega, by omega, by omega, rfl, rfl, Lib.hid rfl, H⟩
  case round =>
    clear H
    obtain ⟨k, m, hk, hm0, hmk, rfl, rfl, hs, H⟩ := hrel
    have hl50 := HL.out
    have k0 : (0 : Int) ≤ (k : Int) := by omega
    have wk : IntKind.i64.wrap ((k : Int) + 1) = (k : Int) + 1 := IntWalk.i64_in _ (by omega)
    have wm : IntKind.i64.wrap (m + 1) = m + 1 := IntWalk.i64_in _ (by omega)
    by_cases hlt : k < N
    · have k1 : (k : Int) < (N : Int) := by omega
      have hkl : k < al.length := by rw [HN.out]; exact hlt
      have hga := HG.out (al.getD k []) (by rw [List.getD, List.getElem?_eq_getElem hkl]; exact List.getElem_mem _)
      have hask := asksR_good hga
      obtain ⟨x0, x1, x2, x3, x4, x5, x6, x7, x8, x9, x10, hx⟩ := iCells_11 hga.1
      obtain ⟨b8, o8, hA8, hb8, q0, q1, q2, q3, q4, q5, q6, q7, q8, q9, q10⟩ := actsAt (H.get (actsIt A1 al)) rfl hkl HG.out.acts hx
      obtain ⟨b9, o9, hA9, hb9, r0, r1, r2, r3, r4, r5, r6, r7, r8, r9, r10⟩ := actsAt (H.get (actsIt A2 al)) rfl hkl HG.out.acts hx
      subst hA8 hA9
      have hgo := callsGo_drop al k hkl m
      rw [if_pos hga.2.1, hask, hx] at hgo
      rw [← hs.out] at hgo
      have HGO := Lib.hid hgo
      have HK := Lib.hid (And.intro hk (And.intro hm0 (And.intro hmk hlt)))
      clear hgo hask hx hga hkl hs hb8 hb9 hk hm0 hmk hlt
      go_upto_region 11 with fail
      go_region
      replace H := H.drew
      by_cases h2 : x0 = 2
      · subst h2
        have HGG := Lib.hid (show callsGo al 0 = callsGo (al.drop (k + 1)) (m + 1) from by rw [HGO.out]; rfl)
        clear HGO
        go_wp2
        go_roundw
        case rel => exact ⟨k + 1, m + 1, by have := HK.out; omega, by have := HK.out; omega, by have := HK.out; omega, by go_num, rfl, HGG, H⟩
        case measure => have := HK.out; simp [RowKit.intOf] <;> omega
      · have h2b : (x0 == 2) = false := by simpa using h2
        have HGG := Lib.hid (show callsGo al 0 = callsGo (al.drop (k + 1)) m from by rw [HGO.out, List.getD_cons_zero, h2b]; rfl)
        clear HGO h2
        go_wp2
        go_roundw
        case rel => exact ⟨k + 1, m, by have := HK.out; omega, by have := HK.out; omega, by have := HK.out; omega, by go_num, rfl, HGG, H⟩
        case measure => have := HK.out; simp [RowKit.intOf] <;> omega
    · obtain rfl : k = N := by omega
      have k1 : ¬ (k : Int) < (k : Int) := by omega
      have hfin : callsGo al 0 = (m, 0) := by rw [hs.out, List.drop_of_length_le (Nat.le_of_eq HN.out)]; rfl
      have hmm : m0 = m := by rw [HM.out] at hfin; exact (Prod.mk.inj hfin).1
      subst hmm
      clear hlt hk hfin hmk hm0
      go_wp2
      exact bodyPost_ret (v := .bool true) (by simp [results, Tryd.f5]) rfl ⟨rfl, H.bel⟩


end Go.Proofs.YtjakmpkfniangaaDoor
