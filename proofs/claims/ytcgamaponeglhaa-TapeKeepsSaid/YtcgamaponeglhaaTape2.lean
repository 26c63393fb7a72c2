/- Tapes: Sync, Crash. -/
import Derived.Test.YtcgamaponeglhaaTape
import Derived.Deep.QuietTactic
import Derived.BigQuiet
namespace Go.Proofs.Ytcgamaponeglhaa
open Go.RowKit

theorem blk2 (w : World) (a b : TypeId) (A B : Array Value) :
    Blk ((w.alloc (.cells A a)).alloc (.cells B b)) w.heap.size a A ∧ Blk ((w.alloc (.cells A a)).alloc (.cells B b)) (w.heap.size + 1) b B ∧ Below w.heap.size w ((w.alloc (.cells A a)).alloc (.cells B b)) := by
  refine ⟨(Blk.new w a A).alloc _, ?_, ((Below.refl _ _).alloc (Nat.le_refl _) _).alloc (by simp) _⟩
  have := Blk.new (w.alloc (.cells A a)) b B
  rwa [World.size_alloc] at this

/-- the slice's block is new -/
def Fresh (lo : Nat) (A : Option Addr) : Prop := ∀ ad, A = some ad → lo ≤ ad.block
theorem own_fresh {w : World} {base size n c : Nat} {e : TypeId} {A : Option Addr} {xs : List Value} (h : w.ownsRow base e size (.slice A n c) n xs) : Fresh base A := by
  intro ad hA
  subst hA
  rcases h.2 with ⟨h, _⟩ | ⟨g, cap, cur, h, hb, _⟩
  · cases h
  · injection h with h
    injection h with h
    subst h
    exact hb
theorem Reads.other {w : World} {B size n : Nat} {A : Option Addr} {xs : List Value} (h : Reads w B size A n xs) {lo : Nat} (hA : Fresh lo A) {p : Addr} (hp : p.block < lo) (u : Value) : Reads (w.setCell p u) B size A n xs :=
  ⟨h.1, fun hn => by
    obtain ⟨ad, e, hb, hc⟩ := h.2 hn
    have := hA ad e
    exact ⟨ad, e, hb, fun j v hv => (World.cell?_setCell_other w p _ u (fun e => by
      have h3 := congrArg Addr.block e
      rw [block_of_add] at h3
      omega)).trans (hc j v hv)⟩⟩

def SyncPost (w : World) (d : List Int) (e : Ending) (w' : World) : Prop :=
  ∃ v, e = .returned (.tuple #[.agg #[v, .int .i64 d.length], .int .i64 0]) ∧ w'.ownsRow w.heap.size 5 1 v d.length (d.map (Value.int .u8)) ∧ Below w.heap.size w w'

set_option maxRecDepth 100000 in
set_option maxHeartbeats 1000000 in
theorem sync_ok (A : Option Addr) (n c B : Nat) (d : List Int) (s : Int) (w : World) (h : Reads w B 1 A n (d.map (Value.int .u8))) (hn : n ≤ c) (hc : n ≤ 90000) (hB : B ≤ w.heap.size) (h0 : 0 ≤ s) (h1 : s ≤ n) :
    Calls Try.prog 21 #[.agg #[.slice A n c, .int .i64 s]] w (SyncPost w d) := by
  have hl : d.length = n := by simpa using h.1
  have CO := Lib.hid (fun (W : World) (hd : Reads W B 1 A n (d.map (Value.int .u8))) (hb : B ≤ W.heap.size) => open_ok A n c B d s W hd hn (by omega) hb h0 h1)
  have HW := Lib.hid (show ∀ v w', w'.ownsRow w.heap.size 5 1 v n (d.map (Value.int .u8)) → Below w.heap.size w w' → SyncPost w d (.returned (.tuple #[.agg #[v, .int .i64 n], .int .i64 0])) w' from fun v w' ho hb => ⟨v, by rw [hl], by rw [hl]; exact ho, hb⟩)
  obtain ⟨b0, b1, hbel⟩ := blk2 w 45 45 #[.slice A n c, .int .i64 s] #[.slice none 0 0, .int .i64 0]
  have hrd := (h.alloc hB (.cells #[.slice A n c, .int .i64 s] 45)).alloc (by simp; omega) (.cells #[.slice none 0 0, .int .i64 0] 45)
  clear h
  generalize SyncPost w d = POST at *
  go_enter Try.func21, Try.ntmps21
  go_wp2_with fail
  refine (CO.out _ hrd (by simp; omega)).mono ?_
  rintro e w1 ⟨v1, rfl, o1, e1⟩
  obtain ⟨A1, c1, rfl, hc1, hm1⟩ := own_shape o1
  have f0 := b0.below e1 b0.lt
  have f1 := b1.below e1 b1.lt
  have bel1 : Below w.heap.size w w1 := hbel.trans (e1.mono (by simp; omega))
  have o2 := own_base (base' := w.heap.size) o1 (by simp; omega)
  have n1 := own_blk_ne o2 f1 (by decide)
  have z1 := f1.lt
  have t0 := f1.cell 0
  have t1 := f1.cell 1
  have ft := f1.frozen
  clear b0 b1 hbel e1 CO hrd o1
  generalize d.map (Value.int .u8) = xs at *
  go_wp2_with fail
  have hfin := HW.out _ _ ((ownsRow_setCell_other (a := ⟨w.heap.size + 1, 1, none⟩) (ownsRow_setCell_other (a := ⟨w.heap.size + 1, 0, none⟩) o2 n1 (.slice A1 n c1)) n1 (.int .i64 n)).alloc (.cells #[.slice A1 n c1, .int .i64 n] 45)) (((bel1.setCell (p := ⟨w.heap.size + 1, 0, none⟩) (by simp) (.slice A1 n c1)).setCell (p := ⟨w.heap.size + 1, 1, none⟩) (by simp) (.int .i64 n)).alloc (by simp; omega) (.cells #[.slice A1 n c1, .int .i64 n] 45))
  exact bodyPost_ret (v := .tuple #[.agg #[.slice A1 n c1, .int .i64 n], .int .i64 0]) (by simp [results, Try.results21, go_sem, t0, t1, z1]) rfl hfin

def CrashPost (w : World) (d : List Int) (m : Nat) (e : Ending) (w' : World) : Prop :=
  ∃ A, e = .returned (.tuple #[.agg #[.slice A m m, .int .i64 m], .int .i64 0]) ∧ Reads w' w'.heap.size 1 A m ((d.take m).map (Value.int .u8)) ∧ Fresh w.heap.size A ∧ Below w.heap.size w w'

set_option maxRecDepth 100000 in
set_option maxHeartbeats 1000000 in
theorem crash_ok (A : Option Addr) (n c B s k : Nat) (d : List Int) (w : World) (h : Reads w B 1 A n (d.map (Value.int .u8))) (hn : n ≤ c) (hc : n ≤ 90000) (hB : B ≤ w.heap.size) (h1 : s ≤ n) (hk : k ≤ 100000) :
    Calls Try.prog 22 #[.agg #[.slice A n c, .int .i64 s], .int .i64 k] w (CrashPost w d (s + min k (n - s))) := by
  have hl : d.length = n := by simpa using h.1
  have CO := Lib.hid (fun (W : World) (hd : Reads W B 1 A n (d.map (Value.int .u8))) (hb : B ≤ W.heap.size) => open_ok A n c B d s W hd hn (by omega) hb (by omega) (by omega))
  obtain ⟨m, hm⟩ : ∃ m, s + min k (n - s) = m := ⟨_, rfl⟩
  rw [hm]
  obtain ⟨b0, b1, hbel⟩ := blk2 w 45 45 #[.slice A n c, .int .i64 s] #[.slice none 0 0, .int .i64 0]
  have hrd := (h.alloc hB (.cells #[.slice A n c, .int .i64 s] 45)).alloc (by simp; omega) (.cells #[.slice none 0 0, .int .i64 0] 45)
  clear h
  have HP := Lib.hid (show ∀ A w', Reads w' w'.heap.size 1 A m ((d.take m).map (Value.int .u8)) → Fresh w.heap.size A → Below w.heap.size w w' → CrashPost w d m (.returned (.tuple #[.agg #[.slice A m m, .int .i64 m], .int .i64 0])) w' from fun A w' h1 h2 h3 => ⟨A, rfl, h1, h2, h3⟩)
  generalize CrashPost w d m = POST at *
  go_enter Try.func22, Try.ntmps22
  go_wp2_with fail
  refine (CO.out _ hrd (by simp; omega)).mono ?_
  rintro e w1 ⟨v1, rfl, o1, e1⟩
  obtain ⟨A1, c1, rfl, hc1, hm1⟩ := own_shape o1
  have f1 := b1.below e1 b1.lt
  have bel1 : Below w.heap.size w w1 := hbel.trans (e1.mono (by simp; omega))
  have z1 := f1.lt
  have t0 := f1.cell 0
  have t1 := f1.cell 1
  have ft := f1.frozen
  have n1 := own_blk_ne o1 f1 (by decide)
  have hF : Fresh w.heap.size A1 := own_fresh (own_base (base' := w.heap.size) o1 (by simp; omega))
  have o9 := (ownsRow_setCell_other (a := ⟨w.heap.size + 1, 1, none⟩) (ownsRow_setCell_other (a := ⟨w.heap.size + 1, 0, none⟩) o1 n1 (.slice A1 m m)) n1 (.int .i64 m)).alloc (.cells #[.slice A1 n c1, .int .i64 s] 45)
  have r1 := Reads.of_own o9
  clear b0 b1 hbel e1 CO hrd o1 o9
  have hkI : ¬ (k : Int) < 0 := by omega
  have i1 : IntKind.i64.wrap ((n : Int) - (s : Int)) = (n : Int) - s := IntWalk.i64_in _ (by omega)
  have hm2 : m ≤ n := by omega
  have hcut := r1.take hm2
  rw [Nat.mul_one, ← List.map_take] at hcut
  have FIN : POST (.returned (.tuple #[.agg #[.slice A1 m m, .int .i64 m], .int .i64 0])) (((w1.setCell ⟨w.heap.size + 1, 0, none⟩ (.slice A1 m m)).setCell ⟨w.heap.size + 1, 1, none⟩ (.int .i64 m)).alloc (.cells #[.slice A1 n c1, .int .i64 s] 45)) := by
    exact HP.out _ _ hcut hF (((bel1.setCell (by simp) _).setCell (by simp) _).alloc (by simp; omega) _)
  by_cases hks : (n : Int) - (s : Int) < (k : Int)
  · have e : (s : Int) + ((n : Int) - (s : Int)) = (m : Int) := by omega
    go_wp2_with fail
    exact bodyPost_ret (v := .tuple #[.agg #[.slice A1 m m, .int .i64 m], .int .i64 0]) (by simp [results, Try.results22, go_sem, t0, t1, z1]) rfl FIN
  · have e : (s : Int) + (k : Int) = (m : Int) := by omega
    go_wp2_with fail
    exact bodyPost_ret (v := .tuple #[.agg #[.slice A1 m m, .int .i64 m], .int .i64 0]) (by simp [results, Try.results22, go_sem, t0, t1, z1]) rfl FIN

end Go.Proofs.Ytcgamaponeglhaa
