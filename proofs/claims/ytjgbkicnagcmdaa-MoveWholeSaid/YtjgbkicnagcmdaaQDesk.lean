/- Queues: a desk; 'receive'. -/
import Derived.Test.YtjgbkicnagcmdaaQCheck
import Derived.BigRegion
import Derived.Deep.RegionLaw
namespace Go.Proofs.Ytjgbkicnagcmdaa
open Go.RowKit Go.Maps

def Fresh (lo : Nat) (A : Option Addr) : Prop := ∀ ad, A = some ad → lo ≤ ad.block
theorem own_fresh {w : World} {base size n c : Nat} {e : TypeId} {A : Option Addr} {xs : List Value} (h : w.ownsRow base e size (.slice A n c) n xs) : Fresh base A := by
  intro ad hA
  subst hA
  rcases h.2 with ⟨h, _⟩ | ⟨g, cap, cur, h, hb, _⟩
  · cases h
  · injection h with h
    injection h with h
    subst h
    exact hb
theorem qset0 (ep nx gv : Int) (vr vl : Value) (t : Nat → Int) (f : Nat → Nat → Bool) (x : Int) : (qCells ep nx gv vr vl t f).setIfInBounds 0 (.int .i64 x) = qCells x nx gv vr vl t f := rfl
theorem qset1 (ep nx gv : Int) (vr vl : Value) (t : Nat → Int) (f : Nat → Nat → Bool) (x : Int) : (qCells ep nx gv vr vl t f).setIfInBounds 1 (.int .i64 x) = qCells ep x gv vr vl t f := rfl
theorem qset2 (ep nx gv : Int) (vr vl : Value) (t : Nat → Int) (f : Nat → Nat → Bool) (x : Int) : (qCells ep nx gv vr vl t f).setIfInBounds 2 (.int .i64 x) = qCells ep nx x vr vl t f := rfl
theorem qset3 (ep nx gv : Int) (vr vl : Value) (t : Nat → Int) (f : Nat → Nat → Bool) (x : Value) : (qCells ep nx gv vr vl t f).setIfInBounds 3 x = qCells ep nx gv x vl t f := rfl
theorem qset4 (ep nx gv : Int) (vr vl : Value) (t : Nat → Int) (f : Nat → Nat → Bool) (x : Value) : (qCells ep nx gv vr vl t f).setIfInBounds 4 x = qCells ep nx gv vr x t f := rfl
theorem qBlk {w : World} {g : Nat} {ty : TypeId} {ep nx gv : Int} {vr vl : Value} {t : Nat → Int} {f : Nat → Nat → Bool} (h : Blk w g ty (qCells ep nx gv vr vl t f)) :
    w.cell? ⟨g, 0, none⟩ = some (.int .i64 ep) ∧ w.cell? ⟨g, 1, none⟩ = some (.int .i64 nx) ∧ w.cell? ⟨g, 2, none⟩ = some (.int .i64 gv) ∧ w.cell? ⟨g, 3, none⟩ = some vr ∧ w.cell? ⟨g, 4, none⟩ = some vl :=
  ⟨h.cell 0, h.cell 1, h.cell 2, h.cell 3, h.cell 4⟩
theorem Reads.tail_ {w : World} {B n b off s : Nat} {xs : List Value} (h : Reads w B s (some ⟨b, off, none⟩) n xs) (hn : 0 < n) : Reads w B s (some ⟨b, off + s, none⟩) (n - 1) (xs.drop s) := by
  obtain ⟨hl, hc⟩ := h
  refine ⟨by rw [List.length_drop, hl, Nat.sub_mul]; omega, fun _ => ?_⟩
  obtain ⟨ad, e, hb, hcell⟩ := hc hn
  injection e with e
  subst e
  refine ⟨_, rfl, hb, fun j u hu => ?_⟩
  rw [List.getElem?_drop] at hu
  have := hcell _ _ hu
  have e1 : (⟨b, off + s, none⟩ : Addr).add j = (⟨b, off, none⟩ : Addr).add (s + j) := by
    unfold Addr.add
    by_cases h1 : j = 0 <;> by_cases h2 : s + j = 0 <;> simp_all <;> omega
  rw [e1]
  exact this
theorem Blk.new' {w : World} {g : Nat} {t : TypeId} {cs : Array Value} (h : w.heap.size = g) : Blk (w.alloc (.cells cs t)) g t cs := by
  subst h
  exact Blk.new w t cs
theorem Reads.otherQ {w : World} {B size n : Nat} {A : Option Addr} {xs : List Value} (h : Reads w B size A n xs) {lo : Nat} (hA : Fresh lo A) {p : Addr} (hp : p.block < lo) (u : Value) : Reads (w.setCell p u) B size A n xs :=
  ⟨h.1, fun hn => by
    obtain ⟨ad, e, hb, hc⟩ := h.2 hn
    have := hA ad e
    exact ⟨ad, e, hb, fun j v hv => (World.cell?_setCell_other w p _ u (fun e => by
      have h3 := congrArg Addr.block e
      rw [block_of_add] at h3
      omega)).trans (hc j v hv)⟩⟩
theorem own_row_blk {w : World} {base s n c b off : Nat} {e : TypeId} {xs : List Value} (h : w.ownsRow base e s (.slice (some ⟨b, off, none⟩) n c) n xs) : ∃ cur, Blk w b e cur ∧ off = 0 ∧ base ≤ b ∧ ∀ (j : Nat) (u : Value), xs[j]? = some u → cur[j]? = some u := by
  rcases h.2 with ⟨h, _⟩ | ⟨g, cap, cur, h, hb, hg, _, _, _, hx⟩
  · cases h
  · injection h with h _ _
    injection h with h
    injection h with h1 h2
    subst h1
    subst h2
    refine ⟨cur, hg, rfl, hb, fun j u hu => ?_⟩
    rw [← hx, List.getElem?_take] at hu
    split at hu
    · simpa using hu
    · cases hu
theorem blk_reads {w : World} {s n b : Nat} {e : TypeId} {cur : Array Value} {xs : List Value} (h : Blk w b e cur) (hl : xs.length = n * s) (hx : ∀ (j : Nat) (u : Value), xs[j]? = some u → cur[j]? = some u) : Reads w w.heap.size s (some ⟨b, 0, none⟩) n xs :=
  ⟨hl, fun _ => ⟨_, rfl, h.lt, fun j u hu => by rw [show (Addr.mk b 0 none).add j = ⟨b, j, none⟩ by unfold Addr.add; split <;> simp_all]; exact (h.cell j).trans (hx j u hu)⟩⟩
theorem own_blk_geQ {w : World} {base size n : Nat} {e : TypeId} {v : Value} {xs : List Value} (h : w.ownsRow base e size v n xs) : ∀ k, v.ownBlock = some k → base ≤ k := by
  intro k hk
  rcases h.2 with ⟨rfl, _⟩ | ⟨g, cap, cur, rfl, hb, _⟩
  · simp [Value.ownBlock] at hk
  · have : g = k := by simpa [Value.ownBlock] using hk
    omega
theorem reads_oneQ (w : World) (t : TypeId) (cs : Array Value) (k : Nat) (hk : cs.size = k) : Reads (w.alloc (.cells cs t)) (w.heap.size + 1) k (some ⟨w.heap.size, 0, none⟩) 1 cs.toList := by
  refine ⟨by simp [hk], fun _ => ⟨_, rfl, Nat.lt_succ_self _, fun j u hu => ?_⟩⟩
  have hadd : (⟨w.heap.size, 0, none⟩ : Addr).add j = ⟨w.heap.size, j, none⟩ := by unfold Addr.add; split <;> simp_all
  rw [hadd, (Blk.new w t cs).cell]
  simpa using hu
theorem msg_info : (Try.prog.info? 91).map (fun i => (i.zero, i.size, i.bytes)) = some (some (.agg #[.int .i64 0, .int .i64 0]), 2, 16) := by kernel_rfl
theorem ls_info : (Try.prog.info? 94).map (fun i => (i.zero, i.size, i.bytes)) = some (some (.agg #[.int .i64 0, .int .i64 0, .int .i64 0, .int .i64 0]), 4, 32) := by kernel_rfl
theorem lsCells_snoc (ep : Int) (ls : List (Int × Int × Int)) (a b c : Int) : lsCells ep (ls ++ [(a, b, c)]) = lsCells ep ls ++ [.int .i64 ep, .int .i64 a, .int .i64 b, .int .i64 c] := by
  simp [lsCells, rowCells]
theorem msgCells_tail (m : Int × Int) (rd : List (Int × Int)) : (msgCells (m :: rd)).drop 2 = msgCells rd := by simp [msgCells, rowCells]

/-- an answer -/
def ansV (code ep no body : Int) : Value := .agg #[.int .i64 code, .int .i64 ep, .int .i64 no, .int .i64 body]
/-- a desk behind an act: what the queue in block g is now -/
structure DeskIs (w : World) (g : Nat) (ep nx gv : Int) (rd : List (Int × Int)) (ls : List (Int × Int × Int)) (t : Nat → Int) (f : Nat → Nat → Bool) : Prop where
  out : ∃ A1 c1 A2 c2, Blk w g 88 (qCells ep nx gv (.slice A1 rd.length c1) (.slice A2 ls.length c2) t f) ∧ rd.length ≤ c1 ∧ ls.length ≤ c2 ∧ Reads w w.heap.size 2 A1 rd.length (msgCells rd) ∧ Reads w w.heap.size 4 A2 ls.length (lsCells ep ls) ∧ Fresh (g + 1) A1 ∧ Fresh (g + 1) A2
def ActPost (g : Nat) (w : World) (ans : Value) (b : Bool) (ep nx gv : Int) (rd : List (Int × Int)) (ls : List (Int × Int × Int)) (t : Nat → Int) (f : Nat → Nat → Bool) (e : Ending) (w' : World) : Prop :=
  e = .returned (.tuple #[ans, .bool b]) ∧ DeskIs w' g ep nx gv rd ls t f ∧ Below g w w'

set_option maxRecDepth 100000 in
set_option maxHeartbeats 4000000 in
theorem receive_ok (ep nx gv : Int) (m : Int × Int) (rd : List (Int × Int)) (ls : List (Int × Int × Int)) (t : Nat → Int) (f : Nat → Nat → Bool) (g n k : Nat) (v1 v2 : Value) (ev : Array Value) (w : World)
    (E : Blk w g 88 (qCells ep nx gv v1 v2 t f)) (hn : (m :: rd).length = n) (hk : ls.length = k)
    (o1 : w.ownsRow (g + 1) 91 2 v1 n (msgCells (m :: rd))) (o2 : w.ownsRow (g + 1) 94 4 v2 k (lsCells ep ls)) (hlen : n + k ≤ 500) (hg0 : 0 ≤ gv) (hg1 : gv < 1073741824) :
    Calls Try.prog 42 #[.pointer (some ⟨g, 0, none⟩), .agg ev] w (ActPost g w (ansV 0 ep gv m.2) true ep nx (gv + 1) rd (ls ++ [(gv, m.1, m.2)]) t f) := by
  obtain ⟨i0, hi0, hz0, hz1, hz2⟩ := info_parts ls_info
  obtain ⟨A1, c1, rfl, hc1, _⟩ := own_shape o1
  obtain ⟨A2, c2, rfl, hc2, _⟩ := own_shape o2
  have hn1 : 1 ≤ n := by simp at hn; omega
  obtain ⟨b, off, hA1, hb, y0, y1⟩ := msgAt (Reads.of_own o1) hn (i := 0) (by omega)
  subst hA1
  simp only [Nat.zero_mul, Nat.add_zero, List.getD_cons_zero] at y0 y1
  obtain ⟨no, body⟩ := m
  dsimp only at y0 y1 ⊢
  have hgl := E.lt
  have E0 := (E.alloc (.cells ev 37)).alloc (.cells #[.int .i64 0, .int .i64 0, .int .i64 0, .int .i64 0] 50)
  have o1' := (o1.alloc (.cells ev 37)).alloc (.cells #[.int .i64 0, .int .i64 0, .int .i64 0, .int .i64 0] 50)
  have o2' := (o2.alloc (.cells ev 37)).alloc (.cells #[.int .i64 0, .int .i64 0, .int .i64 0, .int .i64 0] 50)
  have F0 := Blk.new' (w := w.alloc (.cells ev 37)) (g := w.heap.size + 1) (t := 50) (cs := #[.int .i64 0, .int .i64 0, .int .i64 0, .int .i64 0]) (by simp)
  have bel0 := ((Below.refl g w).alloc (Nat.le_of_lt hgl) (.cells ev 37)).alloc (by simp; omega) (.cells #[.int .i64 0, .int .i64 0, .int .i64 0, .int .i64 0] 50)
  have HP := Lib.hid (show ∀ w', DeskIs w' g ep nx (gv + 1) rd (ls ++ [(gv, no, body)]) t f → Below g w w' → ActPost g w (ansV 0 ep gv body) true ep nx (gv + 1) rd (ls ++ [(gv, no, body)]) t f (.returned (.tuple #[ansV 0 ep gv body, .bool true])) w' from fun w' a b => ⟨rfl, a, b⟩)
  generalize ActPost g w (ansV 0 ep gv body) true ep nx (gv + 1) rd (ls ++ [(gv, no, body)]) t f = POST at *
  clear o1 o2 E
  go_enter Try.func42, Try.ntmps42
  go_upto_region 1 with fail
  obtain ⟨ga, hga⟩ : ∃ ga, ga = w.heap.size + 1 := ⟨_, rfl⟩
  have hgga : g < ga := by omega
  rw [← hga] at F0 ⊢
  have hs0 : ((w.alloc (.cells ev 37)).alloc (.cells #[.int .i64 0, .int .i64 0, .int .i64 0, .int .i64 0] 50)).heap.size = ga + 1 := by simp [hga]
  have HGA := Lib.hid hga
  clear hga
  have HS0 := Lib.hid hs0
  generalize (w.alloc (.cells ev 37)).alloc (.cells #[.int .i64 0, .int .i64 0, .int .i64 0, .int .i64 0] 50) = w0 at *
  obtain ⟨b', off', hA1', hb', z0, z1⟩ := msgAt (Reads.of_own o1') hn (i := 0) (by omega)
  simp only [Nat.zero_mul, Nat.add_zero, List.getD_cons_zero] at z0 z1
  obtain ⟨rfl, rfl⟩ : b = b' ∧ off = off' := by injection hA1' with h; injection h with h1 h2; exact ⟨h1, h2⟩
  clear hA1' y0 y1 hb hs0
  obtain ⟨cur, KB0, hoff, hbg, hcur⟩ := own_row_blk o1'
  subst hoff
  have HC := Lib.hid hcur
  have hxl := Lib.hid o1'.1
  have nbg := KB0.ne_ E0 (by decide)
  clear hcur
  obtain ⟨x0, x1, x2, x3, x4⟩ := qBlk E0
  have hgf := E0.frozen
  have hgz := E0.lt
  have hn0 : ¬ n = 0 := by omega
  have hn0I : ¬ (n : Int) = 0 := by omega
  have hn0b : ((n : Int) == 0) = false := by rw [beq_eq_false_iff_ne]; omega
  have hnp : (0 : Int) < (n : Int) := by omega
  have hnN : 0 < n := hn1
  have hgb : (gv == 1073741824) = false := by rw [beq_eq_false_iff_ne]; omega
  have hgn : ¬ gv = 1073741824 := by omega
  have i2 : IntKind.i64.wrap (gv + 1) = gv + 1 := IntWalk.i64_in _ (by omega)
  have hfin1 := HP
  go_upto_region 5 with fail
  go_region
  obtain ⟨gl, hgl2⟩ : ∃ gl, gl = w0.heap.size := ⟨_, rfl⟩
  have E5 : Blk (w0.alloc (.cells #[.int .i64 ep, .int .i64 gv, .int .i64 no, .int .i64 body] 94)).drew g 88 _ := (E0.alloc (.cells #[.int .i64 ep, .int .i64 gv, .int .i64 no, .int .i64 body] 94)).drew
  have L5 : Blk (w0.alloc (.cells #[.int .i64 ep, .int .i64 gv, .int .i64 no, .int .i64 body] 94)).drew w0.heap.size 94 _ := (Blk.new w0 94 #[.int .i64 ep, .int .i64 gv, .int .i64 no, .int .i64 body]).drew
  have F5 : Blk (w0.alloc (.cells #[.int .i64 ep, .int .i64 gv, .int .i64 no, .int .i64 body] 94)).drew ga 50 _ := (F0.alloc (.cells #[.int .i64 ep, .int .i64 gv, .int .i64 no, .int .i64 body] 94)).drew
  have o15 : (w0.alloc (.cells #[.int .i64 ep, .int .i64 gv, .int .i64 no, .int .i64 body] 94)).drew.ownsRow (g + 1) 91 2 _ n _ := o1'.alloc (.cells #[.int .i64 ep, .int .i64 gv, .int .i64 no, .int .i64 body] 94)
  have o25 : (w0.alloc (.cells #[.int .i64 ep, .int .i64 gv, .int .i64 no, .int .i64 body] 94)).drew.ownsRow (g + 1) 94 4 _ k _ := o2'.alloc (.cells #[.int .i64 ep, .int .i64 gv, .int .i64 no, .int .i64 body] 94)
  have K5 : Blk (w0.alloc (.cells #[.int .i64 ep, .int .i64 gv, .int .i64 no, .int .i64 body] 94)).drew b 91 cur := (KB0.alloc (.cells #[.int .i64 ep, .int .i64 gv, .int .i64 no, .int .i64 body] 94)).drew
  have bel5 : Below g w (w0.alloc (.cells #[.int .i64 ep, .int .i64 gv, .int .i64 no, .int .i64 body] 94)).drew := (bel0.alloc (by omega) (.cells #[.int .i64 ep, .int .i64 gv, .int .i64 no, .int .i64 body] 94)).drew
  rw [← hgl2] at L5 ⊢
  have hlr := Lib.hid (fun x (hx : (Value.slice A2 k c2).ownBlock = some x) => show x < gl from by rw [hgl2]; exact (World.ownsRow.lt o2' x hx).2)
  generalize (w0.alloc (.cells #[.int .i64 ep, .int .i64 gv, .int .i64 no, .int .i64 body] 94)).drew = w5 at *
  have ngl : ¬ gl = g := fun e => by have := hgz; omega
  have ngl' : ¬ g = gl := fun e => ngl e.symm
  have nga : ¬ ga = g := by omega
  have nga' : ¬ g = ga := by omega
  clear x0 x1 x2 x3 x4 z0 z1 hgf hgz E0 F0 KB0 o1' o2' bel0 HS0 HGA hb' hgl2
  obtain ⟨x0, x1, x2, x3, x4⟩ := qBlk E5
  have hgf := E5.frozen
  have hgz := E5.lt
  have hsl : 1 ≤ n := hn1
  have hslI : (1 : Int) ≤ (n : Int) := by omega
  have hncI : (n : Int) ≤ (c1 : Int) := by omega
  have hFr : Fresh (g + 1) (if c1 = 1 then some ⟨b, 0, none⟩ else some ⟨b, 2, none⟩) := by
    have h := hbg
    intro ad e
    split at e <;> (injection e with e; subst e; exact h)
  go_upto_region 7 with fail
  have HAr := Lib.hid (show ∀ W, Blk W b 91 cur → Reads W W.heap.size 2 (if c1 = 1 then some ⟨b, 0, none⟩ else some ⟨b, 2, none⟩) (n - 1) (msgCells rd) from fun W hW => by
    have h := (blk_reads hW hxl.out HC.out).tail_ (by omega)
    rw [msgCells_tail, Nat.zero_add] at h
    by_cases hc : c1 = 1
    · have h0 : n - 1 = 0 := by omega
      have h1 : rd = [] := List.eq_nil_of_length_eq_zero (by simp at hn; omega)
      rw [h0, h1]
      exact ⟨rfl, fun h => absurd h (by omega)⟩
    · rw [if_neg hc]; exact h)
  generalize (if c1 = 1 then some (⟨b, 0, none⟩ : Addr) else some ⟨b, 2, none⟩) = Ar at *
  have E6 := E5.set_ 3 (.slice Ar (n - 1) (c1 - 1))
  rw [qset3] at E6
  have L6 := L5.far (p := ⟨g, 3, none⟩) ngl (.slice Ar (n - 1) (c1 - 1))
  have F6 := F5.far (p := ⟨g, 3, none⟩) nga (.slice Ar (n - 1) (c1 - 1))
  have o26 := ownsRow_setCell_other (a := ⟨g, 3, none⟩) o25 (own_blk_ne o25 E5 (by decide)) (.slice Ar (n - 1) (c1 - 1))
  have K6 := K5.far (p := ⟨g, 3, none⟩) nbg (.slice Ar (n - 1) (c1 - 1))
  have bel6 := bel5.setCell (p := ⟨g, 3, none⟩) (Nat.le_refl _) (.slice Ar (n - 1) (c1 - 1))
  generalize w5.setCell ⟨g, 3, none⟩ (.slice Ar (n - 1) (c1 - 1)) = w6 at *
  clear x0 x1 x2 x3 x4 hgf hgz E5 L5 F5 o15 o25 K5 bel5
  obtain ⟨x0, x1, x2, x3, x4⟩ := qBlk E6
  have hgf := E6.frozen
  have hgz := E6.lt
  have l0 := L6.cell 0
  have l1 := L6.cell 1
  have l2 := L6.cell 2
  have l3 := L6.cell 3
  have hlz := L6.lt
  have OD : w6.drew.ownsRow (g + 1) 94 4 (.slice A2 k c2) k (lsCells ep ls) := o26
  have o7 := OD.alloc (.cells #[.int .i64 ep, .int .i64 gv, .int .i64 no, .int .i64 body] 94)
  have rR := reads_oneQ w6.drew 94 #[.int .i64 ep, .int .i64 gv, .int .i64 no, .int .i64 body] 4 rfl
  have E7 : Blk (w6.drew.alloc (.cells #[.int .i64 ep, .int .i64 gv, .int .i64 no, .int .i64 body] 94)) g 88 _ := (E6.drew).alloc (.cells #[.int .i64 ep, .int .i64 gv, .int .i64 no, .int .i64 body] 94)
  have L7 : Blk (w6.drew.alloc (.cells #[.int .i64 ep, .int .i64 gv, .int .i64 no, .int .i64 body] 94)) gl 94 _ := (L6.drew).alloc (.cells #[.int .i64 ep, .int .i64 gv, .int .i64 no, .int .i64 body] 94)
  have F7 : Blk (w6.drew.alloc (.cells #[.int .i64 ep, .int .i64 gv, .int .i64 no, .int .i64 body] 94)) ga 50 _ := (F6.drew).alloc (.cells #[.int .i64 ep, .int .i64 gv, .int .i64 no, .int .i64 body] 94)
  have K7 : Blk (w6.drew.alloc (.cells #[.int .i64 ep, .int .i64 gv, .int .i64 no, .int .i64 body] 94)) b 91 cur := (K6.drew).alloc (.cells #[.int .i64 ep, .int .i64 gv, .int .i64 no, .int .i64 body] 94)
  have bel7 : Below g w (w6.drew.alloc (.cells #[.int .i64 ep, .int .i64 gv, .int .i64 no, .int .i64 body] 94)) := bel6.drew.alloc (Nat.le_of_lt hgz) (.cells #[.int .i64 ep, .int .i64 gv, .int .i64 no, .int .i64 body] 94)
  have ne7 := own_blk_ne o7 E7 (by decide)
  have neF := own_blk_ne o7 F7 (by decide)
  have neK := own_blk_ne o7 K7 (by decide)
  have neL : (Value.slice A2 k c2).ownBlock ≠ some gl := fun h => by have := hlr.out _ h; omega
  go_region_law (first
    | (refine step_append_any _ rfl (.tmp 58) (.tmp 60) _ rfl (g + 1) 94 i0 _ 4 32 Try.underlying40 hi0 hz0 hz1 hz2 rfl (by omega) (.slice A2 k c2) k (lsCells ep ls) rfl o7 _ _ 1 1 _ rfl rR (by intro u hu; simp at hu; rcases hu with h | h | h | h <;> subst h <;> rfl) (by simp only [maxLen]; omega) (by omega) (by simp; omega) ?_; intro v8 w8 o8 g8 at8; obtain ⟨A8, c8, rfl, hc8, _⟩ := own_shape o8; have E8 := E7.grown g8 (fun h => ne7 h.symm); have L8 := L7.grown g8 (fun h => neL h.symm); have F8 := F7.grown g8 (fun h => neF h.symm); have K8 := K7.grown g8 (fun h => neK h.symm); have bel8 := bel7.grown g8 (by simp; omega) (fun k hk => by have := own_blk_geQ o7 k hk; omega); have ne8 := own_blk_ne o8 E8 (by decide); have f8 := E8.frozen; have z8 := E8.lt; have q8 : w8.cell? ⟨g, 4, none⟩ = some (.slice A2 k c2) := (qBlk E8).2.2.2.2))
  all_goals
    clear x0 x1 x2 x3 x4 hgf hgz l0 l1 l2 l3 hlz E7 L7 F7 K7 E6 L6 F6 K6 o26 OD o7 rR bel6 bel7 ne7 neF neK neL q8 at8 g8
    have o9 := ownsRow_setCell_other (a := ⟨g, 4, none⟩) o8 ne8 (.slice A8 (k + 1) c8)
    have E9 := E8.set_ 4 (.slice A8 (k + 1) c8)
    rw [qset4] at E9
    have L9 := L8.far (p := ⟨g, 4, none⟩) ngl (.slice A8 (k + 1) c8)
    have F9 := F8.far (p := ⟨g, 4, none⟩) nga (.slice A8 (k + 1) c8)
    have K9 := K8.far (p := ⟨g, 4, none⟩) nbg (.slice A8 (k + 1) c8)
    have bel9 := bel8.setCell (p := ⟨g, 4, none⟩) (Nat.le_refl _) (.slice A8 (k + 1) c8)
    generalize w8.setCell ⟨g, 4, none⟩ (.slice A8 (k + 1) c8) = w9 at *
    clear E8 L8 F8 K8 bel8 o8 f8 z8
    obtain ⟨x0, x1, x2, x3, x4⟩ := qBlk E9
    have hgf := E9.frozen
    have hgz := E9.lt
    have l0 := L9.cell 0
    have l1 := L9.cell 1
    have l2 := L9.cell 2
    have l3 := L9.cell 3
    have f0 := F9.cell 0
    have f1 := F9.cell 1
    have f2 := F9.cell 2
    have f3 := F9.cell 3
    have ff := F9.frozen
    have fz := F9.lt
    have neg9 := own_blk_ne o9 E9 (by decide)
    have nef9 := own_blk_ne o9 F9 (by decide)
    have nba : b ≠ ga := K9.ne_ F9 (by decide)
    have E10 := E9.set_ 2 (.int .i64 (gv + 1))
    rw [qset2] at E10
    have EF := ((((E10.far (p := ⟨ga, 0, none⟩) nga' (.int .i64 0)).far (p := ⟨ga, 1, none⟩) nga' (.int .i64 ep)).far (p := ⟨ga, 2, none⟩) nga' (.int .i64 gv)).far (p := ⟨ga, 3, none⟩) nga' (.int .i64 body))
    have KF := (((((K9.far (p := ⟨g, 2, none⟩) nbg (.int .i64 (gv + 1))).far (p := ⟨ga, 0, none⟩) nba (.int .i64 0)).far (p := ⟨ga, 1, none⟩) nba (.int .i64 ep)).far (p := ⟨ga, 2, none⟩) nba (.int .i64 gv)).far (p := ⟨ga, 3, none⟩) nba (.int .i64 body))
    have oF := (ownsRow_setCell_other (a := ⟨ga, 3, none⟩) (ownsRow_setCell_other (a := ⟨ga, 2, none⟩) (ownsRow_setCell_other (a := ⟨ga, 1, none⟩) (ownsRow_setCell_other (a := ⟨ga, 0, none⟩) (ownsRow_setCell_other (a := ⟨g, 2, none⟩) o9 neg9 (.int .i64 (gv + 1))) nef9 (.int .i64 0)) nef9 (.int .i64 ep)) nef9 (.int .i64 gv)) nef9 (.int .i64 body))
    have bF := (((((bel9.setCell (p := ⟨g, 2, none⟩) (Nat.le_refl _) (.int .i64 (gv + 1))).setCell (p := ⟨ga, 0, none⟩) (Nat.le_of_lt hgga) (.int .i64 0)).setCell (p := ⟨ga, 1, none⟩) (Nat.le_of_lt hgga) (.int .i64 ep)).setCell (p := ⟨ga, 2, none⟩) (Nat.le_of_lt hgga) (.int .i64 gv)).setCell (p := ⟨ga, 3, none⟩) (Nat.le_of_lt hgga) (.int .i64 body))
    have e1 : rd.length = n - 1 := by simp at hn; omega
    have e2 : (ls ++ [(gv, no, body)]).length = k + 1 := by simp; omega
    have hfin := Lib.hid (HP.out _ ⟨Ar, c1 - 1, A8, c8, by rw [e1, e2]; exact ⟨EF, by omega, hc8, HAr.out _ KF, by rw [lsCells_snoc]; exact Reads.of_own oF, hFr, own_fresh oF⟩⟩ bF)
    clear e1 e2
    clear neg9 nef9 nba E10 EF KF oF bF K9 L9 bel9 HP HAr HC
    go_wp2_with fail
    exact bodyPost_ret (v := .tuple #[.agg #[.int .i64 0, .int .i64 ep, .int .i64 gv, .int .i64 body], .bool true]) (by simp [results, Try.results42, go_sem, *]) rfl hfin.out

end Go.Proofs.Ytjgbkicnagcmdaa
