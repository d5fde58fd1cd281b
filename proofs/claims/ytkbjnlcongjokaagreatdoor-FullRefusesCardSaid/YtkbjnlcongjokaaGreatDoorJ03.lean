/- A part of the proof: HeadRead2, HeadRead3, HeadRead4, Psize, RefUnpad, AhsRead, AhsRead2, AhsRead3, Place, Fields, CrcLaw, Crc, Crc2, Digest, Put, Right, Right2, Refuse1, Refuse2, Refuse3. -/
import Derived.Test.YtkbjnlcongjokaaGreatDoorJ02
import Derived.OwnWalk
import Derived.Maps.AppendAt
import Derived.Test.YtkbjnlcongjokaaGreatDoorJ01
import Derived.Test.YtkbjnlcongjokaaGreatDoorShelf
import Derived.Lib.TrimByte
import Derived.Deep.RegionHeld3
import Derived.Deep.AppendLies
import Derived.Laws.CopyOwn
import Derived.Laws.BytesString
import Derived.Deep.OwnRows
import Derived.Deep.QuietTactic
import Derived.BigQuiet
import Derived.WalkSpells
/- quaymasterref.HeadRead, behind Kind. -/
namespace Go.Proofs.YtkbjnlcongjokaaGreatDoor
open Go.RowKit
/-- The numbers of the fields. -/
def numOf (l : List UInt8) (f : Fld) : Nat := beN ((l.drop f.a.toNat).take f.b.toNat)
def numsV (l : List UInt8) (fs : List Fld) : List Value := fs.map fun f => .int .u64 (numOf l f)
def baseFree (j : Int) : Bool := decide (j = 7) || (decide (j = 6) || (decide (j = 5) || (decide (j = 4) || (decide (j = 1) || (decide (j = 0) || false)))))
def inF (fs : List Fld) (j : Int) : Bool := fs.any fun f => decide (f.a ≤ j) && decide (j < f.a + f.b)
def Fld.fit (f : Fld) : Bool := decide (0 ≤ f.a) && decide (1 ≤ f.b) && decide (f.b ≤ 8) && decide (f.a + f.b ≤ 48)
theorem kinds_fit : (kinds.all fun k => decide (k.l.length ≤ 12) && k.l.all Fld.fit) = true := by kernel_rfl
theorem kind_fit {op : Int} {k : Knd} (h : kindOf op = some k) : k.l.length ≤ 12 ∧ ∀ f ∈ k.l, 0 ≤ f.a ∧ 1 ≤ f.b ∧ f.b ≤ 8 ∧ f.a + f.b ≤ 48 := by
  have hm := List.mem_of_find?_eq_some h
  have := List.all_eq_true.1 kinds_fit k hm
  simp only [Bool.and_eq_true, decide_eq_true_eq] at this
  refine ⟨this.1, fun f hf => ?_⟩
  have := List.all_eq_true.1 this.2 f hf
  simp only [Fld.fit, Bool.and_eq_true, decide_eq_true_eq] at this
  exact ⟨this.1.1.1, this.1.1.2, this.1.2, this.2⟩
/-- What stands between the rounds: the head's cells, the fields, the numbers so far, the free bytes so far. -/
structure HSt (w : World) (m kb : Nat) (k : Knd) (l : List UInt8) (hd : Value → List Value) (wr : World) (k0 n : Nat) (S : Int → Bool) (v : Value) : Prop where
  below : Below w.heap.size w wr
  size : m < wr.heap.size
  head : wr.heap[w.heap.size]? = some (.cells (hd v).toArray 51 (0, 0))
  flds : wr.heap[kb]? = some (.cells (k.l.flatMap Fld.cells).toArray 133)
  nums : wr.ownsRow (m + 1) 97 1 v k0 (numsV l (k.l.take k0))
  free : FreeMap wr m n S
theorem grown_setCell (w : World) (p : Addr) (u : Value) : w.grownBy (w.setCell p u) (some p.block) :=
  ⟨rfl, rfl, rfl, by simp [World.setCell], fun i _ hi => Below.heap_setCell _ _ _ _ (fun e => hi (by rw [e]))⟩
theorem hst_start {w w1 w2 : World} {kb : Nat} {k : Knd} {l : List UInt8} {op fl : Int} {nb : Bool} (hlt : w.heap.size < w1.heap.size) (hkl : kb < w1.heap.size) (hne : kb ≠ w.heap.size)
    (hb : Below w.heap.size w w2) (hF : FreeMap w2 w1.heap.size 6 baseFree) (hH : w2.heap[w.heap.size]? = some (.cells #[.int .i64 0, .bool false, .int .i64 0, .slice none 0 0] 51 (0, 0)))
    (hK : w2.heap[kb]? = some (.cells (k.l.flatMap Fld.cells).toArray 133)) :
    HSt w w1.heap.size kb k l (fun v => [.int .i64 op, .bool nb, .int .i64 fl, v]) ((((w2.setCell ⟨w.heap.size, 0, none⟩ (.int .i64 op)).setCell ⟨w.heap.size, 1, none⟩ (.bool nb)).setCell ⟨w.heap.size, 2, none⟩ (.int .i64 fl)).setCell ⟨w.heap.size, 3, none⟩ (.slice none 0 0)).drew 0 6 baseFree (.slice none 0 0) := by
  have g1 := grown_setCell w2 ⟨w.heap.size, 0, none⟩ (.int .i64 op)
  have g2 := grown_trans g1 (grown_setCell _ ⟨w.heap.size, 1, none⟩ (.bool nb))
  have g3 := grown_trans g2 (grown_setCell _ ⟨w.heap.size, 2, none⟩ (.int .i64 fl))
  have g4 := grown_trans g3 (grown_setCell _ ⟨w.heap.size, 3, none⟩ (.slice none 0 0))
  refine ⟨?_, ?_, ?_, ?_, World.ownsRow_nil _ _ _ _, ?_⟩
  · exact ((((hb.setCell (p := ⟨w.heap.size, 0, none⟩) (Nat.le_refl _) _).setCell (p := ⟨w.heap.size, 1, none⟩) (Nat.le_refl _) _).setCell (p := ⟨w.heap.size, 2, none⟩) (Nat.le_refl _) _).setCell (p := ⟨w.heap.size, 3, none⟩) (Nat.le_refl _) _).drew
  · exact Nat.lt_of_lt_of_le hF.lt g4.size
  · exact heap_setCell_same _ _ 3 _ _ _ (heap_setCell_same _ _ 2 _ _ _ (heap_setCell_same _ _ 1 _ _ _ (heap_setCell_same _ _ 0 _ _ _ hH)))
  · exact (g4.block _ (heap_lt hK) (by simpa using hne)).trans hK
  · have hx : some w1.heap.size ≠ some w.heap.size := fun e => by injection e with e; omega
    obtain ⟨D, e1, e2⟩ := hF.kept g4 hx
    exact ⟨D, e1.drew, e2⟩
theorem HSt.alloc {w wr : World} {m kb : Nat} {k : Knd} {l : List UInt8} {hd : Value → List Value} {k0 n : Nat} {S : Int → Bool} {v : Value} (h : HSt w m kb k l hd wr k0 n S v) (o : Obj) : HSt w m kb k l hd (wr.alloc o) k0 n S v :=
  ⟨below_alloc h.below (Nat.le_refl _) o, by have := h.size; simp; omega, (Below.heap_alloc _ _ _ (heap_lt h.head)).trans h.head, (Below.heap_alloc _ _ _ (heap_lt h.flds)).trans h.flds, h.nums.alloc o, by
    obtain ⟨D, e1, e2⟩ := h.free
    exact ⟨D, e1.alloc o, e2⟩⟩
theorem HSt.upd {w wr w' : World} {m kb : Nat} {k : Knd} {l : List UInt8} {hd : Value → List Value} {k0 n n' : Nat} {S S' : Int → Bool} {v : Value} (h : HSt w m kb k l hd wr k0 n S v) (hm : w.heap.size < m) (hkb : kb < m)
    (hF : FreeMap w' m n' S') (hG : wr.grownBy w' (some m)) : HSt w m kb k l hd w' k0 n' S' v :=
  ⟨h.below.grown hG h.below.size (fun k hk => by injection hk with hk; omega), Nat.lt_of_lt_of_le h.size hG.size, (hG.block _ (heap_lt h.head) (fun e => by injection e with e; omega)).trans h.head,
   (hG.block _ (heap_lt h.flds) (fun e => by injection e with e; omega)).trans h.flds, h.nums.kept hG (by
    cases hv : v.ownBlock with
    | none => exact .inl rfl
    | some g => exact .inr (fun e => by injection e with e; have := (h.nums.lt g hv).1; omega)), hF⟩
theorem HSt.later {w wr w' : World} {m kb : Nat} {k : Knd} {l : List UInt8} {hd : Value → List Value} {k0 n : Nat} {S : Int → Bool} {v : Value} (h : HSt w m kb k l hd wr k0 n S v) (hb : Below wr.heap.size wr w') : HSt w m kb k l hd w' k0 n S v := by
  have hG : wr.grownBy w' none := ⟨hb.os, hb.tape, hb.output, hb.size, fun i hi _ => hb.block i hi⟩
  refine ⟨h.below.trans (hb.mono h.below.size), Nat.lt_of_lt_of_le h.size hb.size, (hb.block _ (heap_lt h.head)).trans h.head, (hb.block _ (heap_lt h.flds)).trans h.flds, h.nums.kept hG ?_, h.free.kept hG (by simp)⟩
  cases hv : v.ownBlock with
  | none => exact .inl rfl
  | some g => exact .inr (by simp)
theorem own_slice {w : World} {base : Nat} {e : TypeId} {size n : Nat} {v : Value} {xs : List Value} (h : w.ownsRow base e size v n xs) : ∃ a m c, v = .slice a m c := by
  rcases h.2 with ⟨rfl, _⟩ | ⟨g, cap, cur, rfl, _⟩
  · exact ⟨_, _, _, rfl⟩
  · exact ⟨_, _, _, rfl⟩
/-- Behind the append: all but the numbers stands. -/
theorem HSt.appended {w wr w' : World} {m kb : Nat} {k : Knd} {l : List UInt8} {hd : Value → List Value} {k0 n : Nat} {S : Int → Bool} {v : Value} (h : HSt w m kb k l hd wr k0 n S v) (o : Obj) (hm : w.heap.size < m) (hkb : kb < m)
    (hG : (wr.alloc o).grownBy w' v.ownBlock) : Below w.heap.size w w' ∧ m < w'.heap.size ∧ w'.heap[w.heap.size]? = some (.cells (hd v).toArray 51 (0, 0)) ∧
      w'.heap[kb]? = some (.cells (k.l.flatMap Fld.cells).toArray 133) ∧ FreeMap w' m n S := by
  have h2 := h.alloc o
  have hv : ∀ g, v.ownBlock = some g → m + 1 ≤ g := fun g e => (h.nums.lt g e).1
  have hne : ∀ i, i ≤ m → some i ≠ v.ownBlock := fun i hi e => by have := hv i e.symm; omega
  exact ⟨h2.below.grown hG h2.below.size (fun g e => by have := hv g e; omega), Nat.lt_of_lt_of_le h2.size hG.size, (hG.block _ (heap_lt h2.head) (hne _ (by omega))).trans h2.head, (hG.block _ (heap_lt h2.flds) (hne _ (by omega))).trans h2.flds, h2.free.kept hG (hne m (Nat.le_refl _))⟩
/-- Behind the store of the longer row. -/
theorem HSt.stored {w w' : World} {m kb : Nat} {k : Knd} {l : List UInt8} {op fl : Int} {nb : Bool} {k0 n : Nat} {S : Int → Bool} {v v' : Value} {f : Fld} (hm : w.heap.size < m) (hne : kb ≠ w.heap.size)
    (h : Below w.heap.size w w' ∧ m < w'.heap.size ∧ w'.heap[w.heap.size]? = some (.cells ((fun v : Value => [Value.int .i64 op, .bool nb, .int .i64 fl, v]) v).toArray 51 (0, 0)) ∧
      w'.heap[kb]? = some (.cells (k.l.flatMap Fld.cells).toArray 133) ∧ FreeMap w' m n S) (hf : k.l[k0]? = some f)
    (hown : w'.ownsRow (m + 1) 97 1 v' (k0 + 1) (numsV l (k.l.take k0) ++ [.int .u64 (numOf l f)])) :
    HSt w m kb k l (fun v => [.int .i64 op, .bool nb, .int .i64 fl, v]) (w'.setCell ⟨w.heap.size, 3, none⟩ v') (k0 + 1) n S v' := by
  obtain ⟨h1, h2, h3, h4, h5⟩ := h
  have g := grown_setCell w' ⟨w.heap.size, 3, none⟩ v'
  refine ⟨h1.setCell (p := ⟨w.heap.size, 3, none⟩) (Nat.le_refl _) _, Nat.lt_of_lt_of_le h2 g.size, heap_setCell_same _ _ 3 _ _ _ h3, (g.block _ (heap_lt h4) (by simpa using hne)).trans h4, ?_, h5.kept g (fun e => by injection e with e; simp at e; omega)⟩
  have : numsV l (k.l.take (k0 + 1)) = numsV l (k.l.take k0) ++ [.int .u64 (numOf l f)] := by
    rw [List.take_add_one, hf]
    simp [numsV]
  rw [this]
  refine hown.kept g ?_
  cases hv : v'.ownBlock with
  | none => exact .inl rfl
  | some q => exact .inr (fun e => by injection e with e; have := (hown.lt q hv).1; simp at e; omega)
def headOk (l : List UInt8) (k : Knd) : Bool := (List.range 48).all fun t => (baseFree (t : Nat) || inF k.l (t : Nat)) || (l.getD t 0).toNat == 0
theorem headOk_true {l : List UInt8} {k : Knd} (h : ∀ t : Nat, t < 48 → ((baseFree t || inF k.l t) || (l.getD t 0).toNat == 0) = true) : headOk l k = true := by
  unfold headOk
  rw [List.all_eq_true]
  intro t ht
  exact h t (List.mem_range.1 ht)
theorem headOk_false {l : List UInt8} {k : Knd} {t : Nat} (ht : t < 48) (h : ((baseFree t || inF k.l t) || (l.getD t 0).toNat == 0) = false) : headOk l k = false := by
  unfold headOk
  rw [List.all_eq_false]
  exact ⟨t, List.mem_range.2 ht, by rw [h]; simp⟩
theorem getD_byte (s : ByteArray) (t : Nat) (h : t < s.size) : s.data.toList.getD t 0 = s[t] := by
  have h' : t < s.data.toList.length := by rw [← Lib.size_eq]; exact h
  rw [List.getD_eq_getElem?_getD, List.getElem?_eq_getElem h']
  rfl
def HeadPost (w : World) (l : List UInt8) (k : Knd) (op : Int) (nb : Bool) (fl : Int) (e : Ending) (w' : World) : Prop :=
  Below w.heap.size w w' ∧ ((headOk l k = true ∧ ∃ v, e = .returned (.tuple #[.agg #[.int .i64 op, .bool nb, .int .i64 fl, v], .int .i64 (l.getD 4 0).toNat, .int .i64 (beN ((l.drop 5).take 3)), .int .i64 0]) ∧
    w'.ownsRow w.heap.size 97 1 v k.l.length (numsV l k.l)) ∨ (headOk l k = false ∧ e = .returned (.tuple #[hzV, .int .i64 0, .int .i64 0, .int .i64 3])))
theorem own_mono {w : World} {base base' : Nat} {e : TypeId} {size n : Nat} {v : Value} {xs : List Value} (h : w.ownsRow base e size v n xs) (hb : base' ≤ base) : w.ownsRow base' e size v n xs := by
  refine ⟨h.1, ?_⟩
  rcases h.2 with h2 | ⟨g, cap, cur, h1, h2, h3⟩
  · exact .inl h2
  · exact .inr ⟨g, cap, cur, h1, Nat.le_trans hb h2, h3⟩
/-- Behind the last store of the head into itself. -/
theorem HSt.last {w wr : World} {m kb : Nat} {k : Knd} {l : List UInt8} {op fl : Int} {nb : Bool} {n : Nat} {S : Int → Bool} {v : Value} (hm : w.heap.size < m)
    (h : HSt w m kb k l (fun v => [.int .i64 op, .bool nb, .int .i64 fl, v]) wr k.l.length n S v) :
    Below w.heap.size w ((((wr.setCell ⟨w.heap.size, 0, none⟩ (.int .i64 op)).setCell ⟨w.heap.size, 1, none⟩ (.bool nb)).setCell ⟨w.heap.size, 2, none⟩ (.int .i64 fl)).setCell ⟨w.heap.size, 3, none⟩ v).drew ∧
    ((((wr.setCell ⟨w.heap.size, 0, none⟩ (.int .i64 op)).setCell ⟨w.heap.size, 1, none⟩ (.bool nb)).setCell ⟨w.heap.size, 2, none⟩ (.int .i64 fl)).setCell ⟨w.heap.size, 3, none⟩ v).drew.rangeAt w.heap.size 0 [.int .i64 op, .bool nb, .int .i64 fl, v] ∧
    ((((wr.setCell ⟨w.heap.size, 0, none⟩ (.int .i64 op)).setCell ⟨w.heap.size, 1, none⟩ (.bool nb)).setCell ⟨w.heap.size, 2, none⟩ (.int .i64 fl)).setCell ⟨w.heap.size, 3, none⟩ v).drew.ownsRow w.heap.size 97 1 v k.l.length (numsV l k.l) := by
  have g1 := grown_setCell wr ⟨w.heap.size, 0, none⟩ (.int .i64 op)
  have g2 := grown_trans g1 (grown_setCell _ ⟨w.heap.size, 1, none⟩ (.bool nb))
  have g3 := grown_trans g2 (grown_setCell _ ⟨w.heap.size, 2, none⟩ (.int .i64 fl))
  have g4 := grown_trans g3 (grown_setCell _ ⟨w.heap.size, 3, none⟩ v)
  refine ⟨?_, ?_, ?_⟩
  · exact ((((h.below.setCell (p := ⟨w.heap.size, 0, none⟩) (Nat.le_refl _) _).setCell (p := ⟨w.heap.size, 1, none⟩) (Nat.le_refl _) _).setCell (p := ⟨w.heap.size, 2, none⟩) (Nat.le_refl _) _).setCell (p := ⟨w.heap.size, 3, none⟩) (Nat.le_refl _) _).drew
  · exact range_of_heap (t := 51) (heap_setCell_same _ _ 3 _ _ _ (heap_setCell_same _ _ 2 _ _ _ (heap_setCell_same _ _ 1 _ _ _ (heap_setCell_same _ _ 0 _ _ _ h.head))))
  · have hx : v.ownBlock = none ∨ v.ownBlock ≠ some w.heap.size := by
      cases hv : v.ownBlock with
      | none => exact .inl rfl
      | some g => exact .inr (fun e => by injection e with e; have := (h.nums.lt g hv).1; omega)
    have := own_mono (h.nums.kept g4 hx) (base' := w.heap.size) (by omega)
    rw [List.take_length] at this
    exact this
theorem u64_info : (Tryz.prog.info? 97).map (fun i => (i.zero, i.size, i.bytes)) = some (some (.int .u64 0), 1, 8) := by kernel_rfl
end Go.Proofs.YtkbjnlcongjokaaGreatDoor

/- quaymasterref.HeadRead, behind Kind, a head with the bit Now. -/
namespace Go.Proofs.YtkbjnlcongjokaaGreatDoor
open Go.RowKit
end Go.Proofs.YtkbjnlcongjokaaGreatDoor

/- quaymasterref.HeadRead: the flags refused; the whole. -/
namespace Go.Proofs.YtkbjnlcongjokaaGreatDoor
open Go.RowKit
def headNow (l : List UInt8) : Bool := ((l.getD 0 0).toNat : Int) / 64 % 256 == 1
def headOp (l : List UInt8) : Int := ((l.getD 0 0).toNat : Int) % 64
def headErr (l : List UInt8) : Int :=
  if l.length = 48 then
    if ((l.getD 0 0).toNat : Int) / 128 % 256 == 1 then 3
    else match kindOf (headOp l) with
      | none => 1
      | some k => if (headNow l && decide (32 ≤ headOp l)) || bits .or .i64 ((l.getD 1 0).toNat : Int) k.m != k.m then 3 else if headOk l k then 0 else 3
  else 7
def headVals (l : List UInt8) : List Value := match kindOf (headOp l) with | none => [] | some k => numsV l k.l
def HeadAll (w : World) (l : List UInt8) (e : Ending) (w' : World) : Prop := Below w.heap.size w w' ∧
    ((headErr l = 0 ∧ ∃ v, e = .returned (.tuple #[.agg #[.int .i64 (headOp l), .bool (headNow l), .int .i64 (l.getD 1 0).toNat, v],
        .int .i64 (l.getD 4 0).toNat, .int .i64 (beN ((l.drop 5).take 3)), .int .i64 0]) ∧ w'.ownsRow w.heap.size 97 1 v (headVals l).length (headVals l)) ∨
     (headErr l ≠ 0 ∧ e = .returned (.tuple #[hzV, .int .i64 0, .int .i64 0, .int .i64 (headErr l)])))
end Go.Proofs.YtkbjnlcongjokaaGreatDoor

/- quaymasterref.PduSize, pdu.Size. -/
namespace Go.Proofs.YtkbjnlcongjokaaGreatDoor
open Go.RowKit
theorem ret_int {k : IntKind} {a b : Int} (h : a = b) : Ending.returned (.int k a) = .returned (.int k b) := by rw [h]
theorem ret2_int {k : IntKind} {a b : Int} {v : Value} (h : a = b) : Ending.returned (.tuple #[.int k a, v]) = .returned (.tuple #[.int k b, v]) := by rw [h]
/-- How many bytes of data a head tells. -/
def dlen (l : List UInt8) : Nat := beN ((l.drop 5).take 3)
def hw4 (l : List UInt8) : Nat := (l.getD 4 0).toNat
theorem dlen_lt (l : List UInt8) : dlen l ≤ 16777215 := by
  have h := beN_lt _ ((l.drop 5).take 3) rfl
  have : ((l.drop 5).take 3).length ≤ 3 := List.length_take_le _ _
  have : 256 ^ ((l.drop 5).take 3).length ≤ 256 ^ 3 := Nat.pow_le_pow_right (by decide) this
  unfold dlen; omega
theorem hw4_lt (l : List UInt8) : hw4 l < 256 := (l.getD 4 0).toNat_lt
theorem list_at (s : ByteArray) (i : Nat) (h : i < s.size) : s.data.toList.getD i 0 = s[i] := by
  rw [List.getD_eq_getElem?_getD, List.getElem?_eq_getElem (by rw [← Lib.size_eq]; exact h)]; rfl
theorem hw4_eq (s : ByteArray) (h : 48 ≤ s.size) : hw4 s.data.toList = (s[4]'(by omega)).toNat := by unfold hw4; rw [list_at s 4 (by omega)]
theorem dlen_eq (s : ByteArray) (h : 48 ≤ s.size) : dlen s.data.toList = (s[5]'(by omega)).toNat * 65536 + (s[6]'(by omega)).toNat * 256 + (s[7]'(by omega)).toNat := by
  have h5 := List.drop_eq_getElem_cons (l := s.data.toList) (i := 5) (by rw [← Lib.size_eq]; omega)
  have h6 := List.drop_eq_getElem_cons (l := s.data.toList) (i := 6) (by rw [← Lib.size_eq]; omega)
  have h7 := List.drop_eq_getElem_cons (l := s.data.toList) (i := 7) (by rw [← Lib.size_eq]; omega)
  unfold dlen
  rw [h5, h6, h7]
  show beN [s[5], s[6], s[7]] = _
  simp [beN]
  omega
/-- pdu.Size where the mode may be so and there are 48 bytes. -/
def szN (l : List UInt8) (mode : Int) : Int := 48 + 4 * hw4 l + dlen l + padI (dlen l) + 4 * (mode % 2) + (if dlen l = 0 then 0 else 4 * (mode / 2))
theorem szN_bd (l : List UInt8) (mode : Int) (h0 : 0 ≤ mode) (h3 : mode ≤ 3) : 48 ≤ szN l mode ∧ szN l mode ≤ 17000000 := by
  have := dlen_lt l
  have := hw4_lt l
  have := padI_bd (dlen l)
  unfold szN; split <;> omega
/-- What pdu.Size tells: the size, and what is wrong. -/
def pduSize (l : List UInt8) (mode : Int) : Int × Int :=
  if wi mode 0 3 = false then (0, 1) else if l.length < 48 then (0, 7) else (szN l mode, 0)
theorem quiet_add_left {P : Program} {f : FuncId} {args : Array Value} {w : World} {a n : Nat} {v : Value}
    (h : Calls P f args (w.drewN (a + n)) fun e w' => e = .returned v ∧ w.drewN (a + n) = w') :
    Calls P f args (w.drewN (a + n)) fun e w'' => e = .returned v ∧ ∃ m, w'' = w.drewN (a + m) :=
  h.mono fun _ _ ⟨he, hm⟩ => ⟨he, n, hm.symm⟩
theorem quiet_left {P : Program} {f : FuncId} {args : Array Value} {w : World} {n : Nat} {v : Value}
    (h : Calls P f args (w.drewN n) fun e w' => e = .returned v ∧ w.drewN n = w') : Calls P f args (w.drewN n) fun e w'' => e = .returned v ∧ ∃ m, w'' = w.drewN m :=
  h.mono fun _ _ ⟨he, hm⟩ => ⟨he, n, hm.symm⟩
theorem i64_or_nat (a b : Nat) (ha : a < 9223372036854775808) (hb : b < 9223372036854775808) : bits .or .i64 (a : Int) (b : Int) = ((a ||| b : Nat) : Int) := by
  have hx : a ||| b < 2 ^ 63 := Nat.or_lt_two_pow (by omega) (by omega)
  show IntKind.i64.wrap ((BitVec.ofInt 64 (a : Int) ||| BitVec.ofInt 64 (b : Int)).toNat : Int) = _
  rw [BitVec.toNat_or, BitVec.ofInt_natCast, BitVec.toNat_ofNat, BitVec.ofInt_natCast, BitVec.toNat_ofNat, Nat.mod_eq_of_lt (by omega), Nat.mod_eq_of_lt (by omega), IntKind.wrap_i64]
  omega
/-- Three bytes put together. -/
theorem or3 (a b c : UInt8) : bits .or .i64 (bits .or .i64 ((a.toNat : Int) * 65536) ((b.toNat : Int) * 256)) (c.toNat : Int) = ((a.toNat * 65536 + b.toNat * 256 + c.toNat : Nat) : Int) := by
  have ha := a.toNat_lt; have hb := b.toNat_lt; have hc := c.toNat_lt
  have e1 : (a.toNat : Int) * 65536 = ((a.toNat * 65536 : Nat) : Int) := by simp
  have e2 : (b.toNat : Int) * 256 = ((b.toNat * 256 : Nat) : Int) := by simp
  rw [e1, e2, i64_or_nat _ _ (by omega) (by omega), nat_join 16 _ _ (by simp) (by omega), i64_or_nat _ _ (by omega) (by omega), nat_join 8 _ _ (by omega) (by omega)]
end Go.Proofs.YtkbjnlcongjokaaGreatDoor

/- quaymasterref.Unpad. -/
namespace Go.Proofs.YtkbjnlcongjokaaGreatDoor
open Go.RowKit
theorem dropWhile_nil {p : UInt8 → Bool} : ∀ {l : List UInt8}, l.dropWhile p = [] ↔ ∀ x ∈ l, p x = true
  | [] => by simp
  | a :: l => by
    by_cases h : p a = true
    · rw [List.dropWhile_cons_of_pos h, dropWhile_nil]; simp [h]
    · rw [List.dropWhile_cons_of_neg h]; simp [h]
theorem mem_takeWhile {p : UInt8 → Bool} : ∀ {l : List UInt8} {x : UInt8}, x ∈ l.takeWhile p → p x = true
  | [], _, h => by simp at h
  | a :: l, x, h => by
    by_cases ha : p a = true
    · rw [List.takeWhile_cons_of_pos ha, List.mem_cons] at h
      rcases h with rfl | h
      · exact ha
      · exact mem_takeWhile h
    · rw [List.takeWhile_cons_of_neg ha] at h
      simp at h
theorem trim_nil (l : List UInt8) : Lib.trimB l 0 = [] ↔ ∀ b ∈ l, b = 0 := by
  unfold Lib.trimB Lib.trimLeftB Lib.trimRightB
  constructor
  · intro h
    have h1 := dropWhile_nil.1 h
    intro b hb
    by_cases hz : ∀ x ∈ l, (x == 0) = true
    · simpa using hz b hb
    · exfalso
      obtain ⟨x, hx, hn⟩ : ∃ x ∈ l, ¬ (x == 0) = true := by simpa using hz
      have : x ∈ (l.reverse.dropWhile (· == 0)).reverse := by
        rw [List.mem_reverse]
        have hs := List.takeWhile_append_dropWhile (p := (· == (0 : UInt8))) (l := l.reverse)
        have hm : x ∈ l.reverse := List.mem_reverse.2 hx
        rw [← hs, List.mem_append] at hm
        rcases hm with hm | hm
        · exact absurd (mem_takeWhile hm) hn
        · exact hm
      exact hn (h1 x this)
  · intro h
    have h0 : l.reverse.dropWhile (· == 0) = [] := dropWhile_nil.2 fun x hx => by simpa using h x (List.mem_reverse.1 hx)
    rw [h0]; rfl
theorem pad_iff (s : List UInt8) (m : Nat) (h : m + (padI m).toNat ≤ s.length) : padded (s.take m) = s.take (m + (padI m).toNat) ↔ Lib.trimB ((s.drop m).take (padI m).toNat) 0 = [] := by
  have hl : (s.take m).length = m := by rw [List.length_take]; omega
  have hl2 : ((s.drop m).take (padI m).toNat).length = (padI m).toNat := by rw [List.length_take, List.length_drop]; omega
  rw [trim_nil, padded, hl, List.take_add, List.append_cancel_left_eq]
  constructor
  · intro h b hb
    rw [← h] at hb
    exact List.eq_of_mem_replicate hb
  · intro h
    exact (List.eq_replicate_iff.2 ⟨hl2, h⟩).symm
end Go.Proofs.YtkbjnlcongjokaaGreatDoor

/- quaymasterref.Bare, Good, AhsRead. -/
namespace Go.Proofs.YtkbjnlcongjokaaGreatDoor
open Go.RowKit
theorem faultinfo : (Tryz.prog.info? 34).map (·.size) = some 2 := by kernel_rfl
theorem bareF_any (c : Int) (w : World) : Calls Tryz.prog 29 #[.int .i64 c] w fun e w' => e = .returned (.agg #[.int .i64 c, .int .i64 (-1)]) ∧ Below w.heap.size w w' := by
  go_enter Tryz.func29, Tryz.ntmps29
  go_wp2_with fail
  exact bodyPost_ret (results_cell_row Tryz.results29 _ _ w.heap.size 34 _ (0, 0) _ rfl (alloc_heap_new w _) Tryz.underlying34 rfl faultinfo) rfl ⟨rfl, below_alloc (Below.refl _ _) (Nat.le_refl _) _⟩
theorem goodF_any (w : World) : Calls Tryz.prog 16 #[] w fun e w' => e = .returned (.agg #[.int .i64 0, .int .i64 (-1)]) ∧ Below w.heap.size w w' := by
  go_enter Tryz.func16, Tryz.ntmps16
  go_wp2_with fail
  exact bodyPost_ret (results_cell_row Tryz.results16 _ _ w.heap.size 34 _ (0, 0) _ rfl (alloc_heap_new w _) Tryz.underlying34 rfl faultinfo) rfl ⟨rfl, below_alloc (Below.refl _ _) (Nat.le_refl _) _⟩
theorem results_1cell {P : Program} {fn : Func} {p t1 : Tmp} {ty : TypeId} (h : fn.results = #[.tmp t1, .cell p ty]) (tmps : Array Value) (w : World) (g : Nat) (cs : List Value) (d : TypeDesc)
    (hp : tmps.getD p undef = .pointer (some ⟨g, 0, none⟩)) (hg : w.rangeAt g 0 cs) (hu : P.underlying ty = some d) (hd : d.isRow = true) (hi : (P.info? ty).map (·.size) = some cs.length) :
    (results fn tmps).run P w = .ok (.tuple #[tmps.getD t1 undef, .agg cs.toArray]) w := by
  have hp' : tmps[p]?.getD undef = .pointer (some ⟨g, 0, none⟩) := by simpa using hp
  simp [results, h, hp', asAddr, run_loadVar_mid w g 0 ty cs d hg hu hd hi]
/-- What AhsRead answers: the rows, the error, its place. -/
def ahsRead (l : List UInt8) : Nat → Nat → List (Int × List UInt8) → List (Int × List UInt8) × Int × Int
  | 0, _, acc => (acc, 0, -1)
  | fuel + 1, i, acc =>
    if l.length ≤ i then (acc, 0, -1)
    else if l.length < i + 3 then ([], 7, i)
    else
      let n := 256 * (l.getD i 0).toNat + (l.getD (i + 1) 0).toNat
      let m := i + 3 + n
      let p := (4 - (3 + n) % 4) % 4
      if l.length < m + p then ([], 7, i)
      else if Lib.countByte ((l.drop m).take p) 0 ≠ p then ([], 3, i)
      else ahsRead l fuel (m + p) (acc ++ [(((l.getD (i + 2) 0).toNat : Int), (l.drop (i + 3)).take n)])
end Go.Proofs.YtkbjnlcongjokaaGreatDoor

/- quaymasterref.AhsRead: the loop. -/
namespace Go.Proofs.YtkbjnlcongjokaaGreatDoor
open Go.RowKit
def ahsV (l : List (Int × List UInt8)) : List Value := l.flatMap fun x => [.int .i64 x.1, .string (bs x.2)]
theorem ahs_unfold (l : List UInt8) (i0 fu N P : Nat) (acc : List (Int × List UInt8)) (h : i0 + 3 ≤ l.length) (hN : 256 * (l.getD i0 0).toNat + (l.getD (i0 + 1) 0).toNat = N) (hP : (4 - (3 + N) % 4) % 4 = P) :
    ahsRead l (fu + 1) i0 acc = if l.length < i0 + 3 + N + P then ([], 7, (i0 : Int)) else if Lib.countByte ((l.drop (i0 + 3 + N)).take P) 0 ≠ P then ([], 3, (i0 : Int)) else
      ahsRead l fu (i0 + 3 + N + P) (acc ++ [(((l.getD (i0 + 2) 0).toNat : Int), (l.drop (i0 + 3)).take N)]) := by
  subst hN hP
  rw [ahsRead, if_neg (by omega), if_neg (by omega)]
theorem ahs_info : (Tryz.prog.info? 103).map (fun i => (i.zero, i.size, i.bytes)) = some (some (.agg #[.int .i64 0, .string ByteArray.empty]), 2, 24) := by kernel_rfl
structure ASt (w wr : World) (l : List UInt8) (i0 : Nat) (acc : List (Int × List UInt8)) (out : Value) : Prop where
  below : Below w.heap.size w wr
  fault : wr.heap[w.heap.size]? = some (.cells #[.int .i64 0, .int .i64 0] 34 (0, 0))
  rows : wr.ownsRow (w.heap.size + 1) 103 2 out acc.length (ahsV acc)
  le : i0 ≤ l.length
  few : 3 * acc.length ≤ i0
  same : ahsRead l (l.length + 1) 0 [] = ahsRead l (l.length + 1 - acc.length) i0 acc
def AhsPost (w : World) (l : List UInt8) (e : Ending) (w' : World) : Prop := Below w.heap.size w w' ∧ ∃ v, e = .returned (.tuple #[v, .agg #[.int .i64 (ahsRead l (l.length + 1) 0 []).2.1, .int .i64 (ahsRead l (l.length + 1) 0 []).2.2]]) ∧
  w'.ownsRow w.heap.size 103 2 v (ahsRead l (l.length + 1) 0 []).1.length (ahsV (ahsRead l (l.length + 1) 0 []).1)
end Go.Proofs.YtkbjnlcongjokaaGreatDoor

/- quaymasterref.AhsRead: the whole; Fault.Is. -/
namespace Go.Proofs.YtkbjnlcongjokaaGreatDoor
open Go.RowKit
def ahsAll (l : List UInt8) : List (Int × List UInt8) × Int × Int := if 1020 < l.length then ([], 4, -1) else ahsRead l (l.length + 1) 0 []
theorem faultIs_any (c p : Int) (w : World) : Calls Tryz.prog 6 #[.agg #[.int .i64 c, .int .i64 p]] w fun e w' => e = .returned (.bool (c == 0)) ∧ Below w.heap.size w w' := by
  go_enter Tryz.func6, Tryz.ntmps6
  go_wp2_with fail
  go_ret
  exact ⟨rfl, below_alloc (Below.refl _ _) (Nat.le_refl _) _⟩
end Go.Proofs.YtkbjnlcongjokaaGreatDoor

/- plain.Place, quaymasterlaw.bare. -/
namespace Go.Proofs.YtkbjnlcongjokaaGreatDoor
open Go.RowKit Go.Extern.Stop Go.Stop Go.Extern
theorem isAt_at (v : Value) (xT : TypeId) (w : World) : (Instr.typeAssert (.iface 78 v) xT 78 true).run Tryz.prog w = .ok (.tuple #[v, .bool true]) w := by kernel_rfl
theorem isAt_errno (v : Value) (xT : TypeId) (w : World) : (Instr.typeAssert (.iface 32 v) xT 78 true).run Tryz.prog w = .ok (.tuple #[.pointer none, .bool false]) w := by kernel_rfl
theorem noUnwrap_errno (v : Value) (xT : TypeId) (w : World) : (Instr.typeAssert (.iface 32 v) xT 137 true).run Tryz.prog w = .ok (.tuple #[.nilIface, .bool false]) w :=
  run_typeAssert_lacksB Tryz.underlying137 (by kernel_rfl) (by kernel_rfl) v xT w
set_option maxRecDepth 100000 in
set_option maxHeartbeats 1000000 in
theorem place_any (v : Value) (e pl : Int) (w : World) (hg : ErrTy w) (h : IsErr w v e pl) :
    Calls Tryz.prog 28 #[v] w fun en w' => en = .returned (.tuple #[.int .i64 e, .int .i64 pl]) ∧ Below w.heap.size w w' := by
  have h' := h
  rcases h with ⟨rfl, rfl⟩ | ⟨he, a, rfl, h1, h2⟩
  · by_cases h0 : e = 0
    · subst h0
      have ht := tell_any _ 0 (-1) w hg h'
      have HT := Lib.hid ht
      clear ht h'
      change Hid (Calls Tryz.prog 20 #[Value.nilIface] _ _) at HT
      show Calls _ _ #[Value.nilIface] _ _
      go_enter Tryz.func28, Tryz.ntmps28
      go_wp2_with fail
      refine HT.out.mono ?_
      rintro en w2 ⟨rfl, hb⟩
      go_wp2_with fail
      refine wp_loop_rounds 1 ?_
      rw [rounds_succ]
      go_wp2_with fail
      go_ret2
      exact ⟨rfl, hb⟩
    · have hv : errV e = .iface 32 (.int .i64 e) := by rw [errV, if_neg h0]
      rw [hv] at h' ⊢
      have ht := tell_any _ e (-1) w hg h'
      have HT := Lib.hid ht
      clear ht h' hv
      have a1 := isAt_errno
      have a2 := noUnwrap_errno
      go_enter Tryz.func28, Tryz.ntmps28
      go_wp2_with fail
      refine HT.out.mono ?_
      rintro en w2 ⟨rfl, hb⟩
      go_wp2_with fail
      refine wp_loop_rounds 1 ?_
      rw [rounds_succ]
      go_wp2_with fail
      go_ret2
      exact ⟨rfl, hb⟩
  · have ht := tell_any _ e pl w hg h'
    have HT := Lib.hid ht
    clear ht h'
    have a1 := isAt_at
    have hal : a < w.heap.size := World.block_lt_of_cell? w ⟨a, 0, none⟩ h1
    go_enter Tryz.func28, Tryz.ntmps28
    go_wp2_with fail
    refine HT.out.mono ?_
    rintro en w2 ⟨rfl, hb⟩
    have h1' : w2.cell? ⟨a, 0, none⟩ = some (.int .i64 e) := by rw [hb.cell hal]; exact h1
    have h2' : w2.cell? ⟨a, 1, none⟩ = some (.int .i64 pl) := by rw [hb.cell hal]; exact h2
    go_wp2_with fail
    refine wp_loop_rounds 1 ?_
    rw [rounds_succ]
    go_wp2_with fail
    go_quiet (fail)
    go_wp2_with fail
    go_ret2
    exact ⟨rfl, below_drewN hb _⟩
def bareB (e pl x : Int) : Bool := decide (e = x) && decide (pl = -1)
theorem bare_any (v : Value) (e pl x : Int) (w : World) (hg : ErrTy w) (h : IsErr w v e pl) :
    Calls Tryz.prog 12 #[v, .int .i64 x] w fun en w' => en = .returned (.bool (bareB e pl x)) ∧ Below w.heap.size w w' := by
  have ht := place_any v e pl w hg h
  have HT := Lib.hid ht
  clear ht h
  by_cases h1 : e = x
  · by_cases h2 : pl = -1
    · have hb : bareB e pl x = true := by simp [bareB, h1, h2]
      rw [hb]
      have b1 : (e == x) = true := by simp [h1]
      have b2 : (pl == -1) = true := by simp [h2]
      clear h1 h2 hb
      go_enter Tryz.func12, Tryz.ntmps12
      go_wp2_with fail
      refine HT.out.mono ?_
      rintro en w2 ⟨rfl, hb⟩
      go_wp2_with fail
      go_ret
      exact ⟨rfl, hb⟩
    · have hb : bareB e pl x = false := by simp [bareB, h1, h2]
      rw [hb]
      have b1 : (e == x) = true := by simp [h1]
      have b2 : (pl == -1) = false := by simp [h2]
      clear h1 h2 hb
      go_enter Tryz.func12, Tryz.ntmps12
      go_wp2_with fail
      refine HT.out.mono ?_
      rintro en w2 ⟨rfl, hb⟩
      go_wp2_with fail
      go_ret
      exact ⟨rfl, hb⟩
  · have hb : bareB e pl x = false := by simp [bareB, h1]
    rw [hb]
    have b1 : (e == x) = false := by simp [h1]
    clear h1 hb
    go_enter Tryz.func12, Tryz.ntmps12
    go_wp2_with fail
    refine HT.out.mono ?_
    rintro en w2 ⟨rfl, hb⟩
    go_wp2_with fail
    go_ret
    exact ⟨rfl, hb⟩
end Go.Proofs.YtkbjnlcongjokaaGreatDoor

/- head.Fields. -/
namespace Go.Proofs.YtkbjnlcongjokaaGreatDoor
open Go.RowKit
theorem fld_info : (Tryz.prog.info? 133).map (fun i => (i.zero, i.size, i.bytes)) = some (some (.agg #[.string ByteArray.empty, .int .i64 0, .int .i64 0]), 3, 32) := by kernel_rfl
structure FsSt (w : World) (B b : Nat) (C : Array Value) (l : List Fld) (wr : World) (k0 : Nat) (out : Value) : Prop where
  below : Below w.heap.size w wr
  size : B ≤ wr.heap.size
  words : wr.heap[b]? = some (.cells C 9 (0, 0))
  rows : wr.ownsRow B 133 3 out k0 ((l.take k0).flatMap Fld.cells)
theorem own_later {w w' : World} {base : Nat} {e : TypeId} {size n : Nat} {v : Value} {xs : List Value} (h : w.ownsRow base e size v n xs) (hb : Below w.heap.size w w') : w'.ownsRow base e size v n xs := by
  have hG : w.grownBy w' none := ⟨hb.os, hb.tape, hb.output, hb.size, fun i hi _ => hb.block i hi⟩
  refine h.kept hG ?_
  cases hv : v.ownBlock with
  | none => exact .inl rfl
  | some g => exact .inr (by simp)
theorem fldWord_some {x : List UInt8} {r : List UInt8 × Int × Int} (h : fldWord x = some r) : ∃ a b, splitGo 58 [] x = [r.1, a, b] ∧ Lib.atoi a = some r.2.1 ∧ Lib.atoi b = some r.2.2 ∧ a.length ≤ 18 ∧ b.length ≤ 18 := by
  unfold fldWord at h
  split at h
  · rename_i n a b he
    split at h
    · rename_i p q hp hq
      split at h
      · rename_i hl
        injection h with h
        subst h
        exact ⟨a, b, he, hp, hq, hl.1, hl.2⟩
      · cases h
    · cases h
  · cases h
theorem kinds_ne : (kinds.all fun k => decide (1 ≤ k.l.length)) = true := by kernel_rfl
theorem kind_ne {op : Int} {k : Knd} (h : kindOf op = some k) : 1 ≤ k.l.length := of_decide_eq_true (List.all_eq_true.1 kinds_ne k (List.mem_of_find?_eq_some h))
def FsPost (w : World) (k : Knd) (e : Ending) (w' : World) : Prop := Below w.heap.size w w' ∧ ∃ v, e = .returned (.tuple #[v, .nilIface]) ∧ w'.ownsRow w.heap.size 133 3 v k.l.length (k.l.flatMap Fld.cells)
set_option maxRecDepth 100000 in
theorem fields_none (op : Int) (h0 : -9223372036854775808 ≤ op) (h1 : op ≤ 9223372036854775807) (h : kindOf op = none) (w : World) (hw : Laid w) : Calls Tryz.prog 62 #[.int .i64 op] w fun e w' =>
    e = .returned (.tuple #[.slice none 0 0, .iface 32 (.int .i64 1)]) ∧ Below w.heap.size w w' := by
  have hr := row_none op h0 h1 h w hw
  have HR := Lib.hid hr
  clear hr
  have hne := fun (w : World) (a : Option Addr) (n c : Nat) => Lib.run_eql_slice_nil (P := Tryz.prog) w 23 9 a n c 0 0 Tryz.underlying23
  go_enter Tryz.func62, Tryz.ntmps62
  go_wp2_with (go_at_call 87; refine HR.out.mono ?_; rintro e w' ⟨rfl, hb⟩)
  go_ret2
  exact ⟨rfl, hb⟩
set_option maxRecDepth 100000 in
set_option maxHeartbeats 2000000 in
theorem fields_some (op : Int) (h0 : -9223372036854775808 ≤ op) (h1 : op ≤ 9223372036854775807) (k : Knd) (h : kindOf op = some k) (w : World) (hw : Laid w) : Calls Tryz.prog 62 #[.int .i64 op] w fun e w' => FsPost w k e w' := by
  have hr := row_some op h0 h1 k h w hw
  have hfit := kind_fit h
  have hkne := kind_ne h
  have HR := Lib.hid hr
  have HFIT := Lib.hid hfit
  have HLD := Lib.hid hw
  clear hr h hfit hw
  have hne := fun (w : World) (a : Option Addr) (n c : Nat) => Lib.run_eql_slice_nil (P := Tryz.prog) w 23 9 a n c 0 0 Tryz.underlying23
  go_enter Tryz.func62, Tryz.ntmps62
  go_wp2_with fail
  refine HR.out.mono ?_
  rintro e w1 ⟨ws, b, hf, rfl, hb, hh⟩
  obtain ⟨n, m, fs, rfl, -, -, -, -, -, h7, h8⟩ := fits_head hf
  obtain ⟨C, hC⟩ : ∃ C, C = ((dec2 k.op.toNat :: n :: m :: fs).map fun l => Value.string ⟨l.toArray⟩).toArray := ⟨_, rfl⟩
  rw [← hC] at hh
  have hlen : fs.length = k.l.length := by have := congrArg List.length h7; simpa using this
  obtain ⟨z, hz⟩ : ∃ z : Nat, z = (dec2 k.op.toNat :: n :: m :: fs).length := ⟨_, rfl⟩
  rw [← hz]
  have hzl : z = 3 + k.l.length := by rw [hz, ← hlen]; simp; omega
  have hlb : w.heap.size ≤ w1.heap.size := hb.size
  have HC := Lib.hid hC
  have HH := Lib.hid hh
  have HB := Lib.hid hb
  have H7 := Lib.hid h7
  have H8 := Lib.hid h8
  have HZ := Lib.hid hzl
  have HLEN := Lib.hid hlen
  have hz3 : (3 : Int) ≤ (z : Int) := by omega
  have hz4 : ¬ z = 3 := by omega
  clear hC hh hb h7 h8 hz hzl hf hlen
  go_wp2_with fail
  obtain ⟨N, hN⟩ : ∃ N, N = z - 3 := ⟨_, rfl⟩
  rw [← hN]
  have hNl : N = k.l.length := by have := HZ.out; omega
  have HN := Lib.hid hNl
  have hN12 : N ≤ 12 := by have := HFIT.out.1; omega
  have hzN : (z : Int) = 3 + (N : Int) := by omega
  have HZN := Lib.hid hzN
  clear hN hNl hz3 hz4 hzN
  obtain ⟨i1, hi, hz0, hz1, hz2⟩ := info_parts fld_info
  go_loopw [5, 21] (fun out i wr => ∃ k0 : Nat, i = .int .i64 k0 ∧ k0 ≤ N ∧ FsSt w w1.heap.size b C k.l wr k0 out) (fun _ i _ => N - (intOf i).toNat)
  case atStart => exact ⟨0, rfl, by omega, ⟨HB.out, Nat.le_refl _, HH.out, World.ownsRow_nil _ _ _ _⟩⟩
  case round =>
    obtain ⟨k0, rfl, hk0, hst⟩ := hrel
    obtain ⟨av, nv, cv, rfl⟩ := own_slice hst.rows
    by_cases hlt : k0 < N
    · have hkl : k0 < k.l.length := by have := HN.out; omega
      obtain ⟨f, hf⟩ : ∃ f, k.l[k0]? = some f := ⟨_, List.getElem?_eq_getElem hkl⟩
      have hx7 := congrArg (fun l => l[k0]?) H7.out
      simp only [List.getElem?_map, hf, Option.map_some] at hx7
      obtain ⟨x, hx, hxf⟩ := Option.map_eq_some_iff.1 hx7
      obtain ⟨sa, sb, hsp, ha, hb, hla, hlb2⟩ := fldWord_some hxf
      have hxl := H8.out x (List.mem_iff_getElem?.2 ⟨k0, hx⟩)
      have hcx : wr.cell? ⟨b, 3 + k0, none⟩ = some (.string ⟨x.toArray⟩) := by
        simp only [World.cell?, hst.words, HC.out]
        simp [Nat.add_comm 3 k0, hx]
      have hS := split_any x 58 wr (HLD.out.below hst.below).maxl (by omega)
      rw [hsp] at hS
      have hA := fun w => atoi_any sa f.a hla ha w
      have hB := fun w => atoi_any sb f.b hlb2 hb w
      have HS := Lib.hid hS
      have HA := Lib.hid hA
      have HBB := Lib.hid hB
      have HST := Lib.hid hst
      have HF := Lib.hid hf
      clear hS hA hB hst hf hx7 hx hxf hsp ha hb hla hlb2
      go_wp2_with fail
      refine HS.out.mono ?_
      rintro e wA ⟨rfl, rfl⟩
      go_wp2_with fail
      refine (HA.out _).mono ?_
      rintro e wB ⟨rfl, hbB⟩
      have b0 : wB.cell? ⟨wr.heap.size, 0, none⟩ = some (.string ⟨f.n.data.toList.toArray⟩) := by rw [hbB.cell (p := ⟨wr.heap.size, 0, none⟩) (by simp), World.cell?_alloc_at _ _ _ _ rfl]; rfl
      have b2 : wB.cell? ⟨wr.heap.size, 2, none⟩ = some (.string ⟨sb.toArray⟩) := by rw [hbB.cell (p := ⟨wr.heap.size, 2, none⟩) (by simp), World.cell?_alloc_at _ _ _ _ rfl]; rfl
      have hlA : wr.heap.size < wB.heap.size := by have := hbB.size; simp at this; omega
      have hbr : Below wr.heap.size wr wB := ((Below.refl _ wr).alloc (Nat.le_refl _) _).trans (hbB.mono (by simp))
      have HBR := Lib.hid hbr
      clear hbB hbr
      go_wp2_with fail
      refine (HBB.out _).mono ?_
      rintro e wC ⟨rfl, hbC⟩
      have c0 : wC.cell? ⟨wr.heap.size, 0, none⟩ = some (.string ⟨f.n.data.toList.toArray⟩) := by rw [hbC.cell (p := ⟨wr.heap.size, 0, none⟩) hlA]; exact b0
      have hbr2 : Below wr.heap.size wr wC := HBR.out.trans (hbC.mono HBR.out.size)
      have hstC : FsSt w w1.heap.size b C k.l wC k0 (.slice av nv cv) := ⟨HST.out.below.trans (hbr2.mono HST.out.below.size), Nat.le_trans HST.out.size hbr2.size, (hbr2.block _ (heap_lt HST.out.words)).trans HST.out.words, own_later HST.out.rows hbr2⟩
      have HC2 := Lib.hid hstC
      clear hbC hbr2 b0 b2 hstC
      have q1 : k0 + 1 ≤ maxLen := by unfold maxLen; omega
      have q2 : (k0 + 1) * 32 ≤ 140737488355328 := by omega
      have q3 : w1.heap.size ≤ (wC.alloc (.cells #[.string ⟨f.n.data.toList.toArray⟩, .int .i64 f.a, .int .i64 f.b] 133)).heap.size := by have := HC2.out.size; simp; omega
      have q4 : ∀ y ∈ ([.string ⟨f.n.data.toList.toArray⟩, .int .i64 f.a, .int .i64 f.b] : List Value), y.oneCell' = true := fun y hy => by simp at hy; rcases hy with rfl | rfl | rfl <;> rfl
      have q5 : ∀ j u, ([.string ⟨f.n.data.toList.toArray⟩, .int .i64 f.a, .int .i64 f.b] : List Value)[j]? = some u → (wC.alloc (.cells #[.string ⟨f.n.data.toList.toArray⟩, .int .i64 f.a, .int .i64 f.b] 133)).cell? ((⟨wC.heap.size, 0, none⟩ : Addr).add j) = some u := World.news_of_block (heap_alloc_new _ _)
      have Q1 := Lib.hid q1
      have Q2 := Lib.hid q2
      have Q3 := Lib.hid q3
      have Q4 := Lib.hid q4
      have Q5 := Lib.hid q5
      clear q1 q2 q3 q4 q5
      go_wp2_with (at_builtin; refine wpList_append_own _ rfl _ _ 129 rfl w1.heap.size 133 i1 (.agg #[.string ByteArray.empty, .int .i64 0, .int .i64 0]) 3 32 Tryz.underlying129 hi hz0 hz1 hz2 rfl (by decide) _ _ _ rfl (HC2.out.rows.alloc _) ⟨wC.heap.size, 0, none⟩ 1 1 [.string ⟨f.n.data.toList.toArray⟩, .int .i64 f.a, .int .i64 f.b] rfl rfl Q5.out Q4.out Q1.out Q2.out Q3.out ?_; intro v' w6 hown6 hgrow6 _; obtain ⟨av6, nv6, cv6, rfl⟩ := own_slice hown6; have HO6 := Lib.hid hown6; have HG6 := Lib.hid hgrow6; clear hown6 hgrow6)
      go_roundw
      case rel =>
        have hne' : ∀ q, (Value.slice av nv cv).ownBlock = some q → w1.heap.size ≤ q := fun q e => (HC2.out.rows.lt q e).1
        have hbl : b < w1.heap.size := heap_lt HH.out
        refine ⟨k0 + 1, by go_num, by omega, ⟨?_, ?_, ?_, ?_⟩⟩
        · exact (HC2.out.below.alloc HC2.out.below.size _).grown HG6.out (by have := HC2.out.below.size; simp; omega) (fun q e => by have := hne' q e; omega)
        · exact Nat.le_trans Q3.out HG6.out.size
        · exact (HG6.out.block _ (by have := heap_lt HC2.out.words; simp; omega) (fun e => by have := hne' _ e.symm; omega)).trans ((Below.heap_alloc _ _ _ (heap_lt HC2.out.words)).trans HC2.out.words)
        · have hx := HO6.out
          rw [List.take_add_one, HF.out, List.flatMap_append]
          have hm : (⟨f.n.data.toList.toArray⟩ : ByteArray) = f.n := Lib.mk_data _
          rw [hm] at hx
          exact hx
      case measure => simp [intOf]; omega
    · obtain rfl : k0 = N := by omega
      have HST := Lib.hid hst
      clear hst
      go_wp2_with fail
      go_ret2
      refine ⟨HST.out.below, _, rfl, ?_⟩
      have hr := HST.out.rows
      rw [HN.out, List.take_length] at hr
      exact own_mono hr hlb
end Go.Proofs.YtkbjnlcongjokaaGreatDoor

/- CRC-32C: bit by bit, and by a table. Plain Lean, no program. -/
namespace Go.Proofs.YtkbjnlcongjokaaGreatDoor
def stepN (n : Nat) : Nat := n / 2 ^^^ (if n % 2 = 1 then 0x82f63b78 else 0)
def steps : Nat → Nat → Nat
  | 0, n => n
  | k + 1, n => stepN (steps k n)
theorem xor_half (a b : Nat) : (a ^^^ b) / 2 = a / 2 ^^^ b / 2 := by
  have := Nat.shiftRight_xor_distrib (a := a) (b := b) (i := 1)
  simpa [Nat.shiftRight_eq_div_pow] using this
theorem xor_mod (a b : Nat) : (a ^^^ b) % 2 = (a % 2) ^^^ (b % 2) := by
  have := Nat.xor_mod_two_pow (a := a) (b := b) (n := 1)
  simpa using this
theorem stepN_xor (a b : Nat) : stepN (a ^^^ b) = stepN a ^^^ stepN b := by
  unfold stepN
  rw [xor_half, xor_mod]
  rcases Nat.mod_two_eq_zero_or_one a with ha | ha <;> rcases Nat.mod_two_eq_zero_or_one b with hb | hb <;> simp [ha, hb]
  · rw [Nat.xor_assoc]
  · rw [Nat.xor_assoc, Nat.xor_assoc, Nat.xor_comm (b/2)]
  · rw [Nat.xor_assoc, Nat.xor_comm 2197175160, Nat.xor_assoc, Nat.xor_self]; simp
theorem steps_xor (k a b : Nat) : steps k (a ^^^ b) = steps k a ^^^ steps k b := by
  induction k with
  | zero => rfl
  | succ k ih => simp only [steps]; rw [ih, stepN_xor]
theorem steps_in (k n : Nat) : steps (k + 1) n = steps k (stepN n) := by
  induction k with
  | zero => rfl
  | succ k ih => rw [steps, ih]; rfl
theorem steps_shift (k a : Nat) : steps k (a * 2 ^ k) = a := by
  induction k generalizing a with
  | zero => simp [steps]
  | succ k ih =>
    rw [steps_in]
    have : stepN (a * 2 ^ (k+1)) = a * 2 ^ k := by
      unfold stepN
      have e : a * 2 ^ (k+1) = 2 * (a * 2 ^ k) := by rw [Nat.pow_succ]; rw [Nat.mul_comm (2^k) 2, ← Nat.mul_assoc, Nat.mul_comm a 2, Nat.mul_assoc]
      rw [e]
      simp
    rw [this, ih]
/-- a number's low bits, and the rest -/
theorem split_bits (k n : Nat) : n = (n % 2 ^ k) ^^^ (n / 2 ^ k * 2 ^ k) := by
  apply Nat.eq_of_testBit_eq
  intro i
  rw [Nat.testBit_xor, Nat.testBit_mod_two_pow, Nat.testBit_mul_two_pow, Nat.testBit_div_two_pow]
  by_cases hi : i < k
  · have h8 : ¬ k ≤ i := by omega
    simp [hi, h8]
  · have h8 : k ≤ i := by omega
    simp [hi, h8]
theorem steps8 (n c : Nat) (hc : c < 256) : steps 8 ((n % 256) ^^^ c) ^^^ n / 256 = steps 8 (n ^^^ c) := by
  conv => rhs; rw [split_bits 8 n]
  rw [Nat.xor_assoc, Nat.xor_comm (n / 2 ^ 8 * 2 ^ 8) c, ← Nat.xor_assoc, steps_xor 8 (n % 2 ^ 8 ^^^ c), steps_shift]
def feedB (n c : Nat) : Nat → Nat
  | 0 => n
  | k + 1 => stepN (feedB n c k ^^^ (c / 2 ^ k % 2))
theorem mod_succ (c k : Nat) : c % 2 ^ (k + 1) = (c % 2 ^ k) ^^^ (c / 2 ^ k % 2 * 2 ^ k) := by
  have h := split_bits k (c % 2 ^ (k + 1))
  have h1 : c % 2 ^ (k + 1) % 2 ^ k = c % 2 ^ k := Nat.mod_mod_of_dvd _ ⟨2, by rw [Nat.pow_succ]⟩
  have h2 : c % 2 ^ (k + 1) / 2 ^ k = c / 2 ^ k % 2 := by
    rw [Nat.pow_succ, Nat.mod_mul_right_div_self]
  rw [h1, h2] at h
  exact h
theorem feedB_eq (n c k : Nat) : feedB n c k = steps k (n ^^^ (c % 2 ^ k)) := by
  induction k with
  | zero => simp [feedB, steps, Nat.mod_one]
  | succ k ih =>
    rw [feedB, ih, steps, mod_succ, ← Nat.xor_assoc, steps_xor k (n ^^^ c % 2 ^ k), steps_shift]
def crcFold (l : List UInt8) : Nat := l.foldl (fun n c => steps 8 (n ^^^ c.toNat)) 4294967295
theorem crcFold_snoc (l : List UInt8) (c : UInt8) : crcFold (l ++ [c]) = steps 8 (crcFold l ^^^ c.toNat) := by simp [crcFold]
def refSt (l : List UInt8) (i : Nat) : Nat := feedB (crcFold (l.take (i / 8))) (l.getD (i / 8) 0).toNat (i % 8)
theorem refSt_succ (l : List UInt8) (i : Nat) (h : i / 8 < l.length) : refSt l (i + 1) = stepN (refSt l i ^^^ ((l.getD (i / 8) 0).toNat / 2 ^ (i % 8) % 2)) := by
  by_cases h7 : i % 8 = 7
  · have e1 : (i + 1) / 8 = i / 8 + 1 := by omega
    have e2 : (i + 1) % 8 = 0 := by omega
    rw [refSt, e1, e2, feedB, List.take_succ_eq_append_getElem h, crcFold_snoc]
    rw [refSt, h7]
    show _ = feedB _ _ 8
    rw [feedB_eq, List.getD_eq_getElem?_getD, List.getElem?_eq_getElem h]
    have := (l[i/8]).toNat_lt
    simp only [Option.getD_some]
    rw [Nat.mod_eq_of_lt (by omega : l[i/8].toNat < 2 ^ 8)]
  · have e1 : (i + 1) / 8 = i / 8 := by omega
    have e2 : (i + 1) % 8 = i % 8 + 1 := by omega
    rw [refSt, e1, e2, feedB]; rfl
theorem refSt_end (l : List UInt8) : refSt l (8 * l.length) = crcFold l := by
  rw [refSt, Nat.mul_div_cancel_left _ (by decide), Nat.mul_mod_right, feedB, List.take_length]
end Go.Proofs.YtkbjnlcongjokaaGreatDoor

/- crc.table, Sum, Digest; quaymasterref.Crc, Digest. -/
namespace Go.Proofs.YtkbjnlcongjokaaGreatDoor
open Go.RowKit
theorem stepN_le {n : Nat} (h : n ≤ 4294967295) : stepN n ≤ 4294967295 := by
  unfold stepN
  have : (n / 2 ^^^ (if n % 2 = 1 then 0x82f63b78 else 0)) < 2 ^ 32 := by
    refine Nat.xor_lt_two_pow (by omega) ?_
    split <;> decide
  omega
theorem steps_le {k n : Nat} (h : n ≤ 4294967295) : steps k n ≤ 4294967295 := by
  induction k with
  | zero => exact h
  | succ k ih => exact stepN_le ih
/-- the step, as the text reckons it -/
theorem step_bits (n : Nat) (h : n ≤ 4294967295) : bits .xor .u32 ((n : Int) / 2) (bits .and .u32 (-(bits .and .u32 (n : Int) 1) % 4294967296) 2197175160) = ((stepN n : Nat) : Int) := by
  have h1 : bits .and .u32 (n : Int) 1 = ((n % 2 : Nat) : Int) := by
    have := u32_and_nat n 1 (by omega) (by omega)
    rw [nat_mask1] at this
    exact this
  have h2 : ((n : Int) / 2) = ((n / 2 : Nat) : Int) := by omega
  rw [h1, h2]
  unfold stepN
  rcases Nat.mod_two_eq_zero_or_one n with h0 | h0
  · rw [h0]
    have : bits .and .u32 (-((0 : Nat) : Int) % 4294967296) 2197175160 = ((0 : Nat) : Int) := by decide
    rw [this, u32_xor_nat _ _ (by omega) (by omega)]
    simp
  · rw [h0]
    have : bits .and .u32 (-((1 : Nat) : Int) % 4294967296) 2197175160 = ((2197175160 : Nat) : Int) := by decide
    rw [this, u32_xor_nat _ _ (by omega) (by omega)]
    simp
def crcTab : List Value := (List.range 256).map fun j => Value.int .u32 (steps 8 j : Nat)
theorem crcTab_at (j : Nat) (h : j < 256) : crcTab.toArray[j]? = some (.int .u32 (steps 8 j : Nat)) := by
  simp [crcTab, h]
theorem crcTab_size : crcTab.toArray.size = 256 := by simp [crcTab]
theorem crcTab_one : crcTab.toArray.all (·.oneCell') = true := by
  simp [crcTab, Value.oneCell']
theorem crcTab_of {cs : Array Value} (hs : cs.size = 256) (h : ∀ j, j < 256 → cs[j]? = some (.int .u32 (steps 8 j : Nat))) : cs = crcTab.toArray := by
  apply Array.ext_getElem?
  intro j
  by_cases hj : j < 256
  · rw [h j hj, crcTab_at j hj]
  · rw [Array.getElem?_eq_none (by omega), Array.getElem?_eq_none (by rw [crcTab_size]; omega)]
end Go.Proofs.YtkbjnlcongjokaaGreatDoor

/- crc.Sum, quaymasterref.Crc. -/
namespace Go.Proofs.YtkbjnlcongjokaaGreatDoor
open Go.RowKit
def crcN (l : List UInt8) : Nat := 4294967295 - crcFold l
theorem crcFold_le : ∀ (l : List UInt8), crcFold l ≤ 4294967295 := by
  intro l
  unfold crcFold
  suffices h : ∀ (l : List UInt8) (n : Nat), n ≤ 4294967295 → l.foldl (fun n c => steps 8 (n ^^^ c.toNat)) n ≤ 4294967295 from h l _ (by omega)
  intro l
  induction l with
  | nil => intro n h; exact h
  | cons c l ih =>
    intro n h
    refine ih _ (steps_le ?_)
    have := c.toNat_lt
    have : n ^^^ c.toNat < 2 ^ 32 := Nat.xor_lt_two_pow (by omega) (by omega)
    omega
theorem not_u32 (n : Nat) (h : n ≤ 4294967295) : bits .xor .u32 IntKind.u32.max (n : Int) = ((4294967295 - n : Nat) : Int) := by
  show IntKind.u32.wrap ((BitVec.ofInt 32 4294967295 ^^^ BitVec.ofInt 32 (n : Int)).toNat : Int) = _
  have e : BitVec.ofInt 32 4294967295 = BitVec.allOnes 32 := by decide
  rw [e, BitVec.allOnes_xor, BitVec.toNat_not, BitVec.ofInt_natCast, BitVec.toNat_ofNat, Nat.mod_eq_of_lt (by omega), IntKind.wrap_u32']
  omega
theorem byte_nat (c : UInt8) : c.toNat < 256 := c.toNat_lt
theorem refSt_le (l : List UInt8) (i : Nat) : refSt l i ≤ 4294967295 := by
  rw [refSt, feedB_eq]
  refine steps_le ?_
  have h1 := crcFold_le (l.take (i / 8))
  have h2 : (l.getD (i / 8) 0).toNat % 2 ^ (i % 8) ≤ (l.getD (i / 8) 0).toNat := Nat.mod_le _ _
  have h3 := byte_nat (l.getD (i / 8) 0)
  have := Nat.xor_lt_two_pow (n := 32) (x := crcFold (l.take (i / 8))) (y := (l.getD (i / 8) 0).toNat % 2 ^ (i % 8)) (by omega) (by omega)
  omega
theorem and1_u32 (n : Nat) (h : n ≤ 4294967295) : bits .and .u32 (n : Int) 1 = ((n % 2 : Nat) : Int) := by
  have := u32_and_nat n 1 (by omega) (by omega)
  rw [nat_mask1] at this
  exact this
theorem low_eq (N c q : Nat) (hN : N ≤ 4294967295) (hc : c < 256) :
    bits .xor .u32 (bits .and .u32 (N : Int) 1) (bits .and .u32 ((c : Int) / 2 ^ q % 4294967296) 1) = ((N % 2 ^^^ (c / 2 ^ q % 2) : Nat) : Int) := by
  have h1 : (c : Int) / 2 ^ q % 4294967296 = ((c / 2 ^ q : Nat) : Int) := by
    have h : c / 2 ^ q ≤ c := Nat.div_le_self _ _
    have e : ((c / 2 ^ q : Nat) : Int) = (c : Int) / 2 ^ q := by simp
    rw [← e]
    generalize c / 2 ^ q = d at h ⊢
    omega
  have : c / 2 ^ q ≤ c := Nat.div_le_self _ _
  rw [h1, and1_u32 _ hN, and1_u32 _ (by omega), u32_xor_nat _ _ (by omega) (by omega)]
theorem stepN_bit (N b : Nat) (hb : b < 2) : stepN (N ^^^ b) = N / 2 ^^^ (if N % 2 ^^^ b = 1 then 2197175160 else 0) := by
  unfold stepN
  rw [xor_half, xor_mod, Nat.div_eq_of_lt hb, Nat.xor_zero, Nat.mod_eq_of_lt hb]
end Go.Proofs.YtkbjnlcongjokaaGreatDoor

/- string(b); crc.Digest, quaymasterref.Digest. -/
namespace Go.Proofs.YtkbjnlcongjokaaGreatDoor
open Go.RowKit
theorem push_bs (l : List UInt8) (c : UInt8) : (bs l).push c = bs (l ++ [c]) := by
  unfold bs
  show (⟨l.toArray.push c⟩ : ByteArray) = _
  simp
theorem fold_push : ∀ (m l : List UInt8), (m.map fun c => (c.toNat : Int)).foldl (fun r n => r.push (UInt8.ofNat n.toNat)) (bs l) = bs (l ++ m)
  | [], l => by simp
  | c :: m, l => by
    simp only [List.map_cons, List.foldl_cons]
    rw [Int.toNat_natCast, UInt8.ofNat_toNat, push_bs, fold_push m (l ++ [c])]
    simp
/-- string(b) of bytes that are known. -/
theorem conv_str (w : World) (ad : Addr) (n cap : Nat) (l : List UInt8) (hl : l.length = n) (hc : ∀ j (h : j < l.length), w.cell? (ad.add j) = some (.int .u8 (l[j].toNat : Int))) :
    (convert 140 9 (.slice (some ad) n cap)).run Tryz.prog w = .ok (.string (bs l)) w := by
  rw [run_convert_bytes_string w _ _ 5 _ _ _ Tryz.underlying140 Tryz.underlying5 Tryz.underlying9]
  rw [run_bytesToString w ad n cap (l.map fun c => (c.toNat : Int)) ?_]
  · rw [show ByteArray.empty = bs [] from rfl, fold_push]
    simp
  · have := run_loadCells_list (P := Tryz.prog) w ad ((l.map fun c => (c.toNat : Int)).map (Value.int .u8)) (fun j v hv => by
      simp only [List.getElem?_map] at hv
      by_cases h : j < l.length
      · rw [List.getElem?_eq_getElem h] at hv
        simp at hv
        rw [hc j h, hv]
      · rw [List.getElem?_eq_none (by omega)] at hv
        simp at hv)
    simpa [hl] using this
theorem conv_str_nil (w : World) (n cap : Nat) : (convert 140 9 (.slice none n cap)).run Tryz.prog w = .ok (.string (bs [])) w := by
  rw [run_convert_bytes_string w _ _ 5 _ _ _ Tryz.underlying140 Tryz.underlying5 Tryz.underlying9]
  rfl
theorem addr_add0 (b i j : Nat) : (⟨b, i, none⟩ : Addr).add j = ⟨b, i + j, none⟩ := by unfold Addr.add; split <;> simp_all
/-- string([]byte{..}) -/
theorem conv_str_new (w : World) (l : List UInt8) (vs : Array Value) (h : vs = (l.map fun c => Value.int .u8 (c.toNat : Int)).toArray) (n cap : Nat) (hn : l.length = n) :
    (convert 140 9 (.slice (some ⟨w.heap.size, 0, none⟩) n cap)).run Tryz.prog (w.alloc (.cells vs 5)) = .ok (.string (bs l)) (w.alloc (.cells vs 5)) :=
  conv_str _ _ _ _ l hn fun j hj => by
    rw [addr_add0, World.cell?_alloc_at _ _ _ _ rfl, h]
    simp [hj]
theorem bs_append (a b : List UInt8) : bs a ++ bs b = bs (a ++ b) := by
  apply ByteArray.ext
  apply Array.toList_inj.1
  rw [ByteArray.data_append, Array.toList_append]
  rfl
def le4 (n : Nat) : List UInt8 := [UInt8.ofNat (n % 256), UInt8.ofNat (n / 256 % 256), UInt8.ofNat (n / 65536 % 256), UInt8.ofNat (n / 16777216 % 256)]
def digest (l : List UInt8) : List UInt8 := le4 (crcN l)
theorem crcN_le (l : List UInt8) : crcN l ≤ 4294967295 := by unfold crcN; omega
theorem ofNat_byte (n : Nat) (h : n < 256) : ((UInt8.ofNat n).toNat : Int) = n := by
  rw [UInt8.toNat_ofNat']; omega
end Go.Proofs.YtkbjnlcongjokaaGreatDoor

/- field.Put. -/
namespace Go.Proofs.YtkbjnlcongjokaaGreatDoor
open Go.RowKit Go.Deep
/-- The bytes of a number, the highest first. -/
def beB (n size : Nat) : List UInt8 := (List.range size).map fun i => UInt8.ofNat (n / 256 ^ (size - 1 - i) % 256)
def putC (n m k : Nat) : List Value := (List.range m).map fun j => if m - k ≤ j then .int .u8 ((n / 256 ^ (m - 1 - j) % 256 : Nat) : Int) else .int .u8 0
theorem putC_zero (n m : Nat) : madeCells #[.int .u8 0] m = (putC n m 0).toArray := by
  apply Array.ext
  · simp [madeCells, putC]
  · intro i h1 h2
    have : i < m := by simpa [madeCells] using h1
    simp [madeCells, putC, Nat.mod_one]
    omega
theorem putC_set (n m k j : Nat) (hk : k < m) (hj : j = m - 1 - k) (v : Value) (hv : v = .int .u8 ((n / 256 ^ k % 256 : Nat) : Int)) : (putC n m k).toArray.setIfInBounds j v = (putC n m (k + 1)).toArray := by
  subst hj hv
  rw [List.setIfInBounds_toArray]
  congr 1
  apply List.ext_getElem?
  intro i
  rw [List.getElem?_set]
  unfold putC
  simp only [List.length_map, List.length_range, List.getElem?_map]
  by_cases hi : i < m
  · rw [List.getElem?_range hi]
    by_cases e : m - 1 - k = i
    · rw [if_pos e, if_pos (by omega)]
      simp only [Option.map_some]
      rw [if_pos (by omega), show m - 1 - i = k by omega]
    · rw [if_neg e]
      simp only [Option.map_some]
      by_cases h2 : m - k ≤ i
      · rw [if_pos h2, if_pos (by omega)]
      · rw [if_neg h2, if_neg (by omega)]
  · rw [List.getElem?_eq_none (by simpa using hi)]
    by_cases e : m - 1 - k = i
    · omega
    · rw [if_neg e]; rfl
theorem putC_done (n m : Nat) : (putC n m m).toArray = ((beB n m).map fun c => Value.int .u8 (c.toNat : Int)).toArray := by
  congr 1
  unfold putC beB
  rw [List.map_map]
  apply List.map_congr_left
  intro i _
  simp only [Function.comp_apply]
  rw [if_pos (by omega), ofNat_byte _ (by omega)]
theorem u8_info : (Tryz.prog.info? 5).map (fun i => (i.zero, i.size, i.bytes)) = some (some (.int .u8 0), 1, 1) := by kernel_rfl
structure PutSt (w : World) (n m k : Nat) (wr : World) : Prop where
  below : Below w.heap.size w wr
  blk : wr.heap[w.heap.size]? = some (.cells (putC n m k).toArray 5 (0, 0))
end Go.Proofs.YtkbjnlcongjokaaGreatDoor

/- head.Right. -/
namespace Go.Proofs.YtkbjnlcongjokaaGreatDoor
open Go.RowKit
/-- A slice of numbers that can be read. -/
structure U64s (w : World) (A : Option Addr) (xs : List Nat) : Prop where
  at_ : ∀ (k : Nat) (x : Nat), xs[k]? = some x → ∃ ad, A = some ad ∧ ad.block < w.heap.size ∧ w.cell? (ad.add k) = some (.int .u64 (x : Int))
  small : ∀ x ∈ xs, x < 18446744073709551616
theorem block_add (a : Addr) (n : Nat) : (a.add n).block = a.block := by unfold Addr.add; split <;> rfl
theorem U64s.below {w w' : World} {A : Option Addr} {xs : List Nat} (h : U64s w A xs) (hb : Below w.heap.size w w') : U64s w' A xs :=
  ⟨fun k x hx => by
    obtain ⟨ad, h1, h2, h3⟩ := h.at_ k x hx
    exact ⟨ad, h1, Nat.lt_of_lt_of_le h2 hb.size, (hb.cell (by rw [block_add]; exact h2)).trans h3⟩, h.small⟩
/-- The fields stand in a block, one behind the other. -/
structure FldsV (w : World) (g : Nat) (l : List Fld) : Prop where
  cells : ∀ j u, (l.flatMap Fld.cells)[j]? = some u → w.cell? ⟨g, j, none⟩ = some u
  lt : g < w.heap.size
theorem FldsV.below {w w' : World} {g : Nat} {l : List Fld} (h : FldsV w g l) (hb : Below w.heap.size w w') : FldsV w' g l :=
  ⟨fun j u hu => (hb.cell (p := ⟨g, j, none⟩) h.lt).trans (h.cells j u hu), Nat.lt_of_lt_of_le h.lt hb.size⟩
theorem FldsV.fld {w : World} {g : Nat} {l : List Fld} (h : FldsV w g l) {k : Nat} {f : Fld} (hf : l[k]? = some f) : w.cell? ⟨g, k * 3, none⟩ = some (.string f.n) ∧ w.cell? ⟨g, k * 3 + 1, none⟩ = some (.int .i64 f.a) ∧ w.cell? ⟨g, k * 3 + 2, none⟩ = some (.int .i64 f.b) :=
  ⟨h.cells _ _ (flat_at Fld.cells 3 (fun _ => rfl) l k 0 f hf (by omega)), h.cells _ _ (flat_at Fld.cells 3 (fun _ => rfl) l k 1 f hf (by omega)), h.cells _ _ (flat_at Fld.cells 3 (fun _ => rfl) l k 2 f hf (by omega))⟩
theorem fields_v (op : Int) (h0 : -9223372036854775808 ≤ op) (h1 : op ≤ 9223372036854775807) (k : Knd) (h : kindOf op = some k) (w : World) (hw : Laid w) : Calls Tryz.prog 62 #[.int .i64 op] w fun e w' =>
    ∃ g c, e = .returned (.tuple #[.slice (some ⟨g, 0, none⟩) k.l.length c, .nilIface]) ∧ Below w.heap.size w w' ∧ FldsV w' g k.l ∧ w.heap.size ≤ g := by
  refine (fields_some op h0 h1 k h w hw).mono ?_
  rintro e w' ⟨hb, v, rfl, ho⟩
  obtain ⟨a, m, c, rfl⟩ := own_slice ho
  obtain ⟨g, cap, hv, _, hlt⟩ := ho.form (kind_ne h)
  rw [hv]
  rw [hv] at ho
  exact ⟨g, cap, rfl, hb, ⟨fun j u hu => by have := ho.cells (g := g) rfl j u hu; rwa [addr_add0, Nat.zero_add] at this, hlt⟩, (ho.lt g rfl).1⟩
def fitsV (f : Fld) (v : Nat) : Bool := decide (8 ≤ f.b) || (v : Int) / 2 ^ (8 * f.b.toNat) == 0
def firstBad : List Fld → List Nat → Nat → Option Nat
  | f :: l, v :: vs, i => if fitsV f v then firstBad l vs (i + 1) else some i
  | _, _, _ => none
def hdForm (k : Knd) (op : Int) (now : Bool) (fl : Int) : Bool := (now && decide (32 ≤ op)) || decide (fl < 0) || (bits .andNot .i64 fl k.m != 0)
def hdRight (op : Int) (now : Bool) (fl : Int) (vals : List Nat) : Int × Int := match kindOf op with
  | none => (1, -1)
  | some k => if hdForm k op now fl then (3, -1) else if k.l.length ≠ vals.length then (7, -1) else match firstBad k.l vals 0 with
    | none => (0, -1)
    | some i => (2, i)
def hdA (op : Int) (now : Bool) (fl : Int) (A : Option Addr) (n c : Nat) : Value := .agg #[.int .i64 op, .bool now, .int .i64 fl, .slice A n c]
set_option maxRecDepth 100000 in
theorem right_none (op : Int) (now : Bool) (fl : Int) (A : Option Addr) (n c : Nat) (h0 : -9223372036854775808 ≤ op) (h1 : op ≤ 9223372036854775807) (h : kindOf op = none) (w : World) (hw : Laid w) :
    Calls Tryz.prog 63 #[hdA op now fl A n c] w fun e w' => e = .returned (errV 1) ∧ Below w.heap.size w w' := by
  have hf := fun w hw => fields_none op h0 h1 h w hw
  have HF := Lib.hid hf
  have HW := Lib.hid hw
  clear hf hw
  unfold hdA
  go_enter Tryz.func63, Tryz.ntmps63
  go_wp2_with (go_at_call 62; refine (HF.out _ (HW.out.below ((Below.refl _ _).alloc (Nat.le_refl _) _))).mono ?_; rintro e w' ⟨rfl, hb⟩)
  go_ret
  exact ⟨rfl, ((Below.refl _ w).alloc (Nat.le_refl _) _).trans (hb.mono (by simp))⟩
/-- Behind Fields and Flags. -/
structure RtSt (w : World) (op : Int) (now : Bool) (fl : Int) (A : Option Addr) (n c : Nat) (g : Nat) (l : List Fld) (w2 : World) : Prop where
  below : Below w.heap.size w w2
  head : w2.heap[w.heap.size]? = some (.cells #[.int .i64 op, .bool now, .int .i64 fl, .slice A n c] 51 (0, 0))
  flds : FldsV w2 g l
theorem RtSt.c0 {w : World} {op : Int} {now : Bool} {fl : Int} {A : Option Addr} {n c : Nat} {g : Nat} {l : List Fld} {w2 : World} (h : RtSt w op now fl A n c g l w2) :
    w2.cell? ⟨w.heap.size, 0, none⟩ = some (.int .i64 op) ∧ w2.cell? ⟨w.heap.size, 1, none⟩ = some (.bool now) ∧ w2.cell? ⟨w.heap.size, 2, none⟩ = some (.int .i64 fl) ∧ w2.cell? ⟨w.heap.size, 3, none⟩ = some (.slice A n c) := by
  simp [World.cell?, h.head]
theorem RtSt.later {w : World} {op : Int} {now : Bool} {fl : Int} {A : Option Addr} {n c : Nat} {g : Nat} {l : List Fld} {w2 w3 : World} (h : RtSt w op now fl A n c g l w2) (hb : Below w2.heap.size w2 w3) : RtSt w op now fl A n c g l w3 :=
  ⟨h.below.trans (hb.mono h.below.size), (hb.block _ (heap_lt h.head)).trans h.head, h.flds.below hb⟩
set_option maxRecDepth 100000 in
theorem right_form (op : Int) (now : Bool) (fl : Int) (A : Option Addr) (n c : Nat) (h0 : -9223372036854775808 ≤ op) (h1 : op ≤ 9223372036854775807) (k : Knd) (h : kindOf op = some k) (hx : hdForm k op now fl = true) (w : World) (hw : Laid w) :
    Calls Tryz.prog 63 #[hdA op now fl A n c] w fun e w' => e = .returned (errV 3) ∧ Below w.heap.size w w' := by
  have hf := fun w hw => fields_v op h0 h1 k h w hw
  have hg := fun w hw => flags_some op h0 h1 k h w hw
  have HF := Lib.hid hf
  have HG := Lib.hid hg
  have HW := Lib.hid hw
  have HK := Lib.hid h
  clear hf hg hw h
  have key : (now = true ∧ 32 ≤ op) ∨ (¬ (now = true ∧ 32 ≤ op) ∧ fl < 0) ∨ (¬ (now = true ∧ 32 ≤ op) ∧ ¬ fl < 0 ∧ (bits .andNot .i64 fl k.m != 0) = true) := by
    unfold hdForm at hx
    simp only [Bool.or_eq_true, Bool.and_eq_true, decide_eq_true_eq] at hx
    by_cases a : now = true ∧ 32 ≤ op
    · exact .inl a
    · by_cases b : fl < 0
      · exact .inr (.inl ⟨a, b⟩)
      · rcases hx with (hx | hx) | hx
        · exact absurd hx a
        · exact absurd hx b
        · exact .inr (.inr ⟨a, b, hx⟩)
  clear hx
  unfold hdA
  go_enter Tryz.func63, Tryz.ntmps63
  go_wp2_with fail
  refine (HF.out _ (HW.out.below ((Below.refl _ _).alloc (Nat.le_refl _) _))).mono ?_
  rintro e w1 ⟨g, cap, rfl, hb, hv, _⟩
  have hst : RtSt w op now fl A n c g k.l w1 := ⟨((Below.refl _ w).alloc (Nat.le_refl _) _).trans (hb.mono (by simp)), (hb.block _ (by simp)).trans (alloc_heap_new w _), hv⟩
  obtain ⟨c0, c1, c2, c3⟩ := hst.c0
  have HST := Lib.hid hst
  clear hst hb hv
  go_wp2_with fail
  refine (HG.out _ (HW.out.below HST.out.below)).mono ?_
  rintro e w2 ⟨rfl, hb2⟩
  have hst2 := HST.out.later hb2
  clear c0 c1 c2 c3
  obtain ⟨c0, c1, c2, c3⟩ := hst2.c0
  have HST2 := Lib.hid hst2
  clear hst2 hb2
  rcases key with ⟨rfl, hop⟩ | ⟨hno, hfl⟩ | ⟨hno, hfl, hbt⟩
  · go_wp2_with fail
    go_ret
    exact ⟨rfl, HST2.out.below⟩
  · cases now
    · go_wp2_with fail
      go_ret
      exact ⟨rfl, HST2.out.below⟩
    · have hop : ¬ 32 ≤ op := fun e => hno ⟨rfl, e⟩
      clear hno
      go_wp2_with fail
      go_ret
      exact ⟨rfl, HST2.out.below⟩
  · cases now
    · clear hno
      go_wp2_with fail
      go_ret
      exact ⟨rfl, HST2.out.below⟩
    · have hop : ¬ 32 ≤ op := fun e => hno ⟨rfl, e⟩
      clear hno
      go_wp2_with fail
      go_ret
      exact ⟨rfl, HST2.out.below⟩
end Go.Proofs.YtkbjnlcongjokaaGreatDoor

/- head.Right, behind the form. -/
namespace Go.Proofs.YtkbjnlcongjokaaGreatDoor
open Go.RowKit
theorem form_false {k : Knd} {op : Int} {now : Bool} {fl : Int} (h : hdForm k op now fl = false) : (now = true → ¬ 32 ≤ op) ∧ ¬ fl < 0 ∧ (bits .andNot .i64 fl k.m != 0) = false := by
  unfold hdForm at h
  simp only [Bool.or_eq_false_iff, Bool.and_eq_false_iff, decide_eq_false_iff_not] at h
  refine ⟨fun hn => ?_, h.1.2, h.2⟩
  rcases h.1.1 with e | e
  · rw [hn] at e; cases e
  · exact e
set_option maxRecDepth 100000 in
theorem right_len (op : Int) (now : Bool) (fl : Int) (A : Option Addr) (n c : Nat) (h0 : -9223372036854775808 ≤ op) (h1 : op ≤ 9223372036854775807) (k : Knd) (h : kindOf op = some k) (hx : hdForm k op now fl = false) (hn : k.l.length ≠ n) (w : World) (hw : Laid w) :
    Calls Tryz.prog 63 #[hdA op now fl A n c] w fun e w' => e = .returned (errV 7) ∧ Below w.heap.size w w' := by
  have hf := fun w hw => fields_v op h0 h1 k h w hw
  have hg := fun w hw => flags_some op h0 h1 k h w hw
  obtain ⟨f1, f2, f3⟩ := form_false hx
  have hnb : ((k.l.length : Nat) != n) = true := by simpa using hn
  have HF := Lib.hid hf
  have HG := Lib.hid hg
  have HW := Lib.hid hw
  have HK := Lib.hid h
  clear hf hg hw h hx
  unfold hdA
  go_enter Tryz.func63, Tryz.ntmps63
  go_wp2_with fail
  refine (HF.out _ (HW.out.below ((Below.refl _ _).alloc (Nat.le_refl _) _))).mono ?_
  rintro e w1 ⟨g, cap, rfl, hb, hv, _⟩
  have hst : RtSt w op now fl A n c g k.l w1 := ⟨((Below.refl _ w).alloc (Nat.le_refl _) _).trans (hb.mono (by simp)), (hb.block _ (by simp)).trans (alloc_heap_new w _), hv⟩
  obtain ⟨c0, c1, c2, c3⟩ := hst.c0
  have HST := Lib.hid hst
  clear hst hb hv
  go_wp2_with fail
  refine (HG.out _ (HW.out.below HST.out.below)).mono ?_
  rintro e w2 ⟨rfl, hb2⟩
  have hst2 := HST.out.later hb2
  clear c0 c1 c2 c3
  obtain ⟨c0, c1, c2, c3⟩ := hst2.c0
  have HST2 := Lib.hid hst2
  clear hst2 hb2
  cases now
  · clear f1
    go_wp2_with fail
    go_ret
    exact ⟨rfl, HST2.out.below⟩
  · have f1 := f1 rfl
    go_wp2_with fail
    go_ret
    exact ⟨rfl, HST2.out.below⟩
theorem firstBad_split : ∀ (l : List Fld) (vs : List Nat) (i : Nat), l.length = vs.length →
    (firstBad l vs i = none ∧ ∀ (j : Nat) (f : Fld) (v : Nat), l[j]? = some f → vs[j]? = some v → fitsV f v = true) ∨
    (∃ j f v, firstBad l vs i = some (i + j) ∧ l[j]? = some f ∧ vs[j]? = some v ∧ fitsV f v = false ∧ ∀ (t : Nat) (f : Fld) (v : Nat), t < j → l[t]? = some f → vs[t]? = some v → fitsV f v = true)
  | [], [], i, _ => .inl ⟨rfl, fun j f v h => by simp at h⟩
  | [], _ :: _, _, h => by simp at h
  | _ :: _, [], _, h => by simp at h
  | f :: l, v :: vs, i, h => by
    by_cases hf : fitsV f v = true
    · rcases firstBad_split l vs (i + 1) (by simpa using h) with ⟨h1, h2⟩ | ⟨j, f', v', h1, h2, h3, h4, h5⟩
      · refine .inl ⟨by rw [firstBad, if_pos hf, h1], fun j => ?_⟩
        cases j with
        | zero => intro f' v' e1 e2; simp at e1 e2; rw [← e1, ← e2]; exact hf
        | succ j => intro f' v' e1 e2; exact h2 j f' v' (by simpa using e1) (by simpa using e2)
      · refine .inr ⟨j + 1, f', v', by rw [firstBad, if_pos hf, h1]; congr 1; omega, by simpa using h2, by simpa using h3, h4, fun t => ?_⟩
        cases t with
        | zero => intro f' v' _ e1 e2; simp at e1 e2; rw [← e1, ← e2]; exact hf
        | succ t => intro f' v' e0 e1 e2; exact h5 t f' v' (by omega) (by simpa using e1) (by simpa using e2)
    · refine .inr ⟨0, f, v, by rw [firstBad, if_neg hf]; rfl, rfl, rfl, by simpa using hf, fun t f' v' e0 => by omega⟩
def RightPost (w : World) (r : Option Nat) (e : Ending) (w' : World) : Prop := ∃ v, e = .returned v ∧ Below w.heap.size w w' ∧ IsErr w' v (match r with | none => 0 | some _ => 2) (match r with | none => -1 | some i => i)
structure RtLp (w : World) (op : Int) (now : Bool) (fl : Int) (A : Option Addr) (n c : Nat) (g : Nat) (l : List Fld) (vals : List Nat) (k0 : Nat) (wr : World) : Prop where
  st : RtSt w op now fl A n c g l wr
  us : U64s wr A vals
  ok : ∀ (j : Nat) (f : Fld) (v : Nat), j < k0 → l[j]? = some f → vals[j]? = some v → fitsV f v = true
theorem RtLp.later {w : World} {op : Int} {now : Bool} {fl : Int} {A : Option Addr} {n c : Nat} {g : Nat} {l : List Fld} {vals : List Nat} {k0 : Nat} {wr w3 : World} (h : RtLp w op now fl A n c g l vals k0 wr) (hb : Below wr.heap.size wr w3) : RtLp w op now fl A n c g l vals k0 w3 :=
  ⟨h.st.later hb, h.us.below hb, h.ok⟩
set_option maxRecDepth 100000 in
set_option maxHeartbeats 1000000 in
theorem right_loop (op : Int) (now : Bool) (fl : Int) (A : Option Addr) (n c : Nat) (vals : List Nat) (h0 : -9223372036854775808 ≤ op) (h1 : op ≤ 9223372036854775807) (k : Knd) (h : kindOf op = some k) (hx : hdForm k op now fl = false) (hn : k.l.length = n) (hvl : vals.length = n) (w : World) (hw : Laid w) (hu : U64s w A vals) :
    Calls Tryz.prog 63 #[hdA op now fl A n c] w fun e w' => RightPost w (firstBad k.l vals 0) e w' := by
  have hf := fun w hw => fields_v op h0 h1 k h w hw
  have hg := fun w hw => flags_some op h0 h1 k h w hw
  obtain ⟨f1, f2, f3⟩ := form_false hx
  have hfit := kind_fit h
  have hl12 := hfit.1
  subst hn
  have HF := Lib.hid hf
  have HG := Lib.hid hg
  have HW := Lib.hid hw
  have HK := Lib.hid h
  have HU := Lib.hid hu
  have HFIT := Lib.hid hfit
  have HVL := Lib.hid hvl
  clear hf hg hw h hx hu hfit hvl
  unfold hdA
  go_enter Tryz.func63, Tryz.ntmps63
  go_wp2_with fail
  refine (HF.out _ (HW.out.below ((Below.refl _ _).alloc (Nat.le_refl _) _))).mono ?_
  rintro e w1 ⟨g, cap, rfl, hb, hv, _⟩
  have hst : RtLp w op now fl A k.l.length c g k.l vals 0 w1 := ⟨⟨((Below.refl _ w).alloc (Nat.le_refl _) _).trans (hb.mono (by simp)), (hb.block _ (by simp)).trans (alloc_heap_new w _), hv⟩,
    HU.out.below (((Below.refl _ w).alloc (Nat.le_refl _) _).trans (hb.mono (by simp))), fun j f v hj => by omega⟩
  obtain ⟨c0, c1, c2, c3⟩ := hst.st.c0
  have HST := Lib.hid hst
  clear hst hb hv
  go_wp2_with fail
  refine (HG.out _ (HW.out.below HST.out.st.below)).mono ?_
  rintro e w2 ⟨rfl, hb2⟩
  have hst2 := HST.out.later hb2
  clear c0 c1 c2 c3
  obtain ⟨c0, c1, c2, c3⟩ := hst2.st.c0
  have HST2 := Lib.hid hst2
  clear hst2 hb2
  cases now
  all_goals
    (try have f1 := f1 rfl)
    go_wp2_with fail
    clear c0 c1 c2 c3
    go_loopw [55] (fun i wr => ∃ k0 : Nat, i = .int .i64 k0 ∧ k0 ≤ k.l.length ∧ RtLp w op _ fl A k.l.length c g k.l vals k0 wr) (fun i _ => k.l.length - (intOf i).toNat)
    case atStart => exact ⟨0, rfl, by omega, HST2.out⟩
    case round =>
      obtain ⟨k0, rfl, hk0, hst⟩ := hrel
      by_cases hlt : k0 < k.l.length
      · obtain ⟨f, hf⟩ : ∃ f, k.l[k0]? = some f := ⟨_, List.getElem?_eq_getElem hlt⟩
        obtain ⟨v, hv⟩ : ∃ v, vals[k0]? = some v := ⟨_, List.getElem?_eq_getElem (by rw [HVL.out]; exact hlt)⟩
        obtain ⟨d0, d1, d2⟩ := hst.st.flds.fld hf
        obtain ⟨fa, fb1, fb8, fab⟩ := HFIT.out.2 f (List.mem_of_getElem? hf)
        obtain ⟨ad, rfl, hadb, hcell⟩ := hst.us.at_ k0 v hv
        have hvs := hst.us.small v (List.mem_of_getElem? hv)
        obtain ⟨b, hbb⟩ : ∃ b : Nat, f.b = b := ⟨f.b.toNat, by omega⟩
        rw [hbb] at d2 fb1 fb8 fab
        have hlt' : k0 < vals.length := by rw [HVL.out]; exact hlt

        have e3 := hst.st.c0.2.2.2
        have hwlt : w.heap.size < wr.heap.size := heap_lt hst.st.head
        have HST0 := Lib.hid hst
        have HFF := Lib.hid hf
        have HV := Lib.hid hv
        have HBB := Lib.hid hbb
        have hki : (k0 : Int) < (k.l.length : Int) := by omega
        have hv64 : (v : Int) ≤ 18446744073709551615 := by omega
        clear hst hf hv hbb hvs
        have hcell2 : ∀ o : Obj, (wr.alloc o).cell? (ad.add k0) = some (.int .u64 (v : Int)) := fun o => by rw [World.cell?_alloc_old _ _ _ (by rw [block_add]; omega)]; exact hcell
        clear hcell
        by_cases hb8 : (b : Int) < 8
        · have hq2 : (v : Int) / 2 ^ (8 * b) = ((v / 2 ^ (8 * b) : Nat) : Int) := by simp
          by_cases hz : v / 2 ^ (8 * b) = 0
          · have hq : ((v : Int) / 2 ^ (8 * b) != 0) = false := by rw [hq2, hz]; rfl
            have hfits : fitsV f v = true := by unfold fitsV; rw [HBB.out, Int.toNat_natCast, hq2, hz]; simp
            have HFITS := Lib.hid hfits
            clear hfits hq2 hz
            go_wp2_with fail
            go_quiet (fail)
            go_wp2_with fail
            go_roundw
            case rel =>
              have hbl := below_drewN ((Below.refl _ wr).alloc (Nat.le_refl _) (.cells #[.string f.n, .int .i64 f.a, .int .i64 b] 133)) nq
              refine ⟨k0 + 1, by go_num, by omega, (HST0.out.later hbl).st, HST0.out.us.below hbl, fun j f' v' hj e1 e2 => ?_⟩
              by_cases hjk : j < k0
              · exact HST0.out.ok j f' v' hjk e1 e2
              · obtain rfl : j = k0 := by omega
                rw [HFF.out] at e1
                rw [HV.out] at e2
                injection e1 with e1
                injection e2 with e2
                subst e1 e2
                exact HFITS.out
            case measure => simp [intOf]; omega
          · have hq : ((v : Int) / 2 ^ (8 * b) != 0) = true := by rw [hq2]; simp; omega
            have hfits : fitsV f v = false := by unfold fitsV; rw [HBB.out, Int.toNat_natCast, hq2]; simp; omega
            have HFITS := Lib.hid hfits
            clear hfits hq2 hz
            go_wp2_with fail
            go_quiet (fail)
            go_wp2_with fail
            go_ret
            have hbl := below_drewN ((Below.refl _ wr).alloc (Nat.le_refl _) (.cells #[.string f.n, .int .i64 f.a, .int .i64 b] 133)) nq
            obtain ⟨h1, h2⟩ | ⟨j, f', v', h1, h2, h3, h4, h5⟩ := firstBad_split k.l vals 0 (by rw [HVL.out])
            · have := h2 k0 f v HFF.out HV.out
              rw [HFITS.out] at this; cases this
            · obtain rfl : j = k0 := by
                by_cases e1 : j < k0
                · have := HST0.out.ok j f' v' e1 h2 h3
                  rw [h4] at this; cases this
                · by_cases e2 : k0 < j
                  · have := h5 k0 f v e2 HFF.out HV.out
                    rw [HFITS.out] at this; cases this
                  · omega
              rw [h1, Nat.zero_add]
              refine ⟨_, rfl, (HST0.out.st.below.trans (hbl.mono HST0.out.st.below.size)).alloc (Nat.le_trans HST0.out.st.below.size hbl.size) _, .inr ⟨by show (2 : Int) ≠ 0; decide, _, rfl, ?_, ?_⟩⟩
              · rw [World.cell?_alloc_at _ _ _ _ (by simp)]; rfl
              · rw [World.cell?_alloc_at _ _ _ _ (by simp)]; rfl
        · have hfits : fitsV f v = true := by unfold fitsV; rw [HBB.out]; simp; omega
          have HFITS := Lib.hid hfits
          have hd8 : decide ((b : Int) < 8) = false := by simpa using hb8
          clear hfits
          go_wp2_with fail
          go_quiet (fail)
          go_wp2_with fail
          go_roundw
          case rel =>
            have hbl := below_drewN ((Below.refl _ wr).alloc (Nat.le_refl _) (.cells #[.string f.n, .int .i64 f.a, .int .i64 b] 133)) nq
            refine ⟨k0 + 1, by go_num, by omega, (HST0.out.later hbl).st, HST0.out.us.below hbl, fun j f' v' hj e1 e2 => ?_⟩
            by_cases hjk : j < k0
            · exact HST0.out.ok j f' v' hjk e1 e2
            · obtain rfl : j = k0 := by omega
              rw [HFF.out] at e1
              rw [HV.out] at e2
              injection e1 with e1
              injection e2 with e2
              subst e1 e2
              exact HFITS.out
          case measure => simp [intOf]; omega
      · obtain rfl : k0 = k.l.length := by omega
        have HST0 := Lib.hid hst
        clear hst
        go_wp2_with fail
        go_ret
        obtain ⟨h1, h2⟩ | ⟨j, f', v', h1, h2, h3, h4, h5⟩ := firstBad_split k.l vals 0 (by rw [HVL.out])
        · rw [h1]
          exact ⟨_, rfl, HST0.out.st.below, .inl ⟨rfl, rfl⟩⟩
        · have := HST0.out.ok j f' v' (List.getElem?_eq_some_iff.1 h2).1 h2 h3
          rw [h4] at this; cases this
/-- Right: what is wrong with any head whose numbers can be read. -/
theorem right_any (op : Int) (now : Bool) (fl : Int) (A : Option Addr) (n c : Nat) (vals : List Nat) (h0 : -9223372036854775808 ≤ op) (h1 : op ≤ 9223372036854775807) (hvl : vals.length = n) (w : World) (hw : Laid w) (hu : U64s w A vals) :
    Calls Tryz.prog 63 #[hdA op now fl A n c] w fun e w' => ∃ v, e = .returned v ∧ Below w.heap.size w w' ∧ IsErr w' v (hdRight op now fl vals).1 (hdRight op now fl vals).2 := by
  unfold hdRight
  cases h : kindOf op with
  | none =>
    refine (right_none op now fl A n c h0 h1 h w hw).mono ?_
    rintro e w' ⟨rfl, hb⟩
    exact ⟨_, rfl, hb, .inl ⟨rfl, rfl⟩⟩
  | some k =>
    by_cases hx : hdForm k op now fl = true
    · simp only [hx, if_true]
      refine (right_form op now fl A n c h0 h1 k h hx w hw).mono ?_
      rintro e w' ⟨rfl, hb⟩
      exact ⟨_, rfl, hb, .inl ⟨rfl, rfl⟩⟩
    · have hx' : hdForm k op now fl = false := by simpa using hx
      simp only [hx']
      by_cases hn : k.l.length = vals.length
      · simp only [hn, ne_eq, not_true_eq_false, if_false, Bool.false_eq_true]
        refine (right_loop op now fl A n c vals h0 h1 k h hx' (by omega) hvl w hw hu).mono ?_
        rintro e w' ⟨v, rfl, hb, hi⟩
        refine ⟨v, rfl, hb, ?_⟩
        cases hb2 : firstBad k.l vals 0 with
        | none => rw [hb2] at hi; exact hi
        | some i => rw [hb2] at hi; exact hi
      · simp only [ne_eq, hn, not_false_eq_true, if_true, Bool.false_eq_true, if_false]
        refine (right_len op now fl A n c h0 h1 k h hx' (by omega) w hw).mono ?_
        rintro e w' ⟨rfl, hb⟩
        exact ⟨_, rfl, hb, .inl ⟨rfl, rfl⟩⟩
end Go.Proofs.YtkbjnlcongjokaaGreatDoor

/- FullRefuses: the calls that are told nothing: pairs.Right, PairsRight, nego.New, NewNego. -/
namespace Go.Proofs.YtkbjnlcongjokaaGreatDoor
open Go.RowKit
set_option maxRecDepth 100000 in
theorem pairsRight_nil (w : World) : Calls Tryz.prog 17 #[.slice none 0 0] w fun e w' => e = .returned .nilIface ∧ w' = w := by
  go_enter Tryz.func17, Tryz.ntmps17
  go_wp2_with fail
  go_loopw [11] (fun i wr => i = .int .i64 0 ∧ wr = w) (fun _ _ => 0)
  case atStart => exact ⟨rfl, rfl⟩
  case round =>
    obtain ⟨rfl, rfl⟩ := hrel
    go_wp2_with fail
    go_ret
    exact ⟨rfl, rfl⟩
set_option maxRecDepth 100000 in
theorem refPairsRight_nil (w : World) : Calls Tryz.prog 14 #[.slice none 0 0] w fun e w' => e = .returned (.agg #[.int .i64 0, .int .i64 (-1)]) ∧ Below w.heap.size w w' := by
  go_enter Tryz.func14, Tryz.ntmps14
  go_wp2_with fail
  go_loopw [10] (fun i wr => i = .int .i64 0 ∧ wr = w.alloc (.cells #[.int .i64 0, .int .i64 0] 34)) (fun _ _ => 0)
  case atStart => exact ⟨rfl, rfl⟩
  case round =>
    obtain ⟨rfl, rfl⟩ := hrel
    go_wp2_with fail
    refine (goodF_any _).mono ?_
    rintro e w1 ⟨rfl, hb⟩
    have hH : w1.heap[w.heap.size]? = some (.cells #[.int .i64 0, .int .i64 0] 34 (0, 0)) := (hb.block _ (by simp)).trans (alloc_heap_new w _)
    have hbb : Below w.heap.size w w1 := (below_alloc (Below.refl _ w) (Nat.le_refl _) _).trans (hb.mono (by simp))
    have HH := Lib.hid hH
    have HB := Lib.hid hbb
    clear hH hb hbb
    go_wp2_with (refine wpList_store_row rfl 34 _ _ rfl w.heap.size #[.int .i64 0, .int .i64 (-1)] rfl rfl 34 _ HH.out faultinfo rfl (by simp [Value.oneCell']) ?_)
    exact bodyPost_ret (results_cell_row Tryz.results14 _ _ w.heap.size 34 _ (0, 0) _ rfl (setRow_heap _ _ _ _ _ _ HH.out) Tryz.underlying34 rfl faultinfo) rfl ⟨rfl, below_setRow HB.out (Nat.le_refl _) _⟩
theorem after_any (c : Int) (h : 0 ≤ c ∧ c ≤ 4294967295) (w : World) : Calls Tryz.prog 46 #[.int .u32 c, .int .i64 31] w fun e w' => e = .returned (.int .u32 ((c + 31) % 4294967296)) ∧ w' = w := by
  have h1 : 0 ≤ c := h.1
  have h2 : c ≤ 4294967295 := h.2
  go_enter Tryz.func46, Tryz.ntmps46
  go_wp2
  go_ret
  exact ⟨rfl, rfl⟩
theorem refAfter_any (c : Int) (h : 0 ≤ c ∧ c ≤ 4294967295) (w : World) : Calls Tryz.prog 44 #[.int .u32 c, .int .i64 31] w fun e w' => e = .returned (.int .u32 ((c + 31) % 4294967296)) ∧ w' = w := by
  have h1 : 0 ≤ c := h.1
  have h2 : c ≤ 4294967295 := h.2
  go_enter Tryz.func44, Tryz.ntmps44
  go_wp2
  go_ret
  exact ⟨rfl, rfl⟩
set_option maxRecDepth 100000 in
theorem gather_new (w : World) : Calls Tryz.prog 24 #[.int .i64 8192] w fun e w' => e = .returned (.tuple #[.pointer (some ⟨w.heap.size, 0, none⟩), .nilIface]) ∧ w' = w.alloc (.cells #[.string ⟨#[]⟩, .int .i64 8192] 127) := by
  go_enter Tryz.func24, Tryz.ntmps24
  go_wp2_with fail
  go_ret2
  exact ⟨rfl, rfl⟩
end Go.Proofs.YtkbjnlcongjokaaGreatDoor

/- FullRefuses: NewNego and nego.New of nothing, TargetRight and target.Right of an empty target. -/
namespace Go.Proofs.YtkbjnlcongjokaaGreatDoor
open Go.RowKit
abbrev fc0 (c p : Int) : Array Value := #[.int .i64 c, .int .i64 p]
set_option maxRecDepth 100000 in
theorem newNego_nil (w : World) : Calls Tryz.prog 4 #[.slice none 0 0] w fun e w' => ∃ b, e = .returned (.tuple #[.pointer (some ⟨b, 0, none⟩), .agg #[.int .i64 0, .int .i64 (-1)]]) ∧ Below w.heap.size w w' ∧ w.heap.size ≤ b ∧
    w'.heap[b]? = some (.cells #[.slice none 0 0, .slice none 0 0] 73 (0, 0)) := by
  have hmm := @run_makeMap Tryz.prog
  go_enter Tryz.func4, Tryz.ntmps4
  go_wp2_with fail
  refine (refPairsRight_nil _).mono ?_
  rintro e w1 ⟨rfl, hb1⟩
  have hB1 : Below w.heap.size w (w1.alloc (.cells #[.int .i64 0, .int .i64 (-1)] 34)) := below_alloc ((below_alloc (Below.refl _ w) (Nat.le_refl _) _).trans (hb1.mono (by simp))) (Nat.le_refl _) _
  have hF1 : w1.heap[w.heap.size]? = some (.cells (fc0 0 0) 34 (0, 0)) := (hb1.block _ (by simp)).trans (alloc_heap_new w _)
  have hF2 : (w1.alloc (.cells #[.int .i64 0, .int .i64 (-1)] 34)).heap[w.heap.size]? = some (.cells (fc0 0 0) 34 (0, 0)) := (Below.heap_alloc _ _ _ (heap_lt hF1)).trans hF1
  have HB1 := Lib.hid hB1
  have HF2 := Lib.hid hF2
  clear hb1 hB1 hF1 hF2
  go_wp2_with fail
  refine (faultIs_any _ _ _).mono ?_
  rintro e w2 ⟨rfl, hb2⟩
  have hB2 := HB1.out.trans (hb2.mono HB1.out.size)
  have hF3 := (hb2.block _ (heap_lt HF2.out)).trans HF2.out
  rw [show ((0 : Int) == 0) = true from rfl]
  have HB2 := Lib.hid hB2
  have HF3 := Lib.hid hF3
  clear hb2 hB2 hF3
  go_wp2_with fail
  go_loopw [18] (fun i wr => i = .int .i64 0 ∧ Below w.heap.size w wr ∧ wr.heap[w.heap.size]? = some (.cells (fc0 0 0) 34 (0, 0))) (fun _ _ => 0)
  case atStart => exact ⟨rfl, below_alloc HB2.out (Nat.le_refl _) _, (Below.heap_alloc _ _ _ (heap_lt HF3.out)).trans HF3.out⟩
  case round =>
    obtain ⟨rfl, hb, hf⟩ := hrel
    have hb5 := below_alloc hb (Nat.le_refl _) (.cells #[.slice none 0 0, .slice none 0 0] 73)
    have hf5 := (Below.heap_alloc wr (.cells #[.slice none 0 0, .slice none 0 0] 73) _ (heap_lt hf)).trans hf
    have hn5 := alloc_heap_new wr (.cells #[.slice none 0 0, .slice none 0 0] 73)
    have hlt : w.heap.size < wr.heap.size := heap_lt hf
    have HB5 := Lib.hid hb5
    have HF5 := Lib.hid hf5
    have HN5 := Lib.hid hn5
    clear hb hf hb5 hf5 hn5
    go_wp2_with fail
    refine (goodF_any _).mono ?_
    rintro e w6 ⟨rfl, hb6⟩
    have hB6 := HB5.out.trans (hb6.mono HB5.out.size)
    have hF6 := (hb6.block _ (heap_lt HF5.out)).trans HF5.out
    have hN6 := (hb6.block _ (heap_lt HN5.out)).trans HN5.out
    have HB6 := Lib.hid hB6
    have HF6 := Lib.hid hF6
    have HN6 := Lib.hid hN6
    clear hb6 hB6 hF6 hN6
    go_wp2_with (refine wpList_store_row rfl 34 _ _ rfl w.heap.size #[.int .i64 0, .int .i64 (-1)] rfl rfl 34 _ HF6.out faultinfo rfl (by simp [Value.oneCell']) ?_)
    refine bodyPost_ret (results_1cell Tryz.results4 _ _ w.heap.size [.int .i64 0, .int .i64 (-1)] _ rfl (range_of_heap (setRow_heap _ _ _ _ _ _ HF6.out)) Tryz.underlying34 rfl faultinfo) rfl ?_
    refine ⟨_, rfl, below_setRow HB6.out (Nat.le_refl _) _, by omega, ?_⟩
    have hne : ¬ w.heap.size = wr.heap.size := by omega
    have := HN6.out
    simp only [World.setRow, Array.getElem?_modify, if_neg hne]
    exact this
theorem clone_nil (w : World) : Calls Tryz.prog 21 #[.slice none 0 0] w fun e w' => e = .returned (.slice none 0 0) ∧ w' = w := by
  have hne := fun (w : World) (a : Option Addr) (n c : Nat) => Lib.run_eql_slice_nil (P := Tryz.prog) w 28 70 a n c 0 0 Tryz.underlying28
  go_enter Tryz.func21, Tryz.ntmps21
  go_wp2_with fail
  go_ret
  exact ⟨rfl, rfl⟩
set_option maxRecDepth 100000 in
theorem negoNew_nil (w : World) : Calls Tryz.prog 5 #[.slice none 0 0] w fun e w' => e = .returned (.tuple #[.pointer (some ⟨w.heap.size, 0, none⟩), .nilIface]) ∧ w' = w.alloc (.cells #[.slice none 0 0, .slice none 0 0] 85) := by
  go_enter Tryz.func5, Tryz.ntmps5
  go_wp2_with fail
  refine (pairsRight_nil _).mono ?_
  rintro e w1 ⟨rfl, rfl⟩
  go_wp2_with fail
  go_loopw [17] (fun i wr => i = .int .i64 0 ∧ wr = w1) (fun _ _ => 0)
  case atStart => exact ⟨rfl, rfl⟩
  case round =>
    obtain ⟨rfl, rfl⟩ := hrel
    go_wp2_with fail
    refine (clone_nil _).mono ?_
    rintro e w2 ⟨rfl, rfl⟩
    go_wp2_with fail
    go_ret2
    exact ⟨rfl, rfl⟩
end Go.Proofs.YtkbjnlcongjokaaGreatDoor

/- FullRefuses: TargetRight and target.Right of an empty target; NewFull, full.New. -/
namespace Go.Proofs.YtkbjnlcongjokaaGreatDoor
open Go.RowKit
abbrev cf0 : List Value := [.slice none 0 0, .slice none 0 0, .slice none 0 0, .string ⟨#[]⟩, .string ⟨#[]⟩, .int .i64 512, .slice none 0 0]
set_option maxRecDepth 100000 in
set_option maxHeartbeats 1000000 in
theorem targetRight_0 (w : World) : Calls Tryz.prog 23 #[.agg cf0.toArray] w fun e w' => e = .returned .nilIface ∧ Below w.heap.size w w' := by
  have hmm := @run_makeMap Tryz.prog
  have hneq : ∀ w : World, (binOp .neq 27 (.agg #[.string ⟨#[]⟩, .string ⟨#[]⟩]) (.agg #[.string ⟨#[]⟩, .string ⟨#[]⟩])).run Tryz.prog w = .ok (.bool false) w := fun w => by kernel_rfl
  go_enter Tryz.func23, Tryz.ntmps23
  go_wp2_with fail
  go_loopw [34] (fun i wr => i = .int .i64 0 ∧ wr = (w.alloc (.cells cf0.toArray 30)).alloc (.map #[] 0)) (fun _ _ => 0)
  case atStart => exact ⟨rfl, rfl⟩
  case round =>
    obtain ⟨rfl, rfl⟩ := hrel
    go_wp2_with fail
    go_loopw [57] (fun i wr => i = .int .i64 0 ∧ wr = (w.alloc (.cells cf0.toArray 30)).alloc (.map #[] 0)) (fun _ _ => 0)
    case atStart => exact ⟨rfl, rfl⟩
    case round =>
      obtain ⟨rfl, rfl⟩ := hrel
      go_wp2_with fail
      go_loopw [89] (fun i wr => i = .int .i64 0 ∧ wr = ((w.alloc (.cells cf0.toArray 30)).alloc (.map #[] 0)).alloc (.map #[] 0)) (fun _ _ => 0)
      case atStart => exact ⟨rfl, rfl⟩
      case round =>
        obtain ⟨rfl, rfl⟩ := hrel
        go_wp2_with fail
        refine (negoNew_nil _).mono ?_
        rintro e w1 ⟨rfl, rfl⟩
        go_wp2_with fail
        go_ret
        exact ⟨rfl, below_alloc (below_alloc (below_alloc (below_alloc (Below.refl _ w) (Nat.le_refl _) _) (Nat.le_refl _) _) (Nat.le_refl _) _) (Nat.le_refl _) _⟩
set_option maxRecDepth 100000 in
set_option maxHeartbeats 1000000 in
theorem refTargetRight_0 (w : World) : Calls Tryz.prog 22 #[.agg cf0.toArray] w fun e w' => e = .returned (.agg #[.int .i64 0, .int .i64 (-1)]) ∧ Below w.heap.size w w' := by
  have h00 : ((⟨#[]⟩ : ByteArray) ++ (⟨#[]⟩ : ByteArray)).toList = [] := by first | (simp; done) | (simp [ByteArray.toList, ByteArray.toList.loop]; done) | (rw [show ((⟨#[]⟩ : ByteArray) ++ (⟨#[]⟩ : ByteArray)) = ⟨#[]⟩ from rfl]; unfold ByteArray.toList ByteArray.toList.loop; rfl)
  go_enter Tryz.func22, Tryz.ntmps22
  go_wp2_with fail
  go_loopw [34] (fun i wr => i = .int .i64 0 ∧ wr = (w.alloc (.cells cf0.toArray 30)).alloc (.cells (fc0 0 0) 34)) (fun _ _ => 0)
  case atStart => exact ⟨rfl, rfl⟩
  case round =>
    obtain ⟨rfl, rfl⟩ := hrel
    go_wp2_with fail
    go_loopw [57] (fun i wr => i = .int .i64 0 ∧ wr = (w.alloc (.cells cf0.toArray 30)).alloc (.cells (fc0 0 0) 34)) (fun _ _ => 0)
    case atStart => exact ⟨rfl, rfl⟩
    case round =>
      obtain ⟨rfl, rfl⟩ := hrel
      go_wp2_with fail
      go_loopw [78] (fun i wr => i = .int .i64 0 ∧ wr = (w.alloc (.cells cf0.toArray 30)).alloc (.cells (fc0 0 0) 34)) (fun _ _ => 0)
      case atStart => exact ⟨rfl, rfl⟩
      case round =>
        obtain ⟨rfl, rfl⟩ := hrel
        go_wp2_with fail
        refine (within_any _ _ _ _).mono ?_
        rintro e w1 ⟨rfl, rfl⟩
        rw [show wi 512 512 100000 = true from by decide]
        go_wp2_with fail
        refine (newNego_nil _).mono ?_
        rintro e w1 ⟨b, rfl, hb, -, -⟩
        have hB : Below w.heap.size w w1 := (below_alloc (below_alloc (Below.refl _ w) (Nat.le_refl _) _) (Nat.le_refl _) _).trans (hb.mono (by simp; omega))
        have hF : w1.heap[w.heap.size + 1]? = some (.cells (fc0 0 0) 34 (0, 0)) := (hb.block _ (by simp)).trans (by rw [show w.heap.size + 1 = (w.alloc (.cells cf0.toArray 30)).heap.size by simp]; exact alloc_heap_new _ _)
        have hB2 := below_alloc hB (Nat.le_refl _) (.cells #[.int .i64 0, .int .i64 (-1)] 34)
        have hF2 := (Below.heap_alloc w1 (.cells #[.int .i64 0, .int .i64 (-1)] 34) _ (heap_lt hF)).trans hF
        have HB2 := Lib.hid hB2
        have HF2 := Lib.hid hF2
        clear hb hB hF hB2 hF2
        go_wp2_with (refine wpList_store_row rfl 34 _ _ rfl (w.heap.size + 1) #[.int .i64 0, .int .i64 (-1)] rfl rfl 34 _ HF2.out faultinfo rfl (by simp [Value.oneCell']) ?_)
        exact bodyPost_ret (results_cell_row Tryz.results22 _ _ (w.heap.size + 1) 34 _ (0, 0) _ rfl (setRow_heap _ _ _ _ _ _ HF2.out) Tryz.underlying34 rfl faultinfo) rfl ⟨rfl, below_setRow HB2.out (by omega) _⟩
end Go.Proofs.YtkbjnlcongjokaaGreatDoor
