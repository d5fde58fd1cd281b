/- A part of the proof: Refuse4, Make, PduSpec, PduRead, PduLaw, Ahs, Flag, Write, Read, ReadLaw, Read2, PduGo, PduGo2, PduGo3, PduRef. -/
import Derived.Test.YtkbjnlcongjokaaGreatDoorJ03
import Derived.Deep.RegionHeld3
import Derived.Laws.MakeOwn
import Derived.BigRegion
import Derived.Test.YtkbjnlcongjokaaGreatDoorJ01
import Derived.Deep.AppendLies
import Derived.Lib.BufferWrite
import Derived.Lib.SlBuf
/- FullRefuses: NewFull, full.New. -/
namespace Go.Proofs.YtkbjnlcongjokaaGreatDoor
open Go.RowKit
/-- A box of seven cells. -/
theorem box7c {w : World} {b : Nat} {x0 x1 x2 x3 x4 x5 x6 : Value} {T : TypeId} (h : w.heap[b]? = some (.cells #[x0, x1, x2, x3, x4, x5, x6] T (0, 0))) :
    w.cell? ⟨b, 0, none⟩ = some x0 ∧ w.cell? ⟨b, 1, none⟩ = some x1 ∧ w.cell? ⟨b, 2, none⟩ = some x2 ∧ w.cell? ⟨b, 3, none⟩ = some x3 ∧ w.cell? ⟨b, 4, none⟩ = some x4 ∧ w.cell? ⟨b, 5, none⟩ = some x5 ∧ w.cell? ⟨b, 6, none⟩ = some x6 := by
  simp [World.cell?, h]
abbrev full0 (N : Value) (st cm : Int) (G : Value) : Array Value := #[N, .slice none 0 0, .slice none 0 0, .slice none 0 0, .string ⟨#[]⟩, .string ⟨#[]⟩, .int .i64 512, .slice none 0 0, .string ⟨#[]⟩, .bool true, .int .u32 st, .int .u32 cm, G, .slice none 0 0, .bool false]
theorem good_exact (w : World) : Calls Tryz.prog 16 #[] w fun e w' => e = .returned (.agg #[.int .i64 0, .int .i64 (-1)]) ∧ w' = w.alloc (.cells #[.int .i64 0, .int .i64 (-1)] 34) := by
  go_enter Tryz.func16, Tryz.ntmps16
  go_wp2_with fail
  exact bodyPost_ret (results_cell_row Tryz.results16 _ _ w.heap.size 34 _ (0, 0) _ rfl (alloc_heap_new w _) Tryz.underlying34 rfl faultinfo) rfl ⟨rfl, rfl⟩
set_option maxRecDepth 100000 in
theorem fullNew_0 (n : Nat) (st cm : Int) (w : World) : Calls Tryz.prog 8 #[.agg cf0.toArray, .pointer (some ⟨n, 0, none⟩), .string ⟨#[]⟩, .bool true, .int .u32 st, .int .u32 cm] w fun e w' => ∃ b g, e = .returned (.tuple #[.pointer (some ⟨b, 0, none⟩), .nilIface]) ∧ Below w.heap.size w w' ∧ w.heap.size ≤ b ∧
    w'.heap[b]? = some (.cells (full0 (.pointer (some ⟨n, 0, none⟩)) st cm (.pointer (some ⟨g, 0, none⟩))) 94 (0, 0)) := by
  go_enter Tryz.func8, Tryz.ntmps8
  go_wp2_with fail
  refine (targetRight_0 _).mono ?_
  rintro e w1 ⟨rfl, hb1⟩
  have hB : Below w.heap.size w w1 := (below_alloc (Below.refl _ w) (Nat.le_refl _) _).trans (hb1.mono (by simp))
  have hc := hb1.block w.heap.size (by simp)
  have hC := hc.trans (alloc_heap_new w (.cells cf0.toArray 30))
  obtain ⟨c0, c1, c2, c3, c4, c5, c6⟩ := box7c hC
  have hz : w.heap.size < w1.heap.size := heap_lt hC
  have HB := Lib.hid hB
  clear hb1 hB hc hC
  go_wp2_with fail
  refine (gather_new _).mono ?_
  rintro e w2 ⟨rfl, rfl⟩
  go_wp2_with fail
  go_ret2
  refine ⟨w1.heap.size + 1, w1.heap.size, rfl, below_alloc (below_alloc HB.out (Nat.le_refl _) _) (Nat.le_refl _) _, by omega, ?_⟩
  rw [show w1.heap.size + 1 = (w1.alloc (.cells #[.string ⟨#[]⟩, .int .i64 8192] 127)).heap.size by simp]
  exact alloc_heap_new _ _
theorem two_at (w : World) (o1 o2 : Obj) : ((w.alloc o1).alloc o2).heap[w.heap.size + 1]? = some o2 := by
  rw [show w.heap.size + 1 = (w.alloc o1).heap.size by simp]
  exact alloc_heap_new _ _
theorem old3 {w : World} {b : Nat} (h : b < w.heap.size) (o1 o2 o3 : Obj) (i : Nat) : (((w.alloc o1).alloc o2).alloc o3).drew.cell? ⟨b, i, none⟩ = w.cell? ⟨b, i, none⟩ :=
  (below_alloc (below_alloc (below_alloc (Below.refl w.heap.size w) (Nat.le_refl _) o1) (Nat.le_refl _) o2) (Nat.le_refl _) o3).drew.cell (p := ⟨b, i, none⟩) h
theorem old3f {w : World} {b : Nat} (h : b < w.heap.size) (o1 o2 o3 : Obj) (i : Nat) : (((w.alloc o1).alloc o2).alloc o3).drew.frozen? ⟨b, i, none⟩ = w.frozen? ⟨b, i, none⟩ :=
  (below_alloc (below_alloc (below_alloc (Below.refl w.heap.size w) (Nat.le_refl _) o1) (Nat.le_refl _) o2) (Nat.le_refl _) o3).drew.frozen (p := ⟨b, i, none⟩) h
theorem fault2 {w : World} {b : Nat} {c p : Int} (h : w.heap[b]? = some (.cells (fc0 c p) 34 (0, 0))) : w.cell? ⟨b, 0, none⟩ = some (.int .i64 c) ∧ w.cell? ⟨b, 1, none⟩ = some (.int .i64 p) ∧ w.frozen? ⟨b, 0, none⟩ = false ∧ w.frozen? ⟨b, 1, none⟩ = false := by
  simp [World.cell?, World.frozen?, h]
theorem old5 {w : World} {b c : Nat} (h : b < w.heap.size) (hc : b ≠ c) (o1 o2 o3 : Obj) (v u : Value) (i : Nat) : (((((w.setCell ⟨c, 0, none⟩ v).setCell ⟨c, 1, none⟩ u).alloc o1).alloc o2).alloc o3).drew.cell? ⟨b, i, none⟩ = w.cell? ⟨b, i, none⟩ := by
  have hb : ∀ (w : World) (c : Nat) (j : Nat) (v : Value), b ≠ c → (w.setCell ⟨c, j, none⟩ v).cell? ⟨b, i, none⟩ = w.cell? ⟨b, i, none⟩ := fun w c j v hc => World.cell?_of_block (a := ⟨b, i, none⟩) (Below.heap_setCell _ _ _ _ (by exact hc))
  refine ((below_alloc (below_alloc (below_alloc (Below.refl _ ((w.setCell ⟨c, 0, none⟩ v).setCell ⟨c, 1, none⟩ u)) (Nat.le_refl _) o1) (Nat.le_refl _) o2) (Nat.le_refl _) o3).drew.cell (p := ⟨b, i, none⟩) (by simpa using h)).trans ?_
  rw [hb _ _ _ _ hc, hb _ _ _ _ hc]
theorem fin5 {w0 w : World} {c : Nat} {x y : Int} (hb : Below w0.heap.size w0 w) (h0 : w0.heap.size ≤ c) (hc : w.heap[c]? = some (.cells (fc0 x y) 34 (0, 0))) (v u : Value) (o1 o2 o3 : Obj) :
    Below w0.heap.size w0 (((((w.setCell ⟨c, 0, none⟩ v).setCell ⟨c, 1, none⟩ u).alloc o1).alloc o2).alloc o3).drew ∧
    (((((w.setCell ⟨c, 0, none⟩ v).setCell ⟨c, 1, none⟩ u).alloc o1).alloc o2).alloc o3).drew.heap[c]? = some (.cells #[v, u] 34 (0, 0)) ∧
    (((((w.setCell ⟨c, 0, none⟩ v).setCell ⟨c, 1, none⟩ u).alloc o1).alloc o2).alloc o3).drew.heap[w.heap.size + 1]? = some o2 ∧
    (((((w.setCell ⟨c, 0, none⟩ v).setCell ⟨c, 1, none⟩ u).alloc o1).alloc o2).alloc o3).drew.heap[w.heap.size + 1 + 1]? = some o3 := by
  have hcs := heap_lt hc
  refine ⟨(below_alloc (below_alloc (below_alloc ((hb.setCell (p := ⟨c, 0, none⟩) h0 _).setCell (p := ⟨c, 1, none⟩) h0 _) (Nat.le_refl _) o1) (Nat.le_refl _) o2) (Nat.le_refl _) o3).drew, ?_, ?_, ?_⟩
  · show ((((w.setCell ⟨c, 0, none⟩ v).setCell ⟨c, 1, none⟩ u).alloc o1).alloc o2 |>.alloc o3).heap[c]? = _
    rw [Below.heap_alloc _ _ _ (by simp; omega), Below.heap_alloc _ _ _ (by simp; omega), Below.heap_alloc _ _ _ (by simp; omega)]
    simp [World.setCell, Array.getElem?_modify, hc]
  · show ((((w.setCell ⟨c, 0, none⟩ v).setCell ⟨c, 1, none⟩ u).alloc o1).alloc o2 |>.alloc o3).heap[w.heap.size + 1]? = _
    rw [Below.heap_alloc _ _ _ (by simp)]
    rw [show w.heap.size + 1 = (((w.setCell ⟨c, 0, none⟩ v).setCell ⟨c, 1, none⟩ u).alloc o1).heap.size by simp]
    exact alloc_heap_new _ _
  · show ((((w.setCell ⟨c, 0, none⟩ v).setCell ⟨c, 1, none⟩ u).alloc o1).alloc o2 |>.alloc o3).heap[w.heap.size + 1 + 1]? = _
    rw [show w.heap.size + 1 + 1 = ((((w.setCell ⟨c, 0, none⟩ v).setCell ⟨c, 1, none⟩ u).alloc o1).alloc o2).heap.size by simp]
    exact alloc_heap_new _ _
set_option maxRecDepth 100000 in
set_option maxHeartbeats 1000000 in
theorem newFull_0 (n : Nat) (st cm : Int) (w : World) : Calls Tryz.prog 7 #[.agg cf0.toArray, .pointer (some ⟨n, 0, none⟩), .string ⟨#[]⟩, .bool true, .int .u32 st, .int .u32 cm] w fun e w' => ∃ b g, e = .returned (.tuple #[.pointer (some ⟨b, 0, none⟩), .agg #[.int .i64 0, .int .i64 (-1)]]) ∧ Below w.heap.size w w' ∧ w.heap.size ≤ b ∧
    w'.heap[b]? = some (.cells (full0 (.pointer (some ⟨n, 0, none⟩)) st cm (.pointer (some ⟨g, 0, none⟩))) 65 (0, 0)) := by
  go_enter Tryz.func7, Tryz.ntmps7
  go_wp2_with fail
  refine (refTargetRight_0 _).mono ?_
  rintro e w1 ⟨rfl, hb1⟩
  have hB : Below w.heap.size w w1 := (below_alloc (below_alloc (Below.refl _ w) (Nat.le_refl _) _) (Nat.le_refl _) _).trans (hb1.mono (by simp; omega))
  have hC : w1.heap[w.heap.size]? = some (.cells cf0.toArray 30 (0, 0)) := (hb1.block _ (by simp; omega)).trans ((Below.heap_alloc _ _ _ (by simp)).trans (alloc_heap_new w _))
  have hF : w1.heap[w.heap.size + 1]? = some (.cells (fc0 0 0) 34 (0, 0)) := (hb1.block _ (by simp)).trans (two_at w _ _)
  have hB2 := below_alloc hB (Nat.le_refl _) (.cells #[.int .i64 0, .int .i64 (-1)] 34)
  have hC2 := (Below.heap_alloc w1 (.cells #[.int .i64 0, .int .i64 (-1)] 34) _ (heap_lt hC)).trans hC
  have hF2 := (Below.heap_alloc w1 (.cells #[.int .i64 0, .int .i64 (-1)] 34) _ (heap_lt hF)).trans hF
  have HB2 := Lib.hid hB2
  have HC2 := Lib.hid hC2
  have HF2 := Lib.hid hF2
  clear hb1 hB hC hF hB2 hC2 hF2
  go_wp2_with fail
  refine (faultIs_any _ _ _).mono ?_
  rintro e w3 ⟨rfl, hb3⟩
  rw [show ((0 : Int) == 0) = true from rfl]
  have hB3 := HB2.out.trans (hb3.mono HB2.out.size)
  have hC3 := (hb3.block _ (heap_lt HC2.out)).trans HC2.out
  have hF3 := (hb3.block _ (heap_lt HF2.out)).trans HF2.out
  obtain ⟨c0, c1, c2, c3, c4, c5, c6⟩ := box7c hC3
  have hz : w.heap.size + 1 < w3.heap.size := heap_lt hF3
  have hz0 : w.heap.size < w3.heap.size := by omega
  have HB3 := Lib.hid hB3
  have HF3 := Lib.hid hF3
  clear hb3 hB3 hC3 hF3
  go_wp2_with fail
  have hk3 := old3 hz0
  have hk6 := old5 (c := w.heap.size + 1) hz0 (by omega)
  have hk4 := old3 hz
  have hk5 := old3f hz
  obtain ⟨f0, f1, f2, f3⟩ := fault2 HF3.out
  go_region_held3 (fun w' => w'.cell? ⟨w.heap.size, 0, none⟩ = some (.slice none 0 0) ∧ w'.cell? ⟨w.heap.size, 1, none⟩ = some (.slice none 0 0) ∧ w'.cell? ⟨w.heap.size, 2, none⟩ = some (.slice none 0 0) ∧ w'.cell? ⟨w.heap.size, 3, none⟩ = some (.string ⟨#[]⟩) ∧ w'.cell? ⟨w.heap.size, 4, none⟩ = some (.string ⟨#[]⟩) ∧ w'.cell? ⟨w.heap.size, 5, none⟩ = some (.int .i64 512) ∧ w'.cell? ⟨w.heap.size, 6, none⟩ = some (.slice none 0 0)) (go_keep) ((go_at_call 16; refine (good_exact _).mono ?_; rintro e w7 ⟨rfl, rfl⟩))
  all_goals
    clear hk3 hk4 hk5 hk6 f0 f1 f2 f3 c0 c1 c2 c3 c4 c5 c6
    go_wp2_with fail
    refine bodyPost_ret (results_1cell Tryz.results7 _ _ (w.heap.size + 1) [.int .i64 0, .int .i64 (-1)] _ rfl (range_of_heap (fin5 HB3.out (by omega) HF3.out _ _ _ _ _).2.1) Tryz.underlying34 rfl faultinfo) rfl ?_
    have hfin := fin5 HB3.out (by omega) HF3.out (.int .i64 0) (.int .i64 (-1))
    first
    | exact ⟨w3.heap.size + 1, _, rfl, (hfin _ _ _).1, by omega, (hfin _ _ _).2.2.1⟩
    | exact ⟨w3.heap.size + 1 + 1, _, rfl, (hfin _ _ _).1, by omega, (hfin _ _ _).2.2.2⟩
end Go.Proofs.YtkbjnlcongjokaaGreatDoor

/- head.Make, where every name is a field's and the head is right. -/
namespace Go.Proofs.YtkbjnlcongjokaaGreatDoor
open Go.RowKit
/-- Strings that can be read, one behind the other. -/
structure StrsV (w : World) (A : Option Addr) (xs : List ByteArray) : Prop where
  at_ : ∀ (j : Nat) s, xs[j]? = some s → ∃ g o, A = some ⟨g, o, none⟩ ∧ g < w.heap.size ∧ w.cell? ⟨g, o + j, none⟩ = some (.string s)
theorem StrsV.below {w w' : World} {A : Option Addr} {xs : List ByteArray} (h : StrsV w A xs) (hb : Below w.heap.size w w') : StrsV w' A xs :=
  ⟨fun j s hs => by
    obtain ⟨g, o, h1, h2, h3⟩ := h.at_ j s hs
    exact ⟨g, o, h1, Nat.lt_of_lt_of_le h2 hb.size, (hb.cell (p := ⟨g, o + j, none⟩) h2).trans h3⟩⟩
/-- The last of the first k fields with that name. -/
def atOf (l : List Fld) (n : ByteArray) : Nat → Int
  | 0 => -1
  | k + 1 => match l[k]? with
    | some f => if f.n.toList == n.toList then (k : Int) else atOf l n k
    | none => atOf l n k
theorem atOf_bd (l : List Fld) (n : ByteArray) : ∀ k, -1 ≤ atOf l n k ∧ atOf l n k < k := by
  intro k
  induction k with
  | zero => unfold atOf; omega
  | succ k ih =>
    unfold atOf
    split
    · split <;> omega
    · omega
theorem atOf_yes {l : List Fld} {n : ByteArray} {k : Nat} {f : Fld} (hf : l[k]? = some f) (h : (f.n.toList == n.toList) = true) : atOf l n (k + 1) = k := by
  rw [atOf, hf]; simp only [h, if_true]
theorem atOf_no {l : List Fld} {n : ByteArray} {k : Nat} {f : Fld} (hf : l[k]? = some f) (h : (f.n.toList == n.toList) = false) : atOf l n (k + 1) = atOf l n k := by
  rw [atOf, hf]; simp [h]
/-- What the fields have behind the pairs of a name and a number. -/
def mkGo (l : List Fld) : List ByteArray → List Nat → List Nat → Option (List Nat)
  | [], _, out => some out
  | n :: ns, v :: vs, out => if atOf l n l.length < 0 then none else mkGo l ns vs (out.set (atOf l n l.length).toNat v)
  | _ :: _, [], _ => none
def u64V (xs : List Nat) : Array Value := (xs.map fun x : Nat => Value.int .u64 (x : Int)).toArray
abbrev hd0 : List Value := [.int .i64 0, .bool false, .int .i64 0, .slice none 0 0]
structure MkSt (w : World) (op fl : Int) (N : Nat) (b g gv : Nat) (l : List Fld) (An : Option Addr) (names : List ByteArray) (Av : Option Addr) (vals out : List Nat) (wr : World) : Prop where
  below : Below w.heap.size w wr
  res : wr.heap[w.heap.size]? = some (.cells hd0.toArray 51 (0, 0))
  flds : FldsV wr g l
  ns : StrsV wr An names
  vs : U64s wr Av vals
  hd : wr.heap[b]? = some (.cells #[.int .i64 op, .bool false, .int .i64 fl, .slice (some ⟨gv, 0, none⟩) N N] 51 (0, 0))
  outc : wr.heap[gv]? = some (.cells (u64V out) 97 (0, 0))
  len : out.length = N
  small : ∀ x ∈ out, x < 18446744073709551616
  apart : w.heap.size < gv ∧ g < gv ∧ b ≠ gv ∧ w.heap.size < b ∧ (∀ ad, Av = some ad → ad.block < gv) ∧ (∀ ad, An = some ad → ad.block < gv)
theorem MkSt.later {w : World} {op fl : Int} {N : Nat} {b g gv : Nat} {l : List Fld} {An : Option Addr} {names : List ByteArray} {Av : Option Addr} {vals out : List Nat} {wr w' : World} (h : MkSt w op fl N b g gv l An names Av vals out wr) (hb : Below wr.heap.size wr w') : MkSt w op fl N b g gv l An names Av vals out w' :=
  ⟨h.below.trans (hb.mono h.below.size), (hb.block _ (heap_lt h.res)).trans h.res, h.flds.below hb, h.ns.below hb, h.vs.below hb, (hb.block _ (heap_lt h.hd)).trans h.hd, (hb.block _ (heap_lt h.outc)).trans h.outc, h.len, h.small, h.apart⟩
theorem MkSt.cells {w : World} {op fl : Int} {N : Nat} {b g gv : Nat} {l : List Fld} {An : Option Addr} {names : List ByteArray} {Av : Option Addr} {vals out : List Nat} {wr : World} (h : MkSt w op fl N b g gv l An names Av vals out wr) :
    wr.cell? ⟨b, 0, none⟩ = some (.int .i64 op) ∧ wr.cell? ⟨b, 1, none⟩ = some (.bool false) ∧ wr.cell? ⟨b, 2, none⟩ = some (.int .i64 fl) ∧ wr.cell? ⟨b, 3, none⟩ = some (.slice (some ⟨gv, 0, none⟩) N N) := by
  simp [World.cell?, h.hd]
theorem MkSt.cell {w : World} {op fl : Int} {N : Nat} {b g gv : Nat} {l : List Fld} {An : Option Addr} {names : List ByteArray} {Av : Option Addr} {vals out : List Nat} {wr : World} (h : MkSt w op fl N b g gv l An names Av vals out wr) {j : Nat} (hj : j < N) :
    wr.cell? ⟨gv, j, none⟩ = some (.int .u64 (out.getD j 0 : Nat)) ∧ wr.frozen? ⟨gv, j, none⟩ = false := by
  have hl : j < out.length := by rw [h.len]; exact hj
  simp [World.cell?, World.frozen?, h.outc, u64V, List.getD, List.getElem?_eq_getElem hl]
theorem MkSt.put {w : World} {op fl : Int} {N : Nat} {b g gv : Nat} {l : List Fld} {An : Option Addr} {names : List ByteArray} {Av : Option Addr} {vals out : List Nat} {wr : World} (h : MkSt w op fl N b g gv l An names Av vals out wr) (j v : Nat) (hv : v < 18446744073709551616) :
    MkSt w op fl N b g gv l An names Av vals (out.set j v) (wr.setCell ⟨gv, j, none⟩ (.int .u64 (v : Int))) := by
  obtain ⟨p1, p2, p3, p4, p5, p6⟩ := h.apart
  have hg := grown_setCell wr ⟨gv, j, none⟩ (.int .u64 (v : Int))
  have hblk : ∀ i, i ≠ gv → (wr.setCell ⟨gv, j, none⟩ (.int .u64 (v : Int))).heap[i]? = wr.heap[i]? := fun i hi => Below.heap_setCell _ _ _ _ (by simpa using hi)
  refine ⟨h.below.setCell (p := ⟨gv, j, none⟩) (Nat.le_of_lt p1) _, (hblk _ (by omega)).trans h.res, ⟨fun i u hu => (World.cell?_of_block (a := ⟨g, i, none⟩) (hblk g (by omega))).trans (h.flds.cells i u hu), Nat.lt_of_lt_of_le h.flds.lt hg.size⟩,
    ⟨fun i s hs => ?_⟩, ⟨fun i x hx => ?_, h.vs.small⟩, (hblk b p3).trans h.hd, ?_, by rw [List.length_set]; exact h.len, fun x hx => ?_, h.apart⟩
  · obtain ⟨g', o, e1, e2, e3⟩ := h.ns.at_ i s hs
    have := p6 _ e1
    exact ⟨g', o, e1, Nat.lt_of_lt_of_le e2 hg.size, (World.cell?_of_block (a := ⟨g', o + i, none⟩) (hblk g' (by show g' ≠ gv; simp at this; omega))).trans e3⟩
  · obtain ⟨ad, e1, e2, e3⟩ := h.vs.at_ i x hx
    have := p5 _ e1
    exact ⟨ad, e1, Nat.lt_of_lt_of_le e2 hg.size, (World.cell?_of_block (a := ad.add i) (hblk _ (by rw [block_add]; omega))).trans e3⟩
  · have := h.outc
    simp [World.setCell, Array.getElem?_modify, this, u64V, List.map_set]
  · rcases List.mem_or_eq_of_mem_set hx with h1 | h1
    · exact h.small x h1
    · rw [h1]; exact hv
theorem zeros_u64 (n : Nat) : madeCells (Value.int .u64 0).cells (n * 1) = u64V (List.replicate n 0) := by
  rw [Nat.mul_one]
  apply Array.ext'
  apply List.ext_getElem
  · simp [madeCells, u64V, Value.cells]
  · intro i h1 h2
    have hm : i % 1 = 0 := Nat.mod_one i
    simp [madeCells, u64V, Value.cells, hm]
theorem results_cell1 {P : Program} {fn : Func} {p t1 : Tmp} {ty : TypeId} (h : fn.results = #[.cell p ty, .tmp t1]) (tmps : Array Value) (w : World) (g : Nat) (cs : List Value) (d : TypeDesc)
    (hp : tmps.getD p undef = .pointer (some ⟨g, 0, none⟩)) (hg : w.rangeAt g 0 cs) (hu : P.underlying ty = some d) (hd : d.isRow = true) (hi : (P.info? ty).map (·.size) = some cs.length) :
    (results fn tmps).run P w = .ok (.tuple #[.agg cs.toArray, tmps.getD t1 undef]) w := by
  have hp' : tmps[p]?.getD undef = .pointer (some ⟨g, 0, none⟩) := by simpa using hp
  simp [results, h, hp', asAddr, run_loadVar_mid w g 0 ty cs d hg hu hd hi]
theorem MkSt.outs {w : World} {op fl : Int} {N : Nat} {b g gv : Nat} {l : List Fld} {An : Option Addr} {names : List ByteArray} {Av : Option Addr} {vals out : List Nat} {wr : World} (h : MkSt w op fl N b g gv l An names Av vals out wr) : U64s wr (some ⟨gv, 0, none⟩) out :=
  ⟨fun k x hx => ⟨_, rfl, heap_lt h.outc, by
    have hl : k < out.length := (List.getElem?_eq_some_iff.1 hx).1
    rw [WideShapes.add_plain]
    simp [World.cell?, h.outc, u64V, hx]⟩, h.small⟩
theorem headinfo4 : (Tryz.prog.info? 51).map (·.size) = some 4 := by kernel_rfl
set_option maxRecDepth 100000 in
set_option maxHeartbeats 2000000 in
theorem make_good (op fl : Int) (An Av : Option Addr) (na ca nv cv : Nat) (names : List ByteArray) (vals : List Nat) (k : Knd) (h0 : -9223372036854775808 ≤ op) (h1 : op ≤ 9223372036854775807) (hk : kindOf op = some k) (out : List Nat)
    (hgo : mkGo k.l names vals (List.replicate k.l.length 0) = some out) (hr : (hdRight op false fl out).1 = 0) (hnl : names.length = na) (hvl : vals.length = nv) (hns : na ≤ 1000000) (hvs : nv ≤ 1000000) (w : World) (hw : Laid w) (hn : StrsV w An names) (hv : U64s w Av vals)
    (hna : ∀ ad, An = some ad → ad.block < w.heap.size) (hva : ∀ ad, Av = some ad → ad.block < w.heap.size) :
    Calls Tryz.prog 47 #[.int .i64 op, .int .i64 fl, .slice An na ca, .slice Av nv cv] w fun e w' => ∃ gv, e = .returned (.tuple #[hdA op false fl (some ⟨gv, 0, none⟩) k.l.length k.l.length, .nilIface]) ∧ Below w.heap.size w w' ∧ w.heap.size ≤ gv ∧ w'.heap[gv]? = some (.cells (u64V out) 97 (0, 0)) := by
  have hfit := kind_fit hk
  have hl12 := hfit.1
  have hF := fun w hw => fields_v op h0 h1 k hk w hw
  obtain ⟨N, hN⟩ : ∃ N, N = k.l.length := ⟨_, rfl⟩
  rw [← hN] at hl12 hgo ⊢
  have HF := Lib.hid hF
  have HW := Lib.hid hw
  have HN := Lib.hid hN
  have HGO := Lib.hid hgo
  have HR := Lib.hid hr
  have HNL := Lib.hid hnl
  have HVL := Lib.hid hvl
  have HSN := Lib.hid hn
  have HSV := Lib.hid hv
  have HNA := Lib.hid hna
  have HVA := Lib.hid hva
  obtain ⟨i1, hi, hz0, hz1, hz2⟩ := info_parts u64_info
  have hZ := zeros_u64 N
  have hmk : ∀ w : World, (Instr.makeSlice 49 (.int .i64 (N : Int)) (.int .i64 (N : Int))).run Tryz.prog w = .ok (.slice (some ⟨w.heap.size, 0, none⟩) N N) (w.alloc (.cells (u64V (List.replicate N 0)) 97)) := fun w => by
    have := run_makeSlice (P := Tryz.prog) w 49 97 i1 (.int .u64 0) Tryz.underlying49 hi hz0 .i64 .i64 N N (by omega) (Int.le_refl _) (by rw [hz1]; simp; omega) (by rw [hz2]; omega) (by omega)
    rw [hz1] at this
    simp only [Int.toNat_natCast] at this
    rw [hZ] at this
    exact this
  obtain ⟨Z, hZZ⟩ : ∃ Z, Z = u64V (List.replicate N 0) := ⟨_, rfl⟩
  rw [← hZZ] at hmk
  have HZ := Lib.hid hZZ
  clear hF hw hN hgo hr hnl hvl hn hv hna hva hk hfit hZ hZZ hi hz0 hz1 hz2
  go_enter Tryz.func47, Tryz.ntmps47
  go_wp2_with fail
  refine (HF.out _ (HW.out.below ((Below.refl _ _).alloc (Nat.le_refl _) _))).mono ?_
  rintro e w1 ⟨g, c, rfl, hb, hfl, hgw⟩
  rw [← HN.out]
  have hst : MkSt w op fl N (w1.heap.size + 1) g w1.heap.size k.l An names Av vals (List.replicate N 0) ((w1.alloc (.cells Z 97)).alloc (.cells #[.int .i64 op, .bool false, .int .i64 fl, .slice (some ⟨w1.heap.size, 0, none⟩) N N] 51)) := by
    have hbb : Below w.heap.size w w1 := ((Below.refl _ w).alloc (Nat.le_refl _) _).trans (hb.mono (by simp))
    have hlt : w.heap.size < w1.heap.size := by have := hb.size; simp at this; omega
    have hb2 : Below w1.heap.size w1 ((w1.alloc (.cells Z 97)).alloc (.cells #[.int .i64 op, .bool false, .int .i64 fl, .slice (some ⟨w1.heap.size, 0, none⟩) N N] 51)) := below_alloc (below_alloc (Below.refl _ _) (Nat.le_refl _) _) (Nat.le_refl _) _
    refine ⟨hbb.trans (hb2.mono (Nat.le_of_lt hlt)), (hb2.block _ hlt).trans ((hb.block _ (by simp)).trans (alloc_heap_new w _)), hfl.below hb2, (HSN.out.below hbb).below hb2, (HSV.out.below hbb).below hb2, ?_, ?_, by simp, fun x hx => ?_, hlt, hfl.lt, by omega, by omega, fun ad e => ?_, fun ad e => ?_⟩
    · rw [show w1.heap.size + 1 = (w1.alloc (.cells Z 97)).heap.size by simp]; exact alloc_heap_new _ _
    · rw [← HZ.out]
      exact (Below.heap_alloc _ _ _ (by simp)).trans (alloc_heap_new _ _)
    · rw [List.eq_of_mem_replicate hx]; omega
    · have := HVA.out ad e; omega
    · have := HNA.out ad e; omega
  have HST := Lib.hid hst
  have hgw' : w.heap.size ≤ w1.heap.size := by have := hb.size; simp at this; omega
  clear hst hb hfl hgw
  go_wp2_with fail
  clear hmk
  generalize World.alloc (World.alloc w1 _) _ = wS at HST ⊢
  generalize w1.heap.size = gv at HST hgw' ⊢
  go_loopw [36] (fun i wr => ∃ k0 : Nat, ∃ o0, i = .int .i64 k0 ∧ k0 ≤ na ∧ MkSt w op fl N (gv + 1) g gv k.l An names Av vals o0 wr ∧ mkGo k.l (names.drop k0) (vals.drop k0) o0 = some out) (fun i _ => na - (intOf i).toNat)
  case atStart => exact ⟨0, _, rfl, Nat.zero_le _, HST.out, HGO.out⟩
  case round =>
    obtain ⟨k0, o0, rfl, hk0, hst, hgo⟩ := hrel
    by_cases hlt : k0 < na
    · obtain ⟨nm, hnm⟩ : ∃ nm, names[k0]? = some nm := ⟨_, List.getElem?_eq_getElem (by rw [HNL.out]; exact hlt)⟩
      have hdn : names.drop k0 = nm :: names.drop (k0 + 1) := by
        rw [List.drop_eq_getElem_cons (by rw [HNL.out]; exact hlt)]
        rw [List.getElem?_eq_getElem (by rw [HNL.out]; exact hlt)] at hnm
        rw [Option.some.inj hnm]
      have hkv : k0 < vals.length := by
        rcases Nat.lt_or_ge k0 vals.length with h | h
        · exact h
        · rw [hdn, List.drop_eq_nil_of_le h] at hgo; cases hgo
      obtain ⟨v, hv⟩ : ∃ v, vals[k0]? = some v := ⟨_, List.getElem?_eq_getElem hkv⟩
      have hdv : vals.drop k0 = v :: vals.drop (k0 + 1) := by
        rw [List.drop_eq_getElem_cons hkv]
        rw [List.getElem?_eq_getElem hkv] at hv
        rw [Option.some.inj hv]
      rw [hdn, hdv, mkGo, ← HN.out] at hgo
      have hbd := atOf_bd k.l nm N
      have hat : ¬ atOf k.l nm N < 0 := fun h => by rw [if_pos h] at hgo; cases hgo
      rw [if_neg hat] at hgo
      obtain ⟨j, hj⟩ : ∃ j : Nat, atOf k.l nm N = (j : Int) := ⟨(atOf k.l nm N).toNat, by omega⟩
      rw [hj, Int.toNat_natCast] at hgo
      rw [hj] at hbd
      have hjN : j < N := by omega
      obtain ⟨g1, o1, rfl, hn1, hn2⟩ := hst.ns.at_ k0 nm hnm
      obtain ⟨ad, rfl, hv1, hv2⟩ := hst.vs.at_ k0 v hv
      have hvs64 := hst.vs.small v (List.mem_of_getElem? hv)
      have hki : (k0 : Int) < (na : Int) := by omega
      have HGO1 := Lib.hid hgo
      have HV0 := Lib.hid hv
      have HST1 := Lib.hid hst
      have HJ := Lib.hid hj
      have hkv' : k0 < nv := by rw [← HVL.out]; exact hkv
      have hkn : ¬ nv ≤ k0 := by omega
      clear hgo hst hj hdn hdv hnm hv hat hbd hkv hv2
      go_wp2_with fail
      go_loopw [15, 43] (fun at_ i wr => ∃ t : Nat, i = .int .i64 t ∧ t ≤ N ∧ at_ = .int .i64 (atOf k.l nm t) ∧ MkSt w op fl N (gv + 1) g gv k.l (some ⟨g1, o1, none⟩) names (some ad) vals o0 wr) (fun _ i _ => N - (intOf i).toNat)
      case atStart => exact ⟨0, rfl, Nat.zero_le _, rfl, HST1.out⟩
      case round =>
        obtain ⟨t, rfl, ht, rfl, hst⟩ := hrel
        have HST2 := Lib.hid hst
        clear hn2
        by_cases hlt2 : t < N
        · obtain ⟨f, hf⟩ : ∃ f, k.l[t]? = some f := ⟨_, List.getElem?_eq_getElem (by rw [← HN.out]; exact hlt2)⟩
          obtain ⟨d0, d1, d2⟩ := hst.flds.fld hf
          have hti : (t : Int) < (N : Int) := by omega
          have HF2 := Lib.hid hf
          clear hst hf
          cases heq : (f.n.toList == nm.toList) with
          | true =>
            go_wp2_with fail
            go_roundw
            case rel => exact ⟨t + 1, by go_num, by omega, by rw [atOf_yes HF2.out heq], HST2.out.later ((Below.refl _ _).alloc (Nat.le_refl _) _)⟩
            case measure => simp [intOf]; omega
          | false =>
            go_wp2_with fail
            go_roundw
            case rel => exact ⟨t + 1, by go_num, by omega, by rw [atOf_no HF2.out heq], HST2.out.later ((Below.refl _ _).alloc (Nat.le_refl _) _)⟩
            case measure => simp [intOf]; omega
        · obtain rfl : t = N := by omega
          rw [HJ.out]
          obtain ⟨c0, c1, c2, c3⟩ := hst.cells
          obtain ⟨ad', e1, e2, hv2⟩ := hst.vs.at_ k0 v HV0.out
          injection e1 with e1
          subst e1
          obtain ⟨oc, of⟩ := hst.cell hjN
          have hgl : gv < wr.heap.size := heap_lt hst.outc
          have hput := (hst.put j v hvs64)
          have HPUT := Lib.hid hput
          clear hst e2 hput
          go_wp2_with fail
          go_region
          go_wp2_with fail
          go_roundw
          case rel => exact ⟨k0 + 1, _, by go_num, by omega, HPUT.out.later (Below.refl _ _).drew, HGO1.out⟩
          case measure => simp [intOf]; omega
    · obtain rfl : k0 = na := by omega
      rw [← HNL.out, List.drop_length, mkGo] at hgo
      obtain rfl := Option.some.inj hgo
      obtain ⟨c0, c1, c2, c3⟩ := hst.cells
      have hR := right_any op false fl (some ⟨gv, 0, none⟩) N N o0 h0 h1 hst.len wr (HW.out.below hst.below) hst.outs
      have HRR := Lib.hid hR
      have HST1 := Lib.hid hst
      clear hgo hst hR
      go_wp2_with fail
      refine HRR.out.mono ?_
      rintro e w3 ⟨v, rfl, hb3, he⟩
      have hv0 : v = .nilIface := by
        rw [HR.out] at he
        rcases he with ⟨h, -⟩ | ⟨h, -⟩
        · exact h
        · exact absurd rfl h
      subst hv0
      have hst3 := HST1.out.later hb3
      obtain ⟨c0, c1, c2, c3⟩ := hst3.cells
      have HST3 := Lib.hid hst3
      have HRES := Lib.hid hst3.res
      clear hst3 he hb3
      go_wp2_with (refine wpList_store_row rfl 51 _ _ rfl w.heap.size #[.int .i64 op, .bool false, .int .i64 fl, .slice (some ⟨gv, 0, none⟩) N N] rfl rfl 51 _ HRES.out headinfo4 rfl (by simp [Value.oneCell']) ?_)
      refine bodyPost_ret (results_cell1 Tryz.results47 _ _ w.heap.size [.int .i64 op, .bool false, .int .i64 fl, .slice (some ⟨gv, 0, none⟩) N N] _ rfl (range_of_heap (setRow_heap _ _ _ _ _ _ HRES.out)) Tryz.underlying51 rfl headinfo4) rfl ?_
      refine ⟨gv, rfl, below_setRow HST3.out.below (Nat.le_refl _) _, hgw', ?_⟩
      have hne : ¬ w.heap.size = gv := by have := HST3.out.apart.1; omega
      have := HST3.out.outc
      simp only [World.setRow, Array.getElem?_modify, if_neg hne]
      exact this
end Go.Proofs.YtkbjnlcongjokaaGreatDoor

/- What a PDU's reading answers, the order of the errors: the spec for quaymasterref.PduRead (and pdu.Read). -/
namespace Go.Proofs.YtkbjnlcongjokaaGreatDoor
open Go.RowKit
/-- The bytes of the PDU. -/
def pduAll (l : List UInt8) (mode : Int) : List UInt8 := l.take (pduSize l mode).1.toNat
def pduEnd (l : List UInt8) : Nat := 48 + 4 * hw4 l
/-- What stands behind head, additions and their digest. -/
def pduRest (l : List UInt8) (mode : Int) : List UInt8 := if mode % 2 = 1 then ((pduAll l mode).drop (pduEnd l)).drop 4 else (pduAll l mode).drop (pduEnd l)
def pduErr (l : List UInt8) (mode : Int) : Int :=
  if (pduSize l mode).2 ≠ 0 then (pduSize l mode).2
  else if (l.length : Int) < (pduSize l mode).1 then 7
  else if mode % 2 = 1 ∧ ((pduAll l mode).drop (pduEnd l)).take 4 ≠ digest ((pduAll l mode).take (pduEnd l)) then 15
  else if headErr ((pduAll l mode).take 48) ≠ 0 then headErr ((pduAll l mode).take 48)
  else if (ahsAll (((pduAll l mode).take (pduEnd l)).drop 48)).2.1 ≠ 0 then (ahsAll (((pduAll l mode).take (pduEnd l)).drop 48)).2.1
  else if (unpad (pduRest l mode) (dlen l)).2.2 ≠ 0 then (unpad (pduRest l mode) (dlen l)).2.2
  else if (unpad (pduRest l mode) (dlen l)).2.1 < (pduRest l mode).length ∧
      (pduRest l mode).drop (unpad (pduRest l mode) (dlen l)).2.1.toNat ≠ digest ((pduRest l mode).take (unpad (pduRest l mode) (dlen l)).2.1.toNat) then 13
  else if 100000 < dlen l then 4 else 0
end Go.Proofs.YtkbjnlcongjokaaGreatDoor

/- quaymasterref.PduRead: the refusals. UNFINISHED. -/
namespace Go.Proofs.YtkbjnlcongjokaaGreatDoor
open Go.RowKit
def pzL : List Value := [.int .i64 0, .bool false, .int .i64 0, .slice none 0 0, .slice none 0 0, .string ⟨#[]⟩]
theorem pduinfo : (Tryz.prog.info? 54).map (·.size) = some 6 := by kernel_rfl
theorem results_cell2 {P : Program} {fn : Func} {p t1 t2 : Tmp} {ty : TypeId} (h : fn.results = #[.cell p ty, .tmp t1, .tmp t2]) (tmps : Array Value) (w : World) (g : Nat) (cs : List Value) (d : TypeDesc)
    (hp : tmps.getD p undef = .pointer (some ⟨g, 0, none⟩)) (hg : w.rangeAt g 0 cs) (hu : P.underlying ty = some d) (hd : d.isRow = true) (hi : (P.info? ty).map (·.size) = some cs.length) :
    (results fn tmps).run P w = .ok (.tuple #[.agg cs.toArray, tmps.getD t1 undef, tmps.getD t2 undef]) w := by
  have hp' : tmps[p]?.getD undef = .pointer (some ⟨g, 0, none⟩) := by simpa using hp
  simp [results, h, hp', asAddr, run_loadVar_mid w g 0 ty cs d hg hu hd hi]
end Go.Proofs.YtkbjnlcongjokaaGreatDoor

/- The spec of a PDU's reading, cut by the numbers z (all) and E (head and additions); plain. -/
namespace Go.Proofs.YtkbjnlcongjokaaGreatDoor
open Go.RowKit
theorem errV_ne {e : Int} (h : e ≠ 0) : errV e = .iface 32 (.int .i64 e) := by rw [errV, if_neg h]
/-- The numbers of a PDU whose head may be asked. -/
structure PduNum (l : List UInt8) (mode : Int) (z E P : Nat) : Prop where
  m0 : 0 ≤ mode
  m3 : mode ≤ 3
  len : 48 ≤ l.length
  size : pduSize l mode = ((z : Int), 0)
  E_eq : E = 48 + 4 * hw4 l
  P_eq : padI (dlen l) = (P : Int)
  z_eq : (z : Int) = E + dlen l + P + 4 * (mode % 2) + (if dlen l = 0 then 0 else 4 * (mode / 2))
theorem pdu_num {l : List UInt8} {mode : Int} (h : (pduSize l mode).2 = 0) : ∃ z E P, PduNum l mode z E P := by
  unfold pduSize at h
  by_cases h1 : wi mode 0 3 = false
  · rw [if_pos h1] at h; cases h
  · rw [if_neg h1] at h
    by_cases h2 : l.length < 48
    · rw [if_pos h2] at h; cases h
    · have hm : 0 ≤ mode ∧ mode ≤ 3 := by
        by_cases hm : 0 ≤ mode ∧ mode ≤ 3
        · exact hm
        · exact absurd (wi_no hm) h1
      have hb := szN_bd l mode hm.1 hm.2
      have hp := padI_bd (dlen l)
      refine ⟨(szN l mode).toNat, 48 + 4 * hw4 l, (padI (dlen l)).toNat, hm.1, hm.2, by omega, ?_, rfl, by omega, ?_⟩
      · unfold pduSize
        rw [if_neg h1, if_neg h2]
        congr 1
        omega
      · have : ((szN l mode).toNat : Int) = szN l mode := by omega
        rw [this]
        unfold szN
        push_cast
        omega
theorem PduNum.bounds {l : List UInt8} {mode : Int} {z E P : Nat} (h : PduNum l mode z E P) : 48 ≤ E ∧ E ≤ 1068 ∧ P ≤ 3 ∧ dlen l ≤ 16777215 ∧ z ≤ 17000000 ∧ E + dlen l + P ≤ z ∧ (mode % 2 = 1 → E + 4 + dlen l + P ≤ z) := by
  have h1 := hw4_lt l
  have h2 := dlen_lt l
  have h3 := padI_bd (dlen l)
  have h4 := h.P_eq
  have h5 := h.z_eq
  have h6 := h.E_eq
  have h7 := h.m0
  have h8 := h.m3
  refine ⟨by omega, by omega, by omega, h2, ?_, ?_, ?_⟩
  · split at h5 <;> omega
  · split at h5 <;> omega
  · intro hm
    split at h5 <;> omega
/-- What stands behind the head's part. -/
def at2 (E : Nat) (mode : Int) : Nat := E + 4 * (mode % 2).toNat
theorem pdu_all {l : List UInt8} {mode : Int} {z E P : Nat} (h : PduNum l mode z E P) : pduAll l mode = l.take z := by unfold pduAll; rw [h.size]; rfl
theorem pdu_end {l : List UInt8} {mode : Int} {z E P : Nat} (h : PduNum l mode z E P) : pduEnd l = E := h.E_eq.symm
theorem pdu_rest {l : List UInt8} {mode : Int} {z E P : Nat} (h : PduNum l mode z E P) : pduRest l mode = (l.take z).drop (at2 E mode) := by
  unfold pduRest at2
  rw [pdu_all h, pdu_end h]
  have h7 := h.m0
  by_cases hm : mode % 2 = 1
  · rw [if_pos hm, List.drop_drop, hm]; rfl
  · rw [if_neg hm]
    have : mode % 2 = 0 := by omega
    rw [this]; rfl
theorem rest_len {l : List UInt8} {mode : Int} {z E P : Nat} (h : PduNum l mode z E P) (hl : z ≤ l.length) : (pduRest l mode).length = dlen l + P + (if dlen l = 0 then 0 else 4 * (mode / 2)).toNat := by
  rw [pdu_rest h, List.length_drop, List.length_take, Nat.min_eq_left hl]
  have hb := h.bounds
  have h5 := h.z_eq
  have h7 := h.m0
  have h8 := h.m3
  unfold at2
  split at h5 <;> split <;> omega
theorem pdu_tail {l : List UInt8} {mode : Int} {z E P : Nat} (h : PduNum l mode z E P) (hl : z ≤ l.length) :
    (if (unpad (pduRest l mode) (dlen l)).2.2 ≠ 0 then (unpad (pduRest l mode) (dlen l)).2.2
      else if (unpad (pduRest l mode) (dlen l)).2.1 < (pduRest l mode).length ∧
        (pduRest l mode).drop (unpad (pduRest l mode) (dlen l)).2.1.toNat ≠ digest ((pduRest l mode).take (unpad (pduRest l mode) (dlen l)).2.1.toNat) then 13
      else if 100000 < dlen l then 4 else (0 : Int)) =
    if (unpad (pduRest l mode) (dlen l)).2.2 ≠ 0 then (unpad (pduRest l mode) (dlen l)).2.2
    else if mode / 2 = 1 ∧ 0 < dlen l ∧ (pduRest l mode).drop (dlen l + P) ≠ digest ((pduRest l mode).take (dlen l + P)) then 13
    else if 100000 < dlen l then 4 else 0 := by
  have hr := rest_len h hl
  have h7 := h.m0
  have h8 := h.m3
  by_cases c : (unpad (pduRest l mode) (dlen l)).2.2 ≠ 0
  · rw [if_pos c, if_pos c]
  · rw [if_neg c, if_neg c]
    have hu : (unpad (pduRest l mode) (dlen l)).2.1 = ((dlen l + P : Nat) : Int) := by
      unfold unpad at c ⊢
      rw [if_neg (by omega)] at c ⊢
      by_cases a : (dlen l : Int) > (pduRest l mode).length ∨ (dlen l : Int) + padI (dlen l) > (pduRest l mode).length
      · rw [if_pos a] at c; simp at c
      · rw [if_neg a] at c ⊢
        by_cases b : padded ((pduRest l mode).take (dlen l : Int).toNat) ≠ (pduRest l mode).take ((dlen l : Int) + padI (dlen l)).toNat
        · rw [if_pos b] at c; simp at c
        · rw [if_neg b]
          show (dlen l : Int) + padI (dlen l) = _
          rw [h.P_eq]; omega
    rw [hu, Int.toNat_natCast]
    have key : (((dlen l + P : Nat) : Int) < (pduRest l mode).length) ↔ (mode / 2 = 1 ∧ 0 < dlen l) := by
      rw [hr]
      by_cases hd : dlen l = 0
      · rw [if_pos hd]; simp; omega
      · rw [if_neg hd]; omega
    by_cases a : mode / 2 = 1 ∧ 0 < dlen l
    · by_cases b : (pduRest l mode).drop (dlen l + P) ≠ digest ((pduRest l mode).take (dlen l + P))
      · rw [if_pos ⟨key.2 a, b⟩, if_pos ⟨a.1, a.2, b⟩]
      · have n1 : ¬ (((dlen l + P : Nat) : Int) < (pduRest l mode).length ∧ (pduRest l mode).drop (dlen l + P) ≠ digest ((pduRest l mode).take (dlen l + P))) := fun x => b x.2
        have n2 : ¬ (mode / 2 = 1 ∧ 0 < dlen l ∧ (pduRest l mode).drop (dlen l + P) ≠ digest ((pduRest l mode).take (dlen l + P))) := fun x => b x.2.2
        rw [if_neg n1, if_neg n2]
    · have n1 : ¬ (((dlen l + P : Nat) : Int) < (pduRest l mode).length ∧ (pduRest l mode).drop (dlen l + P) ≠ digest ((pduRest l mode).take (dlen l + P))) := fun x => a (key.1 x.1)
      have n2 : ¬ (mode / 2 = 1 ∧ 0 < dlen l ∧ (pduRest l mode).drop (dlen l + P) ≠ digest ((pduRest l mode).take (dlen l + P))) := fun x => a ⟨x.1, x.2.1⟩
      rw [if_neg n1, if_neg n2]
/-- The errors in their order, in these numbers. -/
theorem pdu_err {l : List UInt8} {mode : Int} {z E P : Nat} (h : PduNum l mode z E P) (hl : z ≤ l.length) : pduErr l mode =
    if mode % 2 = 1 ∧ (l.drop E).take 4 ≠ digest (l.take E) then 15
    else if headErr (l.take 48) ≠ 0 then headErr (l.take 48)
    else if (ahsAll ((l.take E).drop 48)).2.1 ≠ 0 then (ahsAll ((l.take E).drop 48)).2.1
    else if (unpad (pduRest l mode) (dlen l)).2.2 ≠ 0 then (unpad (pduRest l mode) (dlen l)).2.2
    else if mode / 2 = 1 ∧ 0 < dlen l ∧ (pduRest l mode).drop (dlen l + P) ≠ digest ((pduRest l mode).take (dlen l + P)) then 13
    else if 100000 < dlen l then 4 else 0 := by
  have hb := h.bounds
  have h7 := h.m0
  have h8 := h.m3
  unfold pduErr
  rw [h.size, pdu_all h, pdu_end h]
  rw [if_neg (show ¬ (((z : Int), (0 : Int)).2 ≠ 0) from fun x => x rfl), if_neg (show ¬ ((l.length : Int) < ((z : Int), (0 : Int)).1) from fun x => by have x' : (l.length : Int) < (z : Int) := x; omega)]
  have e1 : ((l.take z).drop E).take 4 = (l.take z |>.drop E).take 4 := rfl
  have e2 : (l.take z).take E = l.take E := by rw [List.take_take, Nat.min_eq_left (by omega)]
  have e3 : (l.take z).take 48 = l.take 48 := by rw [List.take_take, Nat.min_eq_left (by omega)]
  rw [e2, e3]
  by_cases c1 : mode % 2 = 1
  · have e4 : ((l.take z).drop E).take 4 = (l.drop E).take 4 := by
      rw [List.drop_take, List.take_take, Nat.min_eq_left (by have := hb.2.2.2.2.2.2 c1; omega)]
    rw [e4]
    by_cases c2 : mode % 2 = 1 ∧ (l.drop E).take 4 ≠ digest (l.take E)
    · rw [if_pos c2, if_pos c2]
    · rw [if_neg c2, if_neg c2]
      by_cases c3 : headErr (l.take 48) ≠ 0
      · rw [if_pos c3, if_pos c3]
      · rw [if_neg c3, if_neg c3]
        by_cases c4 : (ahsAll ((l.take E).drop 48)).2.1 ≠ 0
        · rw [if_pos c4, if_pos c4]
        · rw [if_neg c4, if_neg c4]
          exact pdu_tail h hl
  · have n1 : ¬ (mode % 2 = 1 ∧ ((l.take z).drop E).take 4 ≠ digest (l.take E)) := fun x => c1 x.1
    have n2 : ¬ (mode % 2 = 1 ∧ (l.drop E).take 4 ≠ digest (l.take E)) := fun x => c1 x.1
    rw [if_neg n1, if_neg n2]
    by_cases c3 : headErr (l.take 48) ≠ 0
    · rw [if_pos c3, if_pos c3]
    · rw [if_neg c3, if_neg c3]
      by_cases c4 : (ahsAll ((l.take E).drop 48)).2.1 ≠ 0
      · rw [if_pos c4, if_pos c4]
      · rw [if_neg c4, if_neg c4]
        exact pdu_tail h hl
end Go.Proofs.YtkbjnlcongjokaaGreatDoor

/- ahs.Read: against the spec of quaymasterref.AhsRead. -/
namespace Go.Proofs.YtkbjnlcongjokaaGreatDoor
open Go.RowKit
theorem count_zero (l : List UInt8) : Lib.countByte l 0 = l.length ↔ ∀ b ∈ l, b = 0 := by
  unfold Lib.countByte
  rw [List.count_eq_length]
  exact ⟨fun h b hb => (h b hb).symm, fun h b hb => (h b hb).symm⟩
theorem pad_count (s : List UInt8) (m p : Nat) (hp : (padI m).toNat = p) (h : m + p ≤ s.length) : padded (s.take m) = s.take (m + p) ↔ Lib.countByte ((s.drop m).take p) 0 = p := by
  have h1 := pad_iff s m (by rw [hp]; exact h)
  rw [hp] at h1
  rw [h1, trim_nil]
  have hl : ((s.drop m).take p).length = p := by rw [List.length_take, List.length_drop]; omega
  have := count_zero ((s.drop m).take p)
  rw [hl] at this
  exact this.symm
structure AhSt (w wr : World) (l : List UInt8) (i0 : Nat) (acc : List (Int × List UInt8)) (out : Value) : Prop where
  below : Below w.heap.size w wr
  rows : wr.ownsRow w.heap.size 103 2 out acc.length (ahsV acc)
  le : i0 ≤ l.length
  few : 3 * acc.length ≤ i0
  same : ahsRead l (l.length + 1) 0 [] = ahsRead l (l.length + 1 - acc.length) i0 acc
/-- What ahs.Read answers. -/
def AhPost (w : World) (r : List (Int × List UInt8) × Int × Int) (e : Ending) (w' : World) : Prop := Below w.heap.size w w' ∧ ∃ v er, e = .returned (.tuple #[v, er]) ∧ IsErr w' er r.2.1 r.2.2 ∧ w'.ownsRow w.heap.size 103 2 v r.1.length (ahsV r.1)
end Go.Proofs.YtkbjnlcongjokaaGreatDoor

/- A head's flags against a mask; plain. -/
namespace Go.Proofs.YtkbjnlcongjokaaGreatDoor
open Go.RowKit
theorem bits64_andNot (x y : BitVec 64) : (x &&& ~~~y = 0#64) ↔ x &&& y = x := by
  constructor
  · intro h
    apply BitVec.eq_of_getLsbD_eq
    intro i hi
    have := congrArg (fun z => z.getLsbD i) h
    simp only [BitVec.getLsbD_and, BitVec.getLsbD_not, BitVec.getLsbD_zero, hi, decide_true, Bool.true_and] at this ⊢
    revert this
    cases x.getLsbD i <;> cases y.getLsbD i <;> simp
  · intro h
    apply BitVec.eq_of_getLsbD_eq
    intro i hi
    have := congrArg (fun z => z.getLsbD i) h
    simp only [BitVec.getLsbD_and, BitVec.getLsbD_not, BitVec.getLsbD_zero, hi, decide_true, Bool.true_and] at this ⊢
    revert this
    cases x.getLsbD i <;> cases y.getLsbD i <;> simp
theorem bits64_or (x y : BitVec 64) : (x ||| y = y) ↔ x &&& y = x := by
  constructor
  · intro h
    apply BitVec.eq_of_getLsbD_eq
    intro i hi
    have := congrArg (fun z => z.getLsbD i) h
    simp only [BitVec.getLsbD_and, BitVec.getLsbD_or] at this ⊢
    revert this
    cases x.getLsbD i <;> cases y.getLsbD i <;> simp
  · intro h
    apply BitVec.eq_of_getLsbD_eq
    intro i hi
    have := congrArg (fun z => z.getLsbD i) h
    simp only [BitVec.getLsbD_and, BitVec.getLsbD_or] at this ⊢
    revert this
    cases x.getLsbD i <;> cases y.getLsbD i <;> simp
theorem i64_wrap_zero (n : Nat) (h : n < 18446744073709551616) : IntKind.i64.wrap (n : Int) = 0 ↔ n = 0 := by rw [IntKind.wrap_i64]; omega
theorem andNot_zero (a b : Int) : (bits .andNot .i64 a b != 0) = false ↔ BitVec.ofInt 64 a &&& BitVec.ofInt 64 b = BitVec.ofInt 64 a := by
  rw [← bits64_andNot]
  have : (bits .andNot .i64 a b != 0) = false ↔ bits .andNot .i64 a b = 0 := by simp
  rw [this]
  show IntKind.i64.wrap (((BitVec.ofInt 64 a &&& ~~~ BitVec.ofInt 64 b).toNat : Nat) : Int) = 0 ↔ _
  rw [i64_wrap_zero _ (BitVec.isLt _)]
  constructor
  · intro h; exact BitVec.eq_of_toNat_eq (by simpa using h)
  · intro h; rw [h]; rfl
theorem ofInt_toNat64 (a : Int) (h0 : 0 ≤ a) (h1 : a ≤ 9223372036854775807) : (BitVec.ofInt 64 a).toNat = a.toNat := by
  rw [BitVec.toNat_ofInt]; omega
theorem or_same (a b : Int) (h0 : 0 ≤ b) (h1 : b ≤ 9223372036854775807) : (bits .or .i64 a b != b) = false ↔ BitVec.ofInt 64 a &&& BitVec.ofInt 64 b = BitVec.ofInt 64 a := by
  rw [← bits64_or]
  have : (bits .or .i64 a b != b) = false ↔ bits .or .i64 a b = b := by simp
  rw [this]
  show IntKind.i64.wrap (((BitVec.ofInt 64 a ||| BitVec.ofInt 64 b).toNat : Nat) : Int) = b ↔ _
  have hb := ofInt_toNat64 b h0 h1
  constructor
  · intro h
    apply BitVec.eq_of_toNat_eq
    rw [hb]
    have hl := (BitVec.ofInt 64 a ||| BitVec.ofInt 64 b).isLt
    rw [IntKind.wrap_i64] at h
    omega
  · intro h
    rw [h, hb, IntKind.wrap_i64]; omega
theorem flags_or (a b : Int) (h0 : 0 ≤ b) (h1 : b ≤ 9223372036854775807) : (bits .or .i64 a b != b) = (bits .andNot .i64 a b != 0) := by
  have h2 := (or_same a b h0 h1).trans (andNot_zero a b).symm
  cases h3 : (bits .or .i64 a b != b) <;> cases h4 : (bits .andNot .i64 a b != 0)
  · rfl
  · rw [h3, h4] at h2; simp at h2
  · rw [h3, h4] at h2; simp at h2
  · rfl
theorem flags_le {a b : Int} (ha0 : 0 ≤ a) (ha1 : a ≤ 9223372036854775807) (h0 : 0 ≤ b) (h1 : b ≤ 9223372036854775807) (h : (bits .andNot .i64 a b != 0) = false) : a ≤ b := by
  have h2 := congrArg BitVec.toNat ((andNot_zero a b).1 h)
  rw [BitVec.toNat_and, ofInt_toNat64 a ha0 ha1, ofInt_toNat64 b h0 h1] at h2
  have : a.toNat &&& b.toNat ≤ b.toNat := Nat.and_le_right
  omega
theorem kinds_num : (kinds.all fun k => decide (0 ≤ k.m) && decide (k.m ≤ 255) && decide (0 ≤ k.op) && decide (k.op ≤ 63) && bits .or .u8 k.op 64 == k.op + 64) = true := by kernel_rfl
theorem kind_num {op : Int} {k : Knd} (h : kindOf op = some k) : (0 ≤ k.m ∧ k.m ≤ 255) ∧ k.op = op ∧ 0 ≤ op ∧ op ≤ 63 ∧ bits .or .u8 op 64 = op + 64 := by
  have hm := List.mem_of_find?_eq_some h
  have he : k.op = op := by have := List.find?_some h; simpa using this
  have := List.all_eq_true.1 kinds_num k hm
  simp only [Bool.and_eq_true, decide_eq_true_eq, beq_iff_eq] at this
  rw [he] at this
  exact ⟨⟨this.1.1.1.1, this.1.1.1.2⟩, he, this.1.1.2, this.1.2, this.2⟩
end Go.Proofs.YtkbjnlcongjokaaGreatDoor

/- head.Write, of a head that is right. -/
namespace Go.Proofs.YtkbjnlcongjokaaGreatDoor
open Go.RowKit Go.Deep
def splice (b : List UInt8) (i : Nat) (s : List UInt8) : List UInt8 := b.take i ++ s ++ b.drop (i + s.length)
theorem splice_len (b : List UInt8) (i : Nat) (s : List UInt8) (h : i + s.length ≤ b.length) : (splice b i s).length = b.length := by
  simp [splice]; omega
def hdBase (o : Nat) (now : Bool) (f wd d : Nat) : List UInt8 := [UInt8.ofNat (o + if now then 64 else 0), UInt8.ofNat f, 0, 0, UInt8.ofNat wd, UInt8.ofNat (d / 65536), UInt8.ofNat (d / 256 % 256), UInt8.ofNat (d % 256)] ++ List.replicate 40 0
def hdN (l : List (Fld × Nat)) (b : List UInt8) : List UInt8 := l.foldl (fun b x => splice b x.1.a.toNat (beB x.2 x.1.b.toNat)) b
theorem beB_len (n m : Nat) : (beB n m).length = m := by simp [beB]
theorem hdN_len : ∀ (l : List (Fld × Nat)) (b : List UInt8), (∀ x ∈ l, 0 ≤ x.1.a ∧ 1 ≤ x.1.b ∧ x.1.b ≤ 8 ∧ x.1.a + x.1.b ≤ 48) → b.length = 48 → (hdN l b).length = 48
  | [], b, _, h => h
  | x :: l, b, hx, h => by
    have h1 := hx x (by simp)
    rw [hdN, List.foldl_cons]
    exact hdN_len l _ (fun y hy => hx y (by simp [hy])) (by rw [splice_len _ _ _ (by rw [beB_len, h]; omega)]; exact h)
def bytesV (l : List UInt8) : List Value := l.map fun c => Value.int .u8 (c.toNat : Int)
theorem bytesV_eq (l : List UInt8) : Lib.byteCells l = bytesV l := rfl
theorem splice_cells (b : List UInt8) (i : Nat) (s : ByteArray) : ((bytesV b).toArray.toList.take i ++ Lib.byteCells s.data.toList ++ (bytesV b).toArray.toList.drop (i + s.size)).toArray = (bytesV (splice b i s.data.toList)).toArray := by
  rw [bytesV_eq]
  congr 1
  rw [Lib.size_eq]; simp [bytesV, splice]
theorem u8_size : (Tryz.prog.info? 5).map (·.size) = some 1 := by kernel_rfl
structure WrSt (w : World) (op : Int) (now : Bool) (fl : Int) (A : Option Addr) (n c : Nat) (g g2 : Nat) (k : Knd) (vals : List Nat) (base : List UInt8) (k0 : Nat) (wr : World) : Prop where
  st : RtSt w op now fl A n c g k.l wr
  us : U64s wr A vals
  low : ∀ ad, A = some ad → ad.block < w.heap.size
  blk : wr.heap[g2]? = some (.cells (bytesV (hdN ((k.l.zip vals).take k0) base)).toArray 5 (0, 0))
  ne1 : w.heap.size < g2
  ne2 : g ≠ g2
theorem below_undrew {B : Nat} {a w : World} (h : Below B a.drew w) : Below B a w := ⟨h.os, h.tape, h.output, h.size, h.block⟩
theorem grown_fldsV {w w' : World} {g g2 : Nat} {l : List Fld} (h : FldsV w g l) (hg : w.grownBy w' (some g2)) (hne : g ≠ g2) : FldsV w' g l :=
  ⟨fun j u hu => (World.cell?_of_block (a := ⟨g, j, none⟩) (hg.block g h.lt (fun e => hne (by injection e)))).trans (h.cells j u hu), Nat.lt_of_lt_of_le h.lt hg.size⟩
theorem grown_u64s {w w' : World} {g2 : Nat} {A : Option Addr} {xs : List Nat} (h : U64s w A xs) (hg : w.grownBy w' (some g2)) (hne : ∀ ad, A = some ad → ad.block ≠ g2) : U64s w' A xs :=
  ⟨fun k x hx => by
    obtain ⟨ad, h1, h2, h3⟩ := h.at_ k x hx
    exact ⟨ad, h1, Nat.lt_of_lt_of_le h2 hg.size, (World.cell?_of_block (by rw [block_add]; exact hg.block _ h2 (fun e => hne ad h1 (by injection e)))).trans h3⟩, h.small⟩
theorem WrSt.later {w : World} {op : Int} {now : Bool} {fl : Int} {A : Option Addr} {n c : Nat} {g g2 : Nat} {k : Knd} {vals : List Nat} {base : List UInt8} {k0 : Nat} {wr w3 : World} (h : WrSt w op now fl A n c g g2 k vals base k0 wr) (hb : Below wr.heap.size wr w3) :
    WrSt w op now fl A n c g g2 k vals base k0 w3 :=
  ⟨h.st.later hb, h.us.below hb, h.low, (hb.block _ (heap_lt h.blk)).trans h.blk, h.ne1, h.ne2⟩
theorem WrSt.copied {w : World} {op : Int} {now : Bool} {fl : Int} {A : Option Addr} {n c : Nat} {g g2 : Nat} {k : Knd} {vals : List Nat} {base : List UInt8} {k0 : Nat} {wr : World} (h : WrSt w op now fl A n c g g2 k vals base k0 wr) {f : Fld} {v : Nat} (hf : k.l[k0]? = some f) (hv : vals[k0]? = some v)
    (C : Array Value) (hC : C = (bytesV (splice (hdN ((k.l.zip vals).take k0) base) f.a.toNat (beB v f.b.toNat))).toArray) : WrSt w op now fl A n c g g2 k vals base (k0 + 1) (wr.setRow g2 C) := by
  have g6 : wr.grownBy (wr.setRow g2 C) (some g2) := ⟨rfl, rfl, rfl, by simp [World.setRow], fun i _ hne => setRow_other wr _ i _ (fun e => hne (by rw [e]))⟩
  refine ⟨⟨below_setRow h.st.below (Nat.le_of_lt h.ne1) _, (g6.block _ (heap_lt h.st.head) (fun e => by injection e with e; have := h.ne1; omega)).trans h.st.head, grown_fldsV h.st.flds g6 h.ne2⟩, grown_u64s h.us g6 (fun ad e => by have := h.low ad e; have := h.ne1; omega), h.low, ?_, h.ne1, h.ne2⟩
  rw [setRow_heap _ _ _ _ _ _ h.blk, hC]
  have : (k.l.zip vals).take (k0 + 1) = (k.l.zip vals).take k0 ++ [(f, v)] := by
    rw [List.take_add_one, (List.getElem?_zip_eq_some (z := (f, v))).2 ⟨hf, hv⟩]; rfl
  rw [this, show hdN ((k.l.zip vals).take k0 ++ [(f, v)]) base = splice (hdN ((k.l.zip vals).take k0) base) f.a.toNat (beB v f.b.toNat) by rw [hdN, List.foldl_append]; rfl]
/-- What a head that is right is. -/
theorem right_ok {op : Int} {now : Bool} {fl : Int} {vals : List Nat} (h : (hdRight op now fl vals).1 = 0) : ∃ k, kindOf op = some k ∧ hdForm k op now fl = false ∧ k.l.length = vals.length ∧ ∀ (j : Nat) (f : Fld) (v : Nat), k.l[j]? = some f → vals[j]? = some v → fitsV f v = true := by
  unfold hdRight at h
  cases hk : kindOf op with
  | none => rw [hk] at h; cases h
  | some k =>
    rw [hk] at h
    simp only at h
    by_cases hx : hdForm k op now fl = true
    · rw [hx] at h; cases h
    · have hx' : hdForm k op now fl = false := by simpa using hx
      rw [hx'] at h
      simp only [Bool.false_eq_true, if_false] at h
      by_cases hn : k.l.length = vals.length
      · obtain ⟨h1, h2⟩ | ⟨j, f, v, h1, -⟩ := firstBad_split k.l vals 0 hn
        · exact ⟨k, rfl, hx', hn, h2⟩
        · rw [h1] at h; simp [hn] at h
      · simp [hn] at h
theorem fits_lt {f : Fld} {v : Nat} (h : fitsV f v = true) (h1 : 1 ≤ f.b) (h8 : f.b ≤ 8) (hv : v < 18446744073709551616) : v < 256 ^ f.b.toNat := by
  unfold fitsV at h
  obtain ⟨b, hb⟩ : ∃ b : Nat, f.b = b := ⟨f.b.toNat, by omega⟩
  rw [hb] at h h1 h8 ⊢
  rw [Int.toNat_natCast] at h ⊢
  rw [show (256 : Nat) = 2 ^ 8 from rfl, ← Nat.pow_mul]
  by_cases h9 : 8 ≤ (b : Int)
  · obtain rfl : b = 8 := by omega
    omega
  · simp only [h9, decide_false, Bool.false_or, beq_iff_eq] at h
    have : (v : Int) / 2 ^ (8 * b) = ((v / 2 ^ (8 * b) : Nat) : Int) := by simp
    rw [this] at h
    have h0 : v / 2 ^ (8 * b) = 0 := by omega
    rw [Nat.div_eq_zero_iff] at h0
    rcases h0 with h0 | h0
    · exact absurd h0 (Nat.pos_iff_ne_zero.1 (Nat.two_pow_pos _))
    · exact h0
def z48 : Array Value := #[.int .u8 0, .int .u8 0, .int .u8 0, .int .u8 0, .int .u8 0, .int .u8 0, .int .u8 0, .int .u8 0, .int .u8 0, .int .u8 0, .int .u8 0, .int .u8 0, .int .u8 0, .int .u8 0, .int .u8 0, .int .u8 0, .int .u8 0, .int .u8 0, .int .u8 0, .int .u8 0, .int .u8 0, .int .u8 0, .int .u8 0, .int .u8 0, .int .u8 0, .int .u8 0, .int .u8 0, .int .u8 0, .int .u8 0, .int .u8 0, .int .u8 0, .int .u8 0, .int .u8 0, .int .u8 0, .int .u8 0, .int .u8 0, .int .u8 0, .int .u8 0, .int .u8 0, .int .u8 0, .int .u8 0, .int .u8 0, .int .u8 0, .int .u8 0, .int .u8 0, .int .u8 0, .int .u8 0, .int .u8 0]
theorem make48 (w : World) : (Instr.makeSlice 140 (.int .i64 48) (.int .i64 48)).run Tryz.prog w = .ok (.slice (some ⟨w.heap.size, 0, none⟩) 48 48) (w.alloc (.cells z48 5)) := by
  have h := run_make_row' (P := Tryz.prog) 140 5 (.int .u8 0) 1 Tryz.underlying140 u8_info rfl .i64 .i64 48 (by omega) (by omega) w
  rw [show madeCells #[.int .u8 0] 48 = z48 from by kernel_rfl] at h
  exact h
theorem base_cells0 (o f wd d : Nat) (h1 : o < 256) (h2 : f < 256) (h3 : wd < 256) (h4 : d < 16777216) : (bytesV (hdBase o false f wd d)).toArray = #[.int .u8 (o : Int), .int .u8 (f : Int), .int .u8 0, .int .u8 0, .int .u8 (wd : Int), .int .u8 ((d : Int) / 65536), .int .u8 ((d : Int) / 256 % 256), .int .u8 ((d : Int) % 256),
    .int .u8 0, .int .u8 0, .int .u8 0, .int .u8 0, .int .u8 0, .int .u8 0, .int .u8 0, .int .u8 0, .int .u8 0, .int .u8 0, .int .u8 0, .int .u8 0, .int .u8 0, .int .u8 0, .int .u8 0, .int .u8 0, .int .u8 0, .int .u8 0, .int .u8 0, .int .u8 0,
    .int .u8 0, .int .u8 0, .int .u8 0, .int .u8 0, .int .u8 0, .int .u8 0, .int .u8 0, .int .u8 0, .int .u8 0, .int .u8 0, .int .u8 0, .int .u8 0, .int .u8 0, .int .u8 0, .int .u8 0, .int .u8 0, .int .u8 0, .int .u8 0, .int .u8 0, .int .u8 0] := by
  congr 1
  simp only [hdBase, bytesV, List.map_append, List.map_cons, List.map_nil, Bool.false_eq_true, if_false, Nat.add_zero]
  rw [ofNat_byte o h1, ofNat_byte f h2, ofNat_byte wd h3, ofNat_byte (d / 65536) (by omega), ofNat_byte (d / 256 % 256) (by omega), ofNat_byte (d % 256) (by omega)]
  simp [List.replicate]
theorem base_cells1 (o f wd d : Nat) (h1 : o < 192) (h2 : f < 256) (h3 : wd < 256) (h4 : d < 16777216) : (bytesV (hdBase o true f wd d)).toArray = #[.int .u8 ((o : Int) + 64), .int .u8 (f : Int), .int .u8 0, .int .u8 0, .int .u8 (wd : Int), .int .u8 ((d : Int) / 65536), .int .u8 ((d : Int) / 256 % 256), .int .u8 ((d : Int) % 256),
    .int .u8 0, .int .u8 0, .int .u8 0, .int .u8 0, .int .u8 0, .int .u8 0, .int .u8 0, .int .u8 0, .int .u8 0, .int .u8 0, .int .u8 0, .int .u8 0, .int .u8 0, .int .u8 0, .int .u8 0, .int .u8 0, .int .u8 0, .int .u8 0, .int .u8 0, .int .u8 0,
    .int .u8 0, .int .u8 0, .int .u8 0, .int .u8 0, .int .u8 0, .int .u8 0, .int .u8 0, .int .u8 0, .int .u8 0, .int .u8 0, .int .u8 0, .int .u8 0, .int .u8 0, .int .u8 0, .int .u8 0, .int .u8 0, .int .u8 0, .int .u8 0, .int .u8 0, .int .u8 0] := by
  congr 1
  simp only [hdBase, bytesV, List.map_append, List.map_cons, List.map_nil, if_true]
  rw [ofNat_byte (o + 64) (by omega), ofNat_byte f h2, ofNat_byte wd h3, ofNat_byte (d / 65536) (by omega), ofNat_byte (d / 256 % 256) (by omega), ofNat_byte (d % 256) (by omega)]
  simp [List.replicate]
end Go.Proofs.YtkbjnlcongjokaaGreatDoor

/- head.Read: what is refused. -/
namespace Go.Proofs.YtkbjnlcongjokaaGreatDoor
open Go.RowKit
theorem results_cell3' : True := trivial
end Go.Proofs.YtkbjnlcongjokaaGreatDoor

/- A head written is the head read, if what is no field is 0; plain. -/
namespace Go.Proofs.YtkbjnlcongjokaaGreatDoor
open Go.RowKit
theorem beB_succ (n m : Nat) : beB n (m + 1) = beB (n / 256) m ++ [UInt8.ofNat (n % 256)] := by
  unfold beB
  rw [List.range_succ, List.map_append, List.map_singleton]
  congr 1
  · apply List.map_congr_left
    intro i hi
    have hi' : i < m := List.mem_range.1 hi
    rw [Nat.div_div_eq_div_mul, ← Nat.pow_succ']
    congr 4
    omega
  · simp
theorem beB_beN : ∀ (n : Nat) (s : List UInt8), s.length = n → beB (beN s) n = s
  | 0, s, h => by rw [List.eq_nil_of_length_eq_zero h]; rfl
  | n + 1, s, h => by
    obtain ⟨c, hl⟩ : ∃ c, s = s.dropLast ++ [c] := ⟨s.getLast (by intro e; simp [e] at h), (List.dropLast_concat_getLast _).symm⟩
    rw [hl, beN_snoc, beB_succ]
    have hc := c.toNat_lt
    have e1 : (beN s.dropLast * 256 + c.toNat) / 256 = beN s.dropLast := by omega
    have e2 : (beN s.dropLast * 256 + c.toNat) % 256 = c.toNat := by omega
    rw [e1, e2, beB_beN n s.dropLast (by simp [h])]
    simp
theorem splice_at (b : List UInt8) (i : Nat) (s : List UInt8) (j : Nat) (h : i + s.length ≤ b.length) : (splice b i s).getD j 0 = if i ≤ j ∧ j < i + s.length then s.getD (j - i) 0 else b.getD j 0 := by
  unfold splice
  simp only [List.getD_eq_getElem?_getD]
  by_cases h1 : j < i
  · rw [if_neg (by omega), List.append_assoc, List.getElem?_append_left (by simp; omega), List.getElem?_take, if_pos h1]
  · by_cases h2 : j < i + s.length
    · rw [if_pos ⟨by omega, h2⟩, List.append_assoc, List.getElem?_append_right (by simp; omega), List.length_take, Nat.min_eq_left (by omega), List.getElem?_append_left (by omega)]
    · rw [if_neg (by omega), List.getElem?_append_right (by simp; omega), List.length_append, List.length_take, Nat.min_eq_left (by omega), List.getElem?_drop]
      congr 2
      omega
def fldsOk (l : List Fld) : Prop := ∀ f ∈ l, 0 ≤ f.a ∧ 1 ≤ f.b ∧ f.b ≤ 8 ∧ f.a + f.b ≤ 48
theorem zip_map (l : List Fld) (b : List UInt8) : l.zip (l.map (numOf b)) = l.map fun f => (f, numOf b f) := by
  induction l with
  | nil => rfl
  | cons f l ih => simp [ih]
theorem hdN_at (b : List UInt8) (hb : b.length = 48) : ∀ (l : List Fld) (x : List UInt8), fldsOk l → x.length = 48 → ∀ j : Nat, (hdN (l.map fun f => (f, numOf b f)) x).getD j 0 = if inF l j then b.getD j 0 else x.getD j 0
  | [], x, _, _, j => by simp [hdN, inF]
  | f :: l, x, hl, hx, j => by
    obtain ⟨h1, h2, h3, h4⟩ := hl f (by simp)
    obtain ⟨p, hp⟩ : ∃ p : Nat, f.a = p := ⟨f.a.toNat, by omega⟩
    obtain ⟨q, hq⟩ : ∃ q : Nat, f.b = q := ⟨f.b.toNat, by omega⟩
    rw [hp, hq] at h4
    have hlen : ((b.drop p).take q).length = q := by rw [List.length_take, List.length_drop, hb]; omega
    have hnum : beB (numOf b f) q = (b.drop p).take q := by
      unfold numOf
      rw [hp, hq, Int.toNat_natCast, Int.toNat_natCast]
      exact beB_beN q _ hlen
    have hs : (splice x p ((b.drop p).take q)).length = 48 := by rw [splice_len _ _ _ (by rw [hlen, hx]; omega), hx]
    show (hdN (l.map fun f => (f, numOf b f)) (splice x f.a.toNat (beB (numOf b f) f.b.toNat))).getD j 0 = _
    rw [hp, hq, Int.toNat_natCast, Int.toNat_natCast, hnum, hdN_at b hb l _ (fun g hg => hl g (by simp [hg])) hs j, splice_at _ _ _ _ (by rw [hlen, hx]; omega), hlen]
    have hin : inF (f :: l) (j : Int) = (decide (p ≤ j ∧ j < p + q) || inF l (j : Int)) := by
      unfold inF
      rw [List.any_cons, hp, hq]
      congr 1
      rw [Bool.eq_iff_iff]
      simp
      try omega
    rw [hin]
    by_cases a : inF l (j : Int) = true
    · simp [a]
    · have a' : inF l (j : Int) = false := by simpa using a
      simp only [a', Bool.or_false, Bool.false_eq_true, if_false]
      by_cases c : p ≤ j ∧ j < p + q
      · rw [if_pos c, if_pos (decide_eq_true c)]
        simp only [List.getD_eq_getElem?_getD]
        rw [List.getElem?_take, if_pos (by omega), List.getElem?_drop]
        congr 2
        try omega
      · rw [if_neg c, if_neg (by simpa using c)]
theorem base_at (b : List UInt8) (hb : b.length = 48) (o : Nat) (nb : Bool) (h0 : o + (if nb then 64 else 0) = (b.getD 0 0).toNat) (j : Nat) (hj : j < 48) :
    (hdBase o nb (b.getD 1 0).toNat (b.getD 4 0).toNat (dlen b)).getD j 0 = if baseFree j then b.getD j 0 else 0 := by
  have hd : dlen b = (b.getD 5 0).toNat * 65536 + (b.getD 6 0).toNat * 256 + (b.getD 7 0).toNat := by
    have := dlen_eq ⟨b.toArray⟩ (by show 48 ≤ b.toArray.size; simp [hb])
    rw [show (⟨b.toArray⟩ : ByteArray).data.toList = b from rfl] at this
    rw [this]
    have e : ∀ (i : Nat) (h : i < (⟨b.toArray⟩ : ByteArray).size), (⟨b.toArray⟩ : ByteArray)[i]'h = b.getD i 0 := fun i h => by
      have := list_at ⟨b.toArray⟩ i h
      rw [← this]
    rw [e, e, e]
  have t5 := (b.getD 5 0).toNat_lt
  have t6 := (b.getD 6 0).toNat_lt
  have t7 := (b.getD 7 0).toNat_lt
  have d5 : dlen b / 65536 = (b.getD 5 0).toNat := by omega
  have d6 : dlen b / 256 % 256 = (b.getD 6 0).toNat := by omega
  have d7 : dlen b % 256 = (b.getD 7 0).toNat := by omega
  unfold hdBase
  rw [h0, d5, d6, d7]
  simp only [UInt8.ofNat_toNat]
  by_cases h8 : 8 ≤ j
  · have hf : baseFree (j : Int) = false := by
      unfold baseFree
      simp
      omega
    rw [hf]
    simp only [List.getD_eq_getElem?_getD]
    rw [List.getElem?_append_right (by simp; omega), List.getElem?_replicate, if_pos (by simp; omega)]
    rfl
  · match j, h8 with
    | 0, _ => rfl
    | 1, _ => rfl
    | 2, _ => rfl
    | 3, _ => rfl
    | 4, _ => rfl
    | 5, _ => rfl
    | 6, _ => rfl
    | 7, _ => rfl
    | n + 8, h => omega
theorem list_ext48 {a b : List UInt8} (ha : a.length = 48) (hb : b.length = 48) (h : ∀ j, j < 48 → a.getD j 0 = b.getD j 0) : a = b := by
  apply List.ext_getElem
  · rw [ha, hb]
  · intro i h1 h2
    have := h i (by omega)
    simp only [List.getD_eq_getElem?_getD, List.getElem?_eq_getElem h1, List.getElem?_eq_getElem h2, Option.getD_some] at this
    exact this
theorem written_read (b : List UInt8) (hb : b.length = 48) (k : Knd) (hk : fldsOk k.l) (o : Nat) (nb : Bool) (h0 : o + (if nb then 64 else 0) = (b.getD 0 0).toNat) :
    (hdN (k.l.zip (k.l.map (numOf b))) (hdBase o nb (b.getD 1 0).toNat (b.getD 4 0).toNat (dlen b)) = b) ↔ headOk b k = true := by
  have hl : (hdBase o nb (b.getD 1 0).toNat (b.getD 4 0).toNat (dlen b)).length = 48 := by simp [hdBase]
  rw [zip_map]
  have key : ∀ j : Nat, j < 48 → (hdN (k.l.map fun f => (f, numOf b f)) (hdBase o nb (b.getD 1 0).toNat (b.getD 4 0).toNat (dlen b))).getD j 0 = if inF k.l j then b.getD j 0 else if baseFree j then b.getD j 0 else 0 := fun j hj => by
    rw [hdN_at b hb k.l _ hk hl j, base_at b hb o nb h0 j hj]
  constructor
  · intro h
    apply headOk_true
    intro t ht
    have := key t ht
    rw [h] at this
    by_cases a : inF k.l t = true
    · simp [a]
    · by_cases c : baseFree t = true
      · simp [c]
      · rw [if_neg a, if_neg c] at this
        rw [this]; simp
  · intro h
    apply list_ext48 (hdN_len _ _ (fun x hx => by
      obtain ⟨f, hf, rfl⟩ := List.mem_map.1 hx
      exact hk f hf) hl) hb
    intro j hj
    rw [key j hj]
    unfold headOk at h
    have := List.all_eq_true.1 h j (List.mem_range.2 hj)
    by_cases a : inF k.l j = true
    · rw [if_pos a]
    · by_cases c : baseFree j = true
      · rw [if_neg a, if_pos c]
      · rw [if_neg a, if_neg c]
        have a' : inF k.l (j : Int) = false := by simpa using a
        have c' : baseFree (j : Int) = false := by simpa using c
        rw [a', c'] at this
        simp only [Bool.or_false, Bool.false_or, beq_iff_eq] at this
        exact (UInt8.toNat_inj.1 (by rw [this]; rfl)).symm
theorem numOf_lt (b : List UInt8) (f : Fld) : numOf b f < 256 ^ f.b.toNat := by
  unfold numOf
  have h := beN_lt _ ((b.drop f.a.toNat).take f.b.toNat) rfl
  have h2 : ((b.drop f.a.toNat).take f.b.toNat).length ≤ f.b.toNat := List.length_take_le _ _
  exact Nat.lt_of_lt_of_le h (Nat.pow_le_pow_right (by decide) h2)
theorem numOf_fits (b : List UInt8) (f : Fld) (h1 : 1 ≤ f.b) (h8 : f.b ≤ 8) : fitsV f (numOf b f) = true := by
  have h := numOf_lt b f
  unfold fitsV
  by_cases h9 : 8 ≤ f.b
  · simp [h9]
  · rw [show (256 : Nat) = 2 ^ 8 from rfl, ← Nat.pow_mul] at h
    have e : (numOf b f : Int) / 2 ^ (8 * f.b.toNat) = ((numOf b f / 2 ^ (8 * f.b.toNat) : Nat) : Int) := by simp
    rw [e, Nat.div_eq_of_lt h]
    simp
theorem numOf_64 (b : List UInt8) (f : Fld) (h1 : 1 ≤ f.b) (h8 : f.b ≤ 8) : numOf b f < 18446744073709551616 := by
  have h := numOf_lt b f
  have : 256 ^ f.b.toNat ≤ 256 ^ 8 := Nat.pow_le_pow_right (by decide) (by omega)
  omega
end Go.Proofs.YtkbjnlcongjokaaGreatDoor

/- head.Read, behind the kind. -/
namespace Go.Proofs.YtkbjnlcongjokaaGreatDoor
open Go.RowKit
theorem cell_one_new' (w : World) (v : Value) (t : TypeId) (b : Nat) (hb : w.heap.size = b) : ∀ j u, ([v] : List Value)[j]? = some u → (w.alloc (.cells #[v] t)).cell? ((⟨b, 0, none⟩ : Addr).add j) = some u := by
  subst hb; exact cell_one_new w v t
theorem now_bit : ((List.range 128).all fun c => (bits .and .u8 (c : Int) 64 != 0) == ((c : Int) / 64 % 256 == 1)) = true := by kernel_rfl
theorem now_eq (c : Nat) (h : c < 128) : (bits .and .u8 (c : Int) 64 != 0) = ((c : Int) / 64 % 256 == 1) := by
  have := List.all_eq_true.1 now_bit c (List.mem_range.2 h)
  exact eq_of_beq this
structure RdSt (w : World) (B g : Nat) (k : Knd) (l : List UInt8) (hd : Value → List Value) (wr : World) (k0 : Nat) (v : Value) : Prop where
  below : Below w.heap.size w wr
  size : B ≤ wr.heap.size
  head : wr.heap[w.heap.size]? = some (.cells (hd v).toArray 51 (0, 0))
  flds : FldsV wr g k.l
  nums : wr.ownsRow B 97 1 v k0 (numsV l (k.l.take k0))
theorem RdSt.later {w : World} {B g : Nat} {k : Knd} {l : List UInt8} {hd : Value → List Value} {wr w' : World} {k0 : Nat} {v : Value} (h : RdSt w B g k l hd wr k0 v) (hb : Below wr.heap.size wr w') : RdSt w B g k l hd w' k0 v :=
  ⟨h.below.trans (hb.mono h.below.size), Nat.le_trans h.size hb.size, (hb.block _ (heap_lt h.head)).trans h.head, h.flds.below hb, own_later h.nums hb⟩
/-- Behind the append and the store of the longer row. -/
theorem RdSt.stored {w : World} {B g : Nat} {k : Knd} {l : List UInt8} {op fl : Int} {nb : Bool} {wr w' : World} {k0 : Nat} {v v' : Value} {f : Fld} {o : Obj} (h : RdSt w B g k l (fun v => [.int .i64 op, .bool nb, .int .i64 fl, v]) wr k0 v) (hg : g < B) (hw : w.heap.size < B) (hne : g ≠ w.heap.size)
    (hG : (wr.alloc o).grownBy w' v.ownBlock) (hf : k.l[k0]? = some f) (hown : w'.ownsRow B 97 1 v' (k0 + 1) (numsV l (k.l.take k0) ++ [.int .u64 (numOf l f)])) :
    RdSt w B g k l (fun v => [.int .i64 op, .bool nb, .int .i64 fl, v]) (w'.setCell ⟨w.heap.size, 3, none⟩ v') (k0 + 1) v' ∧ w'.cell? ⟨w.heap.size, 3, none⟩ = some v ∧ w'.frozen? ⟨w.heap.size, 3, none⟩ = false := by
  have h2 := h.later ((Below.refl _ wr).alloc (Nat.le_refl _) o)
  have hv : ∀ q, v.ownBlock = some q → B ≤ q := fun q e => (h.nums.lt q e).1
  have hhead : w'.heap[w.heap.size]? = some (.cells #[.int .i64 op, .bool nb, .int .i64 fl, v] 51 (0, 0)) := (hG.block _ (heap_lt h2.head) (fun e => by have := hv _ e.symm; omega)).trans h2.head
  have g6 := grown_setCell w' ⟨w.heap.size, 3, none⟩ v'
  have hB1 : Below w.heap.size w w' := h2.below.grown hG h2.below.size (fun q e => by have := hv q e; omega)
  have hfl : FldsV w' g k.l := ⟨fun j u hu => (World.cell?_of_block (a := ⟨g, j, none⟩) (hG.block g h2.flds.lt (fun e => by have := hv _ e.symm; omega))).trans (h2.flds.cells j u hu), Nat.lt_of_lt_of_le h2.flds.lt hG.size⟩
  refine ⟨⟨hB1.setCell (p := ⟨w.heap.size, 3, none⟩) (Nat.le_refl _) _, Nat.le_trans h2.size (Nat.le_trans hG.size g6.size), heap_setCell_same _ _ 3 _ _ _ hhead, grown_fldsV hfl g6 hne, ?_⟩, by simp [World.cell?, hhead], by simp [World.frozen?, hhead]⟩
  have e : numsV l (k.l.take (k0 + 1)) = numsV l (k.l.take k0) ++ [.int .u64 (numOf l f)] := by
    rw [List.take_add_one, hf]
    simp [numsV]
  rw [e]
  refine hown.kept g6 ?_
  cases hv' : v'.ownBlock with
  | none => exact .inl rfl
  | some q => exact .inr (fun e => by injection e with e; have := (hown.lt q hv').1; simp at e; omega)
/-- What Read answers, behind the kind: the head, or 'of another form'. -/
def ReadPost (w : World) (l : List UInt8) (k : Knd) (op : Int) (nb : Bool) (fl : Int) (ok : Bool) (e : Ending) (w' : World) : Prop :=
  Below w.heap.size w w' ∧ ((ok = true ∧ ∃ v, e = .returned (.tuple #[.agg #[.int .i64 op, .bool nb, .int .i64 fl, v], .int .i64 (l.getD 4 0).toNat, .int .i64 (beN ((l.drop 5).take 3)), .nilIface]) ∧
    w'.ownsRow w.heap.size 97 1 v k.l.length (numsV l k.l)) ∨ (ok = false ∧ e = .returned (.tuple #[hzV, .int .i64 0, .int .i64 0, errV 3])))
/-- head.Read against the spec that quaymasterref.HeadRead has too. -/
def ReadAll (w : World) (l : List UInt8) (e : Ending) (w' : World) : Prop := Below w.heap.size w w' ∧
    ((headErr l = 0 ∧ ∃ v, e = .returned (.tuple #[.agg #[.int .i64 (headOp l), .bool (headNow l), .int .i64 (l.getD 1 0).toNat, v],
        .int .i64 (l.getD 4 0).toNat, .int .i64 (beN ((l.drop 5).take 3)), .nilIface]) ∧ w'.ownsRow w.heap.size 97 1 v (headVals l).length (headVals l)) ∨
     (headErr l ≠ 0 ∧ e = .returned (.tuple #[hzV, .int .i64 0, .int .i64 0, errV (headErr l)])))
end Go.Proofs.YtkbjnlcongjokaaGreatDoor

/- pdu.Read: the first refusals. -/
namespace Go.Proofs.YtkbjnlcongjokaaGreatDoor
open Go.RowKit
/-- A PDU out of bytes, as a value. -/
def PduIs (w' : World) (B : Nat) (l : List UInt8) (mode : Int) (v : Value) : Prop := ∃ v1 v2, v = .agg #[.int .i64 (headOp (l.take 48)), .bool (headNow (l.take 48)), .int .i64 ((l.take 48).getD 1 0).toNat, v1, v2, .string (bs (unpad (pduRest l mode) (dlen l)).1)] ∧
  w'.ownsRow B 97 1 v1 (headVals (l.take 48)).length (headVals (l.take 48)) ∧ w'.ownsRow B 103 2 v2 (ahsAll (((pduAll l mode).take (pduEnd l)).drop 48)).1.length (ahsV (ahsAll (((pduAll l mode).take (pduEnd l)).drop 48)).1)
def PrPost (w : World) (l : List UInt8) (mode : Int) (e : Ending) (w' : World) : Prop := Below w.heap.size w w' ∧
  ((pduErr l mode = 0 ∧ ∃ v, e = .returned (.tuple #[v, .int .i64 (pduSize l mode).1, .nilIface]) ∧ PduIs w' w.heap.size l mode v) ∨ (pduErr l mode ≠ 0 ∧ e = .returned (.tuple #[.agg pzL.toArray, .int .i64 0, errV (pduErr l mode)])))
theorem and_one {m : Int} (h0 : 0 ≤ m) (h3 : m ≤ 3) : (bits .and .i64 m 1 != 0) = decide (m % 2 = 1) ∧ (bits .and .i64 m 2 != 0) = decide (m / 2 = 1) := by
  have hmm : m = 0 ∨ m = 1 ∨ m = 2 ∨ m = 3 := by omega
  rcases hmm with rfl | rfl | rfl | rfl <;> decide
/-- Between the stages: the result's cell and p's block. -/
structure PSt (w : World) (g : Nat) (pc : List Value) (wr : World) : Prop where
  below : Below w.heap.size w wr
  res : wr.heap[w.heap.size]? = some (.cells #[.int .i64 0, .bool false, .int .i64 0, .slice none 0 0, .slice none 0 0, .string ⟨#[]⟩] 54 (0, 0))
  pb : wr.heap[g]? = some (.cells pc.toArray 54 (0, 0))
  ne : w.heap.size < g
theorem PSt.later {w : World} {g : Nat} {pc : List Value} {wr w' : World} (h : PSt w g pc wr) (hb : Below wr.heap.size wr w') : PSt w g pc w' :=
  ⟨h.below.trans (hb.mono h.below.size), (hb.block _ (heap_lt h.res)).trans h.res, (hb.block _ (heap_lt h.pb)).trans h.pb, h.ne⟩
theorem ps_start (w : World) (kq : Nat) : Below w.heap.size w ((w.alloc (.cells #[.int .i64 0, .bool false, .int .i64 0, .slice none 0 0, .slice none 0 0, .string ⟨#[]⟩] 54)).drewN kq) ∧
    ((w.alloc (.cells #[.int .i64 0, .bool false, .int .i64 0, .slice none 0 0, .slice none 0 0, .string ⟨#[]⟩] 54)).drewN kq).heap[w.heap.size]? = some (.cells #[.int .i64 0, .bool false, .int .i64 0, .slice none 0 0, .slice none 0 0, .string ⟨#[]⟩] 54 (0, 0)) :=
  ⟨below_drewN ((Below.refl _ w).alloc (Nat.le_refl _) _) kq, alloc_heap_new w _⟩
structure PS0 (w wr : World) : Prop where
  below : Below w.heap.size w wr
  res : wr.heap[w.heap.size]? = some (.cells #[.int .i64 0, .bool false, .int .i64 0, .slice none 0 0, .slice none 0 0, .string ⟨#[]⟩] 54 (0, 0))
theorem PS0.later {w wr w' : World} (h : PS0 w wr) (hb : Below wr.heap.size wr w') : PS0 w w' := ⟨h.below.trans (hb.mono h.below.size), (hb.block _ (heap_lt h.res)).trans h.res⟩
end Go.Proofs.YtkbjnlcongjokaaGreatDoor

/- pdu.Read. -/
namespace Go.Proofs.YtkbjnlcongjokaaGreatDoor
open Go.RowKit
theorem px_of {w X : World} (h : PS0 w X) : ∀ wR, Below (X.alloc (.cells #[.int .i64 0, .bool false, .int .i64 0, .slice none 0 0, .slice none 0 0, .string ⟨#[]⟩] 54)).heap.size (X.alloc (.cells #[.int .i64 0, .bool false, .int .i64 0, .slice none 0 0, .slice none 0 0, .string ⟨#[]⟩] 54)) wR →
    PSt w X.heap.size [.int .i64 0, .bool false, .int .i64 0, .slice none 0 0, .slice none 0 0, .string ⟨#[]⟩] wR := fun wR hb => by
  have h1 := h.later ((Below.refl _ X).alloc (Nat.le_refl _) (.cells #[.int .i64 0, .bool false, .int .i64 0, .slice none 0 0, .slice none 0 0, .string ⟨#[]⟩] 54))
  have h2 := h1.later hb
  exact ⟨h2.below, h2.res, (hb.block _ (by simp)).trans (alloc_heap_new X _), heap_lt h.res⟩
theorem PSt.cells {w : World} {g : Nat} {a b c d e f : Value} {wr : World} (h : PSt w g [a, b, c, d, e, f] wr) : wr.cell? ⟨g, 0, none⟩ = some a ∧ wr.cell? ⟨g, 1, none⟩ = some b ∧ wr.cell? ⟨g, 2, none⟩ = some c ∧ wr.cell? ⟨g, 3, none⟩ = some d ∧ wr.cell? ⟨g, 4, none⟩ = some e ∧ wr.cell? ⟨g, 5, none⟩ = some f := by
  simp [World.cell?, h.pb]
theorem PSt.frz {w : World} {g : Nat} {pc : List Value} {wr : World} (h : PSt w g pc wr) : wr.frozen? ⟨g, 0, none⟩ = false ∧ wr.frozen? ⟨g, 1, none⟩ = false ∧ wr.frozen? ⟨g, 2, none⟩ = false ∧ wr.frozen? ⟨g, 3, none⟩ = false ∧ wr.frozen? ⟨g, 4, none⟩ = false ∧ wr.frozen? ⟨g, 5, none⟩ = false := by
  simp [World.frozen?, h.pb]
theorem PSt.set {w : World} {g : Nat} {pc : List Value} {wr : World} (h : PSt w g pc wr) (i : Nat) (v : Value) : PSt w g (pc.set i v) (wr.setCell ⟨g, i, none⟩ v) := by
  have g6 := grown_setCell wr ⟨g, i, none⟩ v
  refine ⟨h.below.setCell (p := ⟨g, i, none⟩) (Nat.le_of_lt h.ne) _, (g6.block _ (heap_lt h.res) (fun e => by injection e with e; have e' : w.heap.size = g := e; have := h.ne; omega)).trans h.res, ?_, h.ne⟩
  have := h.pb
  simp [World.setCell, Array.getElem?_modify, this]
theorem PSt.set4 {w : World} {g : Nat} {a b c d e f : Value} {wr : World} (h : PSt w g [a, b, c, d, e, f] wr) (a' b' c' d' : Value) :
    PSt w g [a', b', c', d', e, f] ((((wr.setCell ⟨g, 0, none⟩ a').setCell ⟨g, 1, none⟩ b').setCell ⟨g, 2, none⟩ c').setCell ⟨g, 3, none⟩ d') := (((h.set 0 a').set 1 b').set 2 c').set 3 d'
theorem own_set {w : World} {base : Nat} {e : TypeId} {size n : Nat} {v : Value} {xs : List Value} (h : w.ownsRow base e size v n xs) (g i : Nat) (hg : g < base) (u : Value) : (w.setCell ⟨g, i, none⟩ u).ownsRow base e size v n xs := by
  refine h.kept (grown_setCell w ⟨g, i, none⟩ u) ?_
  cases hv : v.ownBlock with
  | none => exact .inl rfl
  | some q => exact .inr (fun e => by injection e with e; have e' : q = g := e; have := (h.lt q hv).1; omega)
theorem own_set4 {w : World} {base : Nat} {e : TypeId} {size n : Nat} {v : Value} {xs : List Value} (h : w.ownsRow base e size v n xs) (g : Nat) (hg : g < base) (a b c d : Value) :
    ((((w.setCell ⟨g, 0, none⟩ a).setCell ⟨g, 1, none⟩ b).setCell ⟨g, 2, none⟩ c).setCell ⟨g, 3, none⟩ d).ownsRow base e size v n xs :=
  own_set (own_set (own_set (own_set h g 0 hg a) g 1 hg b) g 2 hg c) g 3 hg d
theorem unpad_num {l : List UInt8} {n : Int} (h0 : 0 ≤ n) (h : (unpad l n).2.2 = 0) : (unpad l n).2.1 = n + padI n := by
  unfold unpad at h ⊢
  rw [if_neg (by omega)] at h ⊢
  by_cases a : n > l.length ∨ n + padI n > l.length
  · rw [if_pos a] at h; simp at h
  · rw [if_neg a] at h ⊢
    by_cases b : padded (l.take n.toNat) ≠ l.take (n + padI n).toNat
    · rw [if_pos b] at h; simp at h
    · rw [if_neg b]
theorem pr_refuse (w : World) (l : List UInt8) (mode c : Int) (hc : pduErr l mode = c) (h0 : c ≠ 0) {wr : World} (hb : Below w.heap.size w wr) : PrPost w l mode (.returned (.tuple #[.agg pzL.toArray, .int .i64 0, .iface 32 (.int .i64 c)])) wr :=
  ⟨hb, .inr ⟨by rw [hc]; exact h0, by rw [hc, errV_ne h0]⟩⟩
theorem own_setRow {w : World} {base : Nat} {e : TypeId} {size n : Nat} {v : Value} {xs : List Value} (h : w.ownsRow base e size v n xs) (g : Nat) (hg : g < base) (cs : Array Value) : (w.setRow g cs).ownsRow base e size v n xs := by
  refine ⟨h.1, ?_⟩
  rcases h.2 with hn | ⟨q, cap, cur, h1, h2, h3, h4⟩
  · exact .inl hn
  · refine .inr ⟨q, cap, cur, h1, h2, ?_, h4⟩
    have hne : ¬ g = q := by omega
    simp only [World.setRow, Array.getElem?_modify, if_neg hne]
    exact h3
theorem pr_done (w : World) (l : List UInt8) (mode : Int) (g z E : Nat) (hg : w.heap.size < g) (h0 : pduErr l mode = 0) (hz : pduSize l mode = ((z : Int), 0)) {O1 : Int} {O2 : Bool} {O3 : Int} (h1 : O1 = headOp (l.take 48)) (h2 : O2 = headNow (l.take 48))
    (h3 : O3 = (((l.take 48).getD 1 0).toNat : Int)) {v1 v2 : Value} {t : ByteArray} {wF : World} {pc : List Value} (hst : PSt w g pc (wF.setCell ⟨g, 5, none⟩ (.string t))) (hE : pduEnd l = E) (hEz : E ≤ z)
    (hv1 : wF.ownsRow (g + 1) 97 1 v1 (headVals (l.take 48)).length (headVals (l.take 48)))
    (hv2 : wF.ownsRow (g + 1) 103 2 v2 (ahsAll ((l.take E).drop 48)).1.length (ahsV (ahsAll ((l.take E).drop 48)).1))
    (ht : t = bs (unpad (pduRest l mode) (dlen l)).1) (cs : Array Value) :
    PrPost w l mode (.returned (.tuple #[.agg #[.int .i64 O1, .bool O2, .int .i64 O3, v1, v2, .string t], .int .i64 (z : Int), .nilIface])) ((wF.setCell ⟨g, 5, none⟩ (.string t)).setRow w.heap.size cs) := by
  refine ⟨below_setRow hst.below (Nat.le_refl _) _, .inl ⟨h0, _, by rw [hz], v1, v2, by rw [h1, h2, h3, ht], ?_, ?_⟩⟩
  · exact own_mono (own_setRow (own_set hv1 g 5 (Nat.lt_succ_self g) _) w.heap.size (by omega) cs) (by omega)
  · have : (pduAll l mode).take (pduEnd l) = l.take E := by
      rw [hE]; unfold pduAll; rw [hz]
      show (l.take (z : Int).toNat).take E = _
      rw [Int.toNat_natCast, List.take_take, Nat.min_eq_left hEz]
    rw [this]
    exact own_mono (own_setRow (own_set hv2 g 5 (Nat.lt_succ_self g) _) w.heap.size (by omega) cs) (by omega)
end Go.Proofs.YtkbjnlcongjokaaGreatDoor

/- pdu.Read, all of it. -/
namespace Go.Proofs.YtkbjnlcongjokaaGreatDoor
open Go.RowKit
end Go.Proofs.YtkbjnlcongjokaaGreatDoor

/- quaymasterref.PduRead. -/
namespace Go.Proofs.YtkbjnlcongjokaaGreatDoor
open Go.RowKit
/-- What quaymasterref.PduRead leaves. -/
def RrPost (w : World) (l : List UInt8) (mode : Int) (e : Ending) (w' : World) : Prop := Below w.heap.size w w' ∧
  ((pduErr l mode = 0 ∧ ∃ v, e = .returned (.tuple #[v, .int .i64 (pduSize l mode).1, .int .i64 0]) ∧ PduIs w' w.heap.size l mode v) ∨ (pduErr l mode ≠ 0 ∧ e = .returned (.tuple #[.agg pzL.toArray, .int .i64 0, .int .i64 (pduErr l mode)])))
theorem rr_refuse (w : World) (l : List UInt8) (mode c : Int) (hc : pduErr l mode = c) (h0 : c ≠ 0) {wr : World} (hb : Below w.heap.size w wr) : RrPost w l mode (.returned (.tuple #[.agg pzL.toArray, .int .i64 0, .int .i64 c])) wr :=
  ⟨hb, .inr ⟨by rw [hc]; exact h0, by rw [hc]⟩⟩
/-- Between the stages: the result's cell and the head's block. -/
structure RSt (w : World) (g : Nat) (pc : List Value) (wr : World) : Prop where
  z : PS0 w wr
  pb : wr.heap[g]? = some (.cells pc.toArray 51 (0, 0))
  ne : w.heap.size < g
theorem RSt.later {w : World} {g : Nat} {pc : List Value} {wr w' : World} (h : RSt w g pc wr) (hb : Below wr.heap.size wr w') : RSt w g pc w' :=
  ⟨h.z.later hb, (hb.block _ (heap_lt h.pb)).trans h.pb, h.ne⟩
theorem RSt.cells {w : World} {g : Nat} {a b c d : Value} {wr : World} (h : RSt w g [a, b, c, d] wr) : wr.cell? ⟨g, 0, none⟩ = some a ∧ wr.cell? ⟨g, 1, none⟩ = some b ∧ wr.cell? ⟨g, 2, none⟩ = some c ∧ wr.cell? ⟨g, 3, none⟩ = some d := by
  simp [World.cell?, h.pb]
theorem RSt.set {w : World} {g : Nat} {pc : List Value} {wr : World} (h : RSt w g pc wr) (i : Nat) (v : Value) : RSt w g (pc.set i v) (wr.setCell ⟨g, i, none⟩ v) := by
  have g6 := grown_setCell wr ⟨g, i, none⟩ v
  refine ⟨⟨h.z.below.setCell (p := ⟨g, i, none⟩) (Nat.le_of_lt h.ne) _, (g6.block _ (heap_lt h.z.res) (fun e => by injection e with e; have e' : w.heap.size = g := e; have := h.ne; omega)).trans h.z.res⟩, ?_, h.ne⟩
  have := h.pb
  simp [World.setCell, Array.getElem?_modify, this]
theorem PS0.cells {w wr : World} (h : PS0 w wr) : wr.cell? ⟨w.heap.size, 0, none⟩ = some (.int .i64 0) ∧ wr.cell? ⟨w.heap.size, 1, none⟩ = some (.bool false) ∧ wr.cell? ⟨w.heap.size, 2, none⟩ = some (.int .i64 0) ∧ wr.cell? ⟨w.heap.size, 3, none⟩ = some (.slice none 0 0) ∧
    wr.cell? ⟨w.heap.size, 4, none⟩ = some (.slice none 0 0) ∧ wr.cell? ⟨w.heap.size, 5, none⟩ = some (.string ⟨#[]⟩) := by
  simp [World.cell?, h.res]
theorem PS0.frz {w wr : World} (h : PS0 w wr) : wr.frozen? ⟨w.heap.size, 0, none⟩ = false ∧ wr.frozen? ⟨w.heap.size, 1, none⟩ = false ∧ wr.frozen? ⟨w.heap.size, 2, none⟩ = false ∧ wr.frozen? ⟨w.heap.size, 3, none⟩ = false ∧
    wr.frozen? ⟨w.heap.size, 4, none⟩ = false ∧ wr.frozen? ⟨w.heap.size, 5, none⟩ = false := by
  simp [World.frozen?, h.res]
theorem PS0.six {w wr : World} (h : PS0 w wr) : PS0 w ((((((wr.setCell ⟨w.heap.size, 0, none⟩ (.int .i64 0)).setCell ⟨w.heap.size, 1, none⟩ (.bool false)).setCell ⟨w.heap.size, 2, none⟩ (.int .i64 0)).setCell ⟨w.heap.size, 3, none⟩ (.slice none 0 0)).setCell
    ⟨w.heap.size, 4, none⟩ (.slice none 0 0)).setCell ⟨w.heap.size, 5, none⟩ (.string ⟨#[]⟩)).drew := by
  refine ⟨Below.trans (b := (((((wr.setCell ⟨w.heap.size, 0, none⟩ (.int .i64 0)).setCell ⟨w.heap.size, 1, none⟩ (.bool false)).setCell ⟨w.heap.size, 2, none⟩ (.int .i64 0)).setCell ⟨w.heap.size, 3, none⟩ (.slice none 0 0)).setCell
    ⟨w.heap.size, 4, none⟩ (.slice none 0 0)).setCell ⟨w.heap.size, 5, none⟩ (.string ⟨#[]⟩)) ?_ (below_drewN (Below.refl _ _) 1), ?_⟩
  · exact (((((h.below.setCell (p := ⟨w.heap.size, 0, none⟩) (Nat.le_refl _) _).setCell (p := ⟨w.heap.size, 1, none⟩) (Nat.le_refl _) _).setCell (p := ⟨w.heap.size, 2, none⟩) (Nat.le_refl _) _).setCell (p := ⟨w.heap.size, 3, none⟩) (Nat.le_refl _) _).setCell (p := ⟨w.heap.size, 4, none⟩) (Nat.le_refl _) _).setCell (p := ⟨w.heap.size, 5, none⟩) (Nat.le_refl _) _
  · have := h.res
    simp [World.setCell, World.drew, Array.getElem?_modify, this]
theorem rs_new {w wr : World} (h : PS0 w wr) (pc : List Value) : RSt w wr.heap.size pc (wr.alloc (.cells pc.toArray 51)) :=
  ⟨h.later ((Below.refl _ wr).alloc (Nat.le_refl _) _), alloc_heap_new wr _, heap_lt h.res⟩
theorem rr_done (w : World) (l : List UInt8) (mode : Int) (z E : Nat) (h0 : pduErr l mode = 0) (hz : pduSize l mode = ((z : Int), 0)) {O1 : Int} {O2 : Bool} {O3 : Int} (h1 : O1 = headOp (l.take 48)) (h2 : O2 = headNow (l.take 48))
    (h3 : O3 = (((l.take 48).getD 1 0).toNat : Int)) {v1 v2 : Value} {t : ByteArray} {wF : World} (hst : PS0 w wF) (hE : pduEnd l = E) (hEz : E ≤ z)
    (hv1 : wF.ownsRow (w.heap.size + 1) 97 1 v1 (headVals (l.take 48)).length (headVals (l.take 48)))
    (hv2 : wF.ownsRow (w.heap.size + 1) 103 2 v2 (ahsAll ((l.take E).drop 48)).1.length (ahsV (ahsAll ((l.take E).drop 48)).1))
    (ht : t = bs (unpad (pduRest l mode) (dlen l)).1) (cs : Array Value) :
    RrPost w l mode (.returned (.tuple #[.agg #[.int .i64 O1, .bool O2, .int .i64 O3, v1, v2, .string t], .int .i64 (z : Int), .int .i64 0])) (wF.setRow w.heap.size cs) := by
  refine ⟨below_setRow hst.below (Nat.le_refl _) _, .inl ⟨h0, _, by rw [hz], v1, v2, by rw [h1, h2, h3, ht], ?_, ?_⟩⟩
  · exact own_mono (own_setRow hv1 w.heap.size (by omega) cs) (by omega)
  · have : (pduAll l mode).take (pduEnd l) = l.take E := by
      rw [hE]; unfold pduAll; rw [hz]
      show (l.take (z : Int).toNat).take E = _
      rw [Int.toNat_natCast, List.take_take, Nat.min_eq_left hEz]
    rw [this]
    exact own_mono (own_setRow hv2 w.heap.size (by omega) cs) (by omega)
end Go.Proofs.YtkbjnlcongjokaaGreatDoor
