/- A part of the proof: Same, FeedLaw, RefNext, RefNext2, RefNext3, RefNext4, RefNext5, FeedFns, Next, Next2, Next3, Next4, Piece, AllLaw, Refuse5, Refuse6, Refuse7, Refuse8, Say, Say2, Refuse9. -/
import Derived.Test.YtkbjnlcongjokaaGreatDoorJ04
import Derived.StillTailTactics
import Derived.Laws.OwnMore
import Derived.Test.YtkbjnlcongjokaaGreatDoorJ02
import Derived.Maps.OwnOps
/- quaymasterref.Same: two PDUs with equal content are one. -/
namespace Go.Proofs.YtkbjnlcongjokaaGreatDoor
open Go.RowKit
/-- A row that can be read: its cells. -/
structure RowV (w : World) (A : Option Addr) (xs : List Value) : Prop where
  at_ : ∀ j u, xs[j]? = some u → ∃ g, A = some ⟨g, 0, none⟩ ∧ g < w.heap.size ∧ w.cell? ⟨g, j, none⟩ = some u
theorem RowV.below {w w' : World} {A : Option Addr} {xs : List Value} (h : RowV w A xs) (hb : Below w.heap.size w w') : RowV w' A xs :=
  ⟨fun j u hu => by
    obtain ⟨g, h1, h2, h3⟩ := h.at_ j u hu
    exact ⟨g, h1, Nat.lt_of_lt_of_le h2 hb.size, (hb.cell (p := ⟨g, j, none⟩) h2).trans h3⟩⟩
theorem own_rowV {w : World} {base : Nat} {e : TypeId} {size n : Nat} {v : Value} {xs : List Value} (h : w.ownsRow base e size v n xs) : ∃ A c, v = .slice A n c ∧ RowV w A xs := by
  rcases h.2 with ⟨rfl, h0⟩ | ⟨g, cap, cur, rfl, h1, h2, h3⟩
  · subst h0
    refine ⟨none, 0, rfl, ⟨fun j u hu => ?_⟩⟩
    have := h.1
    have hx : xs = [] := List.length_eq_zero_iff.1 (by omega)
    rw [hx] at hu; simp at hu
  · refine ⟨some ⟨g, 0, none⟩, cap, rfl, ⟨fun j u hu => ⟨g, rfl, heap_lt h2, ?_⟩⟩⟩
    have hj : j < n * size := by
      have := (List.getElem?_eq_some_iff.1 hu).1
      have := h.1
      omega
    rw [World.ownsRow.cellAt h j hj]; exact hu
/-- In Same: the two boxes, the two heads. -/
structure SmSt (w : World) (O1 : Int) (O2 : Bool) (O3 : Int) (t : ByteArray) (xs ys : List Value) (n m : Nat) (A1 A2 B1 B2 : Option Addr) (a1 a2 b1 b2 p q : Nat) (wr : World) : Prop where
  below : Below w.heap.size w wr
  a : wr.heap[w.heap.size]? = some (.cells #[.int .i64 O1, .bool O2, .int .i64 O3, .slice A1 n a1, .slice A2 m a2, .string t] 54 (0, 0))
  b : wr.heap[w.heap.size + 1]? = some (.cells #[.int .i64 O1, .bool O2, .int .i64 O3, .slice B1 n b1, .slice B2 m b2, .string t] 54 (0, 0))
  x : wr.heap[p]? = some (.cells #[.int .i64 O1, .bool O2, .int .i64 O3, .slice A1 n a1] 51 (0, 0))
  y : wr.heap[q]? = some (.cells #[.int .i64 O1, .bool O2, .int .i64 O3, .slice B1 n b1] 51 (0, 0))
  rA1 : RowV wr A1 xs
  rB1 : RowV wr B1 xs
  rA2 : RowV wr A2 ys
  rB2 : RowV wr B2 ys
theorem SmSt.later {w : World} {O1 : Int} {O2 : Bool} {O3 : Int} {t : ByteArray} {xs ys : List Value} {n m : Nat} {A1 A2 B1 B2 : Option Addr} {a1 a2 b1 b2 p q : Nat} {wr w' : World}
    (h : SmSt w O1 O2 O3 t xs ys n m A1 A2 B1 B2 a1 a2 b1 b2 p q wr) (hb : Below wr.heap.size wr w') : SmSt w O1 O2 O3 t xs ys n m A1 A2 B1 B2 a1 a2 b1 b2 p q w' :=
  ⟨h.below.trans (hb.mono h.below.size), (hb.block _ (heap_lt h.a)).trans h.a, (hb.block _ (heap_lt h.b)).trans h.b, (hb.block _ (heap_lt h.x)).trans h.x, (hb.block _ (heap_lt h.y)).trans h.y,
    h.rA1.below hb, h.rB1.below hb, h.rA2.below hb, h.rB2.below hb⟩
theorem SmSt.cells {w : World} {O1 : Int} {O2 : Bool} {O3 : Int} {t : ByteArray} {xs ys : List Value} {n m : Nat} {A1 A2 B1 B2 : Option Addr} {a1 a2 b1 b2 p q : Nat} {wr : World}
    (h : SmSt w O1 O2 O3 t xs ys n m A1 A2 B1 B2 a1 a2 b1 b2 p q wr) :
    (wr.cell? ⟨w.heap.size, 4, none⟩ = some (.slice A2 m a2) ∧ wr.cell? ⟨w.heap.size, 5, none⟩ = some (.string t) ∧ wr.cell? ⟨w.heap.size + 1, 4, none⟩ = some (.slice B2 m b2) ∧ wr.cell? ⟨w.heap.size + 1, 5, none⟩ = some (.string t)) ∧
    (wr.cell? ⟨p, 0, none⟩ = some (.int .i64 O1) ∧ wr.cell? ⟨p, 1, none⟩ = some (.bool O2) ∧ wr.cell? ⟨p, 2, none⟩ = some (.int .i64 O3) ∧ wr.cell? ⟨p, 3, none⟩ = some (.slice A1 n a1)) ∧
    (wr.cell? ⟨q, 0, none⟩ = some (.int .i64 O1) ∧ wr.cell? ⟨q, 1, none⟩ = some (.bool O2) ∧ wr.cell? ⟨q, 2, none⟩ = some (.int .i64 O3) ∧ wr.cell? ⟨q, 3, none⟩ = some (.slice B1 n b1)) := by
  simp [World.cell?, h.a, h.b, h.x, h.y]
theorem four_new (w : World) (o1 o2 o3 o4 : Obj) : Below w.heap.size w ((((w.alloc o1).alloc o2).alloc o3).alloc o4).drew ∧ ((((w.alloc o1).alloc o2).alloc o3).alloc o4).drew.heap[w.heap.size]? = some o1 ∧ ((((w.alloc o1).alloc o2).alloc o3).alloc o4).drew.heap[w.heap.size + 1]? = some o2 ∧
    ((((w.alloc o1).alloc o2).alloc o3).alloc o4).drew.heap[w.heap.size + 1 + 1]? = some o3 ∧ ((((w.alloc o1).alloc o2).alloc o3).alloc o4).drew.heap[w.heap.size + 1 + 1 + 1]? = some o4 := by
  have z1 : (w.alloc o1).heap.size = w.heap.size + 1 := by simp
  have z2 : ((w.alloc o1).alloc o2).heap.size = w.heap.size + 1 + 1 := by simp
  have z3 : (((w.alloc o1).alloc o2).alloc o3).heap.size = w.heap.size + 1 + 1 + 1 := by simp
  refine ⟨Below.drew ((((Below.refl _ w).alloc (Nat.le_refl _) _).alloc (by omega) _ |>.alloc (by omega) _).alloc (by omega) _), ?_, ?_, ?_, ?_⟩
  · show ((((w.alloc o1).alloc o2).alloc o3).alloc o4).heap[w.heap.size]? = _
    rw [Below.heap_alloc _ _ _ (by omega), Below.heap_alloc _ _ _ (by omega), Below.heap_alloc _ _ _ (by omega)]; exact alloc_heap_new w o1
  · show ((((w.alloc o1).alloc o2).alloc o3).alloc o4).heap[w.heap.size + 1]? = _
    rw [Below.heap_alloc _ _ _ (by omega), Below.heap_alloc _ _ _ (by omega), ← z1]; exact alloc_heap_new _ o2
  · show ((((w.alloc o1).alloc o2).alloc o3).alloc o4).heap[w.heap.size + 1 + 1]? = _
    rw [Below.heap_alloc _ _ _ (by omega), ← z2]; exact alloc_heap_new _ o3
  · show ((((w.alloc o1).alloc o2).alloc o3).alloc o4).heap[w.heap.size + 1 + 1 + 1]? = _
    rw [← z3]; exact alloc_heap_new _ o4
set_option maxRecDepth 100000 in
set_option maxHeartbeats 4000000 in
theorem same_any (O1 : Int) (O2 : Bool) (O3 : Int) (t : ByteArray) (xs : List Value) (ys : List (Int × List UInt8)) (n m : Nat) (A1 A2 B1 B2 : Option Addr) (a1 a2 b1 b2 : Nat) (w : World)
    (hA1 : RowV w A1 xs) (hB1 : RowV w B1 xs) (hA2 : RowV w A2 (ahsV ys)) (hB2 : RowV w B2 (ahsV ys)) (hxn : xs.length = n) (hym : ys.length = m) (hxi : ∀ u ∈ xs, ∃ v : Int, u = .int .u64 v)
    (hx : n ≤ 9223372036854775807) (hy : m ≤ 9223372036854775807) :
    Calls Tryz.prog 13 #[.agg #[.int .i64 O1, .bool O2, .int .i64 O3, .slice A1 n a1, .slice A2 m a2, .string t], .agg #[.int .i64 O1, .bool O2, .int .i64 O3, .slice B1 n b1, .slice B2 m b2, .string t]] w fun e w' =>
      e = .returned (.bool true) ∧ Below w.heap.size w w' := by
  have hs1 : ∀ p q wr, p = w.heap.size + 1 + 1 + 1 → q = w.heap.size + 1 + 1 → wr = ((((w.alloc (.cells #[.int .i64 O1, .bool O2, .int .i64 O3, .slice A1 n a1, .slice A2 m a2, .string t] 54)).alloc (.cells #[.int .i64 O1, .bool O2, .int .i64 O3, .slice B1 n b1, .slice B2 m b2, .string t] 54)).alloc
      (.cells #[.int .i64 O1, .bool O2, .int .i64 O3, .slice B1 n b1] 51)).alloc (.cells #[.int .i64 O1, .bool O2, .int .i64 O3, .slice A1 n a1] 51)).drew → SmSt w O1 O2 O3 t xs (ahsV ys) n m A1 A2 B1 B2 a1 a2 b1 b2 p q wr := by
    rintro p q wr rfl rfl rfl
    obtain ⟨hb, h1, h2, h3, h4⟩ := four_new w _ _ _ _
    exact ⟨hb, h1, h2, h4, h3, hA1.below hb, hB1.below hb, hA2.below hb, hB2.below hb⟩
  have hs2 : ∀ p q wr, p = w.heap.size + 1 + 1 → q = w.heap.size + 1 + 1 + 1 → wr = ((((w.alloc (.cells #[.int .i64 O1, .bool O2, .int .i64 O3, .slice A1 n a1, .slice A2 m a2, .string t] 54)).alloc (.cells #[.int .i64 O1, .bool O2, .int .i64 O3, .slice B1 n b1, .slice B2 m b2, .string t] 54)).alloc
      (.cells #[.int .i64 O1, .bool O2, .int .i64 O3, .slice A1 n a1] 51)).alloc (.cells #[.int .i64 O1, .bool O2, .int .i64 O3, .slice B1 n b1] 51)).drew → SmSt w O1 O2 O3 t xs (ahsV ys) n m A1 A2 B1 B2 a1 a2 b1 b2 p q wr := by
    rintro p q wr rfl rfl rfl
    obtain ⟨hb, h1, h2, h3, h4⟩ := four_new w _ _ _ _
    exact ⟨hb, h1, h2, h3, h4, hA1.below hb, hB1.below hb, hA2.below hb, hB2.below hb⟩
  have HS1 := Lib.hid hs1
  have HS2 := Lib.hid hs2
  have HXN := Lib.hid hxn
  have HYM := Lib.hid hym
  have HXI := Lib.hid hxi
  clear hs1 hs2 hA1 hA2 hB1 hB2 hxn hym hxi
  go_enter Tryz.func13, Tryz.ntmps13
  go_wp2_with fail
  go_region
  all_goals
    generalize hW : World.drew (World.alloc _ _) = wS
    obtain ⟨u, hu⟩ : ∃ u, u = w.heap.size + 1 + 1 := ⟨_, rfl⟩
    obtain ⟨v, hv⟩ : ∃ v, v = w.heap.size + 1 + 1 + 1 := ⟨_, rfl⟩
    rw [← hv, ← hu]
    first
    | (have hst := HS1.out v u wS hv hu hW.symm
       obtain ⟨p, hp⟩ : ∃ p, p = v := ⟨_, rfl⟩
       obtain ⟨q, hq⟩ : ∃ q, q = u := ⟨_, rfl⟩
       subst hp hq)
    | (have hst := HS2.out u v wS hu hv hW.symm
       obtain ⟨p, hp⟩ : ∃ p, p = u := ⟨_, rfl⟩
       obtain ⟨q, hq⟩ : ∃ q, q = v := ⟨_, rfl⟩
       subst hp hq)
    clear hW hu hv HS1 HS2
    have HST := Lib.hid hst
    obtain ⟨⟨e4, e5, f4, f5⟩, ⟨c0, c1, c2, c3⟩, ⟨d0, d1, d2, d3⟩⟩ := hst.cells
    clear hst
    go_wp2_with fail
    clear e4 e5 f4 f5 c0 c1 c2 c3 d0 d1 d2 d3
    go_loopw [60] (fun i wr => ∃ k0 : Nat, i = .int .i64 k0 ∧ k0 ≤ n ∧ SmSt w O1 O2 O3 t xs (ahsV ys) n m A1 A2 B1 B2 a1 a2 b1 b2 p q wr) (fun i _ => n - (intOf i).toNat)
    case atStart => exact ⟨0, rfl, by omega, HST.out⟩
    case round =>
      obtain ⟨k0, rfl, hk0, hst⟩ := hrel
      have HST2 := Lib.hid hst
      by_cases hlt : k0 < n
      · obtain ⟨⟨e4, e5, f4, f5⟩, ⟨c0, c1, c2, c3⟩, ⟨d0, d1, d2, d3⟩⟩ := hst.cells
        obtain ⟨u, hu⟩ : ∃ u, xs[k0]? = some u := ⟨_, List.getElem?_eq_getElem (by rw [HXN.out]; exact hlt)⟩
        obtain ⟨v, rfl⟩ := HXI.out u (List.mem_of_getElem? hu)
        obtain ⟨g1, rfl, hg1, hc1⟩ := hst.rA1.at_ k0 _ hu
        obtain ⟨g2, rfl, hg2, hc2⟩ := hst.rB1.at_ k0 _ hu
        have hki : (k0 : Int) < (n : Int) := by omega
        clear hst hu e4 e5 f4 f5 c0 c1 c2 d0 d1 d2
        go_wp2_with fail
        go_quiet (fail)
        go_wp2_with fail
        go_roundw
        case rel => exact ⟨k0 + 1, by go_num, by omega, HST2.out.later (below_drewN (Below.refl _ _) nq)⟩
        case measure => simp [intOf]; omega
      · have hn0 : n = k0 := by omega
        subst hn0
        obtain ⟨⟨e4, e5, f4, f5⟩, -, -⟩ := hst.cells
        clear hst
        go_wp2_with fail
        clear e4 e5 f4 f5
        go_loopw [78] (fun i wr => ∃ k1 : Nat, i = .int .i64 k1 ∧ k1 ≤ m ∧ SmSt w O1 O2 O3 t xs (ahsV ys) n m A1 A2 B1 B2 a1 a2 b1 b2 p q wr) (fun i _ => m - (intOf i).toNat)
        case atStart => exact ⟨0, rfl, by omega, HST2.out⟩
        case round =>
          obtain ⟨k1, rfl, hk1, hst⟩ := hrel
          have HST3 := Lib.hid hst
          by_cases hlt : k1 < m
          · obtain ⟨⟨e4, e5, f4, f5⟩, -, -⟩ := hst.cells
            obtain ⟨y, hy1⟩ : ∃ y, ys[k1]? = some y := ⟨_, List.getElem?_eq_getElem (by rw [HYM.out]; exact hlt)⟩
            have hq1 := flat_at (fun x : Int × List UInt8 => [Value.int .i64 x.1, .string (bs x.2)]) 2 (fun _ => rfl) ys k1 0 y hy1 (by omega)
            have hq2 := flat_at (fun x : Int × List UInt8 => [Value.int .i64 x.1, .string (bs x.2)]) 2 (fun _ => rfl) ys k1 1 y hy1 (by omega)
            obtain ⟨g1, hA, hg1, hc1⟩ := hst.rA2.at_ _ _ hq1
            obtain ⟨g2, hB, hg2, hc2⟩ := hst.rB2.at_ _ _ hq1
            obtain ⟨g1', hA', -, hc3⟩ := hst.rA2.at_ _ _ hq2
            obtain ⟨g2', hB', -, hc4⟩ := hst.rB2.at_ _ _ hq2
            rw [hA] at hA'
            rw [hB] at hB'
            simp only [Option.some.injEq, Addr.mk.injEq, and_true] at hA' hB'
            subst hA' hB' hA hB
            simp only [Nat.add_zero] at hc1 hc2
            have hki : (k1 : Int) < (m : Int) := by omega
            clear hst hy1 hq1 hq2 e5 f5
            go_wp2_with fail
            go_quiet (fail)
            go_wp2_with fail
            go_roundw
            case rel => exact ⟨k1 + 1, by go_num, by omega, HST3.out.later (below_drewN (Below.refl _ _) nq)⟩
            case measure => simp [intOf]; omega
          · clear hst
            go_wp2_with fail
            go_ret
            exact ⟨rfl, HST3.out.below⟩
end Go.Proofs.YtkbjnlcongjokaaGreatDoor

/- What a feed's Next answers: one spec for feed.Next and quaymasterref.Feed.Next. -/
namespace Go.Proofs.YtkbjnlcongjokaaGreatDoor
open Go.RowKit
inductive NOut where
  | wait
  | fail (c : Int)
  | good (n : Nat)
  | spoilt (n : Nat)
def nextN (l : List UInt8) (mode : Int) : Nat := (pduSize l mode).1.toNat
def nextOut (l : List UInt8) (limit mode : Int) : NOut :=
  if l.length < 48 then .wait
  else if limit < dlen l then .fail 4
  else if (l.length : Int) < (pduSize l mode).1 then .wait
  else if pduErr (l.take (nextN l mode)) mode = 0 then .good (nextN l mode)
  else if pduErr (l.take (nextN l mode)) mode = 13 then .spoilt (nextN l mode)
  else .fail (pduErr (l.take (nextN l mode)) mode)
def NOut.ok : NOut → Bool
  | .good _ => true
  | .spoilt _ => true
  | _ => false
def NOut.err : NOut → Int
  | .fail c => c
  | _ => 0
def NOut.left (l : List UInt8) : NOut → List UInt8
  | .wait => l
  | .fail _ => []
  | .good n => l.drop n
  | .spoilt n => l.drop n
def NOut.bad : NOut → Bool
  | .fail _ => true
  | _ => false
def pz7 (t : ByteArray) : List Value := [.int .i64 0, .bool false, .int .i64 0, .slice none 0 0, .slice none 0 0, .string ⟨#[]⟩, .string t]
/-- The piece as a value. -/
def PieceIs (w' : World) (B : Nat) (l : List UInt8) (mode : Int) (v : Value) : NOut → Prop
  | .good n => ∃ v1 v2, v = .agg #[.int .i64 (headOp ((l.take n).take 48)), .bool (headNow ((l.take n).take 48)), .int .i64 (((l.take n).take 48).getD 1 0).toNat, v1, v2, .string (bs (unpad (pduRest (l.take n) mode) (dlen (l.take n))).1), .string ⟨#[]⟩] ∧
      w'.ownsRow B 97 1 v1 (headVals ((l.take n).take 48)).length (headVals ((l.take n).take 48)) ∧
      w'.ownsRow B 103 2 v2 (ahsAll (((pduAll (l.take n) mode).take (pduEnd (l.take n))).drop 48)).1.length (ahsV (ahsAll (((pduAll (l.take n) mode).take (pduEnd (l.take n))).drop 48)).1)
  | .spoilt _ => v = .agg (pz7 (bs (l.take 48))).toArray
  | _ => v = .agg (pz7 ⟨#[]⟩).toArray
/-- What Next leaves: a the feed's block, fc its cells then. -/
structure NextPost (w : World) (a : Nat) (l : List UInt8) (mode : Int) (out : NOut) (er : Int → Value) (fc : List Value) (T : TypeId) (e : Ending) (w' : World) : Prop where
  grown : w.grownBy w' (some a)
  fd : w'.heap[a]? = some (.cells fc.toArray T (0, 0))
  val : ∃ v, e = .returned (.tuple #[v, .bool out.ok, er out.err]) ∧ PieceIs w' w.heap.size l mode v out
end Go.Proofs.YtkbjnlcongjokaaGreatDoor

/- quaymasterref.Feed.Next. -/
namespace Go.Proofs.YtkbjnlcongjokaaGreatDoor
open Go.RowKit
abbrev rfc (s : ByteArray) (limit mode : Int) (bad : Bool) : List Value := [.string s, .int .i64 limit, .int .i64 mode, .bool bad]
end Go.Proofs.YtkbjnlcongjokaaGreatDoor

/- quaymasterref.Feed.Next: the limit, too few bytes. -/
namespace Go.Proofs.YtkbjnlcongjokaaGreatDoor
open Go.RowKit
end Go.Proofs.YtkbjnlcongjokaaGreatDoor

/- quaymasterref.Feed.Next: a PDU is there. -/
namespace Go.Proofs.YtkbjnlcongjokaaGreatDoor
open Go.RowKit
theorem pcells {wr : World} {p : Nat} {t : TypeId} {x0 x1 x2 x3 x4 x5 : Value} (h : wr.heap[p]? = some (.cells #[x0, x1, x2, x3, x4, x5] t (0, 0))) :
    (wr.cell? ⟨p, 0, none⟩ = some x0 ∧ wr.cell? ⟨p, 1, none⟩ = some x1 ∧ wr.cell? ⟨p, 2, none⟩ = some x2 ∧ wr.cell? ⟨p, 3, none⟩ = some x3 ∧ wr.cell? ⟨p, 4, none⟩ = some x4 ∧ wr.cell? ⟨p, 5, none⟩ = some x5) ∧
    (wr.frozen? ⟨p, 0, none⟩ = false ∧ wr.frozen? ⟨p, 1, none⟩ = false ∧ wr.frozen? ⟨p, 2, none⟩ = false ∧ wr.frozen? ⟨p, 3, none⟩ = false ∧ wr.frozen? ⟨p, 4, none⟩ = false ∧ wr.frozen? ⟨p, 5, none⟩ = false) := by
  simp [World.cell?, World.frozen?, h]
theorem own_set6 {w : World} {base : Nat} {e : TypeId} {size n : Nat} {v : Value} {xs : List Value} (h : w.ownsRow base e size v n xs) (g : Nat) (hg : g < base) (a b c d x y : Value) :
    ((((((w.setCell ⟨g, 0, none⟩ a).setCell ⟨g, 1, none⟩ b).setCell ⟨g, 2, none⟩ c).setCell ⟨g, 3, none⟩ d).setCell ⟨g, 4, none⟩ x).setCell ⟨g, 5, none⟩ y).ownsRow base e size v n xs :=
  own_set (own_set (own_set4 h g hg a b c d) g 4 hg x) g 5 hg y
end Go.Proofs.YtkbjnlcongjokaaGreatDoor

/- quaymasterref.Feed.Next: a PDU that is spoilt or wrong. -/
namespace Go.Proofs.YtkbjnlcongjokaaGreatDoor
open Go.RowKit
end Go.Proofs.YtkbjnlcongjokaaGreatDoor

/- quaymasterref.Feed.Next: all of it. -/
namespace Go.Proofs.YtkbjnlcongjokaaGreatDoor
open Go.RowKit
theorem size_z (l : List UInt8) (mode : Int) : ((nextN l mode : Nat) : Int) = (pduSize l mode).1 ∧ nextN l mode ≤ 17000000 := by
  unfold nextN pduSize
  by_cases h1 : wi mode 0 3 = false
  · rw [if_pos h1]; simp
  · rw [if_neg h1]
    by_cases h2 : l.length < 48
    · rw [if_pos h2]; simp
    · rw [if_neg h2]
      have hm : 0 ≤ mode ∧ mode ≤ 3 := by
        by_cases hm : 0 ≤ mode ∧ mode ≤ 3
        · exact hm
        · exact absurd (wi_no hm) h1
      have hb := szN_bd l mode hm.1 hm.2
      show ((szN l mode).toNat : Int) = szN l mode ∧ (szN l mode).toNat ≤ 17000000
      omega
end Go.Proofs.YtkbjnlcongjokaaGreatDoor

/- feed.fail, New, Put, Mode, Kept. -/
namespace Go.Proofs.YtkbjnlcongjokaaGreatDoor
open Go.RowKit
abbrev gfc (s : ByteArray) (limit mode : Int) (er : Value) : List Value := [.string s, .int .i64 limit, .int .i64 mode, er]
end Go.Proofs.YtkbjnlcongjokaaGreatDoor

/- feed.Feed.Next: the first ways. -/
namespace Go.Proofs.YtkbjnlcongjokaaGreatDoor
open Go.RowKit
end Go.Proofs.YtkbjnlcongjokaaGreatDoor

/- feed.Feed.Next: a PDU is there, or not yet. -/
namespace Go.Proofs.YtkbjnlcongjokaaGreatDoor
open Go.RowKit
end Go.Proofs.YtkbjnlcongjokaaGreatDoor

/- feed.Feed.Next: a PDU that is spoilt or wrong. -/
namespace Go.Proofs.YtkbjnlcongjokaaGreatDoor
open Go.RowKit
end Go.Proofs.YtkbjnlcongjokaaGreatDoor

/- feed.Feed.Next: all of it. -/
namespace Go.Proofs.YtkbjnlcongjokaaGreatDoor
open Go.RowKit
/-- The feed's error behind Next. -/
def NOut.ev : NOut → Value
  | .fail c => .iface 32 (.int .i64 c)
  | _ => .nilIface
end Go.Proofs.YtkbjnlcongjokaaGreatDoor

/- Two pieces with equal content are one: FeedPlays' own function. -/
namespace Go.Proofs.YtkbjnlcongjokaaGreatDoor
open Go.RowKit
/-- What a piece tells. -/
structure PcD where
  o1 : Int
  o2 : Bool
  o3 : Int
  xs : List Value
  ys : List (Int × List UInt8)
  t : ByteArray
  u : ByteArray
/-- A value is that piece. -/
def PieceV (w : World) (d : PcD) (v : Value) : Prop := ∃ A1 a1 A2 a2, v = .agg #[.int .i64 d.o1, .bool d.o2, .int .i64 d.o3, .slice A1 d.xs.length a1, .slice A2 d.ys.length a2, .string d.t, .string d.u] ∧ RowV w A1 d.xs ∧ RowV w A2 (ahsV d.ys)
theorem PieceV.below {w w' : World} {d : PcD} {v : Value} (h : PieceV w d v) (hb : Below w.heap.size w w') : PieceV w' d v := by
  obtain ⟨A1, a1, A2, a2, h1, h2, h3⟩ := h
  exact ⟨A1, a1, A2, a2, h1, h2.below hb, h3.below hb⟩
/-- The piece of a Next. -/
def NOut.piece (l : List UInt8) (mode : Int) : NOut → PcD
  | .good n => ⟨headOp ((l.take n).take 48), headNow ((l.take n).take 48), (((l.take n).take 48).getD 1 0).toNat, headVals ((l.take n).take 48), (ahsAll (((pduAll (l.take n) mode).take (pduEnd (l.take n))).drop 48)).1,
      bs (unpad (pduRest (l.take n) mode) (dlen (l.take n))).1, ⟨#[]⟩⟩
  | .spoilt _ => ⟨0, false, 0, [], [], ⟨#[]⟩, bs (l.take 48)⟩
  | _ => ⟨0, false, 0, [], [], ⟨#[]⟩, ⟨#[]⟩⟩
theorem rowV_nil (w : World) (A : Option Addr) : RowV w A [] := ⟨fun j u h => by simp at h⟩
theorem ahsV_len (ys : List (Int × List UInt8)) : (ahsV ys).length = ys.length * 2 := by
  unfold ahsV
  induction ys with
  | nil => rfl
  | cons y ys ih => simp [ih]; omega
theorem piece_v {w : World} {B : Nat} {l : List UInt8} {mode : Int} {v : Value} {out : NOut} (h : PieceIs w B l mode v out) : PieceV w (out.piece l mode) v := by
  cases out with
  | good n =>
    obtain ⟨v1, v2, rfl, h1, h2⟩ := h
    obtain ⟨A1, a1, rfl, r1⟩ := own_rowV h1
    obtain ⟨A2, a2, rfl, r2⟩ := own_rowV h2
    exact ⟨A1, a1, A2, a2, rfl, r1, r2⟩
  | spoilt n => exact ⟨none, 0, none, 0, h, rowV_nil _ _, rowV_nil _ _⟩
  | wait => exact ⟨none, 0, none, 0, h, rowV_nil _ _, rowV_nil _ _⟩
  | fail c => exact ⟨none, 0, none, 0, h, rowV_nil _ _, rowV_nil _ _⟩
theorem headVals_u64 (l : List UInt8) : ∀ u ∈ headVals l, ∃ v : Int, u = .int .u64 v := by
  unfold headVals numsV
  intro u hu
  split at hu
  · simp at hu
  · obtain ⟨f, -, rfl⟩ := List.mem_map.1 hu
    exact ⟨_, rfl⟩
/-- A piece that the walk can compare. -/
def PcD.fit (d : PcD) : Prop := (∀ u ∈ d.xs, ∃ v : Int, u = .int .u64 v) ∧ d.xs.length ≤ 9223372036854775807 ∧ d.ys.length ≤ 9223372036854775807
theorem own_len {w : World} {base : Nat} {e : TypeId} {size n : Nat} {v : Value} {xs : List Value} (h : w.ownsRow base e size v n xs) : n ≤ 9223372036854775807 := by
  rcases h.2 with ⟨-, h0⟩ | ⟨g, cap, cur, -, -, -, h3, h4, -⟩
  · omega
  · have : maxLen ≤ 9223372036854775807 := by decide
    omega
theorem piece_fit {w : World} {B : Nat} {l : List UInt8} {mode : Int} {v : Value} {out : NOut} (h : PieceIs w B l mode v out) : (out.piece l mode).fit := by
  cases out with
  | good n =>
    obtain ⟨v1, v2, rfl, h1, h2⟩ := h
    exact ⟨headVals_u64 _, own_len h1, own_len h2⟩
  | spoilt n => exact ⟨fun u hu => by simp [NOut.piece] at hu, by simp [NOut.piece], by simp [NOut.piece]⟩
  | wait => exact ⟨fun u hu => by simp [NOut.piece] at hu, by simp [NOut.piece], by simp [NOut.piece]⟩
  | fail c => exact ⟨fun u hu => by simp [NOut.piece] at hu, by simp [NOut.piece], by simp [NOut.piece]⟩
end Go.Proofs.YtkbjnlcongjokaaGreatDoor

/- feed.Feed.All: the run of Next, plain; rows with a lower bound. -/
namespace Go.Proofs.YtkbjnlcongjokaaGreatDoor
open Go.RowKit
def allRun (limit mode : Int) : Nat → List UInt8 → List PcD × NOut × List UInt8
  | 0, l => ([], .wait, l)
  | f + 1, l => if (nextOut l limit mode).ok then
      ((nextOut l limit mode).piece l mode :: (allRun limit mode f ((nextOut l limit mode).left l)).1, (allRun limit mode f ((nextOut l limit mode).left l)).2)
    else ([], nextOut l limit mode, (nextOut l limit mode).left l)
theorem next_short {l : List UInt8} {limit mode : Int} (hm : 0 ≤ mode ∧ mode ≤ 3) (h : (nextOut l limit mode).ok = true) : ((nextOut l limit mode).left l).length + 1 ≤ l.length := by
  unfold nextOut at h ⊢
  by_cases h1 : l.length < 48
  · rw [if_pos h1] at h; cases h
  · rw [if_neg h1] at h ⊢
    by_cases h2 : limit < dlen l
    · rw [if_pos h2] at h; cases h
    · rw [if_neg h2] at h ⊢
      by_cases h3 : (l.length : Int) < (pduSize l mode).1
      · rw [if_pos h3] at h; cases h
      · rw [if_neg h3] at h ⊢
        have hz : 48 ≤ nextN l mode := by
          unfold nextN pduSize
          rw [wi_yes hm, if_neg (by decide), if_neg h1]
          have := szN_bd l mode hm.1 hm.2
          show 48 ≤ (szN l mode).toNat
          omega
        by_cases h4 : pduErr (l.take (nextN l mode)) mode = 0
        · rw [if_pos h4]; show (l.drop _).length + 1 ≤ _; rw [List.length_drop]; omega
        · rw [if_neg h4] at h ⊢
          by_cases h5 : pduErr (l.take (nextN l mode)) mode = 13
          · rw [if_pos h5]; show (l.drop _).length + 1 ≤ _; rw [List.length_drop]; omega
          · rw [if_neg h5] at h; cases h
theorem next_fail {l : List UInt8} {limit mode c : Int} (h : nextOut l limit mode = .fail c) : c ≠ 0 := by
  unfold nextOut at h
  by_cases h1 : l.length < 48
  · rw [if_pos h1] at h; cases h
  · rw [if_neg h1] at h
    by_cases h2 : limit < dlen l
    · rw [if_pos h2] at h; cases h; decide
    · rw [if_neg h2] at h
      by_cases h3 : (l.length : Int) < (pduSize l mode).1
      · rw [if_pos h3] at h; cases h
      · rw [if_neg h3] at h
        by_cases h4 : pduErr (l.take (nextN l mode)) mode = 0
        · rw [if_pos h4] at h; cases h
        · rw [if_neg h4] at h
          by_cases h5 : pduErr (l.take (nextN l mode)) mode = 13
          · rw [if_pos h5] at h; cases h
          · rw [if_neg h5] at h; cases h; exact h4
theorem own_grown {w w' : World} {B : Nat} {e : TypeId} {size n : Nat} {v : Value} {xs : List Value} (h : w.ownsRow B e size v n xs) {row : Option Nat} (hg : w.grownBy w' row)
    (hr : ∀ k, row = some k → k < B ∨ ∃ cur t, w.heap[k]? = some (.cells cur t (0, 0)) ∧ t ≠ e) : w'.ownsRow B e size v n xs := by
  refine h.kept hg ?_
  rcases h.2 with ⟨rfl, -⟩ | ⟨g, cap, cur, rfl, h1, h2, -⟩
  · exact .inl rfl
  · refine .inr (fun hk => ?_)
    have hk' : row = some g := hk.symm
    rcases hr g hk' with h3 | ⟨cur', t, h3, h4⟩
    · omega
    · rw [h2] at h3
      injection h3 with h3
      injection h3 with _ h5 _
      exact h4 h5.symm
def pcL (d : PcD) (A1 A2 : Option Addr) (a1 a2 : Nat) : List Value := [.int .i64 d.o1, .bool d.o2, .int .i64 d.o3, .slice A1 d.xs.length a1, .slice A2 d.ys.length a2, .string d.t, .string d.u]
/-- The seven cells of that piece. -/
def PieceB (w : World) (B : Nat) (d : PcD) (cs : List Value) : Prop := ∃ A1 a1 A2 a2, cs = pcL d A1 A2 a1 a2 ∧ w.ownsRow B 97 1 (.slice A1 d.xs.length a1) d.xs.length d.xs ∧ w.ownsRow B 103 2 (.slice A2 d.ys.length a2) d.ys.length (ahsV d.ys) ∧ d.fit
theorem PieceB.grown {w w' : World} {B : Nat} {d : PcD} {cs : List Value} (h : PieceB w B d cs) {row : Option Nat} (hg : w.grownBy w' row)
    (hr : ∀ k, row = some k → k < B ∨ ∃ cur t, w.heap[k]? = some (.cells cur t (0, 0)) ∧ t ≠ 97 ∧ t ≠ 103) : PieceB w' B d cs := by
  obtain ⟨A1, a1, A2, a2, h1, h2, h3, h4⟩ := h
  exact ⟨A1, a1, A2, a2, h1, own_grown h2 hg (fun k hk => (hr k hk).imp id (fun ⟨c, t, x, y, z⟩ => ⟨c, t, x, y⟩)), own_grown h3 hg (fun k hk => (hr k hk).imp id (fun ⟨c, t, x, y, z⟩ => ⟨c, t, x, z⟩)), h4⟩
theorem PieceB.mono {w : World} {B B' : Nat} {d : PcD} {cs : List Value} (h : PieceB w B d cs) (hb : B' ≤ B) : PieceB w B' d cs := by
  obtain ⟨A1, a1, A2, a2, h1, h2, h3, h4⟩ := h
  exact ⟨A1, a1, A2, a2, h1, own_mono h2 hb, own_mono h3 hb, h4⟩
theorem PieceB.v {w : World} {B : Nat} {d : PcD} {cs : List Value} (h : PieceB w B d cs) : PieceV w d (.agg cs.toArray) := by
  obtain ⟨A1, a1, A2, a2, rfl, h2, h3, -⟩ := h
  obtain ⟨C1, c1, e1, r1⟩ := own_rowV h2
  obtain ⟨C2, c2, e2, r2⟩ := own_rowV h3
  injection e1 with x1 x2 x3
  injection e2 with y1 y2 y3
  subst x1 y1
  exact ⟨A1, a1, A2, a2, rfl, r1, r2⟩
theorem piece_b {w : World} {B : Nat} {l : List UInt8} {mode : Int} {v : Value} {out : NOut} (h : PieceIs w B l mode v out) : ∃ cs, v = .agg cs.toArray ∧ PieceB w B (out.piece l mode) cs := by
  have hf := piece_fit h
  cases out with
  | good n =>
    obtain ⟨v1, v2, rfl, h1, h2⟩ := h
    obtain ⟨A1, a1, rfl, r1⟩ := own_rowV h1
    obtain ⟨A2, a2, rfl, r2⟩ := own_rowV h2
    exact ⟨_, rfl, A1, a1, A2, a2, rfl, h1, h2, hf⟩
  | spoilt n => exact ⟨_, h, none, 0, none, 0, rfl, World.ownsRow_nil _ _ _ _, World.ownsRow_nil _ _ _ _, hf⟩
  | wait => exact ⟨_, h, none, 0, none, 0, rfl, World.ownsRow_nil _ _ _ _, World.ownsRow_nil _ _ _ _, hf⟩
  | fail c => exact ⟨_, h, none, 0, none, 0, rfl, World.ownsRow_nil _ _ _ _, World.ownsRow_nil _ _ _ _, hf⟩
end Go.Proofs.YtkbjnlcongjokaaGreatDoor

/- full.make. -/
namespace Go.Proofs.YtkbjnlcongjokaaGreatDoor
open Go.RowKit
/-- Below B all but block x is as it was. -/
structure BelX (B x : Nat) (w w' : World) : Prop where
  os : w'.os = w.os
  tape : w'.tape = w.tape
  output : w'.output = w.output
  size : w.heap.size ≤ w'.heap.size
  block : ∀ k, k < B → k ≠ x → w'.heap[k]? = w.heap[k]?
theorem BelX.refl (B x : Nat) (w : World) : BelX B x w w := ⟨rfl, rfl, rfl, Nat.le_refl _, fun _ _ _ => rfl⟩
theorem BelX.trans {B x : Nat} {a b c : World} (h : BelX B x a b) (k : BelX B x b c) : BelX B x a c :=
  ⟨k.os.trans h.os, k.tape.trans h.tape, k.output.trans h.output, Nat.le_trans h.size k.size, fun i hi hx => (k.block i hi hx).trans (h.block i hi hx)⟩
theorem BelX.below {B x : Nat} {a b c : World} (h : BelX B x a b) (hB : B ≤ a.heap.size) (k : Below b.heap.size b c) : BelX B x a c :=
  ⟨k.os.trans h.os, k.tape.trans h.tape, k.output.trans h.output, Nat.le_trans h.size k.size, fun i hi hx => (k.block i (Nat.lt_of_lt_of_le hi (Nat.le_trans hB h.size))).trans (h.block i hi hx)⟩
theorem BelX.alloc {B x : Nat} {a b : World} (h : BelX B x a b) (hB : B ≤ a.heap.size) (o : Obj) : BelX B x a (b.alloc o) := h.below hB (below_alloc (Below.refl _ _) (Nat.le_refl _) _)
theorem BelX.drew {B x : Nat} {a b : World} (h : BelX B x a b) : BelX B x a b.drew := ⟨h.os, h.tape, h.output, h.size, h.block⟩
theorem BelX.set {B x : Nat} {a b : World} (h : BelX B x a b) (i : Nat) (v : Value) : BelX B x a (b.setCell ⟨x, i, none⟩ v) :=
  ⟨h.os, h.tape, h.output, by simp [World.setCell]; exact h.size, fun k hk hx => (Below.heap_setCell _ _ _ _ (by exact hx)).trans (h.block k hk hx)⟩
theorem BelX.grown {B x : Nat} {a b c : World} (h : BelX B x a b) (hB : B ≤ a.heap.size) {r : Option Nat} (g : b.grownBy c r) (hr : ∀ q, r = some q → B ≤ q) : BelX B x a c :=
  ⟨g.os.trans h.os, g.tape.trans h.tape, g.output.trans h.output, Nat.le_trans h.size g.size, fun i hi hx => (g.block i (Nat.lt_of_lt_of_le hi (Nat.le_trans hB h.size)) (fun e => by have := hr i e.symm; omega)).trans (h.block i hi hx)⟩
theorem BelX.setRow {B x : Nat} {a b : World} (h : BelX B x a b) {g : Nat} (hg : B ≤ g) (cs : Array Value) : BelX B x a (b.setRow g cs) :=
  ⟨h.os, h.tape, h.output, by simp; exact h.size, fun k hk hx => by
    simp only [World.setRow, Array.getElem?_modify, if_neg (show ¬ g = k by omega)]
    exact h.block k hk hx⟩
theorem strs_of_own {w : World} {B n : Nat} {v : Value} {xs : List ByteArray} (h : w.ownsRow B 9 1 v n (xs.map Value.string)) : ∃ A c, v = .slice A n c ∧ StrsV w A xs ∧ (∀ ad, A = some ad → ad.block < w.heap.size) := by
  obtain ⟨A, c, rfl, hr⟩ := own_rowV h
  refine ⟨A, c, rfl, ⟨fun j s hs => ?_⟩, fun ad e => ?_⟩
  · obtain ⟨g, h1, h2, h3⟩ := hr.at_ j (.string s) (by simp [hs])
    exact ⟨g, 0, h1, h2, by rw [Nat.zero_add]; exact h3⟩
  · subst e
    exact (h.lt ad.block rfl).2
theorem u64s_of_own {w : World} {B n : Nat} {v : Value} {xs : List Nat} (h : w.ownsRow B 97 1 v n (xs.map fun x : Nat => Value.int .u64 (x : Int))) (hs : ∀ x ∈ xs, x < 18446744073709551616) : ∃ A c, v = .slice A n c ∧ U64s w A xs ∧ (∀ ad, A = some ad → ad.block < w.heap.size) := by
  obtain ⟨A, c, rfl, hr⟩ := own_rowV h
  refine ⟨A, c, rfl, ⟨fun j s hj => ?_, hs⟩, fun ad e => ?_⟩
  · obtain ⟨g, h1, h2, h3⟩ := hr.at_ j (.int .u64 (s : Int)) (by simp [hj])
    exact ⟨_, h1, h2, by rw [WideShapes.add_plain, Nat.zero_add]; exact h3⟩
  · subst e
    exact (h.lt ad.block rfl).2
/-- The cells of a full.Full or ref.Full: all but the numbers. -/
abbrev fullC (N : Value) (cf : List Value) (tg : ByteArray) (di : Bool) (st cm : Int) (G L : Value) (cl : Bool) : Array Value := (([N] ++ cf) ++ [.string tg, .bool di, .int .u32 st, .int .u32 cm, G, L, .bool cl]).toArray
structure FmSt (w : World) (B bf : Nat) (C : Array Value) (T : TypeId) (wr : World) : Prop where
  bel : BelX B bf w wr
  f : wr.heap[bf]? = some (.cells C T (0, 0))
  base : B ≤ w.heap.size
  lt : bf < B
theorem FmSt.later {w : World} {B bf : Nat} {C : Array Value} {T : TypeId} {wr w' : World} (h : FmSt w B bf C T wr) (hb : Below wr.heap.size wr w') : FmSt w B bf C T w' :=
  ⟨h.bel.below h.base hb, (hb.block _ (heap_lt h.f)).trans h.f, h.base, h.lt⟩
theorem FmSt.grown {w : World} {B bf : Nat} {C : Array Value} {T : TypeId} {wr w' : World} (h : FmSt w B bf C T wr) {r : Option Nat} (g : wr.grownBy w' r) (hr : ∀ q, r = some q → B ≤ q) : FmSt w B bf C T w' :=
  ⟨h.bel.grown h.base g hr, (g.block _ (heap_lt h.f) (fun e => by have := hr _ e.symm; have := h.lt; omega)).trans h.f, h.base, h.lt⟩
theorem FmSt.set {w : World} {B bf : Nat} {C : Array Value} {T : TypeId} {wr : World} (h : FmSt w B bf C T wr) (i : Nat) (v : Value) : FmSt w B bf (C.setIfInBounds i v) T (wr.setCell ⟨bf, i, none⟩ v) :=
  ⟨h.bel.set i v, by simp [World.setCell, Array.getElem?_modify, h.f], h.base, h.lt⟩
theorem FmSt.row {w : World} {B bf : Nat} {C : Array Value} {T : TypeId} {wr : World} (h : FmSt w B bf C T wr) {g : Nat} (hg : B ≤ g) (cs : Array Value) : FmSt w B bf C T (wr.setRow g cs) :=
  ⟨h.bel.setRow hg cs, by
    have := h.lt
    simp only [World.setRow, Array.getElem?_modify, if_neg (show ¬ g = bf by omega)]
    exact h.f, h.base, h.lt⟩
abbrev moreN : List ByteArray := [⟨#[83, 116, 97, 116, 83, 78]⟩, ⟨#[69, 120, 112, 67, 109, 100, 83, 78]⟩, ⟨#[77, 97, 120, 67, 109, 100, 83, 78]⟩]
def moreV (st cm : Nat) : List Nat := [st, cm, (cm + 31) % 4294967296]
theorem moreV_lt {st cm : Nat} (h1 : st ≤ 4294967295) (h2 : cm ≤ 4294967295) : ∀ x ∈ moreV st cm, x < 18446744073709551616 := by
  intro x hx
  simp [moreV] at hx
  omega
theorem str_info : (Tryz.prog.info? 9).map (fun i => (i.zero, i.size, i.bytes)) = some (some (.string ByteArray.empty), 1, 16) := by kernel_rfl
theorem pdu_info : (Tryz.prog.info? 54).map (·.size) = some 6 := by kernel_rfl
theorem fullgt {w : World} {bf : Nat} {N : Value} {cf : List Value} {tg : ByteArray} {di : Bool} {st cm : Int} {G L : Value} {cl : Bool} {T : TypeId} (hc : cf.length = 7) (h : w.heap[bf]? = some (.cells (fullC N cf tg di st cm G L cl) T (0, 0))) :
    w.cell? ⟨bf, 10, none⟩ = some (.int .u32 st) ∧ w.cell? ⟨bf, 11, none⟩ = some (.int .u32 cm) ∧ w.frozen? ⟨bf, 10, none⟩ = false := by
  match cf, hc with
  | [a, b, c, d, e, f, g], _ => simp [World.cell?, World.frozen?, h, fullC]
theorem fullset {N : Value} {cf : List Value} {tg : ByteArray} {di : Bool} {st cm st' : Int} {G L : Value} {cl : Bool} (hc : cf.length = 7) : (fullC N cf tg di st cm G L cl).setIfInBounds 10 (.int .u32 st') = fullC N cf tg di st' cm G L cl := by
  match cf, hc with
  | [a, b, c, d, e, f, g], _ => simp [fullC]
end Go.Proofs.YtkbjnlcongjokaaGreatDoor

/- full.make: the walk. -/
namespace Go.Proofs.YtkbjnlcongjokaaGreatDoor
open Go.RowKit
abbrev pdu6 (op fl : Int) (v : Value) (d : ByteArray) : List Value := [.int .i64 op, .bool false, .int .i64 fl, v, .slice none 0 0, .string d]
theorem u64_in (x : Int) (h : 0 ≤ x ∧ x ≤ 18446744073709551615) : IntKind.u64.wrap x = x := by
  show x % 2 ^ 64 = x
  omega
set_option maxRecDepth 100000 in
set_option maxHeartbeats 4000000 in
theorem make_full (bf B : Nat) (op fl : Int) (d : ByteArray) (N : Value) (cf : List Value) (tg : ByteArray) (di : Bool) (st cm : Nat) (G L : Value) (cl : Bool) (nv vv : Value) (na : Nat) (names : List ByteArray) (vals out : List Nat) (k : Knd) (w : World) (hw : ∀ w', BelX B bf w w' → Laid w')
    (hf : w.heap[bf]? = some (.cells (fullC N cf tg di st cm G L cl) 94 (0, 0))) (hcf : cf.length = 7) (hst : st ≤ 4294967295) (hcm : cm ≤ 4294967295)
    (hns : w.ownsRow B 9 1 nv na (names.map Value.string)) (hvs : w.ownsRow B 97 1 vv na (vals.map fun x : Nat => Value.int .u64 (x : Int))) (hvl : ∀ x ∈ vals, x < 18446744073709551616) (hB : B ≤ w.heap.size) (hbB : bf < B) (hna : na ≤ 1000)
    (h0 : -9223372036854775808 ≤ op) (h1 : op ≤ 9223372036854775807) (hk : kindOf op = some k) (hgo : mkGo k.l (names ++ moreN) (vals ++ moreV st cm) (List.replicate k.l.length 0) = some out) (hr : (hdRight op false fl out).1 = 0) :
    Calls Tryz.prog 27 #[.pointer (some ⟨bf, 0, none⟩), .int .i64 op, .int .i64 fl, .string d, nv, vv] w fun e w' => ∃ gv, e = .returned (.agg (pdu6 op fl (.slice (some ⟨gv, 0, none⟩) k.l.length k.l.length) d).toArray) ∧ FmSt w B bf (fullC N cf tg di ((st + 1 : Nat) % 4294967296 : Nat) cm G L cl) 94 w' ∧ B ≤ gv ∧
      w'.heap[gv]? = some (.cells (u64V out) 97 (0, 0)) := by
  have hnl : names.length = na := by have := hns.1; simpa using this
  have hvn : vals.length = na := by have := hvs.1; simpa using this
  obtain ⟨An, cn, rfl⟩ : ∃ A c, nv = .slice A na c := by obtain ⟨A, c, h, -⟩ := own_rowV hns; exact ⟨A, c, h⟩
  obtain ⟨Av, cv, rfl⟩ : ∃ A c, vv = .slice A na c := by obtain ⟨A, c, h, -⟩ := own_rowV hvs; exact ⟨A, c, h⟩
  have hst0 : FmSt w B bf (fullC N cf tg di st cm G L cl) 94 (w.alloc (.cells (pdu6 0 0 (.slice none 0 0) ⟨#[]⟩).toArray 54)) := FmSt.later ⟨BelX.refl _ _ _, hf, hB, hbB⟩ (below_alloc (Below.refl _ _) (Nat.le_refl _) _)
  obtain ⟨i1, hi, hz0, hz1, hz2⟩ := info_parts str_info
  obtain ⟨i2, hj, hy0, hy1, hy2⟩ := info_parts u64_info
  have HST0 := Lib.hid hst0
  have HNS0 := Lib.hid hns
  have HNS := Lib.hid (hns.alloc (.cells (pdu6 0 0 (.slice none 0 0) ⟨#[]⟩).toArray 54))
  have HVS0 := Lib.hid hvs
  have HVS := Lib.hid (hvs.alloc (.cells (pdu6 0 0 (.slice none 0 0) ⟨#[]⟩).toArray 54))
  have HW := Lib.hid hw
  have HK := Lib.hid hk
  have HGO := Lib.hid hgo
  have HR := Lib.hid hr
  have HVL := Lib.hid hvl
  have HCF := Lib.hid hcf
  have HNL := Lib.hid hnl
  have HVN := Lib.hid hvn
  clear hst0 hns hvs hw hk hgo hr hvl hcf hnl hvn hf
  have q1 : na + 3 ≤ maxLen := by unfold maxLen; omega
  have q2 : (na + 3) * 16 ≤ 140737488355328 := by omega
  have q3 : (na + 3) * 8 ≤ 140737488355328 := by omega
  have q4 : ∀ y ∈ (moreN.map Value.string), y.oneCell' = true := fun y hy => by simp at hy; rcases hy with rfl | rfl | rfl <;> rfl
  have q5 : ∀ j u, (moreN.map Value.string)[j]? = some u → ((w.alloc (.cells (pdu6 0 0 (.slice none 0 0) ⟨#[]⟩).toArray 54)).alloc (.cells #[.string ⟨#[83, 116, 97, 116, 83, 78]⟩, .string ⟨#[69, 120, 112, 67, 109, 100, 83, 78]⟩, .string ⟨#[77, 97, 120, 67, 109, 100, 83, 78]⟩] 9)).cell? ((⟨w.heap.size + 1, 0, none⟩ : Addr).add j) = some u := World.news_of_block (by rw [show w.heap.size + 1 = (w.alloc (.cells (pdu6 0 0 (.slice none 0 0) ⟨#[]⟩).toArray 54)).heap.size by simp]; exact heap_alloc_new _ _)
  have q6 : B ≤ ((w.alloc (.cells (pdu6 0 0 (.slice none 0 0) ⟨#[]⟩).toArray 54)).alloc (.cells #[.string ⟨#[83, 116, 97, 116, 83, 78]⟩, .string ⟨#[69, 120, 112, 67, 109, 100, 83, 78]⟩, .string ⟨#[77, 97, 120, 67, 109, 100, 83, 78]⟩] 9)).heap.size := by simp; omega
  have Q1 := Lib.hid q1
  have Q2 := Lib.hid q2
  have Q3 := Lib.hid q3
  have Q4 := Lib.hid q4
  have Q5 := Lib.hid q5
  have Q6 := Lib.hid q6
  clear q1 q2 q3 q4 q5 q6
  go_enter Tryz.func27, Tryz.ntmps27
  go_wp2_with (at_builtin; refine wpList_append_own _ rfl _ _ 23 rfl B 9 i1 (.string ByteArray.empty) 1 16 Tryz.underlying23 hi hz0 hz1 hz2 rfl (by decide) _ _ _ rfl (HNS.out.alloc _) ⟨w.heap.size + 1, 0, none⟩ 3 3 (moreN.map Value.string) rfl rfl Q5.out Q4.out Q1.out Q2.out Q6.out ?_; intro v' w6 hown6 hgrow6 _; obtain ⟨av6, nv6, cv6, rfl⟩ := own_slice hown6; have HO6 := Lib.hid hown6; have HG6 := Lib.hid hgrow6; clear hown6 hgrow6)
  have hgo6 : ∀ q, (Value.slice An na cn).ownBlock = some q → B ≤ q ∧ q < w.heap.size ∧ ∃ cur, w.heap[q]? = some (.cells cur 9 (0, 0)) := fun q e => by
    rcases HNS0.out.2 with ⟨h, -⟩ | ⟨g, cap, cur, h, h5, h6, -⟩
    · injection h with h; subst h; cases e
    · injection h with h; subst h
      obtain rfl : g = q := by injection e
      exact ⟨h5, heap_lt h6, cur, h6⟩
  have hst6 : FmSt w B bf (fullC N cf tg di st cm G L cl) 94 w6 := (HST0.out.later (below_alloc (Below.refl _ _) (Nat.le_refl _) _)).grown HG6.out (fun q e => (hgo6 q e).1)
  have hres6 : w6.heap[w.heap.size]? = some (.cells (pdu6 0 0 (.slice none 0 0) ⟨#[]⟩).toArray 54 (0, 0)) := (HG6.out.block _ (by simp; omega) (fun e => by have := (hgo6 _ e.symm).2.1; omega)).trans ((Below.heap_alloc _ _ _ (by simp)).trans (alloc_heap_new w _))
  have hvs6 : w6.ownsRow B 97 1 (.slice Av na cv) na (vals.map fun x : Nat => Value.int .u64 (x : Int)) := own_grown (HVS.out.alloc _) HG6.out (fun q e => .inr (by
    obtain ⟨h5, h6, cur, h7⟩ := hgo6 q e
    exact ⟨cur, _, (Below.heap_alloc _ _ _ (by simp; omega)).trans ((Below.heap_alloc _ _ _ h6).trans h7), by decide⟩))
  obtain ⟨x10, x11, y10⟩ := fullgt HCF.out hst6.f
  have hb6 : bf < w6.heap.size := heap_lt hst6.f
  have HST6 := Lib.hid hst6
  have HRES6 := Lib.hid hres6
  have HVS6 := Lib.hid hvs6
  clear hgo6 hst6 hres6 hvs6
  have w1 : IntKind.u64.wrap (st : Int) = st := u64_in _ (by omega)
  have w2 : IntKind.u64.wrap (cm : Int) = cm := u64_in _ (by omega)
  have w3 : IntKind.u64.wrap (((cm : Int) + 31) % 4294967296) = ((cm : Int) + 31) % 4294967296 := u64_in _ (by omega)
  have hq1 : na + 3 ≤ maxLen := Q1.out
  have hq2 : (na + 3) * 8 ≤ 140737488355328 := Q3.out
  have hwB : B ≤ w6.heap.size := by have := HST6.out.bel.size; have := HST6.out.base; omega
  have hq3 : ∀ o : Obj, B ≤ (w6.drew.alloc o).heap.size := fun o => by simp; omega
  have hq4 : ∀ o : Obj, (w6.drew.alloc o).heap.size = w6.heap.size + 1 := fun o => by simp
  have hq5 : ∀ o : Obj, (w6.drew.alloc o).ownsRow B 97 1 (.slice Av na cv) na (vals.map fun x : Nat => Value.int .u64 (x : Int)) := fun o => (show w6.drew.ownsRow B 97 1 (.slice Av na cv) na (vals.map fun x : Nat => Value.int .u64 (x : Int)) from HVS6.out).alloc o
  have hq6 : ∀ x ∈ ([.int .u64 (st : Int), .int .u64 (cm : Int), .int .u64 (((cm : Int) + 31) % 4294967296)] : List Value), x.oneCell' = true := fun x hx => by simp at hx; rcases hx with rfl | rfl | rfl <;> rfl
  have hq7 : ∀ j u, ([.int .u64 (st : Int), .int .u64 (cm : Int), .int .u64 (((cm : Int) + 31) % 4294967296)] : List Value)[j]? = some u → (w6.drew.alloc (.cells #[.int .u64 (st : Int), .int .u64 (cm : Int), .int .u64 (((cm : Int) + 31) % 4294967296)] 97)).cell? ((⟨w6.heap.size, 0, none⟩ : Addr).add j) = some u := World.news_of_block (heap_alloc_new _ _)
  have hgo7 : ∀ q, (Value.slice Av na cv).ownBlock = some q → B ≤ q ∧ q < w6.heap.size ∧ ∃ cur, w6.heap[q]? = some (.cells cur 97 (0, 0)) := fun q e => by
    rcases HVS6.out.2 with ⟨h, -⟩ | ⟨g, cap, cur, h, h5, h6, -⟩
    · injection h with h; subst h; cases e
    · injection h with h; subst h
      obtain rfl : g = q := by injection e
      exact ⟨h5, heap_lt h6, cur, h6⟩
  have hst7 : ∀ w7, (w6.drew.alloc (.cells #[.int .u64 (st : Int), .int .u64 (cm : Int), .int .u64 (((cm : Int) + 31) % 4294967296)] 97)).grownBy w7 (Value.slice Av na cv).ownBlock → FmSt w B bf (fullC N cf tg di st cm G L cl) 94 w7 := fun w7 hg => (HST6.out.later ((Below.refl _ _).drew.alloc (Nat.le_refl _) _)).grown hg (fun q e => (hgo7 q e).1)
  have G1 := Lib.hid hq1
  have G2 := Lib.hid hq2
  have G3 := Lib.hid hq3
  have G4 := Lib.hid hq4
  have G5 := Lib.hid hq5
  have G6 := Lib.hid hq6
  have G7 := Lib.hid hq7
  have G8 := Lib.hid hst7
  have G9 := Lib.hid hgo7
  clear hq1 hq2 hq3 hq4 hq5 hq6 hq7 hst7 hgo7 hwB
  go_region_held3 (fun w' => w'.cell? ⟨bf, 10, none⟩ = some (.int .u32 (st : Int)) ∧ w'.cell? ⟨bf, 11, none⟩ = some (.int .u32 (cm : Int))) (go_keep) (first | (go_at_call 46; refine (after_any _ ⟨by omega, by omega⟩ _).mono ?_; rintro e w' ⟨rfl, rfl⟩) | (refine step_append_lies _ (by rfl) _ _ _ (by rfl) B 97 i2 (.int .u64 0) 1 8 Tryz.underlying49 hj hy0 hy1 hy2 rfl (Nat.succ_pos _) (.slice Av na cv) na (vals.map fun x : Nat => Value.int .u64 (x : Int)) (by rfl) (G5.out _) ⟨w6.heap.size, 0, none⟩ 3 3 [.int .u64 (st : Int), .int .u64 (cm : Int), .int .u64 (((cm : Int) + 31) % 4294967296)] (by rfl) rfl G7.out G6.out (Nat.succ_pos _) G1.out G2.out (G3.out _) (w6.heap.size + 1) (G4.out _) ?_; intro g7 cap7 w7 hown7 hgrow7 hat7 hlt7; have hst7 := G8.out _ hgrow7; obtain ⟨z10, z11, z12⟩ := fullgt HCF.out hst7.f; have HST7 := Lib.hid hst7; clear hst7))
  have hns7 : w7.ownsRow B 9 1 (.slice av6 nv6 cv6) (na + 3) ((names ++ moreN).map Value.string) := by
    rw [List.map_append]
    refine own_grown (HO6.out.drew.alloc _) hgrow7 (fun q e => .inr ?_)
    obtain ⟨h5, h6, cur, h7⟩ := G9.out q e
    exact ⟨cur, _, (Below.heap_alloc _ _ _ h6).trans h7, by decide⟩
  have hvs7 : w7.ownsRow B 97 1 (.slice (some ⟨g7, 0, none⟩) (na + 3) cap7) (na + 3) ((vals ++ moreV st cm).map fun x : Nat => Value.int .u64 (x : Int)) := by
    rw [List.map_append]
    have : (moreV st cm).map (fun x : Nat => Value.int .u64 (x : Int)) = [.int .u64 (st : Int), .int .u64 (cm : Int), .int .u64 (((cm : Int) + 31) % 4294967296)] := by simp [moreV]
    rw [this]
    exact hown7
  obtain ⟨A6, c6, e6, hS6, hA6⟩ := strs_of_own hns7
  injection e6 with e61 e62 e63
  subst e61 e62 e63
  obtain ⟨A7, c7, e7, hU7, hA7⟩ := u64s_of_own hvs7 (fun x hx => by
    rcases List.mem_append.1 hx with h | h
    · exact HVL.out x h
    · exact moreV_lt hst hcm x h)
  injection e7 with e71 e72 e73
  subst e71 e73
  have hres7 : w7.heap[w.heap.size]? = some (.cells (pdu6 0 0 (.slice none 0 0) ⟨#[]⟩).toArray 54 (0, 0)) := (hgrow7.block _ (by have := heap_lt HRES6.out; simp; omega) (fun e => by have := (HVS0.out.lt _ e.symm).2; omega)).trans ((Below.heap_alloc _ _ _ (heap_lt HRES6.out)).trans HRES6.out)
  have hM := make_good op fl av6 (some ⟨g7, 0, none⟩) (na + 3) cv6 (na + 3) cap7 (names ++ moreN) (vals ++ moreV st cm) k h0 h1 HK.out out HGO.out HR.out (by simp [HNL.out]) (by simp [HVN.out, moreV]) (by omega) (by omega) w7 (HW.out _ HST7.out.bel) hS6 hU7 hA6 hA7
  have HM := Lib.hid hM
  have HRES7 := Lib.hid hres7
  clear hns7 hvs7 hS6 hA6 hU7 hA7 hres7 hM hown7 hgrow7 hat7 hlt7 x10 x11 y10 z10 z11 z12 w1 w2 w3
  go_wp2_with fail
  refine HM.out.mono ?_
  rintro e w8 ⟨gv, rfl, hb8, hgv, hout⟩
  unfold hdA
  have hst8 := HST7.out.later hb8
  have hst9 := (hst8.set 10 (.int .u32 (((st : Int) + 1) % 4294967296))).later (below_alloc (Below.refl _ (w8.setCell ⟨bf, 10, none⟩ (.int .u32 (((st : Int) + 1) % 4294967296)))) (Nat.le_refl _) (.cells #[.int .i64 op, .bool false, .int .i64 fl, .slice (some ⟨gv, 0, none⟩) k.l.length k.l.length] 51))
  rw [fullset HCF.out] at hst9
  obtain ⟨x10, x11, y10⟩ := fullgt HCF.out hst8.f
  have hres8 := (hb8.block _ (heap_lt HRES7.out)).trans HRES7.out
  have hbf8 : bf < w8.heap.size := heap_lt hst8.f
  have hbf7 : bf < w7.heap.size := heap_lt HST7.out.f
  have hsz7 : w.heap.size ≤ w7.heap.size := HST7.out.bel.size
  have hrlt : w.heap.size < w8.heap.size := heap_lt hres8
  have hres9 : ((w8.setCell ⟨bf, 10, none⟩ (.int .u32 (((st : Int) + 1) % 4294967296))).alloc (.cells #[.int .i64 op, .bool false, .int .i64 fl, .slice (some ⟨gv, 0, none⟩) k.l.length k.l.length] 51)).heap[w.heap.size]? = some (.cells (pdu6 0 0 (.slice none 0 0) ⟨#[]⟩).toArray 54 (0, 0)) := (Below.heap_alloc _ _ _ (by simp; omega)).trans ((Below.heap_setCell _ _ _ _ (by show w.heap.size ≠ bf; omega)).trans hres8)
  have hout9 : ((w8.setCell ⟨bf, 10, none⟩ (.int .u32 (((st : Int) + 1) % 4294967296))).alloc (.cells #[.int .i64 op, .bool false, .int .i64 fl, .slice (some ⟨gv, 0, none⟩) k.l.length k.l.length] 51)).heap[gv]? = some (.cells (u64V out) 97 (0, 0)) := (Below.heap_alloc _ _ _ (by have := heap_lt hout; simp; omega)).trans ((Below.heap_setCell _ _ _ _ (by show gv ≠ bf; omega)).trans hout)
  have hgvr : w.heap.size ≠ gv := by have := heap_lt HRES7.out; omega
  have HST9 := Lib.hid hst9
  have HRES9 := Lib.hid hres9
  have HOUT := Lib.hid hout9
  clear hst8 hst9 hres8 hout hb8 hres9 hout9
  go_wp2_with (refine wpList_store_row rfl 54 _ _ rfl w.heap.size #[.int .i64 op, .bool false, .int .i64 fl, .slice (some ⟨gv, 0, none⟩) k.l.length k.l.length, .slice none 0 0, .string d] rfl rfl 54 _ HRES9.out pdu_info rfl (by simp [Value.oneCell']) ?_)
  refine bodyPost_ret (results_cell_row Tryz.results27 _ _ w.heap.size 54 _ (0, 0) _ rfl (setRow_heap _ _ _ _ _ _ HRES9.out) Tryz.underlying54 rfl pdu_info) rfl ?_
  have hsn : (((st + 1) % 4294967296 : Nat) : Int) = ((st : Int) + 1) % 4294967296 := by omega
  rw [hsn]
  refine ⟨gv, rfl, HST9.out.row hB _, by omega, ?_⟩
  have := HOUT.out
  simp only [World.setRow, Array.getElem?_modify, if_neg hgvr]
  exact this
end Go.Proofs.YtkbjnlcongjokaaGreatDoor

/- full.Refuse, full.Next. -/
namespace Go.Proofs.YtkbjnlcongjokaaGreatDoor
open Go.RowKit
abbrev rnN : List ByteArray := [⟨#[82, 101, 97, 115, 111, 110]⟩, ⟨#[73, 84, 84]⟩]
def rejV (r st cm : Nat) : List Nat := [r, 4294967295, st, cm, (cm + 31) % 4294967296, 0]
theorem kind_63 : kindOf 63 = some k17 := by kernel_rfl
theorem len_k17 : k17.l.length = 6 := by kernel_rfl
theorem rej_go (r st cm : Nat) : mkGo k17.l (rnN ++ moreN) ([r, 4294967295] ++ moreV st cm) (List.replicate k17.l.length 0) = some (rejV r st cm) := by kernel_rfl
theorem fldFit1 (f : Fld) (v : Nat) (hf : f.b = 1) (hv : v ≤ 255) : fitsV f v = true := by
  unfold fitsV
  rw [hf]
  have : (v : Int) / 2 ^ (8 * (1 : Int).toNat) = 0 := by
    show (v : Int) / 256 = 0
    omega
  rw [this]; rfl
theorem fldFit4 (f : Fld) (v : Nat) (hf : f.b = 4) (hv : v ≤ 4294967295) : fitsV f v = true := by
  unfold fitsV
  rw [hf]
  have : (v : Int) / 2 ^ (8 * (4 : Int).toNat) = 0 := by
    show (v : Int) / 4294967296 = 0
    omega
  rw [this]; rfl
theorem rej_right (r st cm : Nat) (hr : r ≤ 255) (h1 : st ≤ 4294967295) (h2 : cm ≤ 4294967295) : (hdRight 63 false 128 (rejV r st cm)).1 = 0 := by
  unfold hdRight
  rw [kind_63]
  have hf : hdForm k17 63 false 128 = false := by kernel_rfl
  have hl : ¬ k17.l.length ≠ (rejV r st cm).length := by rw [len_k17]; simp [rejV]
  have hb : firstBad k17.l (rejV r st cm) 0 = none := by
    simp only [k17, rejV, firstBad, fldFit1 ⟨⟨#[82, 101, 97, 115, 111, 110]⟩, 2, 1⟩ r rfl hr, fldFit4 b2 4294967295 rfl (by omega), fldFit4 b6 st rfl h1, fldFit4 b7 cm rfl h2, fldFit4 b8 ((cm + 31) % 4294967296) rfl (by omega), fldFit4 ⟨⟨#[68, 97, 116, 97, 83, 78]⟩, 36, 4⟩ 0 rfl (by omega), if_true]
  simp only [hf, hb, if_neg hl]
  rfl
def rjErr (n : Nat) (r : Int) : Int := if r < 0 ∨ 255 < r then 2 else if n ≠ 48 then 4 else 0
abbrev pz6 : List Value := pdu6 0 0 (.slice none 0 0) ⟨#[]⟩
theorem results_pdu {P : Program} {fn : Func} {p t1 : Tmp} {ty : TypeId} (h : fn.results = #[.cell p ty, .tmp t1]) (tmps : Array Value) (w : World) (g : Nat) (cs : List Value) (d : TypeDesc)
    (hp : tmps.getD p undef = .pointer (some ⟨g, 0, none⟩)) (hg : w.rangeAt g 0 cs) (hu : P.underlying ty = some d) (hd : d.isRow = true) (hi : (P.info? ty).map (·.size) = some cs.length) :
    (results fn tmps).run P w = .ok (.tuple #[.agg cs.toArray, tmps.getD t1 undef]) w := results_cell1 h tmps w g cs d hp hg hu hd hi
set_option maxRecDepth 100000 in
set_option maxHeartbeats 1000000 in
theorem frefuse_bad (p : Value) (h : ByteArray) (r : Int) (w : World) (hb : rjErr h.size r ≠ 0) : Calls Tryz.prog 10 #[p, .string h, .int .i64 r] w fun e w' => e = .returned (.tuple #[.agg pz6.toArray, errV (rjErr h.size r)]) ∧ Below w.heap.size w w' := by
  unfold rjErr at hb ⊢
  by_cases h1 : r < 0
  · rw [if_pos (.inl h1)]
    go_enter Tryz.func10, Tryz.ntmps10
    go_wp2_with fail
    exact bodyPost_ret (results_pdu Tryz.results10 _ _ w.heap.size pz6 _ rfl (range_of_heap (alloc_heap_new w _)) Tryz.underlying54 rfl pdu_info) rfl ⟨rfl, below_alloc (Below.refl _ _) (Nat.le_refl _) _⟩
  · by_cases h2 : 255 < r
    · rw [if_pos (.inr h2)]
      go_enter Tryz.func10, Tryz.ntmps10
      go_wp2_with fail
      exact bodyPost_ret (results_pdu Tryz.results10 _ _ w.heap.size pz6 _ rfl (range_of_heap (alloc_heap_new w _)) Tryz.underlying54 rfl pdu_info) rfl ⟨rfl, below_alloc (Below.refl _ _) (Nat.le_refl _) _⟩
    · have hn : ¬ (r < 0 ∨ 255 < r) := fun h => h.elim h1 h2
      rw [if_neg hn] at hb ⊢
      by_cases h3 : h.size = 48
      · exact absurd (if_neg (by simpa using h3)) hb
      · rw [if_pos h3]
        have hne : ((h.size : Int) == 48) = false := by simp; omega
        have hne2 : ((h.size : Int) != 48) = true := by simp; omega
        clear hb hn
        go_enter Tryz.func10, Tryz.ntmps10
        go_wp2_with fail
        exact bodyPost_ret (results_pdu Tryz.results10 _ _ w.heap.size pz6 _ rfl (range_of_heap (alloc_heap_new w _)) Tryz.underlying54 rfl pdu_info) rfl ⟨rfl, below_alloc (Below.refl _ _) (Nat.le_refl _) _⟩
end Go.Proofs.YtkbjnlcongjokaaGreatDoor

/- full.Refuse where it answers; full.Next. -/
namespace Go.Proofs.YtkbjnlcongjokaaGreatDoor
open Go.RowKit
theorem BelX.mono {B B' x : Nat} {a b : World} (h : BelX B x a b) (hb : B' ≤ B) : BelX B' x a b := ⟨h.os, h.tape, h.output, h.size, fun k hk => h.block k (Nat.lt_of_lt_of_le hk hb)⟩
theorem BelX.of {B x : Nat} {a b : World} (h : Below B a b) : BelX B x a b := ⟨h.os, h.tape, h.output, h.size, fun k hk _ => h.block k hk⟩
set_option maxRecDepth 100000 in
set_option maxHeartbeats 1000000 in
theorem frefuse_good (bf : Nat) (h : ByteArray) (r : Nat) (hr : r ≤ 255) (h48 : h.size = 48) (N : Value) (cf : List Value) (tg : ByteArray) (di : Bool) (st cm : Nat) (G L : Value) (cl : Bool) (w : World) (hw : ∀ w', BelX w.heap.size bf w w' → Laid w')
    (hf : w.heap[bf]? = some (.cells (fullC N cf tg di st cm G L cl) 94 (0, 0))) (hcf : cf.length = 7) (hst : st ≤ 4294967295) (hcm : cm ≤ 4294967295) :
    Calls Tryz.prog 10 #[.pointer (some ⟨bf, 0, none⟩), .string h, .int .i64 (r : Int)] w fun e w' => ∃ gv, e = .returned (.tuple #[.agg (pdu6 63 128 (.slice (some ⟨gv, 0, none⟩) 6 6) h).toArray, .nilIface]) ∧
      BelX w.heap.size bf w w' ∧ w'.heap[bf]? = some (.cells (fullC N cf tg di ((st + 1 : Nat) % 4294967296 : Nat) cm G L cl) 94 (0, 0)) ∧ w.heap.size ≤ gv ∧ w'.heap[gv]? = some (.cells (u64V (rejV r st cm)) 97 (0, 0)) := by
  have hbf : bf < w.heap.size := heap_lt hf
  have hb3 : Below w.heap.size w (((w.alloc (.cells pz6.toArray 54)).alloc (.cells #[.string ⟨#[82, 101, 97, 115, 111, 110]⟩, .string ⟨#[73, 84, 84]⟩] 9)).alloc (.cells #[.int .u64 (r : Int), .int .u64 4294967295] 97)) := below_alloc (below_alloc (below_alloc (Below.refl _ _) (Nat.le_refl _) _) (Nat.le_refl _) _) (Nat.le_refl _) _
  have e1 : (w.alloc (.cells pz6.toArray 54)).heap.size = w.heap.size + 1 := by simp
  have e2 : ((w.alloc (.cells pz6.toArray 54)).alloc (.cells #[.string ⟨#[82, 101, 97, 115, 111, 110]⟩, .string ⟨#[73, 84, 84]⟩] 9)).heap.size = w.heap.size + 1 + 1 := by simp
  have hns : (((w.alloc (.cells pz6.toArray 54)).alloc (.cells #[.string ⟨#[82, 101, 97, 115, 111, 110]⟩, .string ⟨#[73, 84, 84]⟩] 9)).alloc (.cells #[.int .u64 (r : Int), .int .u64 4294967295] 97)).ownsRow (w.heap.size + 1) 9 1 (.slice (some ⟨w.heap.size + 1, 0, none⟩) 2 2) 2 (rnN.map Value.string) := by
    have := (World.ownsRow_lit (e := 9) (size := 1) (base := w.heap.size + 1) (w.alloc (.cells pz6.toArray 54)) #[.string ⟨#[82, 101, 97, 115, 111, 110]⟩, .string ⟨#[73, 84, 84]⟩] 2 (by simp) (by decide) rfl).alloc (.cells #[.int .u64 (r : Int), .int .u64 4294967295] 97)
    rw [e1] at this
    exact this
  have hvs : (((w.alloc (.cells pz6.toArray 54)).alloc (.cells #[.string ⟨#[82, 101, 97, 115, 111, 110]⟩, .string ⟨#[73, 84, 84]⟩] 9)).alloc (.cells #[.int .u64 (r : Int), .int .u64 4294967295] 97)).ownsRow (w.heap.size + 1) 97 1 (.slice (some ⟨w.heap.size + 1 + 1, 0, none⟩) 2 2) 2 ([r, 4294967295].map fun x : Nat => Value.int .u64 (x : Int)) := by
    have := World.ownsRow_lit (e := 97) (size := 1) (base := w.heap.size + 1) ((w.alloc (.cells pz6.toArray 54)).alloc (.cells #[.string ⟨#[82, 101, 97, 115, 111, 110]⟩, .string ⟨#[73, 84, 84]⟩] 9)) #[.int .u64 (r : Int), .int .u64 4294967295] 2 (by simp) (by decide) rfl
    rw [e2] at this
    exact this
  have hres : (((w.alloc (.cells pz6.toArray 54)).alloc (.cells #[.string ⟨#[82, 101, 97, 115, 111, 110]⟩, .string ⟨#[73, 84, 84]⟩] 9)).alloc (.cells #[.int .u64 (r : Int), .int .u64 4294967295] 97)).heap[w.heap.size]? = some (.cells pz6.toArray 54 (0, 0)) :=
    (Below.heap_alloc _ _ _ (by simp; omega)).trans ((Below.heap_alloc _ _ _ (by simp)).trans (alloc_heap_new w _))
  have hM := make_full bf (w.heap.size + 1) 63 128 h N cf tg di st cm G L cl _ _ 2 rnN [r, 4294967295] (rejV r st cm) k17 _ (fun w' hx => hw w' ((BelX.of hb3).trans (hx.mono (Nat.le_succ _)))) ((hb3.block _ hbf).trans hf) hcf hst hcm hns hvs (fun x hx => by simp at hx; omega) (by simp) (by omega) (by omega) (by decide) (by decide) kind_63 (rej_go r st cm) (rej_right r st cm hr hst hcm)
  have hlt : ¬ ((r : Int) < 0) := by omega
  have hgt : ¬ (255 < (r : Int)) := by omega
  have heq : ((h.size : Int) == 48) = true := by simp; omega
  have hne : ((h.size : Int) != 48) = false := by simp; omega
  have hwr : IntKind.u64.wrap (r : Int) = r := u64_in _ (by omega)
  have HM := Lib.hid hM
  have HB3 := Lib.hid hb3
  have HRES := Lib.hid hres
  have H48 := Lib.hid h48
  clear hM hb3 hns hvs hres hw hf h48 e1 e2
  go_enter Tryz.func10, Tryz.ntmps10
  go_wp2_with fail
  refine HM.out.mono ?_
  rintro e w5 ⟨gv, rfl, hst5, hgv, hout⟩
  rw [len_k17]
  have hres5 : w5.heap[w.heap.size]? = some (.cells pz6.toArray 54 (0, 0)) := (hst5.bel.block _ (Nat.lt_succ_self _) (by omega)).trans HRES.out
  have hbel : BelX w.heap.size bf w w5 := (BelX.of HB3.out).trans (hst5.bel.mono (Nat.le_succ _))
  have hf5 := hst5.f
  have HRES5 := Lib.hid hres5
  have HBEL := Lib.hid hbel
  have HF5 := Lib.hid hf5
  have HOUT := Lib.hid hout
  clear hst5 hres5 hbel hf5 hout
  go_wp2_with (refine wpList_store_row rfl 54 _ _ rfl w.heap.size #[.int .i64 63, .bool false, .int .i64 128, .slice (some ⟨gv, 0, none⟩) 6 6, .slice none 0 0, .string h] rfl rfl 54 _ HRES5.out pdu_info rfl (by simp [Value.oneCell']) ?_)
  refine bodyPost_ret (results_pdu Tryz.results10 _ _ w.heap.size (pdu6 63 128 (.slice (some ⟨gv, 0, none⟩) 6 6) h) _ rfl (range_of_heap (setRow_heap _ _ _ _ _ _ HRES5.out)) Tryz.underlying54 rfl pdu_info) rfl ?_
  refine ⟨gv, rfl, HBEL.out.setRow (Nat.le_refl _) _, ?_, by omega, ?_⟩
  · have := HF5.out
    simp only [World.setRow, Array.getElem?_modify, if_neg (show ¬ w.heap.size = bf by omega)]
    exact this
  · have := HOUT.out
    simp only [World.setRow, Array.getElem?_modify, if_neg (show ¬ w.heap.size = gv by omega)]
    exact this
set_option maxRecDepth 100000 in
theorem fnext_any (bf : Nat) (N : Value) (cf : List Value) (tg : ByteArray) (di : Bool) (st cm : Int) (G L : Value) (cl : Bool) (w : World) (hf : w.heap[bf]? = some (.cells (fullC N cf tg di st cm G L cl) 94 (0, 0))) (hcf : cf.length = 7) :
    Calls Tryz.prog 11 #[.pointer (some ⟨bf, 0, none⟩)] w fun e w' => e = .returned (.tuple #[.int .u32 st, .int .u32 cm]) ∧ ∃ n, w.drewN n = w' := by
  obtain ⟨x10, x11, -⟩ := fullgt hcf hf
  clear hf
  go_enter Tryz.func11, Tryz.ntmps11
  go_wp2_with fail
  go_quiet (fail)
  go_wp2_with fail
  go_ret2
  exact ⟨rfl, _, rfl⟩
end Go.Proofs.YtkbjnlcongjokaaGreatDoor

/- quaymasterref.Full.say. -/
namespace Go.Proofs.YtkbjnlcongjokaaGreatDoor
open Go.RowKit
/-- The three numbers that every answer bears. -/
def sayF (F : List UInt8 → Int) (st cm : Nat) (x : List UInt8) : Int :=
  if x = [77, 97, 120, 67, 109, 100, 83, 78] then ((cm : Int) + 31) % 4294967296 else if x = [69, 120, 112, 67, 109, 100, 83, 78] then (cm : Int) else if x = [83, 116, 97, 116, 83, 78] then (st : Int) else F x
def numsF (G : List UInt8 → Int) (l : List Fld) : List Value := l.map fun f => Value.int .u64 (G f.n.data.toList)
structure SySt (w : World) (B bf bm bh bk M n : Nat) (C : Array Value) (k : Knd) (op fl : Int) (G : List UInt8 → Int) (k0 : Nat) (v : Value) (wr : World) : Prop where
  fm : FmSt w B bf C 65 wr
  res : wr.heap[w.heap.size]? = some (.cells pz6.toArray 54 (0, 0))
  map : UMap wr bm n G
  head : wr.heap[bh]? = some (.cells #[.int .i64 op, .bool false, .int .i64 fl, v] 51 (0, 0))
  flds : wr.heap[bk]? = some (.cells (k.l.flatMap Fld.cells).toArray 133 (0, 0))
  nums : wr.ownsRow M 97 1 v k0 (numsF G (k.l.take k0))
  lts : w.heap.size < M ∧ bh < M ∧ bk < M ∧ bm < M ∧ bf < M ∧ B ≤ bh ∧ bh ≠ w.heap.size ∧ bh ≠ bm ∧ bh ≠ bk ∧ bh ≠ bf ∧ M ≤ wr.heap.size
theorem SySt.later {w : World} {B bf bm bh bk M n : Nat} {C : Array Value} {k : Knd} {op fl : Int} {G : List UInt8 → Int} {k0 : Nat} {v : Value} {wr w' : World} (h : SySt w B bf bm bh bk M n C k op fl G k0 v wr) (hb : Below wr.heap.size wr w') : SySt w B bf bm bh bk M n C k op fl G k0 v w' :=
  ⟨h.fm.later hb, (hb.block _ (heap_lt h.res)).trans h.res, h.map.below hb, (hb.block _ (heap_lt h.head)).trans h.head, (hb.block _ (heap_lt h.flds)).trans h.flds, own_later h.nums hb, by obtain ⟨a1, a2, a3, a4, a5, a6, a7, a8, a9, a10, a11⟩ := h.lts; exact ⟨a1, a2, a3, a4, a5, a6, a7, a8, a9, a10, Nat.le_trans a11 hb.size⟩⟩
/-- Behind the append and the store of the longer row. -/
theorem SySt.app {w : World} {B bf bm bh bk M n : Nat} {C : Array Value} {k : Knd} {op fl : Int} {G : List UInt8 → Int} {k0 : Nat} {v v' : Value} {wr w' : World} {f : Fld} (h : SySt w B bf bm bh bk M n C k op fl G k0 v wr) (hg : wr.grownBy w' v.ownBlock) (hf : k.l[k0]? = some f)
    (hown : w'.ownsRow M 97 1 v' (k0 + 1) (numsF G (k.l.take k0) ++ [.int .u64 (G f.n.data.toList)])) : SySt w B bf bm bh bk M n C k op fl G (k0 + 1) v' (w'.setCell ⟨bh, 3, none⟩ v') := by
  obtain ⟨a1, a2, a3, a4, a5, a6, a7, a8, a9, a10, a11⟩ := h.lts
  have hv : ∀ g, v.ownBlock = some g → M ≤ g := fun g e => (h.nums.lt g e).1
  have hv' : ∀ g, v'.ownBlock = some g → M ≤ g := fun g e => (hown.lt g e).1
  have hne : ∀ i, i < M → some i ≠ v.ownBlock := fun i hi e => by have := hv i e.symm; omega
  have hs : ∀ i, i ≠ bh → (w'.setCell ⟨bh, 3, none⟩ v').heap[i]? = w'.heap[i]? := fun i hi => Below.heap_setCell _ _ _ _ (by exact hi)
  have hk : ∀ i, i < M → i ≠ bh → (w'.setCell ⟨bh, 3, none⟩ v').heap[i]? = wr.heap[i]? := fun i hi hi2 => (hs i hi2).trans (hg.block i (by omega) (hne i hi))
  have hsz : (w'.setCell ⟨bh, 3, none⟩ v').heap.size = w'.heap.size := by simp [World.setCell]
  have hB := h.fm.base
  have g2 := grown_setCell w' ⟨bh, 3, none⟩ v'
  refine ⟨⟨(h.fm.bel.grown hB hg (fun q e => by have := hv q e; omega)).grown hB g2 (fun q e => by injection e with e; subst e; exact a6), (hk bf a5 (fun e => a10 e.symm)).trans h.fm.f, hB, h.fm.lt⟩, (hk _ a1 (fun e => a7 e.symm)).trans h.res, ?_, ?_, (hk _ a3 (fun e => a9 e.symm)).trans h.flds, ?_, a1, a2, a3, a4, a5, a6, a7, a8, a9, a10, by rw [hsz]; exact Nat.le_trans a11 hg.size⟩
  · exact (h.map.kept hg (hne bm a4)).kept g2 (fun e => by injection e with e; exact a8 e.symm)
  · have : w'.heap[bh]? = _ := (hg.block bh (by omega) (hne bh a2)).trans h.head
    simp [World.setCell, Array.getElem?_modify, this]
  · rw [List.take_add_one, hf, numsF, List.map_append]
    refine hown.kept g2 ?_
    cases e : v'.ownBlock with
    | none => exact .inl rfl
    | some q => exact .inr (fun e2 => by injection e2 with e2; have := hv' q e; simp at e2; omega)
theorem SySt.cells {w : World} {B bf bm bh bk M n : Nat} {C : Array Value} {k : Knd} {op fl : Int} {G : List UInt8 → Int} {k0 : Nat} {v : Value} {wr : World} (h : SySt w B bf bm bh bk M n C k op fl G k0 v wr) :
    (wr.cell? ⟨bh, 0, none⟩ = some (.int .i64 op) ∧ wr.cell? ⟨bh, 1, none⟩ = some (.bool false) ∧ wr.cell? ⟨bh, 2, none⟩ = some (.int .i64 fl) ∧ wr.cell? ⟨bh, 3, none⟩ = some v) ∧ wr.frozen? ⟨bh, 3, none⟩ = false := by
  simp [World.cell?, World.frozen?, h.head]
theorem SySt.fv {w : World} {B bf bm bh bk M n : Nat} {C : Array Value} {k : Knd} {op fl : Int} {G : List UInt8 → Int} {k0 : Nat} {v : Value} {wr : World} (h : SySt w B bf bm bh bk M n C k op fl G k0 v wr) : FldsV wr bk k.l :=
  ⟨fun j u hu => by simp [World.cell?, h.flds, hu], heap_lt h.flds⟩
end Go.Proofs.YtkbjnlcongjokaaGreatDoor

/- quaymasterref.Full.say: the walk. -/
namespace Go.Proofs.YtkbjnlcongjokaaGreatDoor
open Go.RowKit
theorem names_all : (kinds.all fun k => k.l.all fun f => decide (f.n.size ≤ 100)) = true := by kernel_rfl
theorem names_short {op : Int} {k : Knd} {k0 : Nat} {f : Fld} (hk : kindOf op = some k) (hf : k.l[k0]? = some f) : f.n.size ≤ maxLen := by
  have h1 := List.all_eq_true.1 names_all k (List.mem_of_find?_eq_some hk)
  have h2 := of_decide_eq_true (List.all_eq_true.1 h1 f (List.mem_of_getElem? hf))
  unfold maxLen
  omega
set_option maxRecDepth 100000 in
set_option maxHeartbeats 4000000 in
theorem say_any (bf bm B n : Nat) (op fl : Int) (d : ByteArray) (N : Value) (cf : List Value) (tg : ByteArray) (di : Bool) (st cm : Nat) (G L : Value) (cl : Bool) (k : Knd) (F : List UInt8 → Int) (w : World) (hk : kindOf op = some k) (hF : UMap w bm n F) (hn : n ≤ 1000) (hFv : ∀ x, 0 ≤ F x ∧ F x ≤ 18446744073709551615)
    (hf : w.heap[bf]? = some (.cells (fullC N cf tg di st cm G L cl) 65 (0, 0))) (hcf : cf.length = 7) (hst : st ≤ 4294967295) (hcm : cm ≤ 4294967295) (hB : B ≤ w.heap.size) (hbB : bf < B) (hmB : B ≤ bm) :
    Calls Tryz.prog 26 #[.pointer (some ⟨bf, 0, none⟩), .int .i64 op, .int .i64 fl, .string d, .map (some bm)] w fun e w' => ∃ v, e = .returned (.agg (pdu6 op fl v d).toArray) ∧ FmSt w B bf (fullC N cf tg di ((st + 1 : Nat) % 4294967296 : Nat) cm G L cl) 65 w' ∧
      w'.ownsRow B 97 1 v k.l.length (numsF (sayF F st cm) k.l) := by
  have hst0 : FmSt w B bf (fullC N cf tg di st cm G L cl) 65 (w.alloc (.cells pz6.toArray 54)) := FmSt.later ⟨BelX.refl _ _ _, hf, hB, hbB⟩ (below_alloc (Below.refl _ _) (Nat.le_refl _) _)
  have hF0 : UMap (w.alloc (.cells pz6.toArray 54)) bm n F := hF.below (below_alloc (Below.refl _ _) (Nat.le_refl _) _)
  have hbm : bm < w.heap.size := hF.lt
  have hbf : bf < w.heap.size := heap_lt hf
  obtain ⟨x10, x11, y10⟩ := fullgt hcf hst0.f
  have w1 : IntKind.u64.wrap (st : Int) = st := IntWalk.u64_in _ (by omega)
  have w2 : IntKind.u64.wrap (cm : Int) = cm := IntWalk.u64_in _ (by omega)
  have w3 : IntKind.u64.wrap (((cm : Int) + 31) % 4294967296) = ((cm : Int) + 31) % 4294967296 := IntWalk.u64_in _ (by omega)
  have hres0 := alloc_heap_new w (.cells pz6.toArray 54)
  have hsz0 : (w.alloc (.cells pz6.toArray 54)).heap.size = w.heap.size + 1 := by simp
  have HRES0 := Lib.hid hres0
  have HSZ0 := Lib.hid hsz0
  have HST0 := Lib.hid hst0
  have HF0 := Lib.hid hF0
  have HK := Lib.hid hk
  have HFV := Lib.hid hFv
  have HCF := Lib.hid hcf
  clear hst0 hF0 hk hFv hcf hf hF hres0 hsz0
  go_enter Tryz.func26, Tryz.ntmps26
  go_wp2_with fail
  generalize World.alloc w _ = wA at HST0 HF0 HRES0 HSZ0 x10 x11 y10 ⊢
  have HSTD : Hid (FmSt w B bf (fullC N cf tg di st cm G L cl) 65 wA.drew) := HST0.out.later (Below.refl _ _).drew
  have HRESD : Hid (wA.drew.heap[w.heap.size]? = some (.cells pz6.toArray 54 (0, 0))) := HRES0.out
  have HUD : Hid (UMap wA.drew bm n F) := UMap.of_block HF0.out rfl
  obtain ⟨v0, s0, wE0, hr0, hgE, hmE⟩ := HUD.out.entry (by omega) ⟨#[83, 116, 97, 116, 83, 78]⟩ (by decide)
  obtain ⟨wS0, hs0, hu, hgS⟩ := hmE wE0 (st : Int) ⟨by omega, by omega⟩ rfl
  unfold goInt at hr0 hs0
  have hse0 := HSTD.out.grown hgE (fun q e => by injection e with e; omega)
  have hre0 := (hgE.block _ (heap_lt HRESD.out) (fun e => by injection e with e; omega)).trans HRESD.out
  have hsf0 := hse0.grown hgS (fun q e => by injection e with e; omega)
  have hrf0 := (hgS.block _ (heap_lt hre0) (fun e => by injection e with e; omega)).trans hre0
  obtain ⟨ya0, yb0, -⟩ := fullgt HCF.out hse0.f
  obtain ⟨yc0, yd0, -⟩ := fullgt HCF.out hsf0.f
  have HSS1 := Lib.hid hsf0
  have HRS1 := Lib.hid hrf0
  have HU1 := Lib.hid hu
  clear hse0 hre0 hsf0 hrf0 hu hgE hgS hmE
  obtain ⟨v1, s1, wE1, hr1, hgE, hmE⟩ := HU1.out.entry (by omega) ⟨#[69, 120, 112, 67, 109, 100, 83, 78]⟩ (by decide)
  obtain ⟨wS1, hs1, hu, hgS⟩ := hmE wE1 (cm : Int) ⟨by omega, by omega⟩ rfl
  unfold goInt at hr1 hs1
  have hse1 := HSS1.out.grown hgE (fun q e => by injection e with e; omega)
  have hre1 := (hgE.block _ (heap_lt HRS1.out) (fun e => by injection e with e; omega)).trans HRS1.out
  have hsf1 := hse1.grown hgS (fun q e => by injection e with e; omega)
  have hrf1 := (hgS.block _ (heap_lt hre1) (fun e => by injection e with e; omega)).trans hre1
  obtain ⟨ya1, yb1, -⟩ := fullgt HCF.out hse1.f
  obtain ⟨yc1, yd1, -⟩ := fullgt HCF.out hsf1.f
  have HSS2 := Lib.hid hsf1
  have HRS2 := Lib.hid hrf1
  have HU2 := Lib.hid hu
  clear hse1 hre1 hsf1 hrf1 hu hgE hgS hmE
  obtain ⟨v2, s2, wE2, hr2, hgE, hmE⟩ := HU2.out.entry (by omega) ⟨#[77, 97, 120, 67, 109, 100, 83, 78]⟩ (by decide)
  obtain ⟨wS2, hs2, hu, hgS⟩ := hmE wE2 (((cm : Int) + 31) % 4294967296) ⟨by omega, by omega⟩ rfl
  unfold goInt at hr2 hs2
  have hse2 := HSS2.out.grown hgE (fun q e => by injection e with e; omega)
  have hre2 := (hgE.block _ (heap_lt HRS2.out) (fun e => by injection e with e; omega)).trans HRS2.out
  have hsf2 := hse2.grown hgS (fun q e => by injection e with e; omega)
  have hrf2 := (hgS.block _ (heap_lt hre2) (fun e => by injection e with e; omega)).trans hre2
  obtain ⟨ya2, yb2, -⟩ := fullgt HCF.out hse2.f
  obtain ⟨yc2, yd2, -⟩ := fullgt HCF.out hsf2.f
  have HSS3 := Lib.hid hsf2
  have HRS3 := Lib.hid hrf2
  have HU3 := Lib.hid hu
  clear hse2 hre2 hsf2 hrf2 hu hgE hgS hmE
  go_region_held3 (fun w' => w'.cell? ⟨bf, 10, none⟩ = some (.int .u32 (st : Int)) ∧ w'.cell? ⟨bf, 11, none⟩ = some (.int .u32 (cm : Int))) (go_keep) ((go_at_call 44; refine (refAfter_any _ ⟨by omega, by omega⟩ _).mono ?_; rintro e w' ⟨rfl, rfl⟩))
  have hU3 : UMap wS2 bm (n + 1 + 1 + 1) (sayF F st cm) := HU3.out
  clear hr0 hs0 hr1 hs1 hr2 hs2 ya0 yb0 yc0 yd0 ya1 yb1 yc1 yd1 ya2 yb2 yc2 yd2 x10 x11 y10 w1 w2 w3
  obtain ⟨x10, x11, y10⟩ := fullgt HCF.out HSS3.out.f
  have hbs : bf < wS2.heap.size := heap_lt HSS3.out.f
  have hrs : w.heap.size < wS2.heap.size := heap_lt HRS3.out
  have hms : bm < wS2.heap.size := hU3.lt
  have hst4 := (HSS3.out.set 10 (.int .u32 (((st : Int) + 1) % 4294967296))).later (below_alloc (Below.refl _ (wS2.setCell ⟨bf, 10, none⟩ (.int .u32 (((st : Int) + 1) % 4294967296)))) (Nat.le_refl _) (.cells #[.int .i64 op, .bool false, .int .i64 fl, .slice none 0 0] 51))
  rw [fullset HCF.out] at hst4
  have hres4 : ((wS2.setCell ⟨bf, 10, none⟩ (.int .u32 (((st : Int) + 1) % 4294967296))).alloc (.cells #[.int .i64 op, .bool false, .int .i64 fl, .slice none 0 0] 51)).heap[w.heap.size]? = some (.cells pz6.toArray 54 (0, 0)) := (Below.heap_alloc _ _ _ (by simp [World.setCell]; omega)).trans ((Below.heap_setCell _ _ _ _ (by show w.heap.size ≠ bf; omega)).trans HRS3.out)
  have hmap4 : UMap ((wS2.setCell ⟨bf, 10, none⟩ (.int .u32 (((st : Int) + 1) % 4294967296))).alloc (.cells #[.int .i64 op, .bool false, .int .i64 fl, .slice none 0 0] 51)) bm (n + 1 + 1 + 1) (sayF F st cm) := UMap.of_block hU3 ((Below.heap_alloc _ _ _ (by simp [World.setCell]; omega)).trans (Below.heap_setCell _ _ _ _ (by show bm ≠ bf; omega)))
  have hhd4 : ((wS2.setCell ⟨bf, 10, none⟩ (.int .u32 (((st : Int) + 1) % 4294967296))).alloc (.cells #[.int .i64 op, .bool false, .int .i64 fl, .slice none 0 0] 51)).heap[wS2.heap.size]? = some (.cells #[.int .i64 op, .bool false, .int .i64 fl, .slice none 0 0] 51) := by
    have := alloc_heap_new (wS2.setCell ⟨bf, 10, none⟩ (.int .u32 (((st : Int) + 1) % 4294967296))) (.cells #[.int .i64 op, .bool false, .int .i64 fl, .slice none 0 0] 51)
    rwa [show (wS2.setCell ⟨bf, 10, none⟩ (.int .u32 (((st : Int) + 1) % 4294967296))).heap.size = wS2.heap.size by simp [World.setCell]] at this
  have HST4 := Lib.hid hst4
  have HRES4 := Lib.hid hres4
  have HMAP4 := Lib.hid hmap4
  have HHD4 := Lib.hid hhd4
  clear hst4 hres4 hmap4 hhd4 hU3
  go_wp2_with fail
  refine (kind_some op k HK.out _).mono ?_
  rintro e wK ⟨bk, rfl, hbK, hflK⟩
  have hhdK := (hbK.block _ (heap_lt HHD4.out)).trans HHD4.out
  have hbk : wS2.heap.size ≠ bk := fun e => by
    rw [← e, hhdK] at hflK
    injection hflK with hx
    injection hx with _ hx2 _
    exact absurd hx2 (by decide)
  have hsy : SySt w B bf bm wS2.heap.size bk wK.heap.size (n + 1 + 1 + 1) (fullC N cf tg di (((st : Int) + 1) % 4294967296) cm G L cl) k op fl (sayF F st cm) 0 (.slice none 0 0) wK :=
    ⟨HST4.out.later hbK, (hbK.block _ (heap_lt HRES4.out)).trans HRES4.out, HMAP4.out.below hbK, hhdK, hflK, World.ownsRow_nil _ _ _ _, Nat.lt_of_lt_of_le (heap_lt HRES4.out) hbK.size, heap_lt hhdK, heap_lt hflK, Nat.lt_of_lt_of_le HMAP4.out.lt hbK.size, Nat.lt_of_lt_of_le (heap_lt HST4.out.f) hbK.size, by omega, by omega, by omega, hbk, by omega, Nat.le_refl _⟩
  have hfit := kind_fit HK.out
  have hl12 := hfit.1
  obtain ⟨M, hM⟩ : ∃ M, M = wK.heap.size := ⟨_, rfl⟩
  rw [← hM] at hsy
  have HSY := Lib.hid hsy
  clear hsy hhdK hflK hbK hfit hM x10 x11 y10
  obtain ⟨i2, hj, hy0, hy1, hy2⟩ := info_parts u64_info
  have HJ := Lib.hid hj
  obtain ⟨NN, hNN⟩ : ∃ NN, NN = k.l.length := ⟨_, rfl⟩
  rw [← hNN] at hl12 ⊢
  have HNN := Lib.hid hNN
  clear hNN
  go_wp2_with fail
  go_loopw [62] (fun i wr => ∃ k0 : Nat, ∃ v, i = .int .i64 k0 ∧ k0 ≤ NN ∧ SySt w B bf bm wS2.heap.size bk M (n + 1 + 1 + 1) (fullC N cf tg di (((st : Int) + 1) % 4294967296) cm G L cl) k op fl (sayF F st cm) k0 v wr) (fun i _ => NN - (intOf i).toNat)
  case atStart => exact ⟨0, _, rfl, Nat.zero_le _, HSY.out⟩
  case round =>
    obtain ⟨k0, v, rfl, hk0, hst1⟩ := hrel
    obtain ⟨av, nv, cv, rfl⟩ := own_slice hst1.nums
    by_cases hlt : k0 < NN
    · obtain ⟨f, hf⟩ : ∃ f, k.l[k0]? = some f := ⟨_, List.getElem?_eq_getElem (by rw [← HNN.out]; exact hlt)⟩
      obtain ⟨d0, d1, d2⟩ := hst1.fv.fld hf
      have hki : (k0 : Int) < (NN : Int) := by omega
      have hst2 := hst1.later (below_alloc (Below.refl _ wr) (Nat.le_refl _) (.cells #[.string f.n, .int .i64 f.a, .int .i64 f.b] 133))
      have hns : f.n.size ≤ maxLen := names_short HK.out hf
      obtain ⟨z, hz⟩ : ∃ z, z = sayF F st cm f.n.data.toList := ⟨_, rfl⟩
      have hlk := hst2.map.lookup f.n hns
      rw [← hz] at hlk
      have hst3 := hst2.later (below_alloc (Below.refl _ (wr.alloc (.cells #[.string f.n, .int .i64 f.a, .int .i64 f.b] 133))) (Nat.le_refl _) (.cells #[.int .u64 z] 97))
      obtain ⟨⟨c0, c1, c2, c3⟩, cf3⟩ := hst1.cells
      have hbhl : wS2.heap.size < wr.heap.size := heap_lt hst1.head
      have hMw := hst1.lts.2.2.2.2.2.2.2.2.2.2
      have q1 : k0 + 1 ≤ maxLen := by unfold maxLen; omega
      have q2 : (k0 + 1) * 8 ≤ 140737488355328 := by omega
      have q3 : M ≤ ((wr.alloc (.cells #[.string f.n, .int .i64 f.a, .int .i64 f.b] 133)).alloc (.cells #[.int .u64 z] 97)).heap.size := by simp; omega
      have q4 : ∀ y ∈ ([.int .u64 z] : List Value), y.oneCell' = true := fun y hy => by simp at hy; rw [hy]; rfl
      have q5 : ∀ j u, ([.int .u64 z] : List Value)[j]? = some u → ((wr.alloc (.cells #[.string f.n, .int .i64 f.a, .int .i64 f.b] 133)).alloc (.cells #[.int .u64 z] 97)).cell? ((⟨wr.heap.size + 1, 0, none⟩ : Addr).add j) = some u := World.news_of_block (by rw [show wr.heap.size + 1 = (wr.alloc (.cells #[.string f.n, .int .i64 f.a, .int .i64 f.b] 133)).heap.size by simp]; exact heap_alloc_new _ _)
      have q6 : ∀ w6, ((wr.alloc (.cells #[.string f.n, .int .i64 f.a, .int .i64 f.b] 133)).alloc (.cells #[.int .u64 z] 97)).grownBy w6 (Value.slice av nv cv).ownBlock → w6.cell? ⟨wS2.heap.size, 3, none⟩ = some (.slice av nv cv) ∧ w6.frozen? ⟨wS2.heap.size, 3, none⟩ = false := fun w6 hg => by
        have hne : some wS2.heap.size ≠ (Value.slice av nv cv).ownBlock := fun e => by have := (hst1.nums.lt _ e.symm).1; have := hst1.lts.2.1; omega
        have := (hg.block wS2.heap.size (heap_lt hst3.head) hne).trans hst3.head
        simp [World.cell?, World.frozen?, this]
      have Q1 := Lib.hid q1
      have Q2 := Lib.hid q2
      have Q3 := Lib.hid q3
      have Q4 := Lib.hid q4
      have Q5 := Lib.hid q5
      have Q6 := Lib.hid q6
      have HST3 := Lib.hid hst3
      have HF1 := Lib.hid hf
      have HZ := Lib.hid hz
      clear q1 q2 q3 q4 q5 q6 hst1 hst2 hst3 hf hz hns
      go_wp2_with (at_builtin; refine wpList_append_own _ rfl _ _ 49 rfl M 97 i2 (.int .u64 0) 1 8 Tryz.underlying49 HJ.out hy0 hy1 hy2 rfl (by decide) _ _ _ rfl HST3.out.nums ⟨wr.heap.size + 1, 0, none⟩ 1 1 [.int .u64 z] rfl rfl Q5.out Q4.out Q1.out Q2.out Q3.out ?_; intro v' w6 hown6 hgrow6 _; obtain ⟨av6, nv6, cv6, rfl⟩ := own_slice hown6; obtain ⟨z3, zf⟩ := Q6.out _ hgrow6; have HO6 := Lib.hid hown6; have HG6 := Lib.hid hgrow6; clear hown6 hgrow6)
      go_roundw
      case rel => exact ⟨k0 + 1, _, by go_num, by omega, HST3.out.app HG6.out HF1.out (by have h := HO6.out; rw [HZ.out] at h; exact h)⟩
      case measure => simp [intOf]; omega
    · obtain rfl : k0 = NN := by omega
      obtain ⟨⟨c0, c1, c2, c3⟩, cf3⟩ := hst1.cells
      have HST1 := Lib.hid hst1
      have HRES1 := Lib.hid hst1.res
      clear hst1
      go_wp2_with (refine wpList_store_row rfl 54 _ _ rfl w.heap.size #[.int .i64 op, .bool false, .int .i64 fl, .slice av nv cv, .slice none 0 0, .string d] rfl rfl 54 _ HRES1.out pdu_info rfl (by simp [Value.oneCell']) ?_)
      refine bodyPost_ret (results_cell_row Tryz.results26 _ _ w.heap.size 54 #[.int .i64 op, .bool false, .int .i64 fl, .slice av nv cv, .slice none 0 0, .string d] (0, 0) _ rfl (setRow_heap _ _ _ _ _ _ HRES1.out) Tryz.underlying54 rfl pdu_info) rfl ?_
      have hsn : (((st + 1) % 4294967296 : Nat) : Int) = ((st : Int) + 1) % 4294967296 := by omega
      rw [hsn]
      have hlts := HST1.out.lts
      refine ⟨_, rfl, HST1.out.fm.row hB _, ?_⟩
      have hnum := HST1.out.nums
      rw [HNN.out, List.take_length] at hnum
      have hMB : B ≤ M := by omega
      refine own_mono (hnum.kept (row := some w.heap.size) ⟨rfl, rfl, rfl, by simp, fun i hi hne => by
        simp only [World.setRow, Array.getElem?_modify, if_neg (show ¬ w.heap.size = i from fun e => hne (by rw [e]))]⟩ ?_) hMB
      cases e : (Value.slice av nv cv).ownBlock with
      | none => exact .inl rfl
      | some q => exact .inr (fun e2 => by injection e2 with e2; have := (hnum.lt q e).1; omega)
end Go.Proofs.YtkbjnlcongjokaaGreatDoor

/- quaymasterref.Full.Refuse. -/
namespace Go.Proofs.YtkbjnlcongjokaaGreatDoor
open Go.RowKit
def rejI (r st cm : Int) : List Value := [.int .u64 r, .int .u64 4294967295, .int .u64 st, .int .u64 cm, .int .u64 ((cm + 31) % 4294967296), .int .u64 0]
theorem rejI_V (r st cm : Nat) : (rejV r st cm).map (fun x : Nat => Value.int .u64 (x : Int)) = rejI r st cm := by
  simp [rejV, rejI]
def rejF (r : Nat) (x : List UInt8) : Int := if x = [73, 84, 84] then 4294967295 else if x = [82, 101, 97, 115, 111, 110] then (r : Int) else 0
theorem rej_nums (r st cm : Nat) : numsF (sayF (rejF r) st cm) k17.l = rejI r st cm := by kernel_rfl
set_option maxRecDepth 100000 in
set_option maxHeartbeats 1000000 in
theorem refRefuse_bad (p : Value) (h : ByteArray) (r : Int) (w : World) (hb : rjErr h.size r ≠ 0) : Calls Tryz.prog 9 #[p, .string h, .int .i64 r] w fun e w' => e = .returned (.tuple #[.agg pz6.toArray, .int .i64 (rjErr h.size r)]) ∧ Below w.heap.size w w' := by
  unfold rjErr at hb ⊢
  by_cases h1 : r < 0 ∨ 255 < r
  · rw [if_pos h1]
    have hwi : wi r 0 255 = false := wi_no (by omega)
    have HWI := Lib.hid hwi
    clear hwi hb h1
    go_enter Tryz.func9, Tryz.ntmps9
    go_wp2_with fail
    refine (within_any _ _ _ _).mono ?_
    rintro e w1 ⟨rfl, rfl⟩
    rw [HWI.out]
    go_wp2_with fail
    exact bodyPost_ret (results_pdu Tryz.results9 _ _ w.heap.size pz6 _ rfl (range_of_heap (alloc_heap_new w _)) Tryz.underlying54 rfl pdu_info) rfl ⟨rfl, below_alloc (Below.refl _ _) (Nat.le_refl _) _⟩
  · have hwi : wi r 0 255 = true := wi_yes ⟨by omega, by omega⟩
    rw [if_neg h1] at hb ⊢
    by_cases h3 : h.size = 48
    · exact absurd (if_neg (by simpa using h3)) hb
    · rw [if_pos h3]
      have hne : ((h.size : Int) == 48) = false := by simp; omega
      have hne2 : ((h.size : Int) != 48) = true := by simp; omega
      have HWI := Lib.hid hwi
      clear hb h1 hwi
      go_enter Tryz.func9, Tryz.ntmps9
      go_wp2_with fail
      refine (within_any _ _ _ _).mono ?_
      rintro e w1 ⟨rfl, rfl⟩
      rw [HWI.out]
      go_wp2_with fail
      exact bodyPost_ret (results_pdu Tryz.results9 _ _ w.heap.size pz6 _ rfl (range_of_heap (alloc_heap_new w _)) Tryz.underlying54 rfl pdu_info) rfl ⟨rfl, below_alloc (Below.refl _ _) (Nat.le_refl _) _⟩
set_option maxRecDepth 100000 in
set_option maxHeartbeats 2000000 in
theorem refRefuse_good (bf : Nat) (h : ByteArray) (r : Nat) (hr : r ≤ 255) (h48 : h.size = 48) (N : Value) (cf : List Value) (tg : ByteArray) (di : Bool) (st cm : Nat) (G L : Value) (cl : Bool) (w : World)
    (hf : w.heap[bf]? = some (.cells (fullC N cf tg di st cm G L cl) 65 (0, 0))) (hcf : cf.length = 7) (hst : st ≤ 4294967295) (hcm : cm ≤ 4294967295) :
    Calls Tryz.prog 9 #[.pointer (some ⟨bf, 0, none⟩), .string h, .int .i64 (r : Int)] w fun e w' => ∃ v, e = .returned (.tuple #[.agg (pdu6 63 128 v h).toArray, .int .i64 0]) ∧
      BelX w.heap.size bf w w' ∧ w'.heap[bf]? = some (.cells (fullC N cf tg di ((st + 1 : Nat) % 4294967296 : Nat) cm G L cl) 65 (0, 0)) ∧ w'.ownsRow w.heap.size 97 1 v 6 (rejI r st cm) := by
  have hwi : wi (r : Int) 0 255 = true := wi_yes ⟨by omega, by omega⟩
  have hbf : bf < w.heap.size := heap_lt hf
  have hmm := @run_makeMap Tryz.prog
  have heq : ((h.size : Int) == 48) = true := by simp; omega
  have hne : ((h.size : Int) != 48) = false := by simp; omega
  have hwr : IntKind.u64.wrap (r : Int) = r := IntWalk.u64_in _ (by omega)
  have hF0 : UMap ((w.alloc (.cells pz6.toArray 54)).alloc (.map #[] 0)) (w.heap.size + 1) 0 (fun _ => 0) := by
    have := UMap.made (w.alloc (.cells pz6.toArray 54))
    rwa [show (w.alloc (.cells pz6.toArray 54)).heap.size = w.heap.size + 1 by simp] at this
  have hb0 : Below w.heap.size w ((w.alloc (.cells pz6.toArray 54)).alloc (.map #[] 0)) := below_alloc (below_alloc (Below.refl _ _) (Nat.le_refl _) _) (Nat.le_refl _) _
  have hres0 : ((w.alloc (.cells pz6.toArray 54)).alloc (.map #[] 0)).heap[w.heap.size]? = some (.cells pz6.toArray 54 (0, 0)) := (Below.heap_alloc _ _ _ (by simp)).trans (alloc_heap_new w _)
  obtain ⟨wA, hrA, hFA, hgA⟩ := hF0.update (by omega) ⟨#[82, 101, 97, 115, 111, 110]⟩ (by decide) (r : Int) ⟨by omega, by omega⟩
  obtain ⟨wB, hrB, hFB, hgB⟩ := hFA.update (by omega) ⟨#[73, 84, 84]⟩ (by decide) 4294967295 ⟨by omega, by omega⟩
  have hg2 := grown_trans hgA hgB
  have hFB' : UMap wB (w.heap.size + 1) (0 + 1 + 1) (rejF r) := hFB
  have hbB : Below w.heap.size w wB := ⟨hg2.os.trans hb0.os, hg2.tape.trans hb0.tape, hg2.output.trans hb0.output, Nat.le_trans hb0.size hg2.size, fun i hi => (hg2.block i (by simp; omega) (fun e => by injection e with e; omega)).trans (hb0.block i hi)⟩
  have hresB := (hg2.block _ (heap_lt hres0) (fun e => by injection e with e; omega)).trans hres0
  have hszB : w.heap.size + 1 < wB.heap.size := hFB'.lt
  have hFv : ∀ x, 0 ≤ rejF r x ∧ rejF r x ≤ 18446744073709551615 := fun x => by
    unfold rejF
    split
    · omega
    · split <;> omega
  have hS := say_any bf (w.heap.size + 1) (w.heap.size + 1) (0 + 1 + 1) 63 128 h N cf tg di st cm G L cl k17 (rejF r) wB kind_63 hFB' (by omega) hFv ((hbB.block _ hbf).trans hf) hcf hst hcm (by omega) (by omega) (Nat.le_refl _)
  have HS := Lib.hid hS
  have HWI := Lib.hid hwi
  have HBB := Lib.hid hbB
  have HRB := Lib.hid hresB
  have H48 := Lib.hid h48
  clear hS hwi hbB hresB hFv hFB hFB' hFA hgA hgB hg2 hF0 hb0 hres0 hf h48
  go_enter Tryz.func9, Tryz.ntmps9
  go_wp2_with fail
  refine (within_any _ _ _ _).mono ?_
  rintro e w1 ⟨rfl, rfl⟩
  rw [HWI.out]
  go_wp2_with fail
  refine HS.out.mono ?_
  rintro e w5 ⟨v, rfl, hst5, hown⟩
  obtain ⟨av, nv, cv, rfl⟩ := own_slice hown
  have hres5 : w5.heap[w.heap.size]? = some (.cells pz6.toArray 54 (0, 0)) := (hst5.bel.block _ (Nat.lt_succ_self _) (by omega)).trans HRB.out
  have hbel : BelX w.heap.size bf w w5 := (BelX.of HBB.out).trans (hst5.bel.mono (Nat.le_succ _))
  have hf5 := hst5.f
  rw [len_k17, rej_nums] at hown
  have HRES5 := Lib.hid hres5
  have HBEL := Lib.hid hbel
  have HF5 := Lib.hid hf5
  have HOWN := Lib.hid hown
  clear hst5 hres5 hbel hf5 hown
  go_wp2_with (refine wpList_store_row rfl 54 _ _ rfl w.heap.size #[.int .i64 63, .bool false, .int .i64 128, .slice av nv cv, .slice none 0 0, .string h] rfl rfl 54 _ HRES5.out pdu_info rfl (by simp [Value.oneCell']) ?_)
  refine bodyPost_ret (results_pdu Tryz.results9 _ _ w.heap.size (pdu6 63 128 (.slice av nv cv) h) _ rfl (range_of_heap (setRow_heap _ _ _ _ _ _ HRES5.out)) Tryz.underlying54 rfl pdu_info) rfl ?_
  refine ⟨_, rfl, HBEL.out.setRow (Nat.le_refl _) _, ?_, ?_⟩
  · have := HF5.out
    simp only [World.setRow, Array.getElem?_modify, if_neg (show ¬ w.heap.size = bf by omega)]
    exact this
  · refine own_mono (HOWN.out.kept (row := some w.heap.size) ⟨rfl, rfl, rfl, by simp, fun i hi hne => by
        simp only [World.setRow, Array.getElem?_modify, if_neg (show ¬ w.heap.size = i from fun e => hne (by rw [e]))]⟩ ?_) (Nat.le_succ _)
    cases e : (Value.slice av nv cv).ownBlock with
    | none => exact .inl rfl
    | some q => exact .inr (fun e2 => by injection e2 with e2; have := (HOWN.out.lt q e).1; omega)
end Go.Proofs.YtkbjnlcongjokaaGreatDoor
