/- quaymasterlaw.FeedPlays returns true and leaves its arguments as they were, for every limit and every list of acts; conditions: the arguments' bulk is at most the given bound, and the listed package-level variables hold what the program's text lays. -/
import Derived.Test.YtincgdbfmnnpaaaGreatDoorJ08
import Derived.Test.YtincgdbfmnnpaaaGreatDoorRows
import Derived.Deep.Slices
import Derived.Deep.Fields
import Derived.ChangeSame
import Derived.Test.YtincgdbfmnnpaaaGreatDoorCards
import Derived.Test.YtincgdbfmnnpaaaGreatDoorTie
import Derived.Test.YtincgdbfmnnpaaaGreatDoorJ03
import Derived.ProofKit
import Derived.SizedLaws
import Derived.Below
import Derived.OpenShut
import Derived.Deep.DeepHandedRow
import Derived.Deep.DeepWitnessRowRef
/- quaymasterlaw.FeedPlays: its arguments, and what stands between its steps. -/
namespace Go.Proofs.YtincgdbfmnnpaaaGreatDoor
open Go.RowKit
structure ActD where
  k : Int
  n : Int
  s : ByteArray
def ActD.cells (d : ActD) : List Value := [.int .i64 d.k, .int .i64 d.n, .string d.s]
/-- The values lie in a row, wherever it begins. -/
structure RowO (w : World) (A : Option Addr) (xs : List Value) : Prop where
  at_ : ∀ j u, xs[j]? = some u → ∃ g o, A = some ⟨g, o, none⟩ ∧ g < w.heap.size ∧ w.cell? ⟨g, o + j, none⟩ = some u
theorem RowO.below {w w' : World} {A : Option Addr} {xs : List Value} (h : RowO w A xs) (hb : Below w.heap.size w w') : RowO w' A xs :=
  ⟨fun j u hu => by
    obtain ⟨g, o, h1, h2, h3⟩ := h.at_ j u hu
    exact ⟨g, o, h1, Nat.lt_of_lt_of_le h2 hb.size, (hb.cell (p := ⟨g, o + j, none⟩) h2).trans h3⟩⟩
theorem RowO.act {w : World} {A : Option Addr} {acts : List ActD} (h : RowO w A (acts.flatMap ActD.cells)) {k : Nat} {d : ActD} (hd : acts[k]? = some d) :
    ∃ g o, A = some ⟨g, o, none⟩ ∧ w.cell? ⟨g, o + k * 3, none⟩ = some (.int .i64 d.k) ∧ w.cell? ⟨g, o + k * 3 + 1, none⟩ = some (.int .i64 d.n) ∧ w.cell? ⟨g, o + k * 3 + 2, none⟩ = some (.string d.s) := by
  obtain ⟨g, o, rfl, -, h0⟩ := h.at_ _ _ (flat_at ActD.cells 3 (fun _ => rfl) acts k 0 d hd (by omega))
  obtain ⟨g1, o1, e1, -, h1⟩ := h.at_ _ _ (flat_at ActD.cells 3 (fun _ => rfl) acts k 1 d hd (by omega))
  obtain ⟨g2, o2, e2, -, h2⟩ := h.at_ _ _ (flat_at ActD.cells 3 (fun _ => rfl) acts k 2 d hd (by omega))
  injection e1 with e1; injection e1 with e1 f1; subst e1 f1
  injection e2 with e2; injection e2 with e2 f2; subst e2 f2
  exact ⟨g, o, rfl, h0, h1, h2⟩
def bulkOf (l : List ActD) : Nat := (l.map fun d => 1 + d.s.size).sum
theorem bulk_add {acts : List ActD} {k : Nat} {d : ActD} (hd : acts[k]? = some d) : bulkOf (acts.take (k + 1)) = bulkOf (acts.take k) + (1 + d.s.size) := by
  unfold bulkOf
  rw [List.take_add_one, hd]
  simp
theorem bulk_take (acts : List ActD) (k : Nat) : bulkOf (acts.take k) ≤ bulkOf acts := by
  have : bulkOf acts = bulkOf (acts.take k) + bulkOf (acts.drop k) := by
    unfold bulkOf
    rw [← List.sum_append, ← List.map_append, List.take_append_drop]
  omega
/-- The law's two feeds, in step. -/
structure LwSt (w : World) (a b : Nat) (limit : Int) (S : ByteArray) (mode : Int) (bad : Bool) (er : Value) (wr : World) : Prop where
  below : Below w.heap.size w wr
  x : FeedAt wr a S limit mode er
  r : wr.heap[b]? = some (.cells (rfc S limit mode bad).toArray 34 (0, 0))
  mode : 0 ≤ mode ∧ mode ≤ 3
  lt : w.heap.size ≤ a
  er : (bad = false ∧ er = .nilIface) ∨ (bad = true ∧ ∃ c : Int, er = .iface 31 (.int .i64 c))
theorem LwSt.later {w : World} {a b : Nat} {limit : Int} {S : ByteArray} {mode : Int} {bad : Bool} {er : Value} {wr w' : World} (h : LwSt w a b limit S mode bad er wr) (hb : Below wr.heap.size wr w') : LwSt w a b limit S mode bad er w' :=
  ⟨h.below.trans (hb.mono h.below.size), (hb.block _ (heap_lt h.x)).trans h.x, (hb.block _ (heap_lt h.r)).trans h.r, h.mode, h.lt, h.er⟩
theorem rcells {wr : World} {b : Nat} {S : ByteArray} {limit mode : Int} {bad : Bool} (h : wr.heap[b]? = some (.cells (rfc S limit mode bad).toArray 34 (0, 0))) :
    (wr.cell? ⟨b, 0, none⟩ = some (.string S) ∧ wr.cell? ⟨b, 2, none⟩ = some (.int .i64 mode) ∧ wr.cell? ⟨b, 3, none⟩ = some (.bool bad)) ∧ wr.frozen? ⟨b, 0, none⟩ = false ∧ wr.frozen? ⟨b, 2, none⟩ = false := by
  have h' : wr.heap[b]? = some (.cells #[.string S, .int .i64 limit, .int .i64 mode, .bool bad] 34 (0, 0)) := h
  simp [World.cell?, World.frozen?, h']
/-- Between the two feeds' taking in. -/
structure LwM (w : World) (a : Nat) (limit : Int) (S S' : ByteArray) (mode : Int) (wr : World) : Prop where
  below : Below w.heap.size w wr
  x : FeedAt wr a S limit mode .nilIface
  r : wr.heap[a + 1]? = some (.cells (rfc S' limit mode false).toArray 34 (0, 0))
  mode : 0 ≤ mode ∧ mode ≤ 3
  lt : w.heap.size ≤ a
theorem LwSt.mid {w : World} {a : Nat} {limit : Int} {S S' : ByteArray} {mode : Int} {wr : World} (h : LwSt w a (a + 1) limit S mode false .nilIface wr) : LwM w a limit S S' mode (wr.setCell ⟨a + 1, 0, none⟩ (.string S')) :=
  ⟨h.below.setCell (p := ⟨a + 1, 0, none⟩) (Nat.le_succ_of_le h.lt) _, (Below.heap_setCell _ _ _ _ (by show a ≠ a + 1; omega)).trans h.x, by
    have h' : wr.heap[a + 1]? = some (.cells #[.string S, .int .i64 limit, .int .i64 mode, .bool false] 34 (0, 0)) := h.r
    simp [World.setCell, Array.getElem?_modify, h'], h.mode, h.lt⟩
theorem LwM.later {w : World} {a : Nat} {limit : Int} {S S' : ByteArray} {mode : Int} {wr w' : World} (h : LwM w a limit S S' mode wr) (hb : Below wr.heap.size wr w') : LwM w a limit S S' mode w' :=
  ⟨h.below.trans (hb.mono h.below.size), (hb.block _ (heap_lt h.x)).trans h.x, (hb.block _ (heap_lt h.r)).trans h.r, h.mode, h.lt⟩
theorem LwM.put {w : World} {a : Nat} {limit : Int} {S S' : ByteArray} {mode : Int} {wr : World} (h : LwM w a limit S S' mode wr) : LwSt w a (a + 1) limit S' mode false .nilIface (wr.setCell ⟨a, 0, none⟩ (.string S')) :=
  ⟨h.below.setCell (p := ⟨a, 0, none⟩) h.lt _, by
    have h' : wr.heap[a]? = some (.cells #[.string S, .int .i64 limit, .int .i64 mode, .nilIface] 57 (0, 0)) := h.x
    show (wr.setCell ⟨a, 0, none⟩ (.string S')).heap[a]? = _
    simp [World.setCell, Array.getElem?_modify, h'], (Below.heap_setCell _ _ _ _ (by show a + 1 ≠ a; omega)).trans h.r, h.mode, h.lt, .inl ⟨rfl, rfl⟩⟩
/-- Between the two feeds' taking of a mode. -/
structure LwN (w : World) (a : Nat) (limit : Int) (S : ByteArray) (mode mode' : Int) (wr : World) : Prop where
  below : Below w.heap.size w wr
  x : FeedAt wr a S limit mode .nilIface
  r : wr.heap[a + 1]? = some (.cells (rfc S limit mode' false).toArray 34 (0, 0))
  mode : 0 ≤ mode' ∧ mode' ≤ 3
  lt : w.heap.size ≤ a
theorem LwSt.midN {w : World} {a : Nat} {limit : Int} {S : ByteArray} {mode mode' : Int} {wr : World} (h : LwSt w a (a + 1) limit S mode false .nilIface wr) (hm : 0 ≤ mode' ∧ mode' ≤ 3) : LwN w a limit S mode mode' (wr.setCell ⟨a + 1, 2, none⟩ (.int .i64 mode')) :=
  ⟨h.below.setCell (p := ⟨a + 1, 2, none⟩) (Nat.le_succ_of_le h.lt) _, (Below.heap_setCell _ _ _ _ (by show a ≠ a + 1; omega)).trans h.x, by
    have h' : wr.heap[a + 1]? = some (.cells #[.string S, .int .i64 limit, .int .i64 mode, .bool false] 34 (0, 0)) := h.r
    simp [World.setCell, Array.getElem?_modify, h'], hm, h.lt⟩
theorem LwN.later {w : World} {a : Nat} {limit : Int} {S : ByteArray} {mode mode' : Int} {wr w' : World} (h : LwN w a limit S mode mode' wr) (hb : Below wr.heap.size wr w') : LwN w a limit S mode mode' w' :=
  ⟨h.below.trans (hb.mono h.below.size), (hb.block _ (heap_lt h.x)).trans h.x, (hb.block _ (heap_lt h.r)).trans h.r, h.mode, h.lt⟩
theorem LwN.put {w : World} {a : Nat} {limit : Int} {S : ByteArray} {mode mode' : Int} {wr : World} (h : LwN w a limit S mode mode' wr) : LwSt w a (a + 1) limit S mode' false .nilIface (wr.setCell ⟨a, 2, none⟩ (.int .i64 mode')) :=
  ⟨h.below.setCell (p := ⟨a, 2, none⟩) h.lt _, by
    have h' : wr.heap[a]? = some (.cells #[.string S, .int .i64 limit, .int .i64 mode, .nilIface] 57 (0, 0)) := h.x
    show (wr.setCell ⟨a, 2, none⟩ (.int .i64 mode')).heap[a]? = _
    simp [World.setCell, Array.getElem?_modify, h'], (Below.heap_setCell _ _ _ _ (by show a + 1 ≠ a; omega)).trans h.r, h.mode, h.lt, .inl ⟨rfl, rfl⟩⟩
theorem grown_under {w0 wr w1 : World} {b : Nat} (h : Below w0.heap.size w0 wr) (hg : wr.grownBy w1 (some b)) (hb : w0.heap.size ≤ b) : Below w0.heap.size w0 w1 :=
  ⟨hg.os.trans h.os, hg.tape.trans h.tape, hg.output.trans h.output, Nat.le_trans h.size hg.size, fun k hk => (hg.block k (Nat.lt_of_lt_of_le hk h.size) (fun e => by injection e with e; omega)).trans (h.block k hk)⟩
/-- Between the two Next. -/
structure LwR (w : World) (a : Nat) (limit : Int) (S : ByteArray) (mode : Int) (er : Value) (S' : ByteArray) (bad' : Bool) (wr : World) : Prop where
  below : Below w.heap.size w wr
  x : FeedAt wr a S limit mode er
  r : wr.heap[a + 1]? = some (.cells (rfc S' limit mode bad').toArray 34 (0, 0))
  mode : 0 ≤ mode ∧ mode ≤ 3
  lt : w.heap.size ≤ a
theorem LwR.later {w : World} {a : Nat} {limit : Int} {S S' : ByteArray} {mode : Int} {er : Value} {bad' : Bool} {wr w' : World} (h : LwR w a limit S mode er S' bad' wr) (hb : Below wr.heap.size wr w') : LwR w a limit S mode er S' bad' w' :=
  ⟨h.below.trans (hb.mono h.below.size), (hb.block _ (heap_lt h.x)).trans h.x, (hb.block _ (heap_lt h.r)).trans h.r, h.mode, h.lt⟩
theorem LwSt.rnext {w : World} {a : Nat} {limit : Int} {S S' : ByteArray} {mode : Int} {bad bad' : Bool} {er : Value} {wr w1 : World} (h : LwSt w a (a + 1) limit S mode bad er wr) (hg : wr.grownBy w1 (some (a + 1))) (hf : w1.heap[a + 1]? = some (.cells (rfc S' limit mode bad').toArray 34 (0, 0))) :
    LwR w a limit S mode er S' bad' w1 :=
  ⟨grown_under h.below hg (Nat.le_succ_of_le h.lt), (hg.block a (heap_lt h.x) (fun e => by injection e with e; omega)).trans h.x, hf, h.mode, h.lt⟩
theorem LwR.gnext {w : World} {a : Nat} {limit : Int} {S S' : ByteArray} {mode : Int} {bad' : Bool} {er er' : Value} {wr w1 : World} (h : LwR w a limit S mode er S' bad' wr) (hg : wr.grownBy w1 (some a)) (hf : FeedAt w1 a S' limit mode er')
    (he : (bad' = false ∧ er' = .nilIface) ∨ (bad' = true ∧ ∃ c : Int, er' = .iface 31 (.int .i64 c))) : LwSt w a (a + 1) limit S' mode bad' er' w1 :=
  ⟨grown_under h.below hg h.lt, hf, (hg.block _ (heap_lt h.r) (fun e => by injection e with e; omega)).trans h.r, h.mode, h.lt, he⟩
theorem out_ev (out : NOut) : (out.bad = false ∧ out.ev = .nilIface) ∨ (out.bad = true ∧ ∃ c : Int, out.ev = .iface 31 (.int .i64 c)) := by
  cases out with
  | fail c => exact .inr ⟨rfl, c, rfl⟩
  | wait => exact .inl ⟨rfl, rfl⟩
  | good n => exact .inl ⟨rfl, rfl⟩
  | spoilt n => exact .inl ⟨rfl, rfl⟩
theorem left_le (l : List UInt8) (out : NOut) : (out.left l).length ≤ l.length := by
  cases out with
  | fail c => exact Nat.zero_le _
  | wait => exact Nat.le_refl _
  | good n => show (l.drop n).length ≤ _; simp
  | spoilt n => show (l.drop n).length ≤ _; simp
theorem bareB_same (c : Int) : bareB c (-1) c = true := by simp [bareB]
theorem errs_same (c : Int) (w : World) (h : ErrTy w) : Calls Tryz.prog 5 #[errV c, .int .i64 c] w fun en w' => en = .returned (.bool true) ∧ Below w.heap.size w w' := by
  have := bare_any (errV c) c (-1) c w h (.inl ⟨rfl, rfl⟩)
  rwa [bareB_same] at this
/-- One step of both Next, whatever the feeds are. -/
theorem two_next {w : World} {a : Nat} {limit : Int} {S : ByteArray} {mode : Int} {bad : Bool} {er : Value} {wr : World} (h : LwSt w a (a + 1) limit S mode bad er wr) (hs : S.size ≤ 140737488355328) (hw : ∀ w', Below w.heap.size w w' → Laid w') (he : ∀ w', Below w.heap.size w w' → ErrTy w') :
    ∃ out S' bad' er', S'.size ≤ S.size ∧ ((bad' = false ∧ er' = .nilIface) ∨ (bad' = true ∧ ∃ c : Int, er' = .iface 31 (.int .i64 c))) ∧
      (∀ W, LwSt w a (a + 1) limit S mode bad er W → Calls Tryz.prog 10 #[.pointer (some ⟨a + 1, 0, none⟩)] W fun e w' => NextPost W (a + 1) S.data.toList mode out (fun c => .int .i64 c) (rfc S' limit mode bad') 34 e w') ∧
      (∀ W, LwR w a limit S mode er S' bad' W → Calls Tryz.prog 11 #[.pointer (some ⟨a, 0, none⟩)] W fun e w' => NextPost W a S.data.toList mode out errV (gfc S' limit mode er') 57 e w') := by
  rcases h.er with ⟨rfl, rfl⟩ | ⟨rfl, c, rfl⟩
  · refine ⟨nextOut S.data.toList limit mode, bs ((nextOut S.data.toList limit mode).left S.data.toList), (nextOut S.data.toList limit mode).bad, (nextOut S.data.toList limit mode).ev, ?_, out_ev _, fun W hW => rnext_any (a + 1) S limit mode W hW.r hs, fun W hW => gnext_any a S limit mode W (hw _ hW.below) (he _ hW.below) hW.x hs⟩
    have := left_le S.data.toList (nextOut S.data.toList limit mode)
    have h2 : S.data.toList.length = S.size := by rw [← Lib.size_eq]
    rw [bs_size]; omega
  · exact ⟨.wait, S, true, .iface 31 (.int .i64 c), Nat.le_refl _, .inr ⟨rfl, c, rfl⟩, fun W hW => rn_bad (a + 1) S limit mode W hW.r, fun W hW => gn_bad a S limit mode c W hW.x⟩
/-- A box of seven cells. -/
theorem box7 {w : World} {b : Nat} {x0 x1 x2 x3 x4 x5 x6 : Value} {T : TypeId} (h : w.heap[b]? = some (.cells #[x0, x1, x2, x3, x4, x5, x6] T (0, 0))) :
    w.cell? ⟨b, 0, none⟩ = some x0 ∧ w.cell? ⟨b, 1, none⟩ = some x1 ∧ w.cell? ⟨b, 2, none⟩ = some x2 ∧ w.cell? ⟨b, 3, none⟩ = some x3 ∧ w.cell? ⟨b, 4, none⟩ = some x4 ∧ w.cell? ⟨b, 5, none⟩ = some x5 ∧ w.cell? ⟨b, 6, none⟩ = some x6 := by
  simp [World.cell?, h]
theorem PieceB.alloc {w : World} {B : Nat} {d : PcD} {cs : List Value} (h : PieceB w B d cs) (o : Obj) : PieceB (w.alloc o) B d cs :=
  h.grown (row := none) ⟨rfl, rfl, rfl, by simp, fun k hk _ => Below.heap_alloc w o k hk⟩ (fun k e => by cases e)
theorem PieceB.old {w w' : World} {B a : Nat} {d : PcD} {cs : List Value} (h : PieceB w B d cs) (hg : w.grownBy w' (some a)) (ha : a < B) : PieceB w' B d cs :=
  h.grown hg (fun k e => by injection e with e; exact .inl (by omega))
/-- How the document's feed runs over the pieces of All, and what its last Next is. -/
def RunOk (limit mode : Int) : List PcD → ByteArray → Bool → NOut → ByteArray → Bool → Prop
  | [], S, bad, out, S', bad' => out.ok = false ∧ ((bad = false ∧ out = nextOut S.data.toList limit mode ∧ S' = bs (out.left S.data.toList) ∧ bad' = out.bad) ∨ (bad = true ∧ out = .wait ∧ S' = S ∧ bad' = true))
  | d :: ds, S, bad, out, S', bad' => bad = false ∧ (nextOut S.data.toList limit mode).ok = true ∧ d = (nextOut S.data.toList limit mode).piece S.data.toList mode ∧ RunOk limit mode ds (bs ((nextOut S.data.toList limit mode).left S.data.toList)) false out S' bad'
theorem run_ok {limit mode : Int} (hm : 0 ≤ mode ∧ mode ≤ 3) : ∀ (f : Nat) (l : List UInt8), l.length < f →
    RunOk limit mode (allRun limit mode f l).1 (bs l) false (allRun limit mode f l).2.1 (bs (allRun limit mode f l).2.2) (allRun limit mode f l).2.1.bad := by
  intro f
  induction f with
  | zero => intro l h; omega
  | succ f ih =>
    intro l h
    rw [allRun]
    by_cases ho : (nextOut l limit mode).ok = true
    · have hsh := next_short hm ho
      rw [if_pos ho]
      have := ih ((nextOut l limit mode).left l) (by omega)
      refine ⟨rfl, ?_⟩
      rw [bs_data]
      exact ⟨ho, rfl, this⟩
    · rw [if_neg ho]
      refine ⟨by simpa using ho, .inl ⟨rfl, ?_⟩⟩
      rw [bs_data]
      exact ⟨rfl, rfl, rfl⟩
theorem run_size {limit mode : Int} : ∀ (ds : List PcD) (S : ByteArray) (bad : Bool) (out : NOut) (S' : ByteArray) (bad' : Bool), RunOk limit mode ds S bad out S' bad' → S'.size ≤ S.size := by
  intro ds
  induction ds with
  | nil =>
    intro S bad out S' bad' h
    rcases h.2 with ⟨-, -, rfl, -⟩ | ⟨-, -, rfl, -⟩
    · have := left_le S.data.toList out
      have h2 : S.data.toList.length = S.size := by rw [← Lib.size_eq]
      rw [bs_size]; omega
    · exact Nat.le_refl _
  | cons d ds ih =>
    intro S bad out S' bad' h
    have := ih _ _ _ _ _ h.2.2.2
    have h1 := left_le S.data.toList (nextOut S.data.toList limit mode)
    have h2 : S.data.toList.length = S.size := by rw [← Lib.size_eq]
    rw [bs_size] at this
    omega
theorem out_good {out : NOut} (h : out.ok = true) : out.err = 0 ∧ out.bad = false := by
  cases out with
  | fail c => cases h
  | wait => cases h
  | good n => exact ⟨rfl, rfl⟩
  | spoilt n => exact ⟨rfl, rfl⟩
/-- Behind All: the document's feed is some pieces on. -/
structure LwL (w : World) (B a : Nat) (limit : Int) (S' : ByteArray) (mode : Int) (ev : Value) (Sk : ByteArray) (bk : Bool) (ds : List PcD) (vs : List (List Value)) (v : Value) (wr : World) : Prop where
  st : LwR w a limit S' mode ev Sk bk wr
  rows : wr.ownsRow B 42 7 v vs.length (vs.flatMap id)
  len : ds.length = vs.length
  pcs : ∀ (i : Nat) d cs, ds[i]? = some d → vs[i]? = some cs → PieceB wr B d cs
  base : a + 1 < B
theorem LwL.next {w : World} {B a : Nat} {limit : Int} {S' : ByteArray} {mode : Int} {ev : Value} {Sk Sn : ByteArray} {bk bn : Bool} {ds : List PcD} {vs : List (List Value)} {v : Value} {wr w1 : World} (h : LwL w B a limit S' mode ev Sk bk ds vs v wr)
    (hg : wr.grownBy w1 (some (a + 1))) (hf : w1.heap[a + 1]? = some (.cells (rfc Sn limit mode bn).toArray 34 (0, 0))) : LwL w B a limit S' mode ev Sn bn ds vs v w1 :=
  ⟨⟨grown_under h.st.below hg (Nat.le_succ_of_le h.st.lt), (hg.block a (heap_lt h.st.x) (fun e => by injection e with e; omega)).trans h.st.x, hf, h.st.mode, h.st.lt⟩,
    h.rows.kept hg (by
      cases hv : v.ownBlock with
      | none => exact .inl rfl
      | some q => exact .inr (fun e => by injection e with e; have := (h.rows.lt q hv).1; have := h.base; omega)), h.len,
    fun i d cs h1 h2 => (h.pcs i d cs h1 h2).old hg h.base, h.base⟩
theorem LwL.later {w : World} {B a : Nat} {limit : Int} {S' : ByteArray} {mode : Int} {ev : Value} {Sk : ByteArray} {bk : Bool} {ds : List PcD} {vs : List (List Value)} {v : Value} {wr w1 : World} (h : LwL w B a limit S' mode ev Sk bk ds vs v wr)
    (hb : Below wr.heap.size wr w1) : LwL w B a limit S' mode ev Sk bk ds vs v w1 :=
  h.next ⟨hb.os, hb.tape, hb.output, hb.size, fun k hk _ => hb.block k hk⟩ ((hb.block _ (heap_lt h.st.r)).trans h.st.r)
theorem LwL.done {w : World} {B a : Nat} {limit : Int} {S' : ByteArray} {mode : Int} {ev : Value} {bk : Bool} {ds : List PcD} {vs : List (List Value)} {v : Value} {wr : World} (h : LwL w B a limit S' mode ev S' bk ds vs v wr)
    (he : (bk = false ∧ ev = .nilIface) ∨ (bk = true ∧ ∃ c : Int, ev = .iface 31 (.int .i64 c))) : LwSt w a (a + 1) limit S' mode bk ev wr :=
  ⟨h.st.below, h.st.x, h.st.r, h.st.mode, h.st.lt, he⟩
theorem flat7 : ∀ (vs : List (List Value)) (k j : Nat) (cs : List Value), (∀ c ∈ vs, c.length = 7) → vs[k]? = some cs → j < 7 → (vs.flatMap id)[k * 7 + j]? = cs[j]? := by
  intro vs
  induction vs with
  | nil => intro k j cs _ h; simp at h
  | cons y l ih =>
    intro k j cs hl h hj
    have hy : y.length = 7 := hl y (List.mem_cons_self ..)
    rw [List.flatMap_cons]
    cases k with
    | zero =>
      simp at h
      subst h
      rw [List.getElem?_append_left (by show 0 * 7 + j < y.length; omega)]
      simp
    | succ k =>
      rw [List.getElem?_append_right (by show y.length ≤ _; rw [hy, Nat.succ_mul]; omega)]
      have he : (k + 1) * 7 + j - (id y).length = k * 7 + j := by show _ - y.length = _; rw [hy, Nat.succ_mul]; omega
      rw [he]
      exact ih k j cs (fun c hc => hl c (List.mem_cons_of_mem _ hc)) (by simpa using h) hj
/-- The k-th piece's cells. -/
theorem LwL.kth {w : World} {B a : Nat} {limit : Int} {S' : ByteArray} {mode : Int} {ev : Value} {Sk : ByteArray} {bk : Bool} {ds : List PcD} {vs : List (List Value)} {v : Value} {wr : World} (h : LwL w B a limit S' mode ev Sk bk ds vs v wr) {k : Nat} {d : PcD} (hd : ds[k]? = some d) :
    ∃ g A1 a1 A2 a2 cv, v = .slice (some ⟨g, 0, none⟩) vs.length cv ∧ PieceB wr B d (pcL d A1 A2 a1 a2) ∧ wr.cell? ⟨g, k * 7, none⟩ = some (.int .i64 d.o1) ∧ wr.cell? ⟨g, k * 7 + 1, none⟩ = some (.bool d.o2) ∧ wr.cell? ⟨g, k * 7 + 2, none⟩ = some (.int .i64 d.o3) ∧
      wr.cell? ⟨g, k * 7 + 3, none⟩ = some (.slice A1 d.xs.length a1) ∧ wr.cell? ⟨g, k * 7 + 4, none⟩ = some (.slice A2 d.ys.length a2) ∧ wr.cell? ⟨g, k * 7 + 5, none⟩ = some (.string d.t) ∧ wr.cell? ⟨g, k * 7 + 6, none⟩ = some (.string d.u) := by
  have hk : k < ds.length := (List.getElem?_eq_some_iff.1 hd).1
  have hkv : k < vs.length := by rw [← h.len]; exact hk
  obtain ⟨cs, hcs⟩ : ∃ cs, vs[k]? = some cs := ⟨_, List.getElem?_eq_getElem hkv⟩
  have hp := h.pcs k d cs hd hcs
  have hall : ∀ c ∈ vs, c.length = 7 := fun c hc => by
    obtain ⟨i, hi, rfl⟩ := List.getElem_of_mem hc
    have hid : i < ds.length := by rw [h.len]; exact hi
    obtain ⟨A1, a1, A2, a2, h1, -⟩ := h.pcs i _ _ (List.getElem?_eq_getElem hid) (List.getElem?_eq_getElem hi)
    rw [h1]; rfl
  have hp' := hp
  obtain ⟨A1, a1, A2, a2, rfl, -⟩ := hp'
  obtain ⟨A, c, hv, hr⟩ := own_rowV h.rows
  have hc : ∀ j u, j < 7 → (pcL d A1 A2 a1 a2)[j]? = some u → ∃ g, A = some ⟨g, 0, none⟩ ∧ g < wr.heap.size ∧ wr.cell? ⟨g, k * 7 + j, none⟩ = some u := fun j u hj hu => hr.at_ _ u (by rw [flat7 vs k j _ hall hcs hj]; exact hu)
  obtain ⟨g, rfl, -, h0⟩ := hc 0 _ (by omega) rfl
  have hc' : ∀ j u, j < 7 → (pcL d A1 A2 a1 a2)[j]? = some u → wr.cell? ⟨g, k * 7 + j, none⟩ = some u := fun j u hj hu => by
    obtain ⟨g', e, -, h1⟩ := hc j u hj hu
    injection e with e; injection e with e; subst e; exact h1
  exact ⟨g, A1, a1, A2, a2, c, hv, hp, hc' 0 _ (by omega) rfl, hc' 1 _ (by omega) rfl, hc' 2 _ (by omega) rfl, hc' 3 _ (by omega) rfl, hc' 4 _ (by omega) rfl, hc' 5 _ (by omega) rfl, hc' 6 _ (by omega) rfl⟩
/-- All, whatever the feed is; the document's feed runs over its pieces. -/
theorem all_both {w : World} {a : Nat} {limit : Int} {S : ByteArray} {mode : Int} {bad : Bool} {er : Value} {wr : World} (h : LwSt w a (a + 1) limit S mode bad er wr) (hs : S.size ≤ 1073741824) (hw : ∀ w', Below w.heap.size w w' → Laid w') (he : ∀ w', Below w.heap.size w w' → ErrTy w') :
    ∃ out ds S' bad' er', S'.size ≤ S.size ∧ ((bad' = false ∧ er' = .nilIface) ∨ (bad' = true ∧ ∃ c : Int, er' = .iface 31 (.int .i64 c))) ∧ RunOk limit mode ds S bad out S' bad' ∧
      (Calls Tryz.prog 12 #[.pointer (some ⟨a, 0, none⟩)] wr fun e w' => ∃ v vs, e = .returned (.tuple #[v, errV out.err]) ∧ LwL w wr.heap.size a limit S' mode er' S bad ds vs v w') := by
  have hself : bs S.data.toList = S := (bs_eq rfl).symm
  have h2 : S.data.toList.length = S.size := by rw [← Lib.size_eq]
  have hbl : a + 1 < wr.heap.size := heap_lt h.r
  rcases h.er with ⟨rfl, rfl⟩ | ⟨rfl, c, rfl⟩
  · have hrun := run_ok (limit := limit) h.mode (S.size + 1) S.data.toList (by omega)
    rw [hself] at hrun
    refine ⟨_, _, _, _, (allRun limit mode (S.size + 1) S.data.toList).2.1.ev, run_size _ _ _ _ _ _ hrun, out_ev _, hrun, ?_⟩
    refine (all_any a S limit mode wr (fun w' hg => hw _ (grown_under h.below hg h.lt)) (fun w' hg => he _ (grown_under h.below hg h.lt)) h.x hs h.mode).mono ?_
    rintro e w' ⟨v, vs, rfl, hst⟩
    exact ⟨v, vs, rfl, ⟨grown_under h.below hst.grown h.lt, hst.fd, (hst.grown.block _ hbl (fun e => by injection e with e; omega)).trans h.r, h.mode, h.lt⟩, hst.rows, hst.len, hst.pcs, hbl⟩
  · refine ⟨.wait, [], S, true, _, Nat.le_refl _, .inr ⟨rfl, c, rfl⟩, ⟨rfl, .inr ⟨rfl, rfl, rfl, rfl⟩⟩, ?_⟩
    refine (all_bad a S limit mode c wr h.x).mono ?_
    rintro e w' ⟨rfl, hg, hf⟩
    exact ⟨_, [], rfl, ⟨grown_under h.below hg h.lt, hf, (hg.block _ hbl (fun e => by injection e with e; omega)).trans h.r, h.mode, h.lt⟩, World.ownsRow_nil _ _ _ _, rfl, fun i d cs h1 => by simp at h1, hbl⟩
/-- The document's Next where All had a piece. -/
theorem run_step {limit mode : Int} {d : PcD} {ds : List PcD} {S : ByteArray} {bad : Bool} {out : NOut} {S' : ByteArray} {bad' : Bool} (h : RunOk limit mode (d :: ds) S bad out S' bad') (a : Nat) (hs : S.size ≤ 140737488355328) :
    ∃ o1 Sn, o1.ok = true ∧ o1.err = 0 ∧ o1.piece S.data.toList mode = d ∧ RunOk limit mode ds Sn false out S' bad' ∧ Sn.size ≤ S.size ∧
      ∀ W, W.heap[a + 1]? = some (.cells (rfc S limit mode bad).toArray 34 (0, 0)) → Calls Tryz.prog 10 #[.pointer (some ⟨a + 1, 0, none⟩)] W fun e w' => NextPost W (a + 1) S.data.toList mode o1 (fun c => .int .i64 c) (rfc Sn limit mode false) 34 e w' := by
  obtain ⟨rfl, h1, h2, h3⟩ := h
  have h4 := left_le S.data.toList (nextOut S.data.toList limit mode)
  have h5 : S.data.toList.length = S.size := by rw [← Lib.size_eq]
  obtain ⟨g1, g2⟩ := out_good h1
  refine ⟨_, _, h1, g1, h2.symm, h3, by rw [bs_size]; omega, fun W hW => ?_⟩
  have := rnext_any (a + 1) S limit mode W hW hs
  rwa [g2] at this
theorem run_last {limit mode : Int} {S : ByteArray} {bad : Bool} {out : NOut} {S' : ByteArray} {bad' : Bool} (h : RunOk limit mode [] S bad out S' bad') (a : Nat) (hs : S.size ≤ 140737488355328) :
    out.ok = false ∧ ∀ W, W.heap[a + 1]? = some (.cells (rfc S limit mode bad).toArray 34 (0, 0)) → Calls Tryz.prog 10 #[.pointer (some ⟨a + 1, 0, none⟩)] W fun e w' => NextPost W (a + 1) S.data.toList mode out (fun c => .int .i64 c) (rfc S' limit mode bad') 34 e w' := by
  obtain ⟨h0, ⟨rfl, rfl, rfl, rfl⟩ | ⟨rfl, rfl, rfl, rfl⟩⟩ := h
  · exact ⟨h0, fun W hW => rnext_any (a + 1) S limit mode W hW hs⟩
  · exact ⟨h0, fun W hW => rn_bad (a + 1) S' limit mode W hW⟩
theorem len_bulk (acts : List ActD) : acts.length ≤ bulkOf acts := by
  unfold bulkOf
  induction acts with
  | nil => simp
  | cons d l ih => simp; omega
end Go.Proofs.YtincgdbfmnnpaaaGreatDoor

/- quaymasterlaw.FeedPlays: the walk. -/
namespace Go.Proofs.YtincgdbfmnnpaaaGreatDoor
open Go.RowKit
set_option maxRecDepth 100000 in
set_option maxHeartbeats 16000000 in
theorem law_any (limit : Int) (A : Option Addr) (c : Nat) (acts : List ActD) (w : World) (hw : Laid w) (he : ErrTy w) (hr : RowO w A (acts.flatMap ActD.cells)) (hb : bulkOf acts ≤ 1073741824) :
    Calls Tryz.prog 3 #[.int .i64 limit, .slice A acts.length c] w fun e w' => e = .returned (.bool true) ∧ Below w.heap.size w w' := by
  have hl30 : acts.length ≤ 1073741824 := Nat.le_trans (len_bulk acts) hb
  have HRV := Lib.hid hr
  have HW := Lib.hid hw
  have HE := Lib.hid he
  clear hw he hr
  go_enter Tryz.func3, Tryz.ntmps3
  go_wp2_with fail
  go_loopw [5, 34] (fun nv i wr => ∃ k0 : Nat, i = .int .i64 k0 ∧ k0 ≤ acts.length ∧ nv = .int .i64 (bulkOf (acts.take k0) : Int) ∧ Below w.heap.size w wr) (fun _ i _ => acts.length - (intOf i).toNat)
  case atStart => exact ⟨0, rfl, Nat.zero_le _, rfl, Below.refl _ _⟩
  case round =>
    obtain ⟨k0, rfl, hk0, rfl, hbw⟩ := hrel
    by_cases hlt : k0 < acts.length
    · obtain ⟨d, hd⟩ : ∃ d, acts[k0]? = some d := ⟨_, List.getElem?_eq_getElem hlt⟩
      obtain ⟨g, o, rfl, g0, g1, g2⟩ := (HRV.out.below hbw).act hd
      have hbk := bulk_add hd
      have hb1 := bulk_take acts (k0 + 1)
      have hki : (k0 : Int) < (acts.length : Int) := by omega
      obtain ⟨M, hM⟩ : ∃ M, M = bulkOf (acts.take k0) := ⟨_, rfl⟩
      rw [← hM] at hbk ⊢
      have q1 : IntKind.i64.wrap (1 + (d.s.size : Int)) = 1 + (d.s.size : Int) := IntWalk.i64_in _ (by omega)
      have q2 : IntKind.i64.wrap ((M : Int) + (1 + (d.s.size : Int))) = (M : Int) + (1 + (d.s.size : Int)) := IntWalk.i64_in _ (by omega)
      have HBK := Lib.hid hbk
      have HBW := Lib.hid hbw
      clear hbk hM hd hbw
      go_wp2_with fail
      go_roundw
      case rel => exact ⟨k0 + 1, by go_num, by omega, by rw [HBK.out]; congr 1, HBW.out.alloc HBW.out.size _⟩
      case measure => simp [intOf]; omega
    · obtain rfl : k0 = acts.length := by omega
      rw [List.take_length]
      obtain ⟨N, hN⟩ : ∃ N, N = bulkOf acts := ⟨_, rfl⟩
      rw [← hN] at hb ⊢
      have HN := Lib.hid hN
      have HBW := Lib.hid hbw
      clear hN hbw
      by_cases h4 : 4000 < N
      · go_wp2_with fail
        go_ret
        exact ⟨rfl, HBW.out⟩
      · by_cases hlr : limit < 0 ∨ 100000 < limit
        · have hn := fun w => new_range limit w hlr
          have HNW := Lib.hid hn
          clear hn
          go_wp2_with fail
          refine (HNW.out _).mono ?_
          rintro e w1 ⟨rfl, rfl⟩
          rw [show errV 2 = .iface 31 (.int .i64 2) from rfl]
          rcases hlr with hl1 | hl1
          · go_wp2_with fail
            refine (bare_any (errV 2) 2 (-1) 2 _ (HE.out.below HBW.out) (.inl ⟨rfl, rfl⟩)).mono ?_
            rintro e w2 ⟨rfl, hb1⟩
            rw [show bareB 2 (-1) 2 = true from by decide]
            go_wp2_with fail
            go_ret
            exact ⟨rfl, HBW.out.trans (hb1.mono HBW.out.size)⟩
          · have hl2 : ¬ limit < 0 := by omega
            go_wp2_with fail
            refine (bare_any (errV 2) 2 (-1) 2 _ (HE.out.below HBW.out) (.inl ⟨rfl, rfl⟩)).mono ?_
            rintro e w2 ⟨rfl, hb1⟩
            rw [show bareB 2 (-1) 2 = true from by decide]
            go_wp2_with fail
            go_ret
            exact ⟨rfl, HBW.out.trans (hb1.mono HBW.out.size)⟩
        · have hn := fun w => new_good limit w (fun x => hlr (.inl x)) (fun x => hlr (.inr x))
          have HNW := Lib.hid hn
          clear hn
          have hl1 : ¬ limit < 0 := fun x => hlr (.inl x)
          have hl2 : ¬ 100000 < limit := fun x => hlr (.inr x)
          go_wp2_with fail
          refine (HNW.out _).mono ?_
          rintro e w1 ⟨rfl, rfl⟩
          rw [show errV 0 = .nilIface from rfl]
          go_wp2_with fail
          obtain ⟨a, ha⟩ : ∃ a, a = wr.heap.size := ⟨_, rfl⟩
          have hst : LwSt w a (a + 1) limit ⟨#[]⟩ 0 false .nilIface ((wr.alloc (.cells (gfc ⟨#[]⟩ limit 0 .nilIface).toArray 57)).alloc (.cells (rfc ⟨#[]⟩ limit 0 false).toArray 34)) := by
            subst ha
            have hz1 : (wr.alloc (.cells (gfc ⟨#[]⟩ limit 0 .nilIface).toArray 57)).heap.size = wr.heap.size + 1 := by simp
            refine ⟨(HBW.out.alloc HBW.out.size _).alloc (by rw [hz1]; have := HBW.out.size; omega) _, ?_, ?_, ⟨by omega, by omega⟩, HBW.out.size, .inl ⟨rfl, rfl⟩⟩
            · exact (Below.heap_alloc _ _ _ (by rw [hz1]; omega)).trans (alloc_heap_new wr _)
            · rw [← hz1]; exact alloc_heap_new _ _
          rw [← ha]
          generalize World.alloc (World.alloc wr _) _ = wS at hst ⊢
          have HST := Lib.hid hst
          clear hst ha
          go_loopw [75] (fun i wr => ∃ k0 : Nat, ∃ S mode bad er, i = .int .i64 k0 ∧ k0 ≤ acts.length ∧ LwSt w a (a + 1) limit S mode bad er wr ∧ S.size ≤ bulkOf (acts.take k0)) (fun i _ => acts.length - (intOf i).toNat)
          case atStart => exact ⟨0, ⟨#[]⟩, 0, false, .nilIface, rfl, Nat.zero_le _, HST.out, Nat.zero_le _⟩
          case round =>
            obtain ⟨k0, S, mode, bad, er, rfl, hk0, hst, hSz⟩ := hrel
            have HST1 := Lib.hid hst
            clear hst
            by_cases hlt : k0 < acts.length
            · obtain ⟨d, hd⟩ : ∃ d, acts[k0]? = some d := ⟨_, List.getElem?_eq_getElem hlt⟩
              obtain ⟨g, o, rfl, g0, g1, g2⟩ := (HRV.out.below HST1.out.below).act hd
              have hbk := bulk_add hd
              have hb1 := bulk_take acts (k0 + 1)
              have hki : (k0 : Int) < (acts.length : Int) := by omega
              have hst2 := HST1.out.later ((Below.refl _ wr).alloc (Nat.le_refl _) (.cells #[.int .i64 d.k, .int .i64 d.n, .string d.s] 24))
              obtain ⟨x0, x1, x2, x3⟩ := hst2.x.cells
              obtain ⟨⟨r0, r2, r3⟩, rf0, rf2⟩ := rcells hst2.r
              have HST2 := Lib.hid hst2
              have HBK := Lib.hid hbk
              have hax : a < wr.heap.size := heap_lt HST1.out.x
              have hbx : a + 1 < wr.heap.size := heap_lt HST1.out.r
              clear hst2 hd hbk
              obtain ⟨dk, dn, dss⟩ := d
              by_cases hk : dk = 0 ∨ dk = 1 ∨ dk = 2 ∨ dk = 3
              · rcases hk with hk | hk
                · subst hk
                  rcases HST1.out.er with ⟨rfl, rfl⟩ | ⟨rfl, cc, rfl⟩
                  · have hS4 := bulk_take acts k0
                    have hlim : ¬ 9223372036854775807 < S.size + dss.size := by have hbk2 : bulkOf (acts.take (k0 + 1)) = bulkOf (acts.take k0) + (1 + dss.size) := HBK.out; have := HN.out; omega
                    go_wp2_with fail
                    go_region
                    go_wp2_with fail
                    have hm1 : LwM w a limit S (S ++ dss) mode ((wr.setCell ⟨a + 1, 0, none⟩ (.string (S ++ dss))).alloc (.cells #[.int .i64 0, .int .i64 dn, .string dss] 24)).drew := (HST1.out.mid).later (((Below.refl _ _).alloc (Nat.le_refl _) _).drew)
                    refine (put_good a S dss limit mode _ hm1.x (by have hbk2 : bulkOf (acts.take (k0 + 1)) = bulkOf (acts.take k0) + (1 + dss.size) := HBK.out; have := HN.out; omega)).mono ?_
                    rintro e w1 ⟨rfl, rfl⟩
                    have hst3 := hm1.put
                    rw [show errV 0 = .nilIface from rfl]
                    generalize World.setCell (World.drew _) _ _ = w1 at hst3 ⊢
                    have HST3 := Lib.hid hst3
                    clear hst3 hm1 x0 x1 x2 x3 r0 r2 r3 rf0 rf2
                    go_wp2_with fail
                    refine (bare_any .nilIface 0 (-1) 0 _ (HE.out.below HST3.out.below) (.inl ⟨rfl, rfl⟩)).mono ?_
                    rintro e w2 ⟨rfl, hb2⟩
                    rw [show bareB 0 (-1) 0 = true from by decide]
                    have hst4 := HST3.out.later hb2
                    obtain ⟨⟨r0, r2, r3⟩, -, -⟩ := rcells hst4.r
                    have HST4 := Lib.hid hst4
                    clear hst4 hb2
                    go_wp2_with fail
                    go_quiet ((go_at_call 13; refine Calls.quiet_of_same (kept_any a (S ++ dss) limit mode _ _ HST4.out.x)))
                    go_wp2_with fail
                    go_roundw
                    case rel => exact ⟨k0 + 1, (S ++ dss), mode, _, _, by go_num, by omega, HST4.out.later (below_drewN (Below.refl _ _) nq), by have hbk2 : bulkOf (acts.take (k0 + 1)) = bulkOf (acts.take k0) + (1 + dss.size) := HBK.out; have h9 : (S ++ dss).size = S.size + dss.size := (by simp); omega⟩
                    case measure => simp [intOf]; omega
                  · go_wp2_with fail
                    refine (put_state a S dss limit mode cc _ HST2.out.x).mono ?_
                    rintro e w1 ⟨rfl, rfl⟩
                    go_wp2_with fail
                    refine (bare_any (errV 6) 6 (-1) 6 _ (HE.out.below HST2.out.below) (.inl ⟨rfl, rfl⟩)).mono ?_
                    rintro e w2 ⟨rfl, hb2⟩
                    rw [show bareB 6 (-1) 6 = true from by decide]
                    have hst3 := HST2.out.later hb2
                    clear x0 x1 x2 x3 r0 r2 r3 rf0 rf2
                    obtain ⟨⟨r0, r2, r3⟩, -, -⟩ := rcells hst3.r
                    have HST3 := Lib.hid hst3
                    clear hst3 hb2
                    go_wp2_with fail
                    go_quiet ((go_at_call 13; refine Calls.quiet_of_same (kept_any a S limit mode _ _ HST3.out.x)))
                    go_wp2_with fail
                    go_roundw
                    case rel => exact ⟨k0 + 1, S, mode, _, _, by go_num, by omega, HST3.out.later (below_drewN (Below.refl _ _) nq), by rw [HBK.out]; omega⟩
                    case measure => simp [intOf]; omega
                · rcases hk with hk | hk
                  · subst hk
                    by_cases hn : 0 ≤ dn ∧ dn ≤ 3
                    · have hn1 : ¬ dn < 0 := by omega
                      have hn3 : ¬ 3 < dn := by omega
                      rcases HST1.out.er with ⟨rfl, rfl⟩ | ⟨rfl, cc, rfl⟩
                      · go_wp2_with fail
                        have hm1 : LwN w a limit S mode dn ((wr.setCell ⟨a + 1, 2, none⟩ (.int .i64 dn)).alloc (.cells #[.int .i64 1, .int .i64 dn, .string dss] 24)) := (HST1.out.midN hn).later ((Below.refl _ _).alloc (Nat.le_refl _) _)
                        refine (mode_good a S limit mode dn _ hm1.x (wi_yes hn)).mono ?_
                        rintro e w1 ⟨rfl, rfl⟩
                        have hst3 := hm1.put
                        rw [show errV 0 = .nilIface from rfl]
                        generalize World.setCell (World.alloc _ _) _ _ = w1 at hst3 ⊢
                        have HST3 := Lib.hid hst3
                        clear hst3 hm1 x0 x1 x2 x3 r0 r2 r3 rf0 rf2
                        go_wp2_with fail
                        refine (bare_any .nilIface 0 (-1) 0 _ (HE.out.below HST3.out.below) (.inl ⟨rfl, rfl⟩)).mono ?_
                        rintro e w2 ⟨rfl, hb2⟩
                        rw [show bareB 0 (-1) 0 = true from by decide]
                        have hst4 := HST3.out.later hb2
                        obtain ⟨⟨r0, r2, r3⟩, -, -⟩ := rcells hst4.r
                        have HST4 := Lib.hid hst4
                        clear hst4 hb2
                        go_wp2_with fail
                        go_quiet ((go_at_call 13; refine Calls.quiet_of_same (kept_any a S limit dn _ _ HST4.out.x)))
                        go_wp2_with fail
                        go_roundw
                        case rel => exact ⟨k0 + 1, S, dn, _, _, by go_num, by omega, HST4.out.later (below_drewN (Below.refl _ _) nq), by rw [HBK.out]; omega⟩
                        case measure => simp [intOf]; omega
                      · go_wp2_with fail
                        refine (mode_state a S limit mode cc dn _ HST2.out.x (wi_yes hn)).mono ?_
                        rintro e w1 ⟨rfl, rfl⟩
                        go_wp2_with fail
                        refine (bare_any (errV 6) 6 (-1) 6 _ (HE.out.below HST2.out.below) (.inl ⟨rfl, rfl⟩)).mono ?_
                        rintro e w2 ⟨rfl, hb2⟩
                        rw [show bareB 6 (-1) 6 = true from by decide]
                        have hst3 := HST2.out.later hb2
                        clear x0 x1 x2 x3 r0 r2 r3 rf0 rf2
                        obtain ⟨⟨r0, r2, r3⟩, -, -⟩ := rcells hst3.r
                        have HST3 := Lib.hid hst3
                        clear hst3 hb2
                        go_wp2_with fail
                        go_quiet ((go_at_call 13; refine Calls.quiet_of_same (kept_any a S limit mode _ _ HST3.out.x)))
                        go_wp2_with fail
                        go_roundw
                        case rel => exact ⟨k0 + 1, S, mode, _, _, by go_num, by omega, HST3.out.later (below_drewN (Below.refl _ _) nq), by rw [HBK.out]; omega⟩
                        case measure => simp [intOf]; omega
                    · by_cases hn0 : dn < 0
                      · go_wp2_with fail
                        refine (mode_arg a dn _ (wi_no hn)).mono ?_
                        rintro e w1 ⟨rfl, rfl⟩
                        go_wp2_with fail
                        refine (bare_any (errV 1) 1 (-1) 1 _ (HE.out.below HST2.out.below) (.inl ⟨rfl, rfl⟩)).mono ?_
                        rintro e w2 ⟨rfl, hb2⟩
                        rw [show bareB 1 (-1) 1 = true from by decide]
                        have hst3 := HST2.out.later hb2
                        clear x0 x1 x2 x3 r0 r2 r3 rf0 rf2
                        obtain ⟨⟨r0, r2, r3⟩, -, -⟩ := rcells hst3.r
                        have HST3 := Lib.hid hst3
                        clear hst3 hb2
                        go_wp2_with fail
                        go_quiet ((go_at_call 13; refine Calls.quiet_of_same (kept_any a S limit mode _ _ HST3.out.x)))
                        go_wp2_with fail
                        go_roundw
                        case rel => exact ⟨k0 + 1, S, mode, _, _, by go_num, by omega, HST3.out.later (below_drewN (Below.refl _ _) nq), by rw [HBK.out]; omega⟩
                        case measure => simp [intOf]; omega
                      · have hn3 : 3 < dn := by omega
                        go_wp2_with fail
                        refine (mode_arg a dn _ (wi_no hn)).mono ?_
                        rintro e w1 ⟨rfl, rfl⟩
                        go_wp2_with fail
                        refine (bare_any (errV 1) 1 (-1) 1 _ (HE.out.below HST2.out.below) (.inl ⟨rfl, rfl⟩)).mono ?_
                        rintro e w2 ⟨rfl, hb2⟩
                        rw [show bareB 1 (-1) 1 = true from by decide]
                        have hst3 := HST2.out.later hb2
                        clear x0 x1 x2 x3 r0 r2 r3 rf0 rf2
                        obtain ⟨⟨r0, r2, r3⟩, -, -⟩ := rcells hst3.r
                        have HST3 := Lib.hid hst3
                        clear hst3 hb2
                        go_wp2_with fail
                        go_quiet ((go_at_call 13; refine Calls.quiet_of_same (kept_any a S limit mode _ _ HST3.out.x)))
                        go_wp2_with fail
                        go_roundw
                        case rel => exact ⟨k0 + 1, S, mode, _, _, by go_num, by omega, HST3.out.later (below_drewN (Below.refl _ _) nq), by rw [HBK.out]; omega⟩
                        case measure => simp [intOf]; omega
                  · rcases hk with hk | hk
                    · subst hk
                      have hSb : S.size ≤ 140737488355328 := by have := bulk_take acts k0; have := HN.out; omega
                      obtain ⟨out, S', bad', er', hle, her, hN1, hN2⟩ := two_next HST1.out hSb (fun w' h => HW.out.below h) (fun w' h => HE.out.below h)
                      have HN1 := Lib.hid hN1
                      have HN2 := Lib.hid hN2
                      have HER := Lib.hid her
                      clear hN1 hN2 her x0 x1 x2 x3 r0 r2 r3 rf0 rf2
                      go_wp2_with fail
                      refine (HN1.out _ HST2.out).mono ?_
                      rintro e w1 hp
                      obtain ⟨v, rfl, hpi⟩ := hp.val
                      obtain ⟨cs, rfl, hpb⟩ := piece_b hpi
                      obtain ⟨d, hd⟩ : ∃ d, out.piece S.data.toList mode = d := ⟨_, rfl⟩
                      rw [hd] at hpb
                      have hpc := hpb
                      obtain ⟨A1, a1, A2, a2, rfl, -, -, hfit⟩ := hpc
                      unfold pcL
                      have hR0 := HST2.out.rnext hp.grown hp.fd
                      have ha2 : a < w1.heap.size := heap_lt hR0.x
                      have hR := hR0.later ((Below.refl _ w1).alloc (Nat.le_refl _) (.cells #[.int .i64 d.o1, .bool d.o2, .int .i64 d.o3, .slice A1 d.xs.length a1, .slice A2 d.ys.length a2, .string d.t, .string d.u] 42))
                      have hP := hpb.alloc (.cells #[.int .i64 d.o1, .bool d.o2, .int .i64 d.o3, .slice A1 d.xs.length a1, .slice A2 d.ys.length a2, .string d.t, .string d.u] 42)
                      have ha1 := heap_lt HST2.out.x
                      have hX := alloc_heap_new w1 (.cells #[.int .i64 d.o1, .bool d.o2, .int .i64 d.o3, .slice A1 d.xs.length a1, .slice A2 d.ys.length a2, .string d.t, .string d.u] 42)
                      have HR := Lib.hid hR
                      have HP := Lib.hid hP
                      have HA1 := Lib.hid ha1
                      have HX := Lib.hid hX
                      have HFIT := Lib.hid hfit
                      have HD := Lib.hid hd
                      clear hR0 hR hP ha1 hX hfit hd hp hpi hpb
                      go_wp2_with fail
                      refine (HN2.out _ HR.out).mono ?_
                      rintro e w2 hq
                      obtain ⟨v, rfl, hqi⟩ := hq.val
                      obtain ⟨cs, rfl, hqb⟩ := piece_b hqi
                      rw [HD.out] at hqb
                      have hqc := hqb
                      obtain ⟨B1, b1, B2, b2, rfl, -, -, -⟩ := hqc
                      unfold pcL
                      have hS0 := HR.out.gnext hq.grown hq.fd HER.out
                      have hS := hS0.later ((Below.refl _ w2).alloc (Nat.le_refl _) (.cells #[.int .i64 d.o1, .bool d.o2, .int .i64 d.o3, .slice B1 d.xs.length b1, .slice B2 d.ys.length b2, .string d.t, .string d.u] 42))
                      have hP2 := (HP.out.old hq.grown HA1.out).alloc (.cells #[.int .i64 d.o1, .bool d.o2, .int .i64 d.o3, .slice B1 d.xs.length b1, .slice B2 d.ys.length b2, .string d.t, .string d.u] 42)
                      have hQ2 := hqb.alloc (.cells #[.int .i64 d.o1, .bool d.o2, .int .i64 d.o3, .slice B1 d.xs.length b1, .slice B2 d.ys.length b2, .string d.t, .string d.u] 42)
                      have hxo := (hq.grown.block _ (heap_lt HX.out) (fun e => by injection e with e; omega)).trans HX.out
                      have hX2 := (Below.heap_alloc w2 (.cells #[.int .i64 d.o1, .bool d.o2, .int .i64 d.o3, .slice B1 d.xs.length b1, .slice B2 d.ys.length b2, .string d.t, .string d.u] 42) _ (heap_lt hxo)).trans hxo
                      have hY2 := alloc_heap_new w2 (.cells #[.int .i64 d.o1, .bool d.o2, .int .i64 d.o3, .slice B1 d.xs.length b1, .slice B2 d.ys.length b2, .string d.t, .string d.u] 42)
                      have HS := Lib.hid hS
                      have HP2 := Lib.hid hP2
                      have HQ2 := Lib.hid hQ2
                      have HX2 := Lib.hid hX2
                      have HY2 := Lib.hid hY2
                      clear hS0 hS hP2 hQ2 hxo hX2 hY2 hq hqi hqb
                      go_wp2_with fail
                      refine (errs_same out.err _ (HE.out.below HS.out.below)).mono ?_
                      rintro e w3 ⟨rfl, hb3⟩
                      have hS3 := HS.out.later hb3
                      have hP3 := HP2.out.v.below hb3
                      have hQ3 := HQ2.out.v.below hb3
                      obtain ⟨p0, p1, p2, p3, p4, p5, p6⟩ := box7 ((hb3.block _ (heap_lt HX2.out)).trans HX2.out)
                      obtain ⟨q0, q1, q2, q3, q4, q5, q6⟩ := box7 ((hb3.block _ (heap_lt HY2.out)).trans HY2.out)
                      have HS3 := Lib.hid hS3
                      have HP3 := Lib.hid hP3
                      have HQ3 := Lib.hid hQ3
                      clear hS3 hP3 hQ3 hb3
                      go_wp2_with fail
                      refine (one_any d HFIT.out _ _ _ HP3.out HQ3.out).mono ?_
                      rintro e w4 ⟨rfl, hb4⟩
                      clear p0 p1 p2 p3 p4 p5 p6 q0 q1 q2 q3 q4 q5 q6
                      have hS4 := HS3.out.later hb4
                      obtain ⟨⟨r0, r2, r3⟩, -, -⟩ := rcells hS4.r
                      have HS4 := Lib.hid hS4
                      clear hS4 hb4

                      go_wp2_with fail
                      go_quiet ((go_at_call 13; refine Calls.quiet_of_same (kept_any a S' limit mode _ _ HS4.out.x)))
                      go_wp2_with fail
                      go_roundw
                      case rel => exact ⟨k0 + 1, S', mode, _, _, by go_num, by omega, HS4.out.later (below_drewN (Below.refl _ _) nq), by rw [HBK.out]; omega⟩
                      case measure => simp [intOf]; omega
                    · subst hk
                      have hSb : S.size ≤ 1073741824 := by have := bulk_take acts k0; have := HN.out; omega
                      obtain ⟨out, ds, S', bad', er', hle, her, hrun, hA⟩ := all_both HST2.out hSb (fun w' h => HW.out.below h) (fun w' h => HE.out.below h)
                      have HRUN := Lib.hid hrun
                      have HA := Lib.hid hA
                      have HER := Lib.hid her
                      clear hrun hA her x0 x1 x2 x3 r0 r2 r3 rf0 rf2
                      go_wp2_with fail
                      refine HA.out.mono ?_
                      rintro e w1 ⟨v, vs, rfl, hL⟩
                      obtain ⟨A, cv, rfl, -⟩ := own_rowV hL.rows
                      have hvl : vs.length ≤ 9223372036854775807 := own_len hL.rows
                      have hlb := hL.base
                      have HL := Lib.hid hL
                      clear hL HA
                      go_wp2_with fail
                      go_loopw [170] (fun i wr => ∃ k : Nat, ∃ Sk bk B, i = .int .i64 k ∧ k ≤ vs.length ∧ LwL w B a limit S' mode er' Sk bk ds vs (.slice A vs.length cv) wr ∧ RunOk limit mode (ds.drop k) Sk bk out S' bad' ∧ Sk.size ≤ S.size) (fun i _ => vs.length - (intOf i).toNat)
                      case atStart => exact ⟨0, S, bad, _, rfl, Nat.zero_le _, HL.out, HRUN.out, Nat.le_refl _⟩
                      case round =>
                        obtain ⟨k, Sk, bk, B, rfl, hk1, hl, hrun1, hsk⟩ := hrel
                        have hdl := hl.len
                        have har := heap_lt hl.st.r
                        by_cases hlt3 : k < vs.length
                        · obtain ⟨d, hd⟩ : ∃ d, ds[k]? = some d := ⟨_, List.getElem?_eq_getElem (by omega)⟩
                          have hdrop : ds.drop k = d :: ds.drop (k + 1) := by
                            rw [List.drop_eq_getElem_cons (by omega)]
                            congr 1
                            rw [List.getElem?_eq_getElem (by omega)] at hd
                            exact Option.some.inj hd
                          rw [hdrop] at hrun1
                          obtain ⟨o1, Sn, hok, herr, hpe, hrun2, hsn, hcall⟩ := run_step hrun1 a (by omega)
                          obtain ⟨g3, A1, a1, A2, a2, cv', hv, hpb, c0, c1, c2, c3, c4, c5, c6⟩ := hl.kth hd
                          injection hv with hv1 hv2 hv3
                          subst hv1 hv3
                          have hk7 : (k : Int) < (vs.length : Int) := by omega
                          have hLa := hl.later ((Below.refl _ wr).alloc (Nat.le_refl _) (.cells #[.int .i64 d.o1, .bool d.o2, .int .i64 d.o3, .slice A1 d.xs.length a1, .slice A2 d.ys.length a2, .string d.t, .string d.u] 42))
                          have hPa := hpb.alloc (.cells #[.int .i64 d.o1, .bool d.o2, .int .i64 d.o3, .slice A1 d.xs.length a1, .slice A2 d.ys.length a2, .string d.t, .string d.u] 42)
                          have hfit : d.fit := by obtain ⟨_, _, _, _, -, -, -, hf⟩ := hpb; exact hf
                          have hXa := alloc_heap_new wr (.cells #[.int .i64 d.o1, .bool d.o2, .int .i64 d.o3, .slice A1 d.xs.length a1, .slice A2 d.ys.length a2, .string d.t, .string d.u] 42)
                          have HLA := Lib.hid hLa
                          have HPA := Lib.hid hPa
                          have HFIT := Lib.hid hfit
                          have HXA := Lib.hid hXa
                          have HRN := Lib.hid hrun2
                          have HCALL := Lib.hid hcall
                          have HPE := Lib.hid hpe
                          have HOK := Lib.hid hok
                          have HERR := Lib.hid herr
                          clear hl hLa hPa hfit hXa hrun1 hrun2 hcall hpe hok herr hpb hdrop hd hdl
                          go_wp2_with fail
                          refine (HCALL.out _ HLA.out.st.r).mono ?_
                          rintro e w2 hp
                          clear c0 c1 c2 c3 c4 c5 c6
                          obtain ⟨v, rfl, hpi⟩ := hp.val
                          obtain ⟨cs, rfl, hqb⟩ := piece_b hpi
                          rw [HPE.out] at hqb
                          rw [HOK.out, HERR.out]
                          have hqc := hqb
                          obtain ⟨B1, b1, B2, b2, rfl, -, -, -⟩ := hqc
                          unfold pcL
                          have hLb := (HLA.out.next hp.grown hp.fd).later ((Below.refl _ w2).alloc (Nat.le_refl _) (.cells #[.int .i64 d.o1, .bool d.o2, .int .i64 d.o3, .slice B1 d.xs.length b1, .slice B2 d.ys.length b2, .string d.t, .string d.u] 42))
                          have hPb := (HPA.out.old hp.grown HLA.out.base).alloc (.cells #[.int .i64 d.o1, .bool d.o2, .int .i64 d.o3, .slice B1 d.xs.length b1, .slice B2 d.ys.length b2, .string d.t, .string d.u] 42)
                          have hQb := hqb.alloc (.cells #[.int .i64 d.o1, .bool d.o2, .int .i64 d.o3, .slice B1 d.xs.length b1, .slice B2 d.ys.length b2, .string d.t, .string d.u] 42)
                          have hxo := (hp.grown.block _ (heap_lt HXA.out) (fun e => by injection e with e; omega)).trans HXA.out
                          have hX2 := (Below.heap_alloc w2 (.cells #[.int .i64 d.o1, .bool d.o2, .int .i64 d.o3, .slice B1 d.xs.length b1, .slice B2 d.ys.length b2, .string d.t, .string d.u] 42) _ (heap_lt hxo)).trans hxo
                          have hY2 := alloc_heap_new w2 (.cells #[.int .i64 d.o1, .bool d.o2, .int .i64 d.o3, .slice B1 d.xs.length b1, .slice B2 d.ys.length b2, .string d.t, .string d.u] 42)
                          obtain ⟨p0, p1, p2, p3, p4, p5, p6⟩ := box7 hX2
                          obtain ⟨q0, q1, q2, q3, q4, q5, q6⟩ := box7 hY2
                          have hPv := hPb.v
                          have hQv := hQb.v
                          have HLB2 := Lib.hid hLb
                          have HPV := Lib.hid hPv
                          have HQV := Lib.hid hQv
                          clear hLb hPb hQb hxo hX2 hY2 hPv hQv hp hpi hqb
                          go_wp2_with fail
                          refine (one_any d HFIT.out _ _ _ HQV.out HPV.out).mono ?_
                          rintro e w4 ⟨rfl, hb4⟩
                          clear p0 p1 p2 p3 p4 p5 p6 q0 q1 q2 q3 q4 q5 q6
                          have hLc := HLB2.out.later hb4
                          have HLC := Lib.hid hLc
                          clear hLc hb4
                          go_wp2_with fail
                          go_roundw
                          case rel => exact ⟨k + 1, Sn, false, B, by go_num, by omega, HLC.out, HRN.out, by omega⟩
                          case measure => simp [intOf]; omega
                        · obtain rfl : k = vs.length := by omega
                          have hdrop : ds.drop vs.length = [] := by rw [← hdl, List.drop_length]
                          rw [hdrop] at hrun1
                          obtain ⟨hok, hcall⟩ := run_last hrun1 a (by omega)
                          have HOK := Lib.hid hok
                          have HCALL := Lib.hid hcall
                          have HLA := Lib.hid hl
                          clear hl hok hcall hrun1 hdrop hdl har
                          go_wp2_with fail
                          refine (HCALL.out _ HLA.out.st.r).mono ?_
                          rintro e w2 hp
                          obtain ⟨v, rfl, hpi⟩ := hp.val
                          obtain ⟨cs, rfl, hqb⟩ := piece_b hpi
                          rw [HOK.out]
                          generalize out.piece Sk.data.toList mode = d at hqb
                          obtain ⟨B1, b1, B2, b2, rfl, -, -, -⟩ := hqb
                          unfold pcL
                          have hS2 := ((HLA.out.next hp.grown hp.fd).later ((Below.refl _ w2).alloc (Nat.le_refl _) (.cells #[.int .i64 d.o1, .bool d.o2, .int .i64 d.o3, .slice B1 d.xs.length b1, .slice B2 d.ys.length b2, .string d.t, .string d.u] 42))).done HER.out
                          have HS2 := Lib.hid hS2
                          clear hS2 hp hpi
                          go_wp2_with fail
                          refine (errs_same out.err _ (HE.out.below HS2.out.below)).mono ?_
                          rintro e w3 ⟨rfl, hb3⟩
                          have hS4 := HS2.out.later hb3
                          obtain ⟨⟨r0, r2, r3⟩, -, -⟩ := rcells hS4.r
                          have HS4 := Lib.hid hS4
                          clear hS4 hb3
                          go_wp2_with fail
                          go_quiet ((go_at_call 13; refine Calls.quiet_of_same (kept_any a S' limit mode _ _ HS4.out.x)))
                          go_wp2_with fail
                          go_roundw
                          case rel => exact ⟨k0 + 1, S', mode, _, _, by go_num, by omega, HS4.out.later (below_drewN (Below.refl _ _) nq), by rw [HBK.out]; omega⟩
                          case measure => simp [intOf]; omega
              · have h0 : ¬ dk = 0 := fun x => hk (.inl x)
                have h1 : ¬ dk = 1 := fun x => hk (.inr (.inl x))
                have h2 : ¬ dk = 2 := fun x => hk (.inr (.inr (.inl x)))
                have h3 : ¬ dk = 3 := fun x => hk (.inr (.inr (.inr x)))
                go_wp2_with fail
                go_quiet ((go_at_call 13; refine Calls.quiet_of_same (kept_any a S limit mode er _ HST2.out.x)))
                go_wp2_with fail
                go_roundw
                case rel => exact ⟨k0 + 1, S, mode, bad, er, by go_num, by omega, HST2.out.later (below_drewN (Below.refl _ _) nq), by rw [HBK.out]; omega⟩
                case measure => simp [intOf]; omega
            · obtain rfl : k0 = acts.length := by omega
              go_wp2_with fail
              go_ret
              exact ⟨rfl, HST1.out.below⟩
end Go.Proofs.YtincgdbfmnnpaaaGreatDoor

/- The law's arguments out of their readings. -/
namespace Go.Proofs.YtincgdbfmnnpaaaGreatDoor
open Go.RowKit Go.ChangeShapes Go.WideShapes Go.Deep
section
variable {H : Type} {enc : TypeId × Value → H} {P : Program} {w : World} {base : Nat} {spare : Nat → Bool} {held : Bool}
theorem open_slice_fields {t e : TypeId} {fs : Array Field} {fuel : Nat} {cs : List Value} {x : DataW H × List MemPlace} (ht : P.underlying t = some (.slice e)) (he : P.underlying e = some (.struct fs))
    (hone : oneCellFields P fs = true) (hC : P.cellsOf e = fs.size) (h : DataW.trod enc P w base spare held fuel t cs = some x) :
    (cs = [.slice none 0 0] ∧ x = (.nil, [])) ∨
    ∃ (a : Addr) (len cap m : Nat) (D : Nat → DataW H) (Pl : Nat → List MemPlace), cs = [.slice (some a) len cap] ∧ base ≤ a.block ∧ len ≤ cap ∧ cap ≤ maxLen ∧ m = (if spare a.block then cap else len) ∧
      x = (.slice ((List.range len).map D) ((List.range (m - len)).map fun j => D (len + j)), MemPlace.row a (m * fs.size) ++ (List.range m).flatMap Pl) ∧
      ∀ i, i < m → ∃ (ys : List (DataW H × List MemPlace)) (n : Nat), D i = .agg (ys.map (·.1)) ∧ Pl i = ys.flatMap (·.2) ∧ ys.length = fs.size ∧
        ∀ (j : Nat) (f : Field), fs[j]? = some f → ∃ (v : Value) (y : DataW H × List MemPlace), w.cell? (a.add (i * fs.size + j)) = some v ∧ ys[j]? = some y ∧ DataW.trod enc P w base spare held n f.type [v] = some y := by
  rcases open_slice ht h with h0 | ⟨a, len, cap, m, n, D, Pl, hcs, hb, hl, hm, hmm, hx, hi⟩
  · exact .inl h0
  · refine .inr ⟨a, len, cap, m, D, Pl, hcs, hb, hl, hm, hmm, by rw [hC] at hx; exact hx, fun i him => ?_⟩
    obtain ⟨cs', hc, ht'⟩ := hi i him
    rw [hC] at hc
    obtain ⟨ys, n', hn', hy, hlen, hyl, hf⟩ := DataW.trod_struct he ht'
    obtain ⟨_, hcl, hat⟩ := World.cells?_some hc
    simp only [Prod.mk.injEq] at hy
    refine ⟨ys, n', hy.1, hy.2, hyl, fun j f hj => ?_⟩
    obtain ⟨ho, hk⟩ := hone_of hone j f hj
    have hjl : j < fs.size := (Array.getElem?_eq_some_iff.1 hj).1
    have hcell := hat j hjl
    have hv : cs'[j]? = some (cs'[j]'(by omega)) := List.getElem?_eq_getElem (by omega)
    have h1 := hf j f hj
    rw [ho, hk] at h1
    have hone' : (cs'.drop j).take 1 = [cs'[j]'(by omega)] := by
      rw [List.drop_eq_getElem_cons (by omega)]
      rfl
    rw [hone'] at h1
    have hys : ys[j]? = some (ys[j]'(by omega)) := List.getElem?_eq_getElem (by omega)
    refine ⟨_, _, ?_, hys, h1.trans hys⟩
    rw [← Go.Deep.add_add, hcell, hv]
theorem flat_pick {α : Type} (f : α → List Value) (n : Nat) (hf : ∀ x, (f x).length = n) : ∀ (l : List α) (j : Nat) (u : Value), (l.flatMap f)[j]? = some u → ∃ k r x, j = k * n + r ∧ l[k]? = some x ∧ (f x)[r]? = some u ∧ r < n := by
  intro l
  induction l with
  | nil => intro j u h; simp at h
  | cons y l ih =>
    intro j u h
    rw [List.flatMap_cons] at h
    by_cases hj : j < n
    · rw [List.getElem?_append_left (by rw [hf]; exact hj)] at h
      exact ⟨0, j, y, by omega, rfl, h, hj⟩
    · rw [List.getElem?_append_right (by rw [hf]; omega), hf] at h
      obtain ⟨k, r, x, e, h1, h2, h3⟩ := ih _ u h
      exact ⟨k + 1, r, x, by rw [Nat.succ_mul]; omega, by simpa using h1, h2, h3⟩
theorem bulk_all_append (l r : List (DataW H)) : Rows.uptoBulkAll (l ++ r) = Rows.uptoBulkAll l + Rows.uptoBulkAll r := by
  induction l with
  | nil => simp [Rows.uptoBulkAll]
  | cons x l ih => simp only [List.cons_append, Rows.uptoBulkAll, ih]; omega
end
section
variable {H : Type} {enc : TypeId × Value → H} {w : World} {base : Nat} {held : Bool}
theorem open_acts {fuel : Nat} {a0 : Option Addr} {len cap : Nat} {d : DataW H} {p : List MemPlace} (h : DataW.trod enc Tryz.prog w base (fun _ => true) held fuel 22 [.slice a0 len cap] = some (d, p)) :
    ∃ acts : List ActD, acts.length = len ∧ RowO w a0 (acts.flatMap ActD.cells) ∧ bulkOf acts ≤ Rows.uptoBulk d := by
  rcases open_slice_fields Tryz.underlying22 Tryz.underlying24 (by kernel_rfl) (by kernel_rfl) h with ⟨hcs, hx⟩ | ⟨a, len', cap', m, D, Pl, hcs, hb, hl, hm, hmm, hx, hi⟩
  · simp at hcs
    obtain ⟨rfl, rfl, rfl⟩ := hcs
    exact ⟨[], rfl, ⟨fun j u h => by simp at h⟩, Nat.zero_le _⟩
  · simp at hcs
    obtain ⟨rfl, rfl, rfl⟩ := hcs
    simp only [Prod.mk.injEq] at hx
    obtain ⟨rfl, -⟩ := hx
    simp only [if_true] at hmm
    subst hmm
    have hall : ∀ i, ∃ x : ActD, i < len → D i = .agg [.lit (.int .i64 x.k), .lit (.int .i64 x.n), .lit (.string x.s.data.toList)] ∧ ∀ j u, x.cells[j]? = some u → w.cell? (a.add (i * 3 + j)) = some u := by
      intro i
      by_cases hil : i < len
      · obtain ⟨ys, n, h1, h2, h3, h4⟩ := hi i (by omega)
        obtain ⟨v0, y0, c0, e0, t0⟩ := h4 0 _ rfl
        obtain ⟨v1, y1, c1, e1, t1⟩ := h4 1 _ rfl
        obtain ⟨v2, y2, c2, e2, t2⟩ := h4 2 _ rfl
        obtain ⟨z0, f0, rfl, -⟩ := DataW.trod_int Tryz.underlying3 t0
        obtain ⟨z1, f1, rfl, -⟩ := DataW.trod_int Tryz.underlying3 t1
        obtain ⟨z2, f2, rfl, -⟩ := DataW.trod_string Tryz.underlying9 t2
        obtain rfl : v0 = _ := by simpa using f0
        obtain rfl : v1 = _ := by simpa using f1
        obtain rfl : v2 = _ := by simpa using f2
        refine ⟨⟨z0, z1, z2⟩, fun _ => ⟨?_, ?_⟩⟩
        · rw [h1]
          congr 1
          match ys, h3 with
          | [q0, q1, q2], _ =>
            simp at e0 e1 e2
            subst e0 e1 e2
            rfl
        · intro j u hj
          match j, hj with
          | 0, hj => obtain rfl := Option.some.inj hj; exact c0
          | 1, hj => obtain rfl := Option.some.inj hj; exact c1
          | 2, hj => obtain rfl := Option.some.inj hj; exact c2
          | j + 3, hj => simp [ActD.cells] at hj
      · exact ⟨⟨0, 0, ⟨#[]⟩⟩, fun h => absurd h hil⟩
    obtain ⟨f, hf⟩ := Classical.axiomOfChoice hall
    refine ⟨(List.range len).map f, by simp, ⟨fun j u hj => ?_⟩, ?_⟩
    · obtain ⟨k, r, x, rfl, hk, hr, hr3⟩ := flat_pick ActD.cells 3 (fun _ => rfl) _ _ _ hj
      rw [List.getElem?_map, Option.map_eq_some_iff] at hk
      obtain ⟨i, hi1, rfl⟩ := hk
      have hkl : k < len := by have := (List.getElem?_eq_some_iff.1 hi1).1; simpa using this
      have hik : i = k := by rw [List.getElem?_range hkl] at hi1; exact (Option.some.inj hi1).symm
      subst hik
      have hc := (hf i hkl).2 r u hr
      obtain ⟨b, off, spot⟩ := a
      have hc0 := (hf 0 (by omega)).2 0 _ rfl
      have hspot : spot = none := by simpa [Addr.add] using World.cell?_spot hc0
      subst hspot
      rw [add_plain] at hc
      exact ⟨b, off, rfl, World.block_lt_of_cell? w _ hc, hc⟩
    · have hsum : ∀ l : List Nat, (∀ i ∈ l, i < len) → bulkOf (l.map f) ≤ Rows.uptoBulkAll (l.map D) := by
        intro l
        induction l with
        | nil => intro _; exact Nat.zero_le _
        | cons i l ih =>
          intro hl
          have h1 := ih (fun i hi => hl i (List.mem_cons_of_mem _ hi))
          have h2 := (hf i (hl i (List.mem_cons_self ..))).1
          have h3 : Rows.uptoBulk (D i) ≥ 1 + (f i).s.size := by
            rw [h2]
            simp [Rows.uptoBulk, Rows.uptoBulkAll]
            omega
          show bulkOf (f i :: l.map f) ≤ Rows.uptoBulkAll (D i :: l.map D)
          unfold bulkOf at h1 ⊢
          simp only [List.map_cons, List.sum_cons, Rows.uptoBulkAll]
          omega
      have := hsum (List.range len) (fun i hi => List.mem_range.1 hi)
      simp only [Rows.uptoBulk]
      omega
end
end Go.Proofs.YtincgdbfmnnpaaaGreatDoor

namespace Go.Proofs.YtincgdbfmnnpaaaGreatDoor
open Go.ChangeShapes Go.WideShapes Go.ChangeAt Go.RowKit Go.Deep
theorem bulk_args {H : Type} (d0 d1 : DataW H) (h : Rows.uptoSmall H [d0, d1] = true) : Rows.uptoBulk d1 ≤ 1048576 := by
  have h1 : Rows.uptoBulkAll [d0, d1] ≤ 1048576 := of_decide_eq_true h
  simp only [Rows.uptoBulkAll] at h1
  omega
set_option maxRecDepth 100000 in
theorem contract (H : Type) (enc : TypeId × Value → H) (W : World) (base : Nat) (args : Array Value) (ds gs : List (DataW H)) (before : List MemPlace)
    (hval : ∀ (j : Nat) t v, Tryz.f3.params[j]? = some t → args[j]? = some v → Value.okWide Tryz.prog W .any base t v)
    (hW : DataW.Whole enc Tryz.prog Tryz.f3.params.toList Rows.feedPlaysSpec.vars false W args.toList ds gs before) (hk : Rows.uptoSmall H (ds ++ gs) = true) (hL : laidMetH Tryz.prog rowLaid W) (hsh : W.ShapedOpen Tryz.prog) :
    Calls Tryz.prog 3 args W fun e W' => ∃ v, e = .returned v ∧ Rows.feedPlaysSpec.post enc Tryz.prog Tryz.f3 false true false false W args v W' := by
  have hW' := hW
  obtain ⟨p, q, hA0, hV, rfl, hfz, hnd⟩ := hW
  have hA : DataW.TrodAll enc Tryz.prog W 0 (fun _ => true) true Tryz.f3.params.toList args.toList ds p := hA0
  rw [Tryz.params3] at hA hval
  obtain ⟨v0, vs0, d0, ds0, p0, q0, hargs, rfl, rfl, h0, r0⟩ := trodAll_cons hA
  obtain ⟨v1, vs1, d1, ds1, p1, q1, rfl, rfl, rfl, h1, r1⟩ := trodAll_cons r0
  obtain ⟨rfl, rfl, rfl⟩ := trodAll_nil r1
  obtain rfl : args = #[v0, v1] := by cases args; simp_all
  obtain ⟨rfl, rfl⟩ := trodVars_none hV
  obtain ⟨limit, rfl, rfl, rfl, hwf⟩ := open_int Tryz.underlying3 (hval 0 3 v0 rfl rfl) h0
  obtain ⟨a0, len, cap, rfl⟩ := okWide_slice Tryz.underlying22 (hval 1 22 v1 rfl rfl)
  have h1k := h1
  obtain ⟨fuel, hf⟩ := h1
  clear hA0
  simp only [List.append_nil] at hW' hk
  have hlt : ∀ x ∈ ([] : List MemPlace) ++ (p1 ++ []), x.block < W.heap.size := fun x hx => by simpa using hW'.lt x (by simpa using hx)
  obtain ⟨acts, rfl, hro, hbk⟩ := open_acts (by simpa [Value.cells] using hf)
  obtain ⟨hlaid, herr⟩ := laid_of_row hL hsh
  have hb := bulk_args _ _ hk
  refine (law_any limit a0 cap acts W hlaid herr hro (Nat.le_trans hbk (Nat.le_trans hb (by decide)))).mono fun e W' h => ?_
  obtain ⟨rfl, hbel⟩ := h
  refine ⟨_, rfl, _, _, _, [] ++ [], [] ++ p1, [], hW', ?_, ?_, rfl, hbel.frame _, fun h => by cases h⟩
  · exact trodAll_mk1 (shut_bool Tryz.underlying4 true)
  · exact trodAll_cons_mk (shut_int Tryz.underlying3 hwf) (trodAll_mk1 (Below.trod laysOut (by kernel_rfl) (of_decide_eq_true (by kernel_rfl)) h1k hbel (fun x hx => hlt x (by simpa using hx))))
theorem reads (os : Os) {H : Type} (enc : TypeId × Value → H) : ∃ places, DataW.whole enc Tryz.prog ((laidWorld os).forCall (fun _ _ => 0) ⟨#[], #[.int .i64 0, .slice none 0 0], []⟩).memory Tryz.f3.params.toList Rows.feedPlaysSpec.vars false #[Value.int .i64 0, .slice none 0 0].toList 8 = some ([.lit (.int .i64 0), .nil], [], places) :=
  ⟨[], by kernel_rfl⟩
set_option maxRecDepth 100000 in
theorem lifted (os : Os) (started : os.Started) (H : Type) (enc : TypeId × Value → H) (F : Stop.Interp) :
    ReturnsInHanded {} Tryz.checked os 3 .any ((Rows.OpenSpec.upto Rows.feedPlaysSpec).preRow enc Tryz.prog Tryz.f3 Rows.feedPlaysUptoRow.domain false Rows.feedPlaysUptoRow.laid) (((Rows.OpenSpec.upto Rows.feedPlaysSpec).at F).post enc Tryz.prog Tryz.f3 false true false false) := by
  obtain ⟨places, hx⟩ := reads os enc
  refine returnsInHanded_of_row (C := Tryz.checked) (s := Rows.OpenSpec.upto Rows.feedPlaysSpec) ownKnobs started (by kernel_rfl) Tryz.func3
    (witness_row_atRef (enc := enc) (C := Tryz.checked) false (laidWorld os) #[.int .i64 0, .slice none 0 0] (laidWorld_os os) (lw_vars os _) (lw_rest os _) (by kernel_rfl)
      (OpenSpec.preRow_of_cond 8 hx (by kernel_rfl) (fun k hk => by cases hk; kernel_rfl) (by kernel_rfl) (laidWorld_met os _))) ?_
  intro W base args ds gs before hval hW _ hcond _ hL hsh _
  exact contract H enc W base args ds gs before hval hW (hcond _ rfl) hL hsh
theorem said : Rows.FeedPlaysUptoSaid :=
  OpenClaim.holds_of_cond 3 Tryz.f3 rfl rfl rfl rfl rfl rfl rfl ⟨rfl, rfl, rfl, rfl, rfl⟩ rfl rfl rfl rfl rfl (by kernel_rfl) Tryz.func3 (by kernel_rfl)
    (of_decide_eq_true (by kernel_rfl)) (by unfold Func.isWrapper; first | (rw [if_pos (by decide +kernel)]; kernel_rfl) | (rw [if_neg (by decide +kernel)]; exact ⟨rfl, rfl⟩))
    (fun os started H enc _ F => by rw [OpenClaim.pre_eq_preRow]; exact lifted os started H enc F)
theorem plain (f : FuncId) (fn : Func) (hf : Tryz.pinned.checked.prog.funcNamed "quaymaster/quaymasterlaw.FeedPlays" = some f) (hfn : Tryz.pinned.checked.prog.funcs[f]? = some fn) :
    true = Tryz.pinned.checked.prog.looks [] ∧ ∀ (j : Nat) t, fn.params[j]? = some t → Tryz.pinned.checked.prog.wantsStandIn t = false := by
  obtain rfl : f = 3 := Option.some.inj ((show Tryz.prog.funcNamed "quaymaster/quaymasterlaw.FeedPlays" = some 3 by kernel_rfl).symm.trans hf) |>.symm
  obtain rfl : fn = Tryz.f3 := (Option.some.inj (Tryz.func3.symm.trans hfn)).symm
  refine ⟨by kernel_rfl, fun j t ht => ?_⟩
  rw [Tryz.params3] at ht
  match j, ht with
  | 0, ht => obtain rfl : t = 3 := (Option.some.inj ht).symm; exact (show Tryz.prog.wantsStandIn 3 = false by kernel_rfl)
  | 1, ht => obtain rfl : t = 22 := (Option.some.inj ht).symm; exact (show Tryz.prog.wantsStandIn 22 = false by kernel_rfl)
  | j + 2, ht => simp at ht
theorem cardUpto : Rows.FeedPlaysUptoCardSaid :=
  Claim7.holds_tied_plain_at .later [] _ _ _ _ said (fun _ h => by cases h) (by kernel_rfl) (fun _ h => by cases h) feedPlaysUpto_row_tie rfl ⟨rfl, rfl⟩ (by kernel_rfl) rfl plain (by kernel_rfl)
#print axioms cardUpto
end Go.Proofs.YtincgdbfmnnpaaaGreatDoor
