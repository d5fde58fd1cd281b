/- A part of the proof: Kind, SplitLaw, Split, RowText, Row, SplitOne, Flags, Base, FreeMap, StrMap, EntryMap, HeadRead. -/
import Derived.Test.YtkbjnlcongjokaaGreatDoorJ01
import Derived.RangeFuncNested
import Derived.RangeFuncBound
import Derived.RangeFuncCalls
import Derived.RangeFuncLeaves
import Derived.Test.YtkbjnlcongjokaaGreatDoorShelf
import Derived.OwnWalkIn
import Derived.TacticsInMore
import Derived.LoopNIn
import Derived.LoopIn
import Derived.Shelf.Abstract
import Derived.Shelf.RegionOpen
import Derived.Test.YtkbjnlcongjokaaGreatDoorTie
import Derived.ProofKit
import Derived.Lib.LaidTab
import Derived.Lay
import Derived.LaidHandle
import Derived.Stop.LaidErr
import Derived.Shelf.Vars
import Derived.Maps.Own
import Derived.Maps.Views
import Derived.Maps.OwnOps
import Derived.WideKeyEntry
import Derived.Laws.CopyOwn
/- quaymasterref.Kind. -/
namespace Go.Proofs.YtkbjnlcongjokaaGreatDoor
open Go.RowKit
def kindOf (op : Int) : Option Knd := kinds.find? fun k => k.op == op
theorem find_none {l : List Knd} {op : Int} (h : ∀ (j : Nat) (kd : Knd), l[j]? = some kd → kd.op ≠ op) : (l.find? fun k => k.op == op) = none := by
  rw [List.find?_eq_none]
  intro x hx
  obtain ⟨j, hj⟩ := List.mem_iff_getElem?.1 hx
  simpa using h j x hj
theorem find_some {l : List Knd} {op : Int} : ∀ {k : Nat} {kd : Knd}, (∀ j : Nat, j < k → ∀ kd : Knd, l[j]? = some kd → kd.op ≠ op) → l[k]? = some kd → kd.op = op → (l.find? fun k => k.op == op) = some kd := by
  induction l with
  | nil => intro k kd _ h; simp at h
  | cons x l ih =>
    intro k kd hn hk he
    cases k with
    | zero => simp at hk; subst hk; simp [he]
    | succ k =>
      have h0 : x.op ≠ op := hn 0 (by omega) x rfl
      have h1 : (x.op == op) = false := by simpa using h0
      rw [List.find?_cons, h1]
      exact ih (fun j hj kd h => hn (j + 1) (Nat.succ_lt_succ hj) kd (by simpa using h)) (by simpa using hk) he
theorem flat_at {α : Type} (f : α → List Value) (n : Nat) (hf : ∀ x, (f x).length = n) : ∀ (l : List α) (k j : Nat) (x : α), l[k]? = some x → j < n → (l.flatMap f)[k * n + j]? = (f x)[j]? := by
  intro l
  induction l with
  | nil => intro k j x h; simp at h
  | cons y l ih =>
    intro k j x h hj
    rw [List.flatMap_cons]
    cases k with
    | zero =>
      simp at h
      subst h
      rw [List.getElem?_append_left (by rw [hf]; omega)]
      simp
    | succ k =>
      rw [List.getElem?_append_right (by rw [hf, Nat.succ_mul]; omega), hf]
      have : (k + 1) * n + j - n = k * n + j := by rw [Nat.succ_mul]; omega
      rw [this]
      exact ih k j x (by simpa using h) hj
theorem range_flat {α : Type} {w : World} {b n : Nat} {t : TypeId} (f : α → List Value) (hf : ∀ x, (f x).length = n) (l : List α) (h : w.heap[b]? = some (.cells (l.flatMap f).toArray t)) {k : Nat} {x : α} (hk : l[k]? = some x) :
    w.rangeAt b (k * n) (f x) := by
  intro j v hv
  have hj : j < n := by
    rcases Nat.lt_or_ge j n with g | g
    · exact g
    · rw [List.getElem?_eq_none (by rw [hf]; exact g)] at hv; cases hv
  have := flat_at f n hf l k j x hk hj
  simp [World.cell?, h, this, hv]
theorem KndsAt.row {w : World} {v : Value} {l : List Knd} (h : KndsAt w v l) : ∃ b, ∃ vs : List Value, v = .slice (some ⟨b, 0, none⟩) l.length l.length ∧ vs.length = l.length ∧ b < w.heap.size ∧
    ∀ (k : Nat) (kd : Knd) (s : Value), l[k]? = some kd → vs[k]? = some s → w.rangeAt b (k * 4) (rowCells kd s) ∧ FldsAt w s kd.l := by
  obtain ⟨b, vs, h1, h2, h3, h4⟩ := h
  refine ⟨b, vs, h1, h3, heap_lt h2, fun k kd s hk hs => ⟨?_, h4 k kd s hk hs⟩⟩
  exact range_flat (fun x : Knd × Value => rowCells x.1 x.2) (fun _ => rfl) (l.zip vs) h2 (x := (kd, s)) (by
    rw [List.getElem?_zip_eq_some]; exact ⟨hk, hs⟩)
def kindV (o : Option Knd) (v : Value) : Value := match o with
  | some k => .tuple #[.string k.n, .int .i64 k.m, v, .bool true]
  | none => .tuple #[.string ⟨#[]⟩, .int .i64 0, .slice none 0 0, .bool false]
set_option maxRecDepth 100000 in
set_option maxHeartbeats 4000000 in
theorem kind_any (op : Int) (w : World) : Calls Tryz.prog 45 #[.int .i64 op] w fun e w' =>
    ∃ v, e = .returned (kindV (kindOf op) v) ∧ Below w.heap.size w w' ∧ ∀ k, kindOf op = some k → FldsAt w' v k.l := by
  go_enter Tryz.func45, Tryz.ntmps45
  go_wp2_with fail
  refine (kinds_any w).mono ?_
  rintro e w1 ⟨sv, rfl, hs, hb1⟩
  obtain ⟨b, vs, rfl, hl, hbl, hrow⟩ := hs.row
  have hlen : kinds.length = 18 := by kernel_rfl
  rw [hlen] at hl ⊢
  go_wp2_with fail
  go_loopw [7, 10] (fun _ i wr => ∃ k : Nat, k ≤ 18 ∧ i = .int .i64 k ∧ Below w1.heap.size w1 wr ∧ ∀ j : Nat, j < k → ∀ kd : Knd, kinds[j]? = some kd → kd.op ≠ op) (fun _ i _ => 18 - (intOf i).toNat)
  case atStart => exact ⟨0, by omega, rfl, Below.refl _ _, fun j hj => by omega⟩
  case round =>
    obtain ⟨k, hk, rfl, hb, hn⟩ := hrel
    have HN := Lib.hid hn
    clear hn
    by_cases hk2 : k < 18
    · have hk3 : k < kinds.length := by rw [hlen]; exact hk2
      obtain ⟨kd, hkd⟩ : ∃ kd, kinds[k]? = some kd := ⟨_, List.getElem?_eq_getElem hk3⟩
      obtain ⟨s, hsv⟩ : ∃ s, vs[k]? = some s := ⟨_, List.getElem?_eq_getElem (by rw [hl]; exact hk2)⟩
      obtain ⟨hr, hf⟩ := hrow k kd s hkd hsv
      have HF := Lib.hid hf
      obtain ⟨sb, rfl, _⟩ := hf
      have hr2 := range_below hr hb
      have c0 : wr.cell? ⟨b, k * 4, none⟩ = some (.int .i64 kd.op) := hr2 0 _ rfl
      have c1 : wr.cell? ⟨b, k * 4 + 1, none⟩ = some (.string kd.n) := hr2 1 _ rfl
      have c2 : wr.cell? ⟨b, k * 4 + 2, none⟩ = some (.int .i64 kd.m) := hr2 2 _ rfl
      have c3 : wr.cell? ⟨b, k * 4 + 3, none⟩ = some (.slice (some ⟨sb, 0, none⟩) kd.l.length kd.l.length) := hr2 3 _ rfl
      have HS := Lib.hid hs
      have HRow := Lib.hid hrow
      have HKD := Lib.hid hkd
      have HSV := Lib.hid hsv
      clear hr2 hs hrow hr hkd hsv
      by_cases he : kd.op = op
      · have he2 : (kd.op == op) = true := by simpa using he
        have HE := Lib.hid he
        clear he
        go_wp2_with fail
        go_quiet (fail)
        go_wp2_with fail
        have hko : kindOf op = some kd := find_some HN.out HKD.out HE.out
        refine bodyPost_ret (v := kindV (some kd) (.slice (some ⟨sb, 0, none⟩) kd.l.length kd.l.length)) (by simp [results, Tryz.results45, go_sem, kindV]) rfl ⟨.slice (some ⟨sb, 0, none⟩) kd.l.length kd.l.length, by rw [hko], ?_, ?_⟩
        · exact below_drewN (below_alloc (hb1.trans (hb.mono hb1.size)) (Nat.le_refl _) _) _
        · intro k' hk'
          rw [hko] at hk'
          cases hk'
          exact HF.out.below (below_drewN (below_alloc hb (Nat.le_refl _) _) _)
      · have he2 : (kd.op == op) = false := by simpa using he
        have HE := Lib.hid he
        clear he
        go_wp2_with fail
        refine ⟨⟨k + 1, by omega, by go_num, ?_, ?_⟩, by simp [intOf]; omega⟩
        · exact below_alloc hb (Nat.le_refl _) _
        · intro j hj kd' hkd'
          by_cases e : j < k
          · exact HN.out j e kd' hkd'
          · obtain rfl : j = k := by omega
            rw [HKD.out] at hkd'
            cases hkd'
            exact HE.out
    · obtain rfl : k = 18 := by omega
      go_wp2_with fail
      have hko : kindOf op = none := find_none fun j kd' h => HN.out j (by
        rcases Nat.lt_or_ge j 18 with g | g
        · exact g
        · rw [List.getElem?_eq_none (by rw [hlen]; exact g)] at h; cases h) kd' h
      refine bodyPost_ret (v := kindV none undef) (by simp [results, Tryz.results45, go_sem, kindV]) rfl ⟨undef, by rw [hko], hb1.trans (hb.mono hb1.size), fun k' hk' => by rw [hko] at hk'; cases hk'⟩
end Go.Proofs.YtkbjnlcongjokaaGreatDoor

/- A range over an iterator that keeps its own state in three cells of its maker's (strings.SplitSeq): the law of the loop. -/
namespace Go.Proofs.YtkbjnlcongjokaaGreatDoor
open Go.RowKit
/-- What abides a turn of the iterator's three cells, and of whatever is no cells at or behind H. -/
def Abid {β : Type} (B H : Nat) (I : β → World → Prop) : Prop :=
  ∀ s W W' row, I s W → W.grownBy W' row → (∀ r, row = some r → (B ≤ r ∧ r < B + 3) ∨ (H ≤ r ∧ ∃ o : Obj, W.heap[r]? = some o ∧ o.isCells = false)) → I s W'
/-- What a round keeps: all that lay from B on. -/
def Kept (B : Nat) (W W' : World) : Prop := W.heap.size ≤ W'.heap.size ∧ ∀ k, B ≤ k → k < W.heap.size → W'.heap[k]? = W.heap[k]?
theorem Kept.refl (B : Nat) (W : World) : Kept B W W := ⟨Nat.le_refl _, fun _ _ _ => rfl⟩
theorem Kept.trans {B : Nat} {X Y Z : World} (h : Kept B X Y) (k : Kept B Y Z) : Kept B X Z := ⟨Nat.le_trans h.1 k.1, fun i hB hi => (k.2 i hB (Nat.lt_of_lt_of_le hi h.1)).trans (h.2 i hB hi)⟩
theorem Kept.of_below {B : Nat} {W W' : World} (h : Below W.heap.size W W') : Kept B W W' := ⟨h.size, fun i _ hi => h.block i hi⟩
theorem Kept.of_grown {B : Nat} {W W' : World} {row : Option Nat} (h : W.grownBy W' row) (hr : ∀ r, row = some r → r < B ∨ W.heap.size ≤ r) : Kept B W W' :=
  ⟨h.size, fun i hB hi => h.block i hi (fun e => by rcases hr i e.symm with h | h <;> omega)⟩
/-- The iterator's contract, the three cells as they stand in W. -/
def SplitIter (F : Fence) (n : Nat) (P : Program) (g : Nat) (lb : Array Value) (B : Nat) (xs : List (List UInt8)) (w : World) : Prop :=
  ∀ (l : Nat) (J Jx : List (List UInt8) → World → Prop) (W : World), (∀ k, B ≤ k → k < B + 3 → W.heap[k]? = w.heap[k]?) →
    (∀ s X Y row, J s X → X.grownBy Y row → (∀ r, row = some r → B ≤ r ∧ r < B + 3) → J s Y) →
    (∀ pre x W1, J pre W1 → pre ++ [x] <+: xs → YieldAt F (n - 1) P l #[.string ⟨x.toArray⟩] W1 fun e W' =>
      (e = .returned (.bool true) ∧ J (pre ++ [x]) W' ∧ Kept B W1 W') ∨ (e = .returned (.bool false) ∧ Jx (pre ++ [x]) W')) →
    J [] W →
    CallsIn F n P g (#[.func (.yield l) #[] #[]] ++ lb) W fun e W' => (∃ v, e = .returned v) ∧ (J xs W' ∨ ∃ pre, pre <+: xs ∧ Jx pre W')
/-- How a round may be left. -/
def splitPost (B : Nat) (I : List (List UInt8) → World → Prop) (Ix : Code → List (List UInt8) → World → Prop) (xs : List (List UInt8)) (W : World) : Exit → Act → World → Prop
  | .normal, _, W' => Kept B W W' ∧ I xs W'
  | .ret, _, W' => Kept B W W' ∧ Ix .ret xs W'
  | .exit id, _, W' => Kept B W W' ∧ Ix (.exit id) xs W'
  | .goto t, _, W' => Kept B W W' ∧ Ix (.goto t) xs W'
  | .panic _, _, _ => False
  | .outgrown, _, _ => False
theorem kept_put {B : Nat} (W : World) (l : Nat) (o : Obj) (h : ∀ k, B ≤ k → k < W.heap.size → k ≠ l → True) : (W.putObj l o).heap.size = W.heap.size := by simp [World.putObj]
variable {F : Fence} {n : Nat} {P : Program}
theorem wpIn_range_split {g : Operand} {ps : Array Tmp} {assign body : Code} {Q : Exit → Act → World → Prop} {a : Act} {w : World}
    (hro : F.round = none) (h1 : 1 ≤ n) {gf : Nat} {lb : Array Value} (hg : a.eval g = .func (.func gf) #[] lb) (hFg : F.fn gf) (eg : ∀ args w, (callFunc gf args).run P w = .ok (.enter gf args) w)
    (B : Nat) (hB : B + 3 ≤ w.heap.size) (xs : List (List UInt8)) (hseq : SplitIter F (n - 1) P gf lb B xs w) (hps : 1 = ps.size)
    (I : List (List UInt8) → World → Prop) (Ix : Code → List (List UInt8) → World → Prop) (hI : Abid B w.heap.size I) (hIx : ∀ c, Abid B w.heap.size (Ix c)) (h0 : I [] w) (a₁ : List UInt8 → Act)
    (hassign : ∀ (l : Nat) (x : List UInt8) (W : World) (K : Act → World → Prop), K (a₁ x) W →
      assign.wpIn (F.inRound l) (n - 1 - 1) P (Exit.then K (fun _ _ _ => False)) { tmps := (ps.zip #[.string ⟨x.toArray⟩]).foldl (fun t (p, v) => t.setIfInBounds p v) a.tmps, defers := [] } W)
    (hbody : ∀ (l : Nat) (pre : List (List UInt8)) (x : List UInt8) (W : World), I pre W → pre ++ [x] <+: xs → w.heap.size ≤ W.heap.size → body.wpIn (F.inRound l) (n - 1 - 1) P (splitPost B I Ix (pre ++ [x]) W) (a₁ x) W)
    (hdone : ∀ (D : Nat) (W : World), w.heap.size ≤ D → I xs W → W.heap[D]? = some (.deferred (some [])) → Q .normal { a with defers := { target := .collected D, args := #[] } :: a.defers } W)
    (hstop : ∀ (D : Nat) (c : Code) (pre : List (List UInt8)) (W : World), w.heap.size ≤ D → pre <+: xs → Ix c pre W → W.heap[D]? = some (.deferred (some [])) → c.wpIn F n P Q { a with defers := { target := .collected D, args := #[] } :: a.defers } W) :
    (Code.rangeFunc g ps assign body).wpIn F n P Q a w := by
  refine wpIn_rangeFunc fun fn hfn => ?_
  rw [hro]
  obtain ⟨rec, hrec⟩ : ∃ rec : LoopState → Option Code → Loop, rec = fun st pe => { state := st, pending := pe, fn, tmps := a.tmps, params := ps, assign, body, defers := w.heap.size } := ⟨_, rfl⟩
  obtain ⟨W1, hW1⟩ : ∃ W1, (w.alloc (.deferred (some []))).alloc (.loop (rec .ready none)) = W1 := ⟨_, rfl⟩
  have hs1 : W1.heap.size = w.heap.size + 1 + 1 := by rw [← hW1]; simp
  have hb1 : Below w.heap.size w W1 := by
    rw [← hW1]; exact ((Below.refl _ w).alloc (Nat.le_refl _) _).alloc (by simp) _
  have hL1 : W1.heap[w.heap.size + 1]? = some (.loop (rec .ready none)) := by
    rw [← hW1]; have := World.alloc_heap_new (w.alloc (.deferred (some []))) (.loop (rec .ready none)); rwa [World.size_alloc] at this
  have hK1 : W1.heap[w.heap.size]? = some (.deferred (some [])) := by
    rw [← hW1]; exact (Below.heap_alloc _ _ _ (by simp)).trans (World.alloc_heap_new w _)
  have putI : ∀ (J : List (List UInt8) → World → Prop), Abid B w.heap.size J → ∀ s (W : World) (l : Nat) (o o' : Obj), J s W → w.heap.size ≤ l → W.heap[l]? = some o → o.isCells = false → J s (W.putObj l o') :=
    fun J hJ s W l o o' hs hl ho hc => hJ s W _ (some l) hs (grownBy_putObj' W l o') (fun r e => by cases e; exact .inr ⟨hl, o, ho, hc⟩)
  have hI1 : I [] W1 := hI [] w W1 none h0 ⟨hb1.os, hb1.tape, hb1.output, hb1.size, fun i hi _ => hb1.block i hi⟩ (fun r e => by cases e)
  refine ⟨w.heap.size + 1, [{ target := .collected w.heap.size, args := #[] }], W1, { target := .fn (.func gf) lb, args := #[.func (.yield (w.heap.size + 1)) #[] #[]] }, W1, gf,
    #[.func (.yield (w.heap.size + 1)) #[] #[]] ++ lb, W1, ?_, ?_, ?_, ?_, fun _ => h1, ?_⟩
  · rw [← hW1, hrec]; exact run_enterLoop_outer _ _ _ _ _
  · simp only [resolve, hg]
    simp [go_sem]
  · intro f' hf'; simp [Target.leads] at hf'; subst hf'; exact hFg
  · simp [invoke, go_sem, eg]
  have keepB : ∀ (X Y : World) (row : Option Nat) (k : Nat), k < X.heap.size → w.heap.size ≤ k → X.grownBy Y row → (∀ r, row = some r → B ≤ r ∧ r < B + 3) → Y.heap[k]? = X.heap[k]? :=
    fun X Y row k hk hw hg hr => hg.block k hk (fun e => by have := hr k e.symm; omega)
  refine (hseq (w.heap.size + 1)
      (fun pre W => I pre W ∧ W.heap[w.heap.size + 1]? = some (.loop (rec .ready none)) ∧ W.heap[w.heap.size]? = some (.deferred (some [])))
      (fun pre W => ∃ c, Ix c pre W ∧ W.heap[w.heap.size + 1]? = some (.loop (rec .done (some c))) ∧ W.heap[w.heap.size]? = some (.deferred (some [])))
      W1 (fun k hk1 hk2 => hb1.block k (by omega))
      (fun s X Y row hs hg' hr => ⟨hI s X Y row hs.1 hg' (fun r e => .inl (hr r e)), (keepB X Y row _ (Array.getElem?_eq_some_iff.1 hs.2.1).1 (by omega) hg' hr).trans hs.2.1, (keepB X Y row _ (Array.getElem?_eq_some_iff.1 hs.2.2).1 (by omega) hg' hr).trans hs.2.2⟩)
      ?_ ⟨hI1, hL1, hK1⟩).mono ?_
  · rintro pre x W ⟨hi, hl, hk⟩ hpre
    have hlt : w.heap.size + 1 < W.heap.size := (Array.getElem?_eq_some_iff.1 hl).1
    have hy := run_yield (P := P) (args := #[.string ⟨x.toArray⟩]) hl (by rw [hrec]; exact hps)
    rw [hrec] at hy
    refine ⟨fn, _, assign, body, hy, roundIn_of_wpIn hfn (hassign _ x W _ ⟨_, run_beginRound hl (by rw [hrec]), ?_⟩)⟩
    obtain ⟨W2, hW2⟩ : ∃ W2, W.putObj (w.heap.size + 1) (.loop { rec .ready none with state := .busy }) = W2 := ⟨_, rfl⟩
    have hs2 : W2.heap.size = W.heap.size := by rw [← hW2]; simp [World.putObj]
    have hl2 : W2.heap[w.heap.size + 1]? = some (.loop { rec .ready none with state := .busy }) := by rw [← hW2]; exact World.putObj_heap_same hlt
    have hk2 : W2.heap[w.heap.size]? = some (.deferred (some [])) := by rw [← hW2]; exact (World.putObj_heap_other (by omega)).trans hk
    have hi2 : I pre W2 := by rw [← hW2]; exact putI I hI pre W _ _ _ hi (by omega) hl rfl
    have hkp2 : ∀ k, B ≤ k → k < B + 3 → W2.heap[k]? = W.heap[k]? := fun k _ _ => by rw [← hW2]; exact World.putObj_heap_other (by omega)
    show body.wpIn _ _ _ _ (a₁ x) (W.putObj (w.heap.size + 1) (.loop { rec .ready none with state := .busy }))
    rw [hW2]
    refine wpIn_mono (hbody _ pre x _ hi2 hpre (by omega)) ?_
    have fin : ∀ (jump : Option Code) (W3 : World), Kept B W2 W3 →
        ∃ W4, (Instr.endRound (w.heap.size + 1) jump).run P W3 = .ok (.bool jump.isNone) W4 ∧ W4 = W3.putObj (w.heap.size + 1) (.loop (rec (if jump.isNone then .ready else .done) jump)) ∧
        W3.heap[w.heap.size + 1]? = some (.loop { rec .ready none with state := .busy }) ∧
        W4.heap[w.heap.size + 1]? = some (.loop (rec (if jump.isNone then .ready else .done) jump)) ∧ W4.heap[w.heap.size]? = some (.deferred (some [])) := fun jump W3 hk3 => by
      have hl3 : W3.heap[w.heap.size + 1]? = some (.loop { rec .ready none with state := .busy }) := (hk3.2 _ (by omega) (by omega)).trans hl2
      have hr3 := run_endRound (P := P) jump hl3
      rw [hrec] at hr3 hl3 ⊢
      exact ⟨_, hr3, rfl, hl3, World.putObj_heap_same (Array.getElem?_eq_some_iff.1 hl3).1, (World.putObj_heap_other (by omega)).trans ((hk3.2 _ (by omega) (by omega)).trans hk2)⟩
    rintro e a3 W3 hp
    cases e with
    | normal =>
      obtain ⟨hk3, hi3⟩ := hp
      obtain ⟨W4, hr, hW4, hl3, hl4, hk4⟩ := fin none W3 hk3
      refine ⟨_, W4, hr, .inl ⟨rfl, ⟨by rw [hW4]; exact putI I hI _ W3 _ _ _ hi3 (by omega) hl3 rfl, hl4, hk4⟩, ?_⟩⟩
      have hsz : W4.heap.size = W3.heap.size := by rw [hW4]; simp [World.putObj]
      refine ⟨by have := hk3.1; omega, fun k hkB hkl => ?_⟩
      by_cases e1 : k = w.heap.size + 1
      · subst e1; rw [hl4, hl]; rfl
      · rw [hW4, World.putObj_heap_other e1, hk3.2 k hkB (by omega), ← hW2, World.putObj_heap_other e1]
    | ret =>
      obtain ⟨hk3, hi3⟩ := hp
      obtain ⟨W4, hr, hW4, hl3, hl4, hk4⟩ := fin (some .ret) W3 hk3
      exact ⟨_, W4, hr, .inr ⟨rfl, .ret, by rw [hW4]; exact putI _ (hIx _) _ W3 _ _ _ hi3 (by omega) hl3 rfl, hl4, hk4⟩⟩
    | exit id =>
      obtain ⟨hk3, hi3⟩ := hp
      obtain ⟨W4, hr, hW4, hl3, hl4, hk4⟩ := fin (some (.exit id)) W3 hk3
      exact ⟨_, W4, hr, .inr ⟨rfl, .exit id, by rw [hW4]; exact putI _ (hIx _) _ W3 _ _ _ hi3 (by omega) hl3 rfl, hl4, hk4⟩⟩
    | goto t =>
      obtain ⟨hk3, hi3⟩ := hp
      obtain ⟨W4, hr, hW4, hl3, hl4, hk4⟩ := fin (some (.goto t)) W3 hk3
      exact ⟨_, W4, hr, .inr ⟨rfl, .goto t, by rw [hW4]; exact putI _ (hIx _) _ W3 _ _ _ hi3 (by omega) hl3 rfl, hl4, hk4⟩⟩
    | panic ch => exact hp.elim
    | outgrown => exact hp.elim
  · rintro e W2 ⟨⟨v, rfl⟩, (⟨hi, hl, hk⟩ | ⟨pre, hSp, c, hi, hl, hk⟩)⟩
    · exact ⟨none, _, by have := run_endLoop (P := P) hl (by rw [hrec]; simp); rw [hrec] at this; exact this, hdone _ _ (Nat.le_refl _) (putI I hI _ _ _ _ _ hi (by omega) hl rfl) ((World.putObj_heap_other (by omega)).trans hk)⟩
    · exact ⟨some c, _, by have := run_endLoop (P := P) hl (by rw [hrec]; simp); rw [hrec] at this; exact this, hstop _ c pre _ (Nat.le_refl _) hSp (putI _ (hIx c) _ _ _ _ _ hi (by omega) hl rfl) ((World.putObj_heap_other (by omega)).trans hk)⟩
end Go.Proofs.YtkbjnlcongjokaaGreatDoor

/- strings.SplitSeq at a separator of one byte: its maker, its iterator. -/
namespace Go.Proofs.YtkbjnlcongjokaaGreatDoor
open Go.RowKit Go.Shelf
attribute [local go_sem] Oper.semAt_some
/-- The pieces of bytes between a byte c. -/
def splitC (c : UInt8) : Nat → List UInt8 → List (List UInt8)
  | 0, l => [l]
  | k + 1, l => if Lib.indexByte l c < 0 then [l] else l.take (Lib.indexByte l c).toNat :: splitC c k (l.drop ((Lib.indexByte l c).toNat + 1))
theorem indexByte_bd (c : UInt8) : ∀ l : List UInt8, -1 ≤ Lib.indexByte l c ∧ Lib.indexByte l c < l.length
  | [] => by simp [Lib.indexByte]
  | b :: l => by
    have := indexByte_bd c l
    unfold Lib.indexByte
    split
    · simp
    · split
      · simp; omega
      · simp; omega
theorem splitseq0_any (s sep : ByteArray) (w : World) : Calls Tryz.prog 74 #[.string s, .string sep, .int .i64 0] w fun e w' =>
    e = .returned (.func (.func 101) #[] #[.pointer (some ⟨w.heap.size + 1, 0, none⟩), .pointer (some ⟨w.heap.size, 0, none⟩), .pointer (some ⟨w.heap.size + 1 + 1, 0, none⟩)]) ∧
    w' = ((w.alloc (.cells #[.string s] 9)).alloc (.cells #[.string sep] 9)).alloc (.cells #[.int .i64 0] 3) := by
  go_enter Tryz.func74, Tryz.ntmps74
  go_wp2
  go_ret
  exact ⟨rfl, rfl⟩
theorem splitseq_any (s sep : ByteArray) (w : World) : Calls Tryz.prog 53 #[.string s, .string sep] w fun e w' =>
    e = .returned (.func (.func 101) #[] #[.pointer (some ⟨w.heap.size + 1, 0, none⟩), .pointer (some ⟨w.heap.size, 0, none⟩), .pointer (some ⟨w.heap.size + 1 + 1, 0, none⟩)]) ∧
    w' = ((w.alloc (.cells #[.string s] 9)).alloc (.cells #[.string sep] 9)).alloc (.cells #[.int .i64 0] 3) := by
  go_enter Tryz.func53, Tryz.ntmps53
  go_wp2_with (go_at_call 74; refine (splitseq0_any _ _ _).mono ?_; rintro e w' ⟨rfl, rfl⟩)
  go_ret
  exact ⟨rfl, rfl⟩
theorem grown_cell {W : World} (B : Nat) (v : Value) : W.grownBy (W.setCell ⟨B, 0, none⟩ v) (some B) := ⟨rfl, rfl, rfl, by simp [World.setCell], fun i _ hi => Below.heap_setCell _ _ _ _ (fun e => hi (by rw [e]))⟩
theorem cells_set {W : World} {B : Nat} {x y : Value} {t : TypeId} (h : W.heap[B]? = some (.cells #[x] t (0, 0))) : (W.setCell ⟨B, 0, none⟩ y).heap[B]? = some (.cells #[y] t (0, 0)) := by
  simp [World.setCell, Array.getElem?_modify, h]
/-- What stands between the rounds. -/
structure SpSt (c : UInt8) (B : Nat) (xs : List (List UInt8)) (J : List (List UInt8) → World → Prop) (W : World) : Prop where
  go : ∃ pre t k, xs = pre ++ splitC c k t.data.toList ∧ t.size ≤ k ∧ k ≤ 140737488355328 ∧ J pre W ∧ W.heap[B]? = some (.cells #[.string t] 9 (0, 0)) ∧
    W.heap[B + 1]? = some (.cells #[.string ⟨#[c]⟩] 9 (0, 0)) ∧ W.heap[B + 1 + 1]? = some (.cells #[.int .i64 0] 3 (0, 0))
def spLeft (B : Nat) (W : World) : Nat := match W.cell? ⟨B, 0, none⟩ with | some (.string t) => t.size | _ => 0
set_option maxRecDepth 100000 in
set_option maxHeartbeats 1000000 in
theorem split_iter (c : UInt8) (B : Nat) (s : ByteArray) (hs : s.size ≤ 140737488355328) (w : World) (n : Nat) (hn : 3 ≤ n)
    (h0 : w.heap[B]? = some (.cells #[.string s] 9 (0, 0))) (h1 : w.heap[B + 1]? = some (.cells #[.string ⟨#[c]⟩] 9 (0, 0))) (h2 : w.heap[B + 1 + 1]? = some (.cells #[.int .i64 0] 3 (0, 0))) :
    SplitIter Fence.wide n Tryz.prog 101 #[.pointer (some ⟨B + 1, 0, none⟩), .pointer (some ⟨B, 0, none⟩), .pointer (some ⟨B + 1 + 1, 0, none⟩)] B (splitC c s.size s.data.toList) w := by
  intro l J Jx W hcell hJ hY hJ0
  refine callsIn_of_wp Tryz.func101 rfl trivial ?_ rfl
  simp only [Tryz.ntmps101, List.size_toArray, List.length_cons, List.length_nil, Nat.reduceAdd, Nat.reduceSub, Array.replicate_succ, Array.replicate_zero, List.push_toArray, List.append_toArray, List.nil_append, List.cons_append]
  have hst : SpSt c B (splitC c s.size s.data.toList) J W := ⟨[], s, s.size, rfl, Nat.le_refl _, hs, hJ0, (hcell _ (by omega) (by omega)).trans h0, (hcell _ (by omega) (by omega)).trans h1, (hcell _ (by omega) (by omega)).trans h2⟩
  have c1 : W.cell? ⟨B + 1, 0, none⟩ = some (.string ⟨#[c]⟩) := by simp [World.cell?, (hcell _ (by omega) (by omega)).trans h1]
  have HST := Lib.hid hst
  have hn1 : 1 ≤ n := by omega
  have hfi : Fence.wide.fn 100 := trivial
  clear hst h0 h1 h2 hcell hJ0
  gi_wp2
  gi_loopw [7] (fun _ wr => SpSt c B (splitC c s.size s.data.toList) J wr) (fun _ wr => spLeft B wr)
  case atStart => exact HST.out
  case round =>
    obtain ⟨pre, t, k, hx, htk, hkm, hj, hB, hB1, hB2⟩ := hrel
    have d0 : wr.cell? ⟨B, 0, none⟩ = some (.string t) := by simp [World.cell?, hB]
    have d1 : wr.cell? ⟨B + 1, 0, none⟩ = some (.string ⟨#[c]⟩) := by simp [World.cell?, hB1]
    have d2 : wr.cell? ⟨B + 1 + 1, 0, none⟩ = some (.int .i64 0) := by simp [World.cell?, hB2]
    have f0 : wr.frozen? ⟨B, 0, none⟩ = false := by simp [World.frozen?, hB]
    have hts : t.data.toList.length = t.size := by rw [← Lib.size_eq]
    have hbd := indexByte_bd c t.data.toList
    rw [hts] at hbd
    have HTS := Lib.hid hts
    have HX := Lib.hid hx
    have HB := Lib.hid hB
    have HB1 := Lib.hid hB1
    have HB2 := Lib.hid hB2
    clear hts hx hB hB1 hB2
    have hidx := fun w => Tryz.strings_Index_one t c w
    by_cases hneg : Lib.indexByte t.data.toList c < 0
    · have hi : Lib.indexByte t.data.toList c = -1 := by omega
      rw [hi] at hidx
      have hsp : splitC c k t.data.toList = [t.data.toList] := by
        cases k with
        | zero => rfl
        | succ k => rw [splitC, if_pos hneg]
      obtain ⟨fn, tmps, assign, body, hy, hR⟩ := hY pre t.data.toList wr hj (by rw [HX.out, hsp]; exact List.prefix_refl _)
      rw [show (⟨t.data.toList.toArray⟩ : ByteArray) = t from Lib.mk_data t] at hy
      have HIDX := Lib.hid hidx
      have HSP := Lib.hid hsp
      clear hidx hsp hi hneg hbd
      gi_wp2_with (gi_at_call 100; refine (callsIn_wide.2 (HIDX.out _)).mono ?_; rintro e w' ⟨rfl, rfl⟩)
      refine hR.mono ?_
      rintro e W3 (⟨rfl, hJ3, hk3⟩ | ⟨rfl, hJx3⟩)
      · gi_wp2
        go_end0
        refine ⟨⟨_, rfl⟩, .inl ?_⟩
        rw [HX.out, HSP.out]
        exact hJ3
      · gi_wp2
        go_end0
        refine ⟨⟨_, rfl⟩, .inr ⟨_, ?_, hJx3⟩⟩
        rw [HX.out, HSP.out]
        exact List.prefix_refl _
    · obtain ⟨i, hi⟩ : ∃ i : Nat, Lib.indexByte t.data.toList c = i := ⟨(Lib.indexByte t.data.toList c).toNat, by omega⟩
      rw [hi] at hidx hbd
      have hlt : i < t.size := by omega
      obtain ⟨k, rfl⟩ : ∃ k', k = k' + 1 := ⟨k - 1, by omega⟩
      have hsp : splitC c (k + 1) t.data.toList = t.data.toList.take i :: splitC c k (t.data.toList.drop (i + 1)) := by
        rw [splitC, if_neg hneg, hi]; rfl
      obtain ⟨fn, tmps, assign, body, hy, hR⟩ := hY pre (t.data.toList.take i) wr hj (by rw [HX.out, hsp]; exact ⟨splitC c k (t.data.toList.drop (i + 1)), by simp⟩)
      rw [show (⟨(t.data.toList.take i).toArray⟩ : ByteArray) = t.extract 0 i from (bs_eq (by rw [Lib.extract_data]; simp)).symm] at hy
      have HIDX := Lib.hid hidx
      have HSP := Lib.hid hsp
      clear hidx hsp hi hneg hbd
      have hlti : (i : Int) < (t.size : Int) := by omega
      gi_wp2_with (gi_at_call 100; refine (callsIn_wide.2 (HIDX.out _)).mono ?_; rintro e w' ⟨rfl, rfl⟩)
      refine hR.mono ?_
      rintro e W3 (⟨rfl, hJ3, hk3⟩ | ⟨rfl, hJx3⟩)
      · have g0 : W3.heap[B]? = some (.cells #[.string t] 9 (0, 0)) := (hk3.2 _ (by omega) (Array.getElem?_eq_some_iff.1 HB.out).1).trans HB.out
        have g1 : W3.heap[B + 1]? = some (.cells #[.string ⟨#[c]⟩] 9 (0, 0)) := (hk3.2 _ (by omega) (Array.getElem?_eq_some_iff.1 HB1.out).1).trans HB1.out
        have g2 : W3.heap[B + 1 + 1]? = some (.cells #[.int .i64 0] 3 (0, 0)) := (hk3.2 _ (by omega) (Array.getElem?_eq_some_iff.1 HB2.out).1).trans HB2.out
        have e0 : W3.cell? ⟨B, 0, none⟩ = some (.string t) := by simp [World.cell?, g0]
        have e1 : W3.cell? ⟨B + 1, 0, none⟩ = some (.string ⟨#[c]⟩) := by simp [World.cell?, g1]
        have ef : W3.frozen? ⟨B, 0, none⟩ = false := by simp [World.frozen?, g0]
        have G0 := Lib.hid g0
        have G1 := Lib.hid g1
        have G2 := Lib.hid g2
        have hi1 : (i : Int) + 1 ≤ (t.size : Int) := by omega
        clear g0 g1 g2 hk3 d0 d1 d2 f0
        have hsz : (t.extract (i + 1) t.size).size = t.size - (i + 1) := by rw [Lib.size_eq, Lib.extract_to_end, List.length_drop, ← Lib.size_eq]
        have hda : (t.extract (i + 1) t.size).data.toList = t.data.toList.drop (i + 1) := Lib.extract_to_end _ _
        have HSZ := Lib.hid hsz
        have HDA := Lib.hid hda
        clear hsz hda
        gi_wp2
        have g := grown_cell (W := W3) B (.string (t.extract (i + 1) t.size))
        refine ⟨⟨pre ++ [t.data.toList.take i], t.extract (i + 1) t.size, k, ?_, by rw [HSZ.out]; omega, by omega, hJ _ _ _ _ hJ3 g (fun r e => by cases e; omega), cells_set G0.out, (g.block _ (Array.getElem?_eq_some_iff.1 G1.out).1 (fun e => by injection e with e; omega)).trans G1.out, (g.block _ (Array.getElem?_eq_some_iff.1 G2.out).1 (fun e => by injection e with e; omega)).trans G2.out⟩, ?_⟩
        · rw [HX.out, HSP.out, HDA.out]; simp
        · have k1 : (W3.setCell ⟨B, 0, none⟩ (.string (t.extract (i + 1) t.size))).cell? ⟨B, 0, none⟩ = some (.string (t.extract (i + 1) t.size)) := by simp [World.cell?, cells_set G0.out]
          have k2 : ∀ X : World, X.heap[B]? = some (.cells #[.string t] 9 (0, 0)) → spLeft B X = t.size := fun X hX => by simp [spLeft, World.cell?, hX]
          rw [k2 _ HB.out, spLeft, k1]
          show (t.extract (i + 1) t.size).size < t.size
          rw [HSZ.out]; omega
      · gi_wp2
        refine bodyPost_ret (results_none rfl _ _ _) rfl ?_
        refine ⟨⟨_, rfl⟩, .inr ⟨_, ?_, hJx3⟩⟩
        rw [HX.out, HSP.out]
        exact ⟨splitC c k (t.data.toList.drop (i + 1)), by simp⟩
end Go.Proofs.YtkbjnlcongjokaaGreatDoor

/- head's rows as text, against the table 'kinds': plain. -/
namespace Go.Proofs.YtkbjnlcongjokaaGreatDoor
open Go.RowKit
/-- The pieces, by one way through. -/
def splitGo (c : UInt8) : List UInt8 → List UInt8 → List (List UInt8)
  | cur, [] => [cur]
  | cur, b :: l => if b == c then cur :: splitGo c [] l else splitGo c (cur ++ [b]) l
theorem indexByte_cons (b : UInt8) (l : List UInt8) (c : UInt8) : Lib.indexByte (b :: l) c = if b == c then 0 else if Lib.indexByte l c < 0 then -1 else Lib.indexByte l c + 1 := by
  have := indexByte_bd c l
  rw [Lib.indexByte]
  split
  · rfl
  · by_cases h : Lib.indexByte l c < 0
    · have : Lib.indexByte l c = -1 := by omega
      simp [this]
    · have h' : ¬ Lib.indexByte l c = -1 := by omega
      simp [h, h']
theorem splitGo_eq (c : UInt8) : ∀ (l cur : List UInt8), splitGo c cur l =
    if Lib.indexByte l c < 0 then [cur ++ l] else (cur ++ l.take (Lib.indexByte l c).toNat) :: splitGo c [] (l.drop ((Lib.indexByte l c).toNat + 1))
  | [], cur => by simp [splitGo, Lib.indexByte]
  | b :: l, cur => by
    have hb := indexByte_bd c l
    rw [splitGo, indexByte_cons]
    by_cases h : (b == c) = true
    · simp [h]
    · rw [if_neg h, if_neg h, splitGo_eq c l (cur ++ [b])]
      by_cases h2 : Lib.indexByte l c < 0
      · simp [h2]
      · have h3 : ¬ (Lib.indexByte l c + 1 < 0) := by omega
        have h4 : (Lib.indexByte l c + 1).toNat = (Lib.indexByte l c).toNat + 1 := by omega
        simp [h2, h3, h4]
theorem splitC_go (c : UInt8) : ∀ (k : Nat) (l : List UInt8), l.length ≤ k → splitC c k l = splitGo c [] l
  | 0, l, h => by
    obtain rfl : l = [] := List.eq_nil_of_length_eq_zero (by omega)
    rfl
  | k + 1, l, h => by
    have hb := indexByte_bd c l
    rw [splitC, splitGo_eq]
    by_cases h2 : Lib.indexByte l c < 0
    · simp [h2]
    · rw [if_neg h2, if_neg h2, splitC_go c k _ (by rw [List.length_drop]; omega)]
      simp
/-- The text of the rows, out of the function's own constant. -/
noncomputable def rowsB : ByteArray := match Tryz.f87.body with
  | some (.seq _ (.seq (.seq (.region _ ops _) _) _)) => match ops[0]? with
    | some o => match o.op with
      | .call c => match c.args[0]? with
        | some (Operand.const (Value.string b)) => b
        | _ => ⟨#[]⟩
      | _ => ⟨#[]⟩
    | none => ⟨#[]⟩
  | _ => ⟨#[]⟩
noncomputable def rowsW : List (List (List UInt8)) := (splitGo 124 [] rowsB.data.toList).map Lib.fields
def dec2 (n : Nat) : List UInt8 := if n < 10 then [UInt8.ofNat (48 + n)] else [UInt8.ofNat (48 + n / 10), UInt8.ofNat (48 + n % 10)]
theorem dec2_eq {n : Nat} (h : n < 100) : Lib.decDigits n = dec2 n := by
  unfold dec2
  split
  · exact Lib.decDigits_one (by omega)
  · exact Lib.decDigits_two (by omega) h
theorem itoa_dec2 {op : Int} {n : Nat} (hn : n < 100) : Lib.itoa op = dec2 n ↔ op = n := by
  constructor
  · intro h
    unfold Lib.itoa at h
    by_cases h0 : op < 0
    · rw [if_pos h0] at h
      exfalso
      unfold dec2 at h
      split at h
      · injection h with h1 _
        have := congrArg UInt8.toNat h1
        rw [UInt8.toNat_ofNat'] at this
        simp at this
        omega
      · injection h with h1 _
        have := congrArg UInt8.toNat h1
        rw [UInt8.toNat_ofNat'] at this
        simp at this
        omega
    · rw [if_neg h0] at h
      by_cases h1 : op.toNat < 100
      · rw [dec2_eq h1] at h
        have key : ∀ a b : Nat, a < 100 → b < 100 → dec2 a = dec2 b → a = b := by
          intro a b ha hb he
          unfold dec2 at he
          have e : ∀ x y : Nat, x < 200 → y < 200 → UInt8.ofNat x = UInt8.ofNat y → x = y := by
            intro x y hx hy hxy
            have := congrArg UInt8.toNat hxy
            rw [UInt8.toNat_ofNat', UInt8.toNat_ofNat'] at this
            omega
          split at he <;> split at he
          · injection he with h1 _
            have := e _ _ (by omega) (by omega) h1
            omega
          · simp at he
          · simp at he
          · injection he with h1 h2
            injection h2 with h2 _
            have := e _ _ (by omega) (by omega) h1
            have := e _ _ (by omega) (by omega) h2
            omega
        have := key _ _ h1 hn h
        omega
      · exfalso
        have hlen : ∀ m : Nat, 1 ≤ (Lib.decDigits m).length := by
          intro m
          rw [Lib.decDigits]
          split
          · simp
          · simp
        have h2 : 3 ≤ (Lib.decDigits op.toNat).length := by
          rw [Lib.decDigits, dif_neg (by omega), Lib.decDigits, dif_neg (by omega)]
          have := hlen (op.toNat / 10 / 10)
          simp
          omega
        have h3 : (dec2 n).length ≤ 2 := by unfold dec2; split <;> simp
        rw [h] at h2
        omega
  · rintro rfl
    rw [Lib.itoa_nonneg, dec2_eq hn]
/-- A field's word: its name, its place, its size. -/
def fldWord (x : List UInt8) : Option (List UInt8 × Int × Int) := match splitGo 58 [] x with
  | [n, a, b] => match Lib.atoi a, Lib.atoi b with
    | some p, some q => if a.length ≤ 18 ∧ b.length ≤ 18 then some (n, p, q) else none
    | _, _ => none
  | _ => none
def rowFits (ws : List (List UInt8)) (k : Knd) : Bool := match ws with
  | o :: n :: m :: fs => o == dec2 k.op.toNat && decide (0 ≤ k.op) && decide (k.op < 100) && n == k.n.data.toList && Lib.atoi m == some k.m && (decide (m.length ≤ 18)) &&
      fs.map fldWord == k.l.map (fun f => some (f.n.data.toList, f.a, f.b)) && fs.all (fun x => decide (x.length ≤ 300))
  | _ => false
theorem rows_fit : (decide (rowsW.length = 18) && (rowsW.zip kinds).all fun x => rowFits x.1 x.2) = true := by kernel_rfl
theorem rows_ascii : ((splitGo 124 [] rowsB.data.toList).all fun x => (x.all fun b => decide (b.toNat < 128)) && decide (x.length ≤ 3000)) = true := by kernel_rfl
theorem rows_size : decide (rowsB.size = rowsB.data.toList.length ∧ rowsB.size ≤ 3000) = true := by kernel_rfl
end Go.Proofs.YtkbjnlcongjokaaGreatDoor

/- head.row. -/
namespace Go.Proofs.YtkbjnlcongjokaaGreatDoor
open Go.RowKit Go.Shelf
attribute [local go_sem] Oper.semAt_some
/-- The two tables that the library reads. -/
def Tabs (w : World) : Prop := Lib.TabIs Tryz.prog w "strings.asciiSpace" .u8 Lib.asciiSpaceTab ∧ Lib.TabIs Tryz.prog w "internal/strconv.uint64pow10" .u64 Lib.pow10Tab
theorem tab_below {name : String} {k : IntKind} {zs : List Int} {w w' : World} (h : Lib.TabIs Tryz.prog w name k zs) (hb : Below w.heap.size w w') : Lib.TabIs Tryz.prog w' name k zs := by
  unfold Lib.TabIs World.var? at h ⊢
  cases hg : Tryz.prog.globalNamed name with
  | none => rw [hg] at h; exact h
  | some g =>
    rw [hg] at h
    simp only [Option.bind_some] at h ⊢
    have hlt : g < w.heap.size := by
      rcases Nat.lt_or_ge g w.heap.size with hl | hl
      · exact hl
      · rw [Array.getElem?_eq_none hl] at h; cases h
    rw [hb.block g hlt]
    exact h
theorem Tabs.below {w w' : World} (h : Tabs w) (hb : Below w.heap.size w w') : Tabs w' := ⟨tab_below h.1 hb, tab_below h.2 hb⟩
theorem heap_push (w : World) (o : Obj) : (w.alloc o).heap = w.heap.push o := rfl
theorem heaps5 (w : World) (a b c d e : Obj) : (((((w.alloc a).alloc b).alloc c).alloc d).alloc e).heap[w.heap.size]? = some a ∧ (((((w.alloc a).alloc b).alloc c).alloc d).alloc e).heap[w.heap.size + 1]? = some b ∧
    (((((w.alloc a).alloc b).alloc c).alloc d).alloc e).heap[w.heap.size + 1 + 1]? = some c ∧ (((((w.alloc a).alloc b).alloc c).alloc d).alloc e).heap[w.heap.size + 1 + 1 + 1]? = some d ∧
    (((((w.alloc a).alloc b).alloc c).alloc d).alloc e).heap[w.heap.size + 1 + 1 + 1 + 1]? = some e := by
  simp only [heap_push, Array.getElem?_push, Array.size_push]
  refine ⟨?_, ?_, ?_, ?_, ?_⟩
  · rw [if_neg (by omega), if_neg (by omega), if_neg (by omega), if_neg (by omega), if_pos trivial]
  · rw [if_neg (by omega), if_neg (by omega), if_neg (by omega), if_pos trivial]
  · rw [if_neg (by omega), if_neg (by omega), if_pos trivial]
  · rw [if_neg (by omega), if_pos trivial]
  · rw [if_pos trivial]
noncomputable def rowOf (op : Int) : Option (List (List UInt8)) := ((rowsW.zip kinds).find? fun x => x.2.op == op).map (·.1)
theorem grow_below (w : World) (k : Nat) (os : Array Obj) : Below w.heap.size w (Sort.grow (w.drewN k) os) :=
  ⟨rfl, rfl, rfl, by show w.heap.size ≤ (w.heap ++ os).size; rw [Array.size_append]; omega, fun i hi => by
    show (w.heap ++ os)[i]? = w.heap[i]?
    exact Array.getElem?_append_left hi⟩
theorem find_at {α : Type} {p : α → Bool} : ∀ {l : List α} {k : Nat} {x : α}, l[k]? = some x → p x = true → (∀ (j : Nat) y, j < k → l[j]? = some y → p y = false) → l.find? p = some x
  | [], k, x, h, _, _ => by simp at h
  | y :: l, 0, x, h, hp, _ => by
    simp at h
    subst h
    rw [List.find?_cons, hp]
  | y :: l, k + 1, x, h, hp, hn => by
    rw [List.find?_cons, hn 0 y (by omega) rfl]
    exact find_at (k := k) (by simpa using h) hp (fun j z hj hz => hn (j + 1) z (by omega) (by simpa using hz))
theorem rows_len : rowsW.length = 18 := by
  have := rows_fit
  rw [Bool.and_eq_true] at this
  exact of_decide_eq_true this.1
theorem kinds_len : kinds.length = 18 := by kernel_rfl
theorem row_pair {j : Nat} {ws : List (List UInt8)} {kd : Knd} (h1 : rowsW[j]? = some ws) (h2 : kinds[j]? = some kd) : rowFits ws kd = true := by
  have := rows_fit
  rw [Bool.and_eq_true] at this
  exact List.all_eq_true.1 this.2 (ws, kd) (List.mem_iff_getElem?.2 ⟨j, by rw [List.getElem?_zip_eq_some]; exact ⟨h1, h2⟩⟩)
theorem fits_head {ws : List (List UInt8)} {kd : Knd} (h : rowFits ws kd = true) : ∃ n m fs, ws = dec2 kd.op.toNat :: n :: m :: fs ∧ 0 ≤ kd.op ∧ kd.op < 100 ∧ n = kd.n.data.toList ∧ Lib.atoi m = some kd.m ∧ m.length ≤ 18 ∧
    fs.map fldWord = kd.l.map (fun f => some (f.n.data.toList, f.a, f.b)) ∧ ∀ x ∈ fs, x.length ≤ 300 := by
  unfold rowFits at h
  split at h
  · simp only [Bool.and_eq_true, beq_iff_eq, decide_eq_true_eq, List.all_eq_true] at h
    obtain ⟨⟨⟨⟨⟨⟨⟨h1, h2⟩, h3⟩, h4⟩, h5⟩, h6⟩, h7⟩, h8⟩ := h
    exact ⟨_, _, _, by rw [h1], h2, h3, h4, h5, h6, h7, h8⟩
  · cases h
theorem row_at (pre : List (List UInt8)) (x : List UInt8) (h : pre ++ [x] <+: splitGo 124 [] rowsB.data.toList) : ∃ (kd : Knd) (ws : List (List UInt8)) (o : List UInt8) (rest : List (List UInt8)),
    kinds[pre.length]? = some kd ∧ Lib.fields x = ws ∧ ws = o :: rest ∧ o = dec2 kd.op.toNat ∧ kd.op.toNat < 100 ∧ rowsW[pre.length]? = some ws ∧ (∀ (j : Nat) b, x[j]? = some b → b.toNat < 128) ∧ x.length ≤ 3000 := by
  obtain ⟨t, ht⟩ := h
  have hx : (splitGo 124 [] rowsB.data.toList)[pre.length]? = some x := by rw [← ht]; simp
  have hw : rowsW[pre.length]? = some (Lib.fields x) := by unfold rowsW; rw [List.getElem?_map, hx]; rfl
  have hl : pre.length < kinds.length := by
    rw [kinds_len, ← rows_len]
    exact (List.getElem?_eq_some_iff.1 hw).1
  have hk := List.getElem?_eq_getElem hl
  obtain ⟨n, m, fs, h1, h2, h3, -⟩ := fits_head (row_pair hw hk)
  have ha := List.all_eq_true.1 rows_ascii x (List.mem_iff_getElem?.2 ⟨_, hx⟩)
  rw [Bool.and_eq_true, List.all_eq_true, decide_eq_true_eq] at ha
  exact ⟨_, _, _, _, hk, rfl, h1, rfl, by omega, hw, fun j b hb => of_decide_eq_true (ha.1 b (List.mem_iff_getElem?.2 ⟨j, hb⟩)), ha.2⟩
theorem kind_pos {j : Nat} {kd : Knd} (h : kinds[j]? = some kd) : 0 ≤ kd.op ∧ kd.op < 100 := by
  have hl : j < rowsW.length := by rw [rows_len, ← kinds_len]; exact (List.getElem?_eq_some_iff.1 h).1
  obtain ⟨n, m, fs, h1, h2, h3, -⟩ := fits_head (row_pair (List.getElem?_eq_getElem hl) h)
  exact ⟨h2, h3⟩
theorem bcell {W w1 : World} (hb : Below W.heap.size W w1) : (∀ b o, b < W.heap.size → w1.cell? ⟨b, o, none⟩ = W.cell? ⟨b, o, none⟩) ∧ (∀ b o, b < W.heap.size → w1.frozen? ⟨b, o, none⟩ = W.frozen? ⟨b, o, none⟩) :=
  ⟨fun b o h => hb.cell (p := ⟨b, o, none⟩) h, fun b o h => hb.frozen (p := ⟨b, o, none⟩) h⟩
structure RowI (w : World) (op : Int) (pre : List (List UInt8)) (W : World) : Prop where
  below : Below w.heap.size w W
  cop : W.heap[w.heap.size]? = some (.cells #[.int .i64 op] 3 (0, 0))
  res : W.heap[w.heap.size + 1]? = some (.cells #[.slice none 0 0] 23 (0, 0))
  no : ∀ (j : Nat), j < pre.length → ∀ k, kinds[j]? = some k → k.op ≠ op
structure RowX (w : World) (op : Int) (pre : List (List UInt8)) (W : World) : Prop where
  below : Below w.heap.size w W
  row : ∃ ws b, rowOf op = some ws ∧ w.heap.size + 1 + 1 ≤ b ∧ W.heap[w.heap.size + 1]? = some (.cells #[.slice (some ⟨b, 0, none⟩) ws.length ws.length] 23 (0, 0)) ∧
    W.heap[b]? = some (.cells (ws.map fun l => Value.string ⟨l.toArray⟩).toArray 9 (0, 0)) ∧ w.heap.size + 1 + 1 + 3 ≤ b
theorem RowI.abid (w : World) (op : Int) {H : Nat} (hH : w.heap.size + 1 + 1 ≤ H) : Abid (w.heap.size + 1 + 1) H (RowI w op) := by
  intro pre W W' row h hg hr
  have hb : ∀ k, k < w.heap.size + 1 + 1 → k < W.heap.size → W'.heap[k]? = W.heap[k]? := fun k hk hl => hg.block k hl (fun e => by rcases hr k e.symm with h | ⟨h, _⟩ <;> omega)
  exact ⟨⟨hg.os.trans h.below.os, hg.tape.trans h.below.tape, hg.output.trans h.below.output, Nat.le_trans h.below.size hg.size, fun i hi => (hb i (by omega) (Nat.lt_of_lt_of_le hi h.below.size)).trans (h.below.block i hi)⟩,
    (hb _ (by omega) (heap_lt h.cop)).trans h.cop, (hb _ (by omega) (heap_lt h.res)).trans h.res, h.no⟩
theorem RowX.abid (w : World) (op : Int) {H : Nat} (hH : w.heap.size + 1 + 1 ≤ H) (c : Code) : Abid (w.heap.size + 1 + 1) H (fun pre W => c = .ret ∧ RowX w op pre W) := by
  rintro pre W W' row ⟨hc, h⟩ hg hr
  have hb : ∀ k, k < w.heap.size + 1 + 1 → k < W.heap.size → W'.heap[k]? = W.heap[k]? := fun k hk hl => hg.block k hl (fun e => by rcases hr k e.symm with h | ⟨h, _⟩ <;> omega)
  obtain ⟨ws, b, h1, h2, h3, h4, h5⟩ := h.row
  refine ⟨hc, ⟨hg.os.trans h.below.os, hg.tape.trans h.below.tape, hg.output.trans h.below.output, Nat.le_trans h.below.size hg.size, fun i hi => (hb i (by omega) (Nat.lt_of_lt_of_le hi h.below.size)).trans (h.below.block i hi)⟩,
    ws, b, h1, h2, (hb _ (by omega) (heap_lt h3)).trans h3, (hg.block b (heap_lt h4) (fun e => ?_)).trans h4, h5⟩
  rcases hr b e.symm with h | ⟨_, o, ho, hc⟩
  · omega
  · rw [h4] at ho; injection ho with ho; subst ho; cases hc
/-- Behind the numeral. -/
structure RowAft (w : World) (op : Int) (W : World) (C : Array Value) (W2 : World) : Prop where
  below : Below w.heap.size w W2
  cop : W2.heap[w.heap.size]? = some (.cells #[.int .i64 op] 3 (0, 0))
  res : W2.heap[w.heap.size + 1]? = some (.cells #[.slice none 0 0] 23 (0, 0))
  blk : W2.heap[W.heap.size]? = some (.cells C 9 (0, 0))
  kept : Kept (w.heap.size + 1 + 1) W W2
theorem RowAft.of {w : World} {op : Int} {W : World} {C : Array Value} {W2 : World} {pre : List (List UInt8)} (h : Below (W.alloc (.cells C 9)).heap.size (W.alloc (.cells C 9)) W2) (hI : RowI w op pre W) : RowAft w op W C W2 := by
  have hs : (W.alloc (.cells C 9)).heap.size = W.heap.size + 1 := by simp
  have ho : ∀ k, k < W.heap.size → W2.heap[k]? = W.heap[k]? := fun k hk => (h.block k (by omega)).trans (Below.heap_alloc _ _ _ hk)
  have hle : W.heap.size ≤ W2.heap.size := by have := h.size; omega
  exact ⟨⟨h.os.trans hI.below.os, h.tape.trans hI.below.tape, h.output.trans hI.below.output, Nat.le_trans hI.below.size hle, fun i hi => (ho i (Nat.lt_of_lt_of_le hi hI.below.size)).trans (hI.below.block i hi)⟩,
    (ho _ (heap_lt hI.cop)).trans hI.cop, (ho _ (heap_lt hI.res)).trans hI.res, (h.block _ (by omega)).trans (alloc_heap_new W _), hle, fun k _ hk => ho k hk⟩
theorem RowAft.op1 {w : World} {op : Int} {W : World} {C : Array Value} {W2 : World} (h : RowAft w op W C W2) : W2.cell? ⟨w.heap.size, 0, none⟩ = some (.int .i64 op) := by simp [World.cell?, h.cop]
theorem RowAft.resc {w : World} {op : Int} {W : World} {C : Array Value} {W2 : World} (h : RowAft w op W C W2) : W2.cell? ⟨w.heap.size + 1, 0, none⟩ = some (.slice none 0 0) := by simp [World.cell?, h.res]
theorem RowAft.frz {w : World} {op : Int} {W : World} {C : Array Value} {W2 : World} (h : RowAft w op W C W2) : W2.frozen? ⟨w.heap.size + 1, 0, none⟩ = false := by simp [World.frozen?, h.res]
theorem RowAft.word {w : World} {op : Int} {W : World} {C : Array Value} {W2 : World} {ws rest : List (List UInt8)} {o : List UInt8} (h : RowAft w op W C W2) (hC : C = (ws.map fun l => Value.string ⟨l.toArray⟩).toArray) (hw : ws = o :: rest) :
    W2.cell? ⟨W.heap.size, 0, none⟩ = some (.string ⟨o.toArray⟩) := by
  subst hC hw
  simp [World.cell?, h.blk]
theorem row_found {op : Int} {j : Nat} {kd : Knd} {ws : List (List UInt8)} (hk : kinds[j]? = some kd) (hw : rowsW[j]? = some ws) (he : op = kd.op) (hn : ∀ i, i < j → ∀ k, kinds[i]? = some k → k.op ≠ op) : rowOf op = some ws := by
  unfold rowOf
  rw [find_at (l := rowsW.zip kinds) (k := j) (x := (ws, kd)) (by rw [List.getElem?_zip_eq_some]; exact ⟨hw, hk⟩) (by simp [he]) (fun i y hi hy => by
    obtain ⟨y1, y2⟩ := y
    rw [List.getElem?_zip_eq_some] at hy
    simpa using hn i hi y2 hy.2)]
  rfl
theorem row_lost {op : Int} (hn : ∀ i, i < 18 → ∀ k, kinds[i]? = some k → k.op ≠ op) : rowOf op = none := by
  unfold rowOf
  rw [List.find?_eq_none.2 (fun x hx => ?_)]
  · rfl
  · obtain ⟨i, hi⟩ := List.mem_iff_getElem?.1 hx
    obtain ⟨x1, x2⟩ := x
    rw [List.getElem?_zip_eq_some] at hi
    have hl : i < 18 := by rw [← kinds_len]; exact (List.getElem?_eq_some_iff.1 hi.2).1
    simpa using hn i hl x2 hi.2
theorem cells_set1 {W : World} {B : Nat} {x y : Value} {t : TypeId} (h : W.heap[B]? = some (.cells #[x] t (0, 0))) : (W.setCell ⟨B, 0, none⟩ y).heap[B]? = some (.cells #[y] t (0, 0)) := cells_set h
theorem row_hit {w : World} {op : Int} {W W2 : World} {C : Array Value} {pre : List (List UInt8)} {x : List UInt8} {ws : List (List UInt8)} {n : Nat} (ha : RowAft w op W C W2) (hC : C = (ws.map fun l => Value.string ⟨l.toArray⟩).toArray) (hn : n = ws.length)
    (hr : rowOf op = some ws) (hW : w.heap.size + 5 ≤ W.heap.size) :
    Kept (w.heap.size + 1 + 1) W (W2.setCell ⟨w.heap.size + 1, 0, none⟩ (.slice (some ⟨W.heap.size, 0, none⟩) n n)) ∧ (Code.ret = Code.ret ∧ RowX w op (pre ++ [x]) (W2.setCell ⟨w.heap.size + 1, 0, none⟩ (.slice (some ⟨W.heap.size, 0, none⟩) n n))) := by
  have g := grown_cell (W := W2) (w.heap.size + 1) (.slice (some ⟨W.heap.size, 0, none⟩) n n)
  subst hn hC
  refine ⟨ha.kept.trans (Kept.of_grown g (fun r e => by cases e; left; omega)), rfl, ha.below.setCell (p := ⟨w.heap.size + 1, 0, none⟩) (by simp) _, ws, W.heap.size, hr, by omega, cells_set ha.res, (g.block _ (heap_lt ha.blk) (fun e => by injection e with e; omega)).trans ha.blk, by omega⟩
set_option maxRecDepth 100000 in
set_option maxHeartbeats 2000000 in
theorem row_any (op : Int) (h0 : -9223372036854775808 ≤ op) (h1 : op ≤ 9223372036854775807) (w : World) (ht : Tabs w) : Calls Tryz.prog 87 #[.int .i64 op] w fun e w' => Below w.heap.size w w' ∧
    ((rowOf op = none ∧ e = .returned (.slice none 0 0)) ∨ ∃ ws b, rowOf op = some ws ∧ e = .returned (.slice (some ⟨b, 0, none⟩) ws.length ws.length) ∧ w'.heap[b]? = some (.cells (ws.map fun l => Value.string ⟨l.toArray⟩).toArray 9 (0, 0))) := by
  refine (callsIn_wide (n := 9)).1 ?_
  refine callsIn_of_wp_marks Tryz.func87 rfl trivial ?_ rfl
  simp only [Tryz.ntmps87, List.size_toArray, List.length_cons, List.length_nil, Nat.reduceAdd, Nat.reduceSub, Array.replicate_succ, Array.replicate_zero, List.push_toArray, List.append_toArray, List.nil_append, List.cons_append]
  have hf1 : Fence.wide.fn 53 := trivial
  have HT := Lib.hid ht
  clear ht
  gi_wp2_with (gi_at_call 53; refine (callsIn_wide.2 (splitseq_any rowsB ⟨#[124]⟩ _)).mono ?_; rintro e w' ⟨rfl, rfl⟩)
  obtain ⟨W0, hW0⟩ : ∃ W0, (((((w.alloc (Obj.cells #[Value.int IntKind.i64 op] 3)).alloc (Obj.cells #[Value.slice none 0 0] 23)).alloc (Obj.cells #[Value.string rowsB] 9)).alloc (Obj.cells #[Value.string ⟨#[124]⟩] 9)).alloc (Obj.cells #[Value.int IntKind.i64 0] 3)) = W0 := ⟨_, rfl⟩
  have hs0 : W0.heap.size = w.heap.size + 5 := by rw [← hW0]; simp
  have hB0 : Below w.heap.size w W0 := by
    rw [← hW0]; exact (((((Below.refl _ w).alloc (Nat.le_refl _) _).alloc (by simp) _).alloc (by simp; omega) _).alloc (by simp; omega) _).alloc (by simp; omega) _
  have hk0 : W0.heap[w.heap.size]? = some (.cells #[.int .i64 op] 3 (0, 0)) := by rw [← hW0]; exact (heaps5 _ _ _ _ _ _).1
  have hk1 : W0.heap[w.heap.size + 1]? = some (.cells #[.slice none 0 0] 23 (0, 0)) := by rw [← hW0]; exact (heaps5 _ _ _ _ _ _).2.1
  have hk2 : W0.heap[w.heap.size + 1 + 1]? = some (.cells #[.string rowsB] 9 (0, 0)) := by rw [← hW0]; exact (heaps5 _ _ _ _ _ _).2.2.1
  have hk3 : W0.heap[w.heap.size + 1 + 1 + 1]? = some (.cells #[.string ⟨#[124]⟩] 9 (0, 0)) := by rw [← hW0]; exact (heaps5 _ _ _ _ _ _).2.2.2.1
  have hk4 : W0.heap[w.heap.size + 1 + 1 + 1 + 1]? = some (.cells #[.int .i64 0] 3 (0, 0)) := by rw [← hW0]; exact (heaps5 _ _ _ _ _ _).2.2.2.2
  rw [hW0]
  clear hW0
  have hsz : rowsB.size ≤ 140737488355328 := by have := (of_decide_eq_true rows_size).2; omega
  have hit := split_iter 124 (w.heap.size + 1 + 1) rowsB hsz W0 8 (by omega) hk2 hk3 hk4
  rw [splitC_go 124 _ _ (by rw [(of_decide_eq_true rows_size).1]; exact Nat.le_refl _)] at hit
  refine wpIn_range_split rfl (by omega) (gf := 101) (lb := #[.pointer (some ⟨w.heap.size + 1 + 1 + 1, 0, none⟩), .pointer (some ⟨w.heap.size + 1 + 1, 0, none⟩), .pointer (some ⟨w.heap.size + 1 + 1 + 1 + 1, 0, none⟩)]) rfl trivial
    (enters_of Tryz.func101 (by kernel_rfl) rfl) (w.heap.size + 1 + 1) (by omega) (splitGo 124 [] rowsB.data.toList) hit rfl
    (fun pre W => RowI w op pre W) (fun c pre W => c = .ret ∧ RowX w op pre W) (RowI.abid _ _ (by omega)) (fun c => RowX.abid _ _ (by omega) c) ⟨hB0, hk0, hk1, fun j hj => by simp at hj⟩
    (fun x => { tmps := #[.int .i64 op, .pointer (some ⟨w.heap.size, 0, none⟩), .pointer (some ⟨w.heap.size + 1, 0, none⟩), .string ⟨x.toArray⟩, undef, .func (.func 101) #[] #[.pointer (some ⟨w.heap.size + 1 + 1 + 1, 0, none⟩), .pointer (some ⟨w.heap.size + 1 + 1, 0, none⟩), .pointer (some ⟨w.heap.size + 1 + 1 + 1 + 1, 0, none⟩)], .string ⟨x.toArray⟩, undef, undef, undef, undef, undef, undef, undef, undef, undef], defers := [] }) ?assign ?body ?done ?stop
  case assign =>
    intro l x W K hK
    gi_wp2
    exact hK
  case body =>
    rintro l pre x W hI hpre hle
    obtain ⟨kd, ws, o, rest, hkd, hws, hwo, hod, hlt, hro, hasc, hxs⟩ := row_at pre x hpre
    have hF := Tryz.strings_Fields_laid ⟨x.toArray⟩ W (by show x.toArray.size < 4294967281; simp; omega) (by simpa using hasc) (HT.out.below hI.below).1
    rw [show Lib.fields (⟨x.toArray⟩ : ByteArray).data.toList = ws from hws] at hF
    obtain ⟨n, hn⟩ : ∃ n, n = ws.length := ⟨_, rfl⟩
    obtain ⟨C, hC⟩ : ∃ C, C = (ws.map fun l => Value.string ⟨l.toArray⟩).toArray := ⟨_, rfl⟩
    rw [← hn, ← hC] at hF
    have hn0 : 0 < n := by rw [hn, hwo]; simp
    have c0 : (W.alloc (.cells C 9)).cell? ⟨W.heap.size, 0, none⟩ = some (.string ⟨o.toArray⟩) := by
      rw [World.cell?_alloc_at _ _ _ _ rfl, hC, hwo]; rfl
    have cop : (W.alloc (.cells C 9)).cell? ⟨w.heap.size, 0, none⟩ = some (.int .i64 op) := by
      rw [World.cell?_alloc_old _ _ _ (by have := heap_lt hI.cop; show w.heap.size ≠ W.heap.size; omega)]; simp [World.cell?, hI.cop]
    have fres : (W.alloc (.cells C 9)).frozen? ⟨w.heap.size + 1, 0, none⟩ = false := by
      simp [World.frozen?, (Below.heap_alloc W (.cells C 9) _ (heap_lt hI.res)).trans hI.res]
    have hbw : Below w.heap.size w (W.alloc (.cells C 9)) := hI.below.alloc hI.below.size _
    have hIt : ∀ w1, Below (W.alloc (.cells C 9)).heap.size (W.alloc (.cells C 9)) w1 → Calls Tryz.prog 111 #[.int .i64 op] w1 fun e w' => e = .returned (.string ⟨(Lib.itoa op).toArray⟩) ∧ RowAft w op W C w' := fun w1 hb1 =>
      (Tryz.strconv_Itoa op h0 h1 w1 ((HT.out.below hbw).below hb1).2).mono fun e w' ⟨he, k, os, hw⟩ => ⟨he, RowAft.of (hb1.trans ((by rw [hw]; exact grow_below _ _ _ : Below w1.heap.size w1 w').mono hb1.size)) hI⟩
    have hf2 : Fence.wide.fn 54 := trivial
    have hf3 : Fence.wide.fn 111 := trivial
    have HF := Lib.hid hF
    have HIT := Lib.hid hIt
    have HC := Lib.hid hC
    have HN := Lib.hid hn
    have HWS := Lib.hid hws
    have HWO := Lib.hid hwo
    have HOD := Lib.hid hod
    have HKD := Lib.hid hkd
    have HI := Lib.hid hI
    have HBW := Lib.hid hbw
    have HASC := Lib.hid hasc
    have hmx : Tryz.prog.follows .mixedOrders = true := by kernel_rfl
    clear hF hIt hC hn hws hwo hod hkd hI hbw hasc
    gi_wp2_with (gi_at_call 54; refine (CallsIn.inRound l (callsIn_wide.2 HF.out)).mono ?_; rintro e w' ⟨rfl, rfl⟩)
    by_cases heq : op = kd.op.toNat
    · have hio : Lib.itoa op = o := by rw [HOD.out]; exact (itoa_dec2 hlt).2 heq
      have hrow : rowOf op = some ws := row_found HKD.out hro (by have := kind_pos HKD.out; omega) HI.out.no
      have HROW := Lib.hid hrow
      have HIO := Lib.hid hio
      have HEQ := Lib.hid heq
      clear hio heq hrow
      gi_region_with_o (gi_at_call 111; refine (CallsIn.inRound l (callsIn_wide.2 (HIT.out _ (by first | exact Below.refl _ _ | exact (Below.refl _ _).drew)))).mono ?_; rintro e W2 ⟨he, ha⟩; rw [HIO.out] at he; obtain rfl := he; have d1 := ha.op1; have d2 := ha.word (HC.out) (HWO.out); have d3 := ha.frz; have d4 := ha.resc; have HA := Lib.hid ha; clear ha)
      all_goals gi_wp2
      all_goals
        exact row_hit HA.out HC.out HN.out HROW.out (by omega)
    · have hne : ¬ Lib.itoa op = o := by rw [HOD.out]; exact fun h => heq ((itoa_dec2 hlt).1 h)
      obtain ⟨q, hq⟩ : ∃ q, q = Lib.itoa op := ⟨_, rfl⟩
      rw [← hq] at hne
      have hne1 : (o == q) = false := by simpa using fun h : o = q => hne h.symm
      have HQ := Lib.hid hq
      have HEQ := Lib.hid heq
      clear hq heq
      gi_region_with_o (gi_at_call 111; refine (CallsIn.inRound l (callsIn_wide.2 (HIT.out _ (by first | exact Below.refl _ _ | exact (Below.refl _ _).drew)))).mono ?_; rintro e W2 ⟨he, ha⟩; rw [← HQ.out] at he; obtain rfl := he; have d1 := ha.op1; have d2 := ha.word (HC.out) (HWO.out); have d3 := ha.frz; have d4 := ha.resc; have HA := Lib.hid ha; clear ha)
      all_goals gi_wp2
      all_goals
        refine ⟨HA.out.kept, HA.out.below, HA.out.cop, HA.out.res, fun j hj k hk => ?_⟩
        rw [List.length_append, List.length_singleton] at hj
        by_cases hjp : j < pre.length
        · exact HI.out.no j hjp k hk
        · obtain rfl : j = pre.length := by omega
          have := HKD.out
          rw [hk] at this
          injection this with this
          subst this
          have := kind_pos hk
          have := HEQ.out
          omega
  case done =>
    intro D W hD hI hK
    have hnone := row_lost (op := op) (fun i hi => hI.no i (by
      have := rows_len
      unfold rowsW at this
      rw [List.length_map] at this
      omega))
    have d3 : W.frozen? ⟨w.heap.size + 1, 0, none⟩ = false := by simp [World.frozen?, hI.res]
    have d4 : W.cell? ⟨w.heap.size + 1, 0, none⟩ = some (.slice none 0 0) := by simp [World.cell?, hI.res]
    have HI := Lib.hid hI
    have HNO := Lib.hid hnone
    clear hI hnone
    gi_wp2
    have hK' := (KeepsOthers.setCell W ⟨w.heap.size + 1, 0, none⟩ (.slice none 0 0)).same D _ hK rfl
    refine ⟨by simp, .inl ⟨_, _, rfl, run_takeDeferred hK', ?_⟩⟩
    have hc5 := cell_kept (World.cell?_setCell_same' W ⟨w.heap.size + 1, 0, none⟩ (.slice none 0 0) (by rw [d4]; rfl)) (grownBy_putObj' _ D (.deferred none)) (fun r e => by cases e; exact ⟨_, hK', rfl⟩)
    refine ⟨.slice none 0 0, ?_, (HI.out.below.setCell (p := ⟨w.heap.size + 1, 0, none⟩) (by simp) _).trans (belowK_b (w := w) (Nat.le_refl _) _ D _ _ (by omega) hK' rfl rfl), .inl ⟨HNO.out, rfl⟩⟩
    simp [results, Tryz.results87, go_sem, hc5]
  case stop =>
    rintro D c pre W hD hpre ⟨rfl, hX⟩ hK
    obtain ⟨hbel, ws, b, h1, h2, h3, h4, h5⟩ := hX
    have d4 : W.cell? ⟨w.heap.size + 1, 0, none⟩ = some (.slice (some ⟨b, 0, none⟩) ws.length ws.length) := by simp [World.cell?, h3]
    have H4 := Lib.hid h4
    clear h3 h4
    gi_wp2
    refine ⟨by simp, .inl ⟨_, _, rfl, run_takeDeferred hK, ?_⟩⟩
    have hc5 := cell_kept d4 (grownBy_putObj' _ D (.deferred none)) (fun r e => by cases e; exact ⟨_, hK, rfl⟩)
    refine ⟨.slice (some ⟨b, 0, none⟩) ws.length ws.length, ?_, hbel.trans (belowK_b (w := w) (Nat.le_refl _) W D _ _ (by omega) hK rfl rfl), .inr ⟨ws, b, h1, rfl, ?_⟩⟩
    · simp [results, Tryz.results87, go_sem, hc5]
    · exact (World.putObj_heap_other (fun e => by rw [e, hK] at H4; have := H4.out; cases this)).trans H4.out
end Go.Proofs.YtkbjnlcongjokaaGreatDoor

/- strings.Split at a separator of one byte: the pieces are 'splitGo'. -/
namespace Go.Proofs.YtkbjnlcongjokaaGreatDoor
open Go.RowKit
theorem index_single (c : UInt8) : ∀ l : List UInt8, Lib.index l [c] = Lib.indexByte l c
  | [] => rfl
  | b :: l => by
    rw [Lib.index, Lib.indexByte, index_single c l]
    have : ([c].isPrefixOf (b :: l)) = (b == c) := by
      simp only [List.isPrefixOf, Bool.and_true]
      exact Bool.beq_comm
    rw [this]
theorem split_one (c : UInt8) : ∀ (n : Nat) (s : ByteArray), s.size ≤ n → Lib.splitB ⟨#[c]⟩ 0 (Lib.countB s ⟨#[c]⟩) s = (splitGo c [] s.data.toList).map bs ∧ Lib.countB s ⟨#[c]⟩ + 1 = (splitGo c [] s.data.toList).length := by
  intro n
  induction n with
  | zero =>
    intro s h
    have hl : s.data.toList = [] := List.eq_nil_of_length_eq_zero (by rw [← Lib.size_eq]; omega)
    have hi : Lib.indexB s ⟨#[c]⟩ = -1 := by
      unfold Lib.indexB
      rw [show (⟨#[c]⟩ : ByteArray).data.toList = [c] from rfl, index_single, hl]; rfl
    rw [Lib.countB_miss _ _ hi, Lib.splitB_zero, hl]
    exact ⟨by simp [splitGo, ← bs_eq hl], rfl⟩
  | succ n ih =>
    intro s h
    have hb := indexByte_bd c s.data.toList
    have hi : Lib.indexB s ⟨#[c]⟩ = Lib.indexByte s.data.toList c := by
      unfold Lib.indexB
      rw [show (⟨#[c]⟩ : ByteArray).data.toList = [c] from rfl, index_single]
    rw [splitGo_eq]
    by_cases hn : Lib.indexByte s.data.toList c < 0
    · rw [Lib.countB_miss _ _ (by omega), Lib.splitB_zero, if_pos hn]
      exact ⟨by simp [← bs_eq (s := s) rfl], rfl⟩
    · obtain ⟨i, hi2⟩ : ∃ i : Nat, Lib.indexByte s.data.toList c = i := ⟨(Lib.indexByte s.data.toList c).toNat, by omega⟩
      rw [hi2] at hi
      rw [← Lib.size_eq, hi2] at hb
      have hsz : (s.extract (i + 1) s.size).size = s.size - (i + 1) := by rw [Lib.size_eq, Lib.extract_to_end, List.length_drop, ← Lib.size_eq]
      obtain ⟨r1, r2⟩ := ih (s.extract (i + 1) s.size) (by rw [hsz]; omega)
      rw [Lib.extract_to_end] at r1 r2
      rw [Lib.countB_hit s ⟨#[c]⟩ i (Nat.le_refl 1) hi, if_neg hn, hi2, Nat.add_comm 1, Lib.splitB_hit _ _ _ _ i hi]
      rw [show (⟨#[c]⟩ : ByteArray).size = 1 from rfl, r1]
      refine ⟨?_, ?_⟩
      · rw [List.map_cons]
        congr 1
        exact bs_eq (by rw [Nat.add_zero, Lib.extract_from_zero]; simp)
      · rw [List.length_cons, Int.toNat_natCast, ← r2]
/-- The library's variable MaxLen holds some number. -/
def MaxL (w : World) : Prop := ∃ m, w.cell? ⟨4, 0, none⟩ = some (.int .i64 m)
theorem MaxL.below {w w' : World} (h : MaxL w) (hb : Below w.heap.size w w') : MaxL w' := by
  obtain ⟨m, hm⟩ := h
  exact ⟨m, (hb.cell (p := ⟨4, 0, none⟩) (World.block_lt_of_cell? w _ hm)).trans hm⟩
theorem split_any (l : List UInt8) (c : UInt8) (w : World) (hm : MaxL w) (hs : l.length < 4294967281) : Calls Tryz.prog 52 #[.string ⟨l.toArray⟩, .string ⟨#[c]⟩] w fun e w' =>
    e = .returned (.slice (some ⟨w.heap.size, 0, none⟩) (splitGo c [] l).length (splitGo c [] l).length) ∧ w' = w.alloc (.cells ((splitGo c [] l).map fun x => Value.string ⟨x.toArray⟩).toArray 9) := by
  obtain ⟨m, hm⟩ := hm
  have := Tryz.strings_Split ⟨l.toArray⟩ ⟨#[c]⟩ m w (by show l.toArray.size < _; simpa using hs) hm (Nat.le_refl 1)
  obtain ⟨r1, r2⟩ := split_one c _ ⟨l.toArray⟩ (Nat.le_refl _)
  rw [r2, r1, List.map_map] at this
  exact this
end Go.Proofs.YtkbjnlcongjokaaGreatDoor

/- head.Flags. -/
namespace Go.Proofs.YtkbjnlcongjokaaGreatDoor
open Go.RowKit
theorem row_kind_none {op : Int} (h : rowOf op = none) : kindOf op = none := by
  unfold rowOf at h
  rw [Option.map_eq_none_iff, List.find?_eq_none] at h
  unfold kindOf
  rw [List.find?_eq_none]
  intro k hk
  obtain ⟨j, hj⟩ := List.mem_iff_getElem?.1 hk
  have hl : j < rowsW.length := by rw [rows_len, ← kinds_len]; exact (List.getElem?_eq_some_iff.1 hj).1
  exact h (rowsW[j], k) (List.mem_iff_getElem?.2 ⟨j, by rw [List.getElem?_zip_eq_some]; exact ⟨List.getElem?_eq_getElem hl, hj⟩⟩)
theorem find_zip {op : Int} : ∀ (A : List (List (List UInt8))) (B : List Knd), A.length = B.length → ∀ x, (A.zip B).find? (fun x => x.2.op == op) = some x → B.find? (fun k => k.op == op) = some x.2
  | [], [], _, x, h => by simp at h
  | a :: A, b :: B, hl, x, h => by
    rw [List.zip_cons_cons, List.find?_cons] at h
    rw [List.find?_cons]
    by_cases hb : (b.op == op) = true
    · simp only [hb] at h ⊢
      injection h with h
      rw [← h]
    · have hb' : (b.op == op) = false := by simpa using hb
      simp only [hb'] at h ⊢
      exact find_zip A B (by simpa using hl) x h
theorem row_kind_some {op : Int} {ws : List (List UInt8)} (h : rowOf op = some ws) : ∃ k, kindOf op = some k ∧ rowFits ws k = true := by
  unfold rowOf at h
  rw [Option.map_eq_some_iff] at h
  obtain ⟨x, hx, rfl⟩ := h
  have h1 := find_zip rowsW kinds (by rw [rows_len, kinds_len]) x hx
  refine ⟨x.2, h1, ?_⟩
  have := rows_fit
  rw [Bool.and_eq_true] at this
  exact List.all_eq_true.1 this.2 x (List.mem_of_find?_eq_some hx)
/-- What the calls need of the world: the tables, MaxLen. -/
structure Laid (w : World) : Prop where
  tabs : Tabs w
  maxl : MaxL w
theorem Laid.below {w w' : World} (h : Laid w) (hb : Below w.heap.size w w') : Laid w' := ⟨h.tabs.below hb, h.maxl.below hb⟩
theorem row_none (op : Int) (h0 : -9223372036854775808 ≤ op) (h1 : op ≤ 9223372036854775807) (h : kindOf op = none) (w : World) (hw : Laid w) : Calls Tryz.prog 87 #[.int .i64 op] w fun e w' => e = .returned (.slice none 0 0) ∧ Below w.heap.size w w' := by
  refine (row_any op h0 h1 w hw.tabs).mono ?_
  rintro e w' ⟨hb, ⟨_, rfl⟩ | ⟨ws, b, hr, _⟩⟩
  · exact ⟨rfl, hb⟩
  · obtain ⟨k, hk, _⟩ := row_kind_some hr
    rw [hk] at h; cases h
theorem row_some (op : Int) (h0 : -9223372036854775808 ≤ op) (h1 : op ≤ 9223372036854775807) (k : Knd) (h : kindOf op = some k) (w : World) (hw : Laid w) : Calls Tryz.prog 87 #[.int .i64 op] w fun e w' => ∃ ws b, rowFits ws k = true ∧
    e = .returned (.slice (some ⟨b, 0, none⟩) ws.length ws.length) ∧ Below w.heap.size w w' ∧ w'.heap[b]? = some (.cells (ws.map fun l => Value.string ⟨l.toArray⟩).toArray 9 (0, 0)) := by
  refine (row_any op h0 h1 w hw.tabs).mono ?_
  rintro e w' ⟨hb, ⟨hr, _⟩ | ⟨ws, b, hr, rfl, hh⟩⟩
  · rw [row_kind_none hr] at h; cases h
  · obtain ⟨k', hk, hf⟩ := row_kind_some hr
    rw [hk] at h
    injection h with h
    subst h
    exact ⟨ws, b, hf, rfl, hb, hh⟩
theorem atoi_any (l : List UInt8) (n : Int) (hl : l.length ≤ 18) (h : Lib.atoi l = some n) (w : World) : Calls Tryz.prog 55 #[.string ⟨l.toArray⟩] w fun e w' => e = .returned (.tuple #[.int .i64 n, .nilIface]) ∧ Below w.heap.size w w' :=
  (Tryz.strconv_Atoi ⟨l.toArray⟩ n (by show l.toArray.size ≤ 18; simpa using hl) h w).mono fun e w' ⟨he, t, hw⟩ => ⟨he, by rw [hw]; exact bytesWorld_below w _ t⟩
set_option maxRecDepth 100000 in
theorem flags_none (op : Int) (h0 : -9223372036854775808 ≤ op) (h1 : op ≤ 9223372036854775807) (h : kindOf op = none) (w : World) (hw : Laid w) : Calls Tryz.prog 88 #[.int .i64 op] w fun e w' =>
    e = .returned (.tuple #[.int .i64 0, errV 1]) ∧ Below w.heap.size w w' := by
  have hr := row_none op h0 h1 h w hw
  have HR := Lib.hid hr
  clear hr
  have hne := fun (w : World) (a : Option Addr) (n c : Nat) => Lib.run_eql_slice_nil (P := Tryz.prog) w 23 9 a n c 0 0 Tryz.underlying23
  go_enter Tryz.func88, Tryz.ntmps88
  go_wp2_with (go_at_call 87; refine HR.out.mono ?_; rintro e w' ⟨rfl, hb⟩)
  go_ret2
  exact ⟨rfl, hb⟩
set_option maxRecDepth 100000 in
theorem flags_some (op : Int) (h0 : -9223372036854775808 ≤ op) (h1 : op ≤ 9223372036854775807) (k : Knd) (h : kindOf op = some k) (w : World) (hw : Laid w) : Calls Tryz.prog 88 #[.int .i64 op] w fun e w' =>
    e = .returned (.tuple #[.int .i64 k.m, .nilIface]) ∧ Below w.heap.size w w' := by
  have hr := row_some op h0 h1 k h w hw
  have HR := Lib.hid hr
  clear hr h
  have hne := fun (w : World) (a : Option Addr) (n c : Nat) => Lib.run_eql_slice_nil (P := Tryz.prog) w 23 9 a n c 0 0 Tryz.underlying23
  go_enter Tryz.func88, Tryz.ntmps88
  go_wp2_with fail
  refine HR.out.mono ?_
  rintro e w1 ⟨ws, b, hf, rfl, hb, hh⟩
  obtain ⟨n, m, fs, rfl, h2, h3, h4, h5, h6, -⟩ := fits_head hf
  have c2 : w1.cell? ⟨b, 2, none⟩ = some (.string ⟨m.toArray⟩) := by simp [World.cell?, hh]
  obtain ⟨z, hz⟩ : ∃ z : Nat, z = (dec2 k.op.toNat :: n :: m :: fs).length := ⟨_, rfl⟩
  rw [← hz]
  have hzl : 3 ≤ z := by rw [hz]; simp
  have hzi : (2 : Int) < (z : Int) := by omega
  have HH := Lib.hid hh
  clear hh hz h4 hf
  have ha := fun w => atoi_any m k.m h6 h5 w
  have HA := Lib.hid ha
  clear ha h5
  go_wp2_with (go_at_call 55; refine (HA.out _).mono ?_; rintro e w2 ⟨rfl, hb2⟩)
  go_ret2
  exact ⟨rfl, hb.trans (hb2.mono hb.size)⟩
end Go.Proofs.YtkbjnlcongjokaaGreatDoor

/- From the row's list of variables to what the calls need of the world; a world that meets the list. -/
namespace Go.Proofs.YtkbjnlcongjokaaGreatDoor
open Go.ChangeShapes Go.WideShapes Go.ChangeAt Go.RowKit
theorem ownKnobs : ownKnob Tryz.prog.godebug = none := by kernel_rfl
theorem laysOut : laidOutB Tryz.prog = true := by kernel_rfl
abbrev rowLaid : List (String × DataW Unit) := Rows.fullRefusesRow.laid
abbrev rowPlain : List (String × DataW Unit) := rowLaid.filter fun x => x.2.handleName?.isNone
theorem err_et : Tryz.prog.globalNamed "errors.errorType" = some 0 := by kernel_rfl
theorem err_rt : (Tryz.prog.cutTypes.find? (·.1 == "internal/reflectlite.rtype")).map (·.2) = some 193 := by kernel_rfl
theorem err_one : ((List.range 315).filter fun t => Tryz.prog.rowNamed t [101, 114, 114, 111, 114]) = [39] := by kernel_rfl
theorem err_size : Tryz.prog.types.size = 315 := by kernel_rfl
theorem err_th : typeHandle Tryz.prog 39 = th 39 := by kernel_rfl
theorem errTy_of {W : World} (h : handlesMet Tryz.prog [("errors.errorType", Rows.laid_errors_errorType)] W) : ErrTy W := by
  obtain ⟨name, u, ty, e1, e2, e3, e4, e5⟩ := h _ (List.mem_singleton.2 rfl)
  have en : name = [101, 114, 114, 111, 114] := (Option.some.inj e1).symm
  subst en
  obtain rfl := Option.some.inj (err_rt.symm.trans e2)
  have hm : ty ∈ (List.range 315).filter fun t => Tryz.prog.rowNamed t [101, 114, 114, 111, 114] := List.mem_filter.2 ⟨List.mem_range.2 (by rw [← err_size]; exact e3), e4⟩
  rw [err_one] at hm
  obtain rfl := List.mem_singleton.1 hm
  rw [err_th] at e5
  unfold ErrTy
  simpa using World.var?_cell err_et e5 0
theorem sp_tab : Rows.laid_strings_asciiSpace (H := Unit) = Lib.tabData .u8 Lib.asciiSpaceTab := by kernel_rfl
theorem p10_tab : Rows.laid_internal_strconv_uint64pow10 (H := Unit) = Lib.tabData .u64 Lib.pow10Tab := by kernel_rfl
theorem maxl_of {W : World} (h : W.ShapedOpen Tryz.prog) : MaxL W :=
  cell_of_shapedOpen_int (g := 4) (t := 3) (zero := #[.int .i64 0]) (k := .i64) h (of_decide_eq_true (by kernel_rfl)) (by kernel_rfl) rfl (by kernel_rfl) (by kernel_rfl) (by kernel_rfl)
theorem laid_in {P : Program} {w : World} : ∀ (l : List (String × DataW Unit)) (x : String × DataW Unit), laidMet P l w → x ∈ l → ∃ r, laidMet P (x :: r) w
  | [], x, _, hx => by cases hx
  | y :: l, x, h, hx => by
    rcases List.mem_cons.1 hx with rfl | hx
    · exact ⟨l, h⟩
    · exact laid_in l x h.tail hx
theorem has_pow10 : ("internal/strconv.uint64pow10", Rows.laid_internal_strconv_uint64pow10) ∈ rowPlain := by
  simp only [rowPlain, List.mem_filter]
  exact ⟨by simp [rowLaid, Rows.fullRefusesRow], rfl⟩
theorem has_space : ("strings.asciiSpace", Rows.laid_strings_asciiSpace) ∈ rowPlain := by
  simp only [rowPlain, List.mem_filter]
  exact ⟨by simp [rowLaid, Rows.fullRefusesRow], rfl⟩
theorem handles_row : (rowLaid.filter fun x => x.2.handleName?.isSome) = [("errors.errorType", Rows.laid_errors_errorType)] := rfl
theorem laid_of_row {W : World} (h : laidMetH Tryz.prog rowLaid W) (hs : W.ShapedOpen Tryz.prog) : Laid W ∧ ErrTy W := by
  have h' : laidMet Tryz.prog rowPlain W ∧ handlesMet Tryz.prog [("errors.errorType", Rows.laid_errors_errorType)] W := by
    unfold laidMetH at h
    rw [handles_row] at h
    exact h
  obtain ⟨h1, h2⟩ := h'
  obtain ⟨r1, k1⟩ := laid_in _ _ h1 has_space
  obtain ⟨r2, k2⟩ := laid_in _ _ h1 has_pow10
  rw [sp_tab] at k1
  rw [p10_tab] at k2
  exact ⟨⟨⟨Lib.tabIs_of_head (g := 1) (t := 185) (e := 5) (n := 256) (by kernel_rfl) (by kernel_rfl) (by kernel_rfl) (by kernel_rfl) (by kernel_rfl) (by kernel_rfl) k1,
    Lib.tabIs_of_head (g := 9) (t := 283) (e := 97) (n := 20) (by kernel_rfl) (by kernel_rfl) (by kernel_rfl) (by kernel_rfl) (by kernel_rfl) (by kernel_rfl) k2⟩, maxl_of hs⟩, errTy_of h2⟩
/-- The settled world, the type's handle laid. -/
noncomputable def preWorld (os : Os) : World :=
  { World.holding Tryz.prog os ⟨#[], #[], []⟩ with heap := (World.holding Tryz.prog os ⟨#[], #[], []⟩).heap.modify 0 fun
      | .cells _ t frozen => .cells #[.iface 193 (.agg #[typeHandle Tryz.prog 39])] t frozen
      | o => o }
/-- .. and all other listed variables. -/
noncomputable def laidWorld (os : Os) : World := (preWorld os).layVars Tryz.prog rowPlain
theorem laidWorld_os (os : Os) : (laidWorld os).os = os := World.layVars_os _ _ _
theorem lw_fits (os : Os) : (preWorld os).layFits Tryz.prog rowPlain [] = true := by kernel_rfl
theorem lw_ifaces (os : Os) : (preWorld os).layIfaces Tryz.prog rowPlain (laidWorld os) = true := by kernel_rfl
theorem lw_handle (os : Os) : (rowLaid.filter fun x => x.2.handleName?.isSome).all (handleAtB Tryz.prog (laidWorld os)) = true := by kernel_rfl
theorem laidWorld_met (os : Os) (args : Array Value) : laidMetH Tryz.prog rowLaid ((laidWorld os).forCall (fun _ _ => 0) ⟨#[], args, []⟩).memory := by
  have e1 : (rowPlain.filter fun x => (rowPlain.map (·.1)).contains x.1) = rowPlain := List.filter_eq_self.2 fun x hx => List.contains_iff_mem.2 (List.mem_map.2 ⟨x, hx, rfl⟩)
  have e2 : (rowPlain.filter fun x => !(rowPlain.map (·.1)).contains x.1) = [] := List.filter_eq_nil_iff.2 fun x hx => by rw [List.contains_iff_mem.2 (List.mem_map.2 ⟨x, hx, rfl⟩)]; simp
  have h : laidMet Tryz.prog rowPlain (laidWorld os) := laidMet_layVars (w0 := preWorld os) (rowPlain.map (·.1)) [] (by rw [e1]; rfl) (by rw [e1]; exact lw_fits os) (by rw [e1]; exact lw_ifaces os) (by rw [e2]; exact LaidIn.none)
  have h' := laidMetH_of_parts (P := Tryz.prog) (l := rowLaid) (w := laidWorld os) h (lw_handle os)
  exact h'.of_heap (by simp [World.memory, World.forCall, Input.heap])
theorem lw_vars (os : Os) (args : Array Value) : ((laidWorld os).forCall (fun _ _ => 0) ⟨#[], args, []⟩).variablesRefB Tryz.prog = true := by kernel_rfl
theorem lw_rest (os : Os) (args : Array Value) : (((laidWorld os).forCall (fun _ _ => 0) ⟨#[], args, []⟩).heap.toList.drop Tryz.prog.globals.size).take ((begin Tryz.prog (fun _ _ => 0) default).world.heap.size - Tryz.prog.globals.size) =
      (begin Tryz.prog (fun _ _ => 0) default).world.heap.toList.drop Tryz.prog.globals.size := by kernel_rfl
end Go.Proofs.YtkbjnlcongjokaaGreatDoor

/- A map[int]bool of the call's own: which keys it holds as true. -/
namespace Go.Proofs.YtkbjnlcongjokaaGreatDoor
open Go.RowKit
def FreeMap (w : World) (b n : Nat) (S : Int → Bool) : Prop :=
  ∃ D : DataW Unit, w.ownsMap Tryz.prog 3 (plainElem (H := Unit) Tryz.prog 4) b n D ∧ ∀ i : Int, D.atKey (.int .i64 i) (.lit (.bool false)) = .lit (.bool (S i))
theorem FreeMap.made (w : World) : FreeMap (w.alloc (.map #[] 0)) w.heap.size 0 (fun _ => false) :=
  ⟨_, World.ownsMap_made _ _ _ _, fun _ => rfl⟩
theorem int_K : Maps.Keyed Tryz.prog 3 := Maps.int_keyed Tryz.underlying3
theorem FreeMap.isMap {w : World} {b n : Nat} {D : DataW Unit} (h : w.ownsMap Tryz.prog 3 (plainElem (H := Unit) Tryz.prog 4) b n D) : Maps.IsMap D := by
  obtain ⟨es, clock, hb, F, hs, rfl⟩ := h
  exact ⟨_, rfl⟩
theorem i64_wf (i : Int) (h : -9223372036854775808 ≤ i ∧ i ≤ 9223372036854775807) : (Lit.int .i64 i).wf = true := by
  simp [Lit.wf, IntKind.min, IntKind.max, IntKind.bits, IntKind.signed]
  omega
theorem FreeMap.kept {w w' : World} {b n : Nat} {S : Int → Bool} (h : FreeMap w b n S) {row : Option Nat} (hg : w.grownBy w' row) (hne : some b ≠ row) : FreeMap w' b n S := by
  obtain ⟨D, h1, h2⟩ := h
  exact ⟨D, h1.kept hg hne, h2⟩
theorem FreeMap.lt {w : World} {b n : Nat} {S : Int → Bool} (h : FreeMap w b n S) : b < w.heap.size := by
  obtain ⟨D, h1, h2⟩ := h
  exact h1.lt
theorem grown_trans {a b c : World} {r : Option Nat} (h : a.grownBy b r) (k : b.grownBy c r) : a.grownBy c r :=
  ⟨k.os.trans h.os, k.tape.trans h.tape, k.output.trans h.output, Nat.le_trans h.size k.size, fun i hi hne => (k.block i (Nat.lt_of_lt_of_le hi h.size) hne).trans (h.block i hi hne)⟩
end Go.Proofs.YtkbjnlcongjokaaGreatDoor

/- Maps with string keys of the call's own: what they hold under each key. Printed by strmap.py. -/
namespace Go.Proofs.YtkbjnlcongjokaaGreatDoor
open Go.RowKit
theorem str_K : Maps.Keyed Tryz.prog 9 := Maps.string_keyed Tryz.underlying9
theorem str_key (s : ByteArray) (h : s.size ≤ maxLen) : keyOf Tryz.prog 9 (.string s) = some (.string s.data.toList) := by
  rw [keyOf_string Tryz.underlying9]
  simp [mapKey, Tryz.underlying9, h]
theorem u64_wf (v : Int) (h : 0 ≤ v ∧ v ≤ 18446744073709551615) : (Lit.int .u64 v).wf = true := by
  simp [Lit.wf, IntKind.min, IntKind.max, IntKind.bits, IntKind.signed]
  omega
theorem strMap_is {E : TypeId} {w : World} {b n : Nat} {D : DataW Unit} (h : w.ownsMap Tryz.prog 9 (plainElem (H := Unit) Tryz.prog E) b n D) : Maps.IsMap D := by
  obtain ⟨es, clock, hb, F, hs, rfl⟩ := h
  exact ⟨_, rfl⟩
theorem str_isKey (k : List UInt8) : WideAt.IsKeyLit (.string k) := by trivial
/-- Block b is a map[string]uint64 of at most n entries; F says what a look-up gives. -/
def UMap (w : World) (b n : Nat) (F : List UInt8 → Int) : Prop :=
  ∃ D : DataW Unit, w.ownsMap Tryz.prog 9 (plainElem (H := Unit) Tryz.prog 97) b n D ∧ ∀ x : List UInt8, D.atKey (.string x) (.lit (.int .u64 0)) = .lit (.int .u64 (F x))
theorem UMap.made (w : World) : UMap (w.alloc (.map #[] 0)) w.heap.size 0 (fun _ => 0) := ⟨_, World.ownsMap_made _ _ _ _, fun _ => rfl⟩
theorem UMap.lt {w : World} {b n : Nat} {F : List UInt8 → Int} (h : UMap w b n F) : b < w.heap.size := by
  obtain ⟨D, h1, h2⟩ := h
  exact h1.lt
theorem UMap.kept {w w' : World} {b n : Nat} {F : List UInt8 → Int} (h : UMap w b n F) {row : Option Nat} (hg : w.grownBy w' row) (hne : some b ≠ row) : UMap w' b n F := by
  obtain ⟨D, h1, h2⟩ := h
  exact ⟨D, h1.kept hg hne, h2⟩
theorem UMap.below {w w' : World} {b n : Nat} {F : List UInt8 → Int} (h : UMap w b n F) (hb : Below w.heap.size w w') : UMap w' b n F :=
  h.kept (row := none) ⟨hb.os, hb.tape, hb.output, hb.size, fun k hk _ => hb.block k hk⟩ (by simp)
theorem UMap.update {w : World} {b n : Nat} {F : List UInt8 → Int} (h : UMap w b n F) (hn : n ≤ 1000000) (s : ByteArray) (hs : s.size ≤ maxLen) (v : Int) (hv : 0 ≤ v ∧ v ≤ 18446744073709551615) :
    ∃ w', (Instr.mapUpdate 98 (.map (some b)) (.string s) (.int .u64 v)).run Tryz.prog w = .ok () w' ∧ UMap w' b (n + 1) (fun x => if x = s.data.toList then v else F x) ∧ w.grownBy w' (some b) := by
  obtain ⟨D, h1, h2⟩ := h
  obtain ⟨w', hr, ho, hg⟩ := h1.update str_K Tryz.underlying98 (by simp [maxLen]; omega) (str_key s hs) (plainElem_int (H := Unit) Tryz.underlying97 (u64_wf v hv))
  refine ⟨w', hr, ⟨_, ho, fun x => ?_⟩, hg⟩
  by_cases e : x = s.data.toList
  · subst e
    rw [Maps.atKey_put_same (strMap_is h1) (str_isKey _)]
    simp
  · rw [Maps.atKey_put_other (by intro y; cases y; exact e rfl), h2 x]
    simp [e]
theorem UMap.lookup {w : World} {b n : Nat} {F : List UInt8 → Int} (h : UMap w b n F) (s : ByteArray) (hs : s.size ≤ maxLen) :
    (Instr.lookup 98 (.map (some b)) (.string s) false).run Tryz.prog w = .ok (.int .u64 (F s.data.toList)) w := by
  obtain ⟨D, h1, h2⟩ := h
  obtain ⟨v, ps, hr, hv⟩ := h1.lookup str_K Tryz.underlying98 (z := (.int .u64 0)) (by kernel_rfl) (plainElem_int (H := Unit) Tryz.underlying97 (by decide)) (str_key s hs)
  rw [h2 s.data.toList] at hv
  rw [hr]
  obtain ⟨c, rfl, hc, -⟩ := plainElem_int_inv Tryz.underlying97 hv
  simp only [Prod.mk.injEq] at hc
  have h3 := hc.1
  simp only [DataW.lit.injEq, Lit.int.injEq, true_and] at h3
  exact congrArg (fun z => Result.ok (Value.int .u64 z) w) h3.symm
theorem wpList_put_UMap {w : World} {ops : Array Oper} {rest : List Oper} {o : Oper} {a : Act} {Q : Exit → Act → World → Prop} (hg : o.guard = none) (m x v : Operand) (hop : o.op = .insert 98 m x v ∨ o.op = .mapUpdate 98 m x v)
    (b n : Nat) (F : List UInt8 → Int) (s : ByteArray) (z : Int) (hm : a.eval m = .map (some b)) (hx : a.eval x = .string s) (hz : a.eval v = (.int .u64 z)) (hF : UMap w b n F) (hn : n ≤ 1000000) (hs : s.size ≤ maxLen) (hv : 0 ≤ z ∧ z ≤ 18446744073709551615)
    (h : ∀ w', UMap w' b (n + 1) (fun x => if x = s.data.toList then z else F x) → w.grownBy w' (some b) → wpList Tryz.prog ops Q rest (a.put o.dst undef) w') : wpList Tryz.prog ops Q (o :: rest) a w := by
  refine wpList_plain hg fun K' hK' => ?_
  obtain ⟨w', hrun, r1, r2⟩ := hF.update hn s hs z hv
  unfold Oper.wp
  rcases hop with hop | hop <;>
  · simp [execOp, hop, hm, hx, hz, hrun, Result.andThen]
    exact hK' _ _ (h w' r1 r2)
/-- Block b is a map[string]bool of at most n entries; F says what a look-up gives. -/
def BMap (w : World) (b n : Nat) (F : List UInt8 → Bool) : Prop :=
  ∃ D : DataW Unit, w.ownsMap Tryz.prog 9 (plainElem (H := Unit) Tryz.prog 4) b n D ∧ ∀ x : List UInt8, D.atKey (.string x) (.lit (.bool false)) = .lit (.bool (F x))
theorem BMap.made (w : World) : BMap (w.alloc (.map #[] 0)) w.heap.size 0 (fun _ => false) := ⟨_, World.ownsMap_made _ _ _ _, fun _ => rfl⟩
theorem BMap.lt {w : World} {b n : Nat} {F : List UInt8 → Bool} (h : BMap w b n F) : b < w.heap.size := by
  obtain ⟨D, h1, h2⟩ := h
  exact h1.lt
theorem BMap.kept {w w' : World} {b n : Nat} {F : List UInt8 → Bool} (h : BMap w b n F) {row : Option Nat} (hg : w.grownBy w' row) (hne : some b ≠ row) : BMap w' b n F := by
  obtain ⟨D, h1, h2⟩ := h
  exact ⟨D, h1.kept hg hne, h2⟩
theorem BMap.below {w w' : World} {b n : Nat} {F : List UInt8 → Bool} (h : BMap w b n F) (hb : Below w.heap.size w w') : BMap w' b n F :=
  h.kept (row := none) ⟨hb.os, hb.tape, hb.output, hb.size, fun k hk _ => hb.block k hk⟩ (by simp)
theorem BMap.update {w : World} {b n : Nat} {F : List UInt8 → Bool} (h : BMap w b n F) (hn : n ≤ 1000000) (s : ByteArray) (hs : s.size ≤ maxLen) (v : Bool)  :
    ∃ w', (Instr.mapUpdate 68 (.map (some b)) (.string s) (.bool v)).run Tryz.prog w = .ok () w' ∧ BMap w' b (n + 1) (fun x => if x = s.data.toList then v else F x) ∧ w.grownBy w' (some b) := by
  obtain ⟨D, h1, h2⟩ := h
  obtain ⟨w', hr, ho, hg⟩ := h1.update str_K Tryz.underlying68 (by simp [maxLen]; omega) (str_key s hs) (plainElem_bool (H := Unit) Tryz.underlying4 v)
  refine ⟨w', hr, ⟨_, ho, fun x => ?_⟩, hg⟩
  by_cases e : x = s.data.toList
  · subst e
    rw [Maps.atKey_put_same (strMap_is h1) (str_isKey _)]
    simp
  · rw [Maps.atKey_put_other (by intro y; cases y; exact e rfl), h2 x]
    simp [e]
theorem BMap.lookup {w : World} {b n : Nat} {F : List UInt8 → Bool} (h : BMap w b n F) (s : ByteArray) (hs : s.size ≤ maxLen) :
    (Instr.lookup 68 (.map (some b)) (.string s) false).run Tryz.prog w = .ok (.bool (F s.data.toList)) w := by
  obtain ⟨D, h1, h2⟩ := h
  obtain ⟨v, ps, hr, hv⟩ := h1.lookup str_K Tryz.underlying68 (z := (.bool false)) (by kernel_rfl) (plainElem_bool (H := Unit) Tryz.underlying4 false) (str_key s hs)
  rw [h2 s.data.toList] at hv
  rw [hr]
  have hu : Tryz.prog.underlying 4 = some .bool := Tryz.underlying4
  unfold plainElem at hv
  rw [hu] at hv
  cases v <;> simp at hv
  obtain ⟨rfl, _⟩ := hv
  rfl
theorem wpList_put_BMap {w : World} {ops : Array Oper} {rest : List Oper} {o : Oper} {a : Act} {Q : Exit → Act → World → Prop} (hg : o.guard = none) (m x v : Operand) (hop : o.op = .insert 68 m x v ∨ o.op = .mapUpdate 68 m x v)
    (b n : Nat) (F : List UInt8 → Bool) (s : ByteArray) (z : Bool) (hm : a.eval m = .map (some b)) (hx : a.eval x = .string s) (hz : a.eval v = (.bool z)) (hF : BMap w b n F) (hn : n ≤ 1000000) (hs : s.size ≤ maxLen) 
    (h : ∀ w', BMap w' b (n + 1) (fun x => if x = s.data.toList then z else F x) → w.grownBy w' (some b) → wpList Tryz.prog ops Q rest (a.put o.dst undef) w') : wpList Tryz.prog ops Q (o :: rest) a w := by
  refine wpList_plain hg fun K' hK' => ?_
  obtain ⟨w', hrun, r1, r2⟩ := hF.update hn s hs z
  unfold Oper.wp
  rcases hop with hop | hop <;>
  · simp [execOp, hop, hm, hx, hz, hrun, Result.andThen]
    exact hK' _ _ (h w' r1 r2)
end Go.Proofs.YtkbjnlcongjokaaGreatDoor

/- 'm[k], .. = v, ..' at a map of the call's own: the entry, then its store. -/
namespace Go.Proofs.YtkbjnlcongjokaaGreatDoor
open Go.RowKit Go.ChangeMaps
theorem UMap.of_block {w w' : World} {b n : Nat} {F : List UInt8 → Int} (h : UMap w b n F) (hb : w'.heap[b]? = w.heap[b]?) : UMap w' b n F := by
  obtain ⟨D, ⟨es, clock, h1, h2, h3, h4⟩, h5⟩ := h
  exact ⟨D, ⟨es, clock, hb.trans h1, h2, h3, h4⟩, h5⟩
/-- Behind the entry of s: what its store does. -/
def MidU (w1 : World) (b n : Nat) (F : List UInt8 → Int) (s : ByteArray) (st : Nat) : Prop :=
  ∀ (w2 : World) (v : Int), 0 ≤ v ∧ v ≤ 18446744073709551615 → w2.heap[b]? = w1.heap[b]? → ∃ w3, (Instr.entryStore 98 (.map (some b)) (goInt st) (.int .u64 v)).run Tryz.prog w2 = .ok () w3 ∧
    UMap w3 b (n + 1) (fun x => if x = s.data.toList then v else F x) ∧ w2.grownBy w3 (some b)
theorem grown_block {w : World} {b : Nat} {o : Obj} {es : Array MapEntry} {clock : Nat} (h : w.heap[b]? = some (.map es clock)) : w.grownBy (setBlock w b o) (some b) :=
  ⟨rfl, rfl, rfl, by simp [setBlock], fun i _ hi => heap_setBlock_other h _ (fun e => hi (by rw [e]))⟩
theorem UMap.entry {w : World} {b n : Nat} {F : List UInt8 → Int} (h : UMap w b n F) (hn : n ≤ 1000000) (s : ByteArray) (hs : s.size ≤ maxLen) :
    ∃ (v0 : Value) (st : Nat) (w1 : World), (Instr.mapEntry 98 (.map (some b)) (.string s)).run Tryz.prog w = .ok (.tuple #[v0, goInt st]) w1 ∧ w.grownBy w1 (some b) ∧ MidU w1 b n F s st := by
  have h0 := h
  obtain ⟨D, ⟨es, clock, hb, hF, hsz, rfl⟩, hat⟩ := h
  obtain ⟨v0, st, es1, clock1, hr, -, hst⟩ := WideElems.entry_then_store (P := Tryz.prog) (WideMaps.string_law Tryz.underlying9) Tryz.underlying98 (z := .int .u64 0) (fun u => by kernel_rfl) hb hF (str_key s hs)
  refine ⟨v0, st, _, hr, grown_block hb, fun w2 v hv hw2 => ?_⟩
  obtain ⟨es', clock', h1, h2⟩ := hst w2 (.int .u64 v) (hw2.trans (heap_setBlock_same hb _))
  obtain ⟨w', h3, h4, h5⟩ := h0.update hn s hs v hv
  rw [h2] at h3
  injection h3 with _ h6
  refine ⟨_, h1, ?_, grown_block (hw2.trans (heap_setBlock_same hb _))⟩
  refine UMap.of_block h4 ?_
  rw [← h6, heap_setBlock_same hb, heap_setBlock_same (hw2.trans (heap_setBlock_same hb _))]
theorem wpList_entry_U {w : World} {ops : Array Oper} {rest : List Oper} {o : Oper} {a : Act} {Q : Exit → Act → World → Prop} (hg : o.guard = none) (m x : Operand) (hop : o.op = .mapEntry 98 m x)
    (b n : Nat) (F : List UInt8 → Int) (s : ByteArray) (hm : a.eval m = .map (some b)) (hx : a.eval x = .string s) (hF : UMap w b n F) (hn : n ≤ 1000000) (hs : s.size ≤ maxLen)
    (h : ∀ (v0 : Value) (st : Nat) (w1 : World), w.grownBy w1 (some b) → MidU w1 b n F s st → wpList Tryz.prog ops Q rest (a.put o.dst (.tuple #[v0, goInt st])) w1) : wpList Tryz.prog ops Q (o :: rest) a w := by
  refine wpList_plain hg fun K' hK' => ?_
  obtain ⟨v0, st, w1, hrun, r1, r2⟩ := hF.entry hn s hs
  unfold Oper.wp
  simp [execOp, hop, hm, hx, hrun, Result.andThen]
  exact hK' _ _ (h v0 st w1 r1 r2)
theorem wpList_store_U {w : World} {ops : Array Oper} {rest : List Oper} {o : Oper} {a : Act} {Q : Exit → Act → World → Prop} (hg : o.guard = none) (m t x : Operand) (hop : o.op = .entryStore 98 m t x)
    (b n : Nat) (F : List UInt8 → Int) (s : ByteArray) (st : Nat) (v : Int) (hm : a.eval m = .map (some b)) (ht : a.eval t = goInt st) (hx : a.eval x = .int .u64 v) (hv : 0 ≤ v ∧ v ≤ 18446744073709551615) (hF : MidU w b n F s st)
    (h : ∀ w3, UMap w3 b (n + 1) (fun x => if x = s.data.toList then v else F x) → w.grownBy w3 (some b) → wpList Tryz.prog ops Q rest (a.put o.dst undef) w3) : wpList Tryz.prog ops Q (o :: rest) a w := by
  refine wpList_plain hg fun K' hK' => ?_
  obtain ⟨w3, hrun, r1, r2⟩ := hF w v hv rfl
  unfold Oper.wp
  simp [execOp, hop, hm, ht, hx, hrun, Result.andThen]
  exact hK' _ _ (h w3 r1 r2)
theorem step_entry_U {w : World} {ops : Array Oper} {o : Oper} {a : Act} {K : Act → World → Prop} {Q : Exit → Act → World → Prop} {E : Prop} (hg : o.guard = none) (m x : Operand) (hop : o.op = .mapEntry 98 m x)
    (b n : Nat) (F : List UInt8 → Int) (s : ByteArray) (hm : a.eval m = .map (some b)) (hx : a.eval x = .string s) (hF : UMap w b n F) (hn : n ≤ 1000000) (hs : s.size ≤ maxLen)
    (h : ∀ (v0 : Value) (st : Nat) (w1 : World), w.grownBy w1 (some b) → MidU w1 b n F s st → K (a.put o.dst (.tuple #[v0, goInt st])) w1) : if Region.wanted o (yielded ops a.tmps) = true then Oper.wp Tryz.prog o a w K Q else E := by
  have hw : Region.wanted o (yielded ops a.tmps) = true := by simp [Region.wanted, hg]
  rw [if_pos hw]
  obtain ⟨v0, st, w1, hrun, r1, r2⟩ := hF.entry hn s hs
  unfold Oper.wp
  simp [execOp, hop, hm, hx, hrun, Result.andThen]
  exact h v0 st w1 r1 r2
theorem step_store_U {w : World} {ops : Array Oper} {o : Oper} {a : Act} {K : Act → World → Prop} {Q : Exit → Act → World → Prop} {E : Prop} (hg : o.guard = none) (m t x : Operand) (hop : o.op = .entryStore 98 m t x)
    (b n : Nat) (F : List UInt8 → Int) (s : ByteArray) (st : Nat) (v : Int) (hm : a.eval m = .map (some b)) (ht : a.eval t = goInt st) (hx : a.eval x = .int .u64 v) (hv : 0 ≤ v ∧ v ≤ 18446744073709551615) (hF : MidU w b n F s st)
    (h : ∀ w3, UMap w3 b (n + 1) (fun x => if x = s.data.toList then v else F x) → w.grownBy w3 (some b) → K (a.put o.dst undef) w3) : if Region.wanted o (yielded ops a.tmps) = true then Oper.wp Tryz.prog o a w K Q else E := by
  have hw : Region.wanted o (yielded ops a.tmps) = true := by simp [Region.wanted, hg]
  rw [if_pos hw]
  obtain ⟨w3, hrun, r1, r2⟩ := hF w v hv rfl
  unfold Oper.wp
  simp [execOp, hop, hm, ht, hx, hrun, Result.andThen]
  exact h w3 r1 r2
theorem MidU.of_block {w w' : World} {b n : Nat} {F : List UInt8 → Int} {s : ByteArray} {st : Nat} (h : MidU w b n F s st) (hb : w'.heap[b]? = w.heap[b]?) : MidU w' b n F s st := fun w2 v hv h2 => h w2 v hv (h2.trans hb)
end Go.Proofs.YtkbjnlcongjokaaGreatDoor

/- quaymasterref.HeadRead. -/
namespace Go.Proofs.YtkbjnlcongjokaaGreatDoor
open Go.RowKit
def hzV : Value := .agg #[.int .i64 0, .bool false, .int .i64 0, .slice none 0 0]
theorem kind_none (op : Int) (h : kindOf op = none) (w : World) : Calls Tryz.prog 45 #[.int .i64 op] w fun e w' =>
    e = .returned (.tuple #[.string ⟨#[]⟩, .int .i64 0, .slice none 0 0, .bool false]) ∧ Below w.heap.size w w' := by
  refine (kind_any op w).mono ?_
  rintro e w' ⟨v, rfl, hb, _⟩
  rw [h]
  exact ⟨rfl, hb⟩
theorem kind_some (op : Int) (k : Knd) (h : kindOf op = some k) (w : World) : Calls Tryz.prog 45 #[.int .i64 op] w fun e w' =>
    ∃ b, e = .returned (.tuple #[.string k.n, .int .i64 k.m, .slice (some ⟨b, 0, none⟩) k.l.length k.l.length, .bool true]) ∧ Below w.heap.size w w' ∧ w'.heap[b]? = some (.cells (k.l.flatMap Fld.cells).toArray 133) := by
  refine (kind_any op w).mono ?_
  rintro e w' ⟨v, rfl, hb, hf⟩
  rw [h]
  obtain ⟨b, rfl, h2⟩ := hf k h
  exact ⟨b, rfl, hb, h2⟩
theorem results_cell3 {P : Program} {fn : Func} {p t1 t2 t3 : Tmp} {ty : TypeId} (h : fn.results = #[.cell p ty, .tmp t1, .tmp t2, .tmp t3]) (tmps : Array Value) (w : World) (g : Nat) (cs : List Value) (d : TypeDesc)
    (hp : tmps.getD p undef = .pointer (some ⟨g, 0, none⟩)) (hg : w.rangeAt g 0 cs) (hu : P.underlying ty = some d) (hd : d.isRow = true) (hi : (P.info? ty).map (·.size) = some cs.length) :
    (results fn tmps).run P w = .ok (.tuple #[.agg cs.toArray, tmps.getD t1 undef, tmps.getD t2 undef, tmps.getD t3 undef]) w := by
  have hp' : tmps[p]?.getD undef = .pointer (some ⟨g, 0, none⟩) := by simpa using hp
  simp [results, h, hp', asAddr, run_loadVar_mid w g 0 ty cs d hg hu hd hi]
theorem headinfo : (Tryz.prog.info? 51).map (·.size) = some 4 := by kernel_rfl
theorem range_new (w : World) (c : List Value) (t : TypeId) : (w.alloc (.cells c.toArray t)).rangeAt w.heap.size 0 c := range_of_heap (alloc_heap_new w _)
end Go.Proofs.YtkbjnlcongjokaaGreatDoor
