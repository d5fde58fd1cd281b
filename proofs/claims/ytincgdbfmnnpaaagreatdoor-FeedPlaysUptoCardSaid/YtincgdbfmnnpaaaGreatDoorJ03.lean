/- A part of the proof: Flags, Base, FreeMap, HeadRead, HeadRead2, HeadRead3, HeadRead4. -/
import Derived.Test.YtincgdbfmnnpaaaGreatDoorJ02
import Derived.Test.YtincgdbfmnnpaaaGreatDoorTie
import Derived.Test.YtincgdbfmnnpaaaGreatDoorJ01
import Derived.ProofKit
import Derived.Lib.LaidTab
import Derived.Lay
import Derived.LaidHandle
import Derived.Stop.LaidErr
import Derived.Shelf.Vars
import Derived.Maps.Own
import Derived.Maps.Views
import Derived.Laws.CopyOwn
import Derived.OwnWalk
import Derived.Maps.AppendAt
/- head.Flags. -/
namespace Go.Proofs.YtincgdbfmnnpaaaGreatDoor
open Go.RowKit
theorem row_kind_none {op : Int} (h : rowOf op = none) : kindOf op = none := by
  unfold rowOf at h
  rw [Option.map_eq_none_iff, List.find?_eq_none] at h
  unfold kindOf
  rw [List.find?_eq_none]
  intro k hk
  obtain ⟨j, hj⟩ := List.mem_iff_getElem?.1 hk
  have hl : j < rowsW.length := by rw [rows_len, ← kinds_len]; exact (List.getElem?_eq_some_iff.1 hj).1
  exact h (rowsW[j], k) (List.mem_iff_getElem?.2 ⟨j, by rw [List.getElem?_zip_eq_some]; exact ⟨List.getElem?_eq_getElem hl, hj⟩⟩)
theorem find_zip {op : Int} : ∀ (A : List (List (List UInt8))) (B : List Knd), A.length = B.length → ∀ x, (A.zip B).find? (fun x => x.2.op == op) = some x → B.find? (fun k => k.op == op) = some x.2
  | [], [], _, x, h => by simp at h
  | a :: A, b :: B, hl, x, h => by
    rw [List.zip_cons_cons, List.find?_cons] at h
    rw [List.find?_cons]
    by_cases hb : (b.op == op) = true
    · simp only [hb] at h ⊢
      injection h with h
      rw [← h]
    · have hb' : (b.op == op) = false := by simpa using hb
      simp only [hb'] at h ⊢
      exact find_zip A B (by simpa using hl) x h
theorem row_kind_some {op : Int} {ws : List (List UInt8)} (h : rowOf op = some ws) : ∃ k, kindOf op = some k ∧ rowFits ws k = true := by
  unfold rowOf at h
  rw [Option.map_eq_some_iff] at h
  obtain ⟨x, hx, rfl⟩ := h
  have h1 := find_zip rowsW kinds (by rw [rows_len, kinds_len]) x hx
  refine ⟨x.2, h1, ?_⟩
  have := rows_fit
  rw [Bool.and_eq_true] at this
  exact List.all_eq_true.1 this.2 x (List.mem_of_find?_eq_some hx)
/-- What the calls need of the world: the tables, MaxLen. -/
structure Laid (w : World) : Prop where
  tabs : Tabs w
  maxl : MaxL w
theorem Laid.below {w w' : World} (h : Laid w) (hb : Below w.heap.size w w') : Laid w' := ⟨h.tabs.below hb, h.maxl.below hb⟩
theorem row_none (op : Int) (h0 : -9223372036854775808 ≤ op) (h1 : op ≤ 9223372036854775807) (h : kindOf op = none) (w : World) (hw : Laid w) : Calls Tryz.prog 64 #[.int .i64 op] w fun e w' => e = .returned (.slice none 0 0) ∧ Below w.heap.size w w' := by
  refine (row_any op h0 h1 w hw.tabs).mono ?_
  rintro e w' ⟨hb, ⟨_, rfl⟩ | ⟨ws, b, hr, _⟩⟩
  · exact ⟨rfl, hb⟩
  · obtain ⟨k, hk, _⟩ := row_kind_some hr
    rw [hk] at h; cases h
theorem row_some (op : Int) (h0 : -9223372036854775808 ≤ op) (h1 : op ≤ 9223372036854775807) (k : Knd) (h : kindOf op = some k) (w : World) (hw : Laid w) : Calls Tryz.prog 64 #[.int .i64 op] w fun e w' => ∃ ws b, rowFits ws k = true ∧
    e = .returned (.slice (some ⟨b, 0, none⟩) ws.length ws.length) ∧ Below w.heap.size w w' ∧ w'.heap[b]? = some (.cells (ws.map fun l => Value.string ⟨l.toArray⟩).toArray 9 (0, 0)) := by
  refine (row_any op h0 h1 w hw.tabs).mono ?_
  rintro e w' ⟨hb, ⟨hr, _⟩ | ⟨ws, b, hr, rfl, hh⟩⟩
  · rw [row_kind_none hr] at h; cases h
  · obtain ⟨k', hk, hf⟩ := row_kind_some hr
    rw [hk] at h
    injection h with h
    subst h
    exact ⟨ws, b, hf, rfl, hb, hh⟩
theorem atoi_any (l : List UInt8) (n : Int) (hl : l.length ≤ 18) (h : Lib.atoi l = some n) (w : World) : Calls Tryz.prog 66 #[.string ⟨l.toArray⟩] w fun e w' => e = .returned (.tuple #[.int .i64 n, .nilIface]) ∧ Below w.heap.size w w' :=
  (Tryz.strconv_Atoi ⟨l.toArray⟩ n (by show l.toArray.size ≤ 18; simpa using hl) h w).mono fun e w' ⟨he, t, hw⟩ => ⟨he, by rw [hw]; exact bytesWorld_below w _ t⟩
set_option maxRecDepth 100000 in
theorem flags_none (op : Int) (h0 : -9223372036854775808 ≤ op) (h1 : op ≤ 9223372036854775807) (h : kindOf op = none) (w : World) (hw : Laid w) : Calls Tryz.prog 67 #[.int .i64 op] w fun e w' =>
    e = .returned (.tuple #[.int .i64 0, errV 1]) ∧ Below w.heap.size w w' := by
  have hr := row_none op h0 h1 h w hw
  have HR := Lib.hid hr
  clear hr
  have hne := fun (w : World) (a : Option Addr) (n c : Nat) => Lib.run_eql_slice_nil (P := Tryz.prog) w 151 9 a n c 0 0 Tryz.underlying151
  go_enter Tryz.func67, Tryz.ntmps67
  go_wp2_with (go_at_call 64; refine HR.out.mono ?_; rintro e w' ⟨rfl, hb⟩)
  go_ret2
  exact ⟨rfl, hb⟩
set_option maxRecDepth 100000 in
theorem flags_some (op : Int) (h0 : -9223372036854775808 ≤ op) (h1 : op ≤ 9223372036854775807) (k : Knd) (h : kindOf op = some k) (w : World) (hw : Laid w) : Calls Tryz.prog 67 #[.int .i64 op] w fun e w' =>
    e = .returned (.tuple #[.int .i64 k.m, .nilIface]) ∧ Below w.heap.size w w' := by
  have hr := row_some op h0 h1 k h w hw
  have HR := Lib.hid hr
  clear hr h
  have hne := fun (w : World) (a : Option Addr) (n c : Nat) => Lib.run_eql_slice_nil (P := Tryz.prog) w 151 9 a n c 0 0 Tryz.underlying151
  go_enter Tryz.func67, Tryz.ntmps67
  go_wp2_with fail
  refine HR.out.mono ?_
  rintro e w1 ⟨ws, b, hf, rfl, hb, hh⟩
  obtain ⟨n, m, fs, rfl, h2, h3, h4, h5, h6, -⟩ := fits_head hf
  have c2 : w1.cell? ⟨b, 2, none⟩ = some (.string ⟨m.toArray⟩) := by simp [World.cell?, hh]
  obtain ⟨z, hz⟩ : ∃ z : Nat, z = (dec2 k.op.toNat :: n :: m :: fs).length := ⟨_, rfl⟩
  rw [← hz]
  have hzl : 3 ≤ z := by rw [hz]; simp
  have hzi : (2 : Int) < (z : Int) := by omega
  have HH := Lib.hid hh
  clear hh hz h4 hf
  have ha := fun w => atoi_any m k.m h6 h5 w
  have HA := Lib.hid ha
  clear ha h5
  go_wp2_with (go_at_call 66; refine (HA.out _).mono ?_; rintro e w2 ⟨rfl, hb2⟩)
  go_ret2
  exact ⟨rfl, hb.trans (hb2.mono hb.size)⟩
end Go.Proofs.YtincgdbfmnnpaaaGreatDoor

/- From the row's list of variables to what the calls need of the world; a world that meets the list. -/
namespace Go.Proofs.YtincgdbfmnnpaaaGreatDoor
open Go.ChangeShapes Go.WideShapes Go.ChangeAt Go.RowKit
theorem ownKnobs : ownKnob Tryz.prog.godebug = none := by kernel_rfl
theorem laysOut : laidOutB Tryz.prog = true := by kernel_rfl
abbrev rowLaid : List (String × DataW Unit) := Rows.feedPlaysUptoRow.laid
abbrev rowPlain : List (String × DataW Unit) := rowLaid.filter fun x => x.2.handleName?.isNone
theorem err_et : Tryz.prog.globalNamed "errors.errorType" = some 0 := by kernel_rfl
theorem err_rt : (Tryz.prog.cutTypes.find? (·.1 == "internal/reflectlite.rtype")).map (·.2) = some 158 := by kernel_rfl
theorem err_one : ((List.range 265).filter fun t => Tryz.prog.rowNamed t [101, 114, 114, 111, 114]) = [27] := by kernel_rfl
theorem err_size : Tryz.prog.types.size = 265 := by kernel_rfl
theorem err_th : typeHandle Tryz.prog 27 = th 27 := by kernel_rfl
theorem errTy_of {W : World} (h : handlesMet Tryz.prog [("errors.errorType", Rows.laid_errors_errorType)] W) : ErrTy W := by
  obtain ⟨name, u, ty, e1, e2, e3, e4, e5⟩ := h _ (List.mem_singleton.2 rfl)
  have en : name = [101, 114, 114, 111, 114] := (Option.some.inj e1).symm
  subst en
  obtain rfl := Option.some.inj (err_rt.symm.trans e2)
  have hm : ty ∈ (List.range 265).filter fun t => Tryz.prog.rowNamed t [101, 114, 114, 111, 114] := List.mem_filter.2 ⟨List.mem_range.2 (by rw [← err_size]; exact e3), e4⟩
  rw [err_one] at hm
  obtain rfl := List.mem_singleton.1 hm
  rw [err_th] at e5
  unfold ErrTy
  simpa using World.var?_cell err_et e5 0
theorem sp_tab : Rows.laid_strings_asciiSpace (H := Unit) = Lib.tabData .u8 Lib.asciiSpaceTab := by kernel_rfl
theorem p10_tab : Rows.laid_internal_strconv_uint64pow10 (H := Unit) = Lib.tabData .u64 Lib.pow10Tab := by kernel_rfl
theorem maxl_of {W : World} (h : W.ShapedOpen Tryz.prog) : MaxL W :=
  cell_of_shapedOpen_int (g := 1) (t := 3) (zero := #[.int .i64 0]) (k := .i64) h (of_decide_eq_true (by kernel_rfl)) (by kernel_rfl) rfl (by kernel_rfl) (by kernel_rfl) (by kernel_rfl)
theorem laid_in {P : Program} {w : World} : ∀ (l : List (String × DataW Unit)) (x : String × DataW Unit), laidMet P l w → x ∈ l → ∃ r, laidMet P (x :: r) w
  | [], x, _, hx => by cases hx
  | y :: l, x, h, hx => by
    rcases List.mem_cons.1 hx with rfl | hx
    · exact ⟨l, h⟩
    · exact laid_in l x h.tail hx
theorem has_pow10 : ("internal/strconv.uint64pow10", Rows.laid_internal_strconv_uint64pow10) ∈ rowPlain := by
  simp only [rowPlain, List.mem_filter]
  exact ⟨by simp [rowLaid, Rows.feedPlaysUptoRow], rfl⟩
theorem has_space : ("strings.asciiSpace", Rows.laid_strings_asciiSpace) ∈ rowPlain := by
  simp only [rowPlain, List.mem_filter]
  exact ⟨by simp [rowLaid, Rows.feedPlaysUptoRow], rfl⟩
theorem handles_row : (rowLaid.filter fun x => x.2.handleName?.isSome) = [("errors.errorType", Rows.laid_errors_errorType)] := rfl
theorem laid_of_row {W : World} (h : laidMetH Tryz.prog rowLaid W) (hs : W.ShapedOpen Tryz.prog) : Laid W ∧ ErrTy W := by
  have h' : laidMet Tryz.prog rowPlain W ∧ handlesMet Tryz.prog [("errors.errorType", Rows.laid_errors_errorType)] W := by
    unfold laidMetH at h
    rw [handles_row] at h
    exact h
  obtain ⟨h1, h2⟩ := h'
  obtain ⟨r1, k1⟩ := laid_in _ _ h1 has_space
  obtain ⟨r2, k2⟩ := laid_in _ _ h1 has_pow10
  rw [sp_tab] at k1
  rw [p10_tab] at k2
  exact ⟨⟨⟨Lib.tabIs_of_head (g := 2) (t := 184) (e := 5) (n := 256) (by kernel_rfl) (by kernel_rfl) (by kernel_rfl) (by kernel_rfl) (by kernel_rfl) (by kernel_rfl) k1,
    Lib.tabIs_of_head (g := 8) (t := 233) (e := 60) (n := 20) (by kernel_rfl) (by kernel_rfl) (by kernel_rfl) (by kernel_rfl) (by kernel_rfl) (by kernel_rfl) k2⟩, maxl_of hs⟩, errTy_of h2⟩
/-- The settled world, the type's handle laid. -/
noncomputable def preWorld (os : Os) : World :=
  { World.holding Tryz.prog os ⟨#[], #[], []⟩ with heap := (World.holding Tryz.prog os ⟨#[], #[], []⟩).heap.modify 0 fun
      | .cells _ t frozen => .cells #[.iface 158 (.agg #[typeHandle Tryz.prog 27])] t frozen
      | o => o }
/-- .. and all other listed variables. -/
noncomputable def laidWorld (os : Os) : World := (preWorld os).layVars Tryz.prog rowPlain
theorem laidWorld_os (os : Os) : (laidWorld os).os = os := World.layVars_os _ _ _
theorem lw_fits (os : Os) : (preWorld os).layFits Tryz.prog rowPlain [] = true := by kernel_rfl
theorem lw_ifaces (os : Os) : (preWorld os).layIfaces Tryz.prog rowPlain (laidWorld os) = true := by kernel_rfl
theorem lw_handle (os : Os) : (rowLaid.filter fun x => x.2.handleName?.isSome).all (handleAtB Tryz.prog (laidWorld os)) = true := by kernel_rfl
theorem laidWorld_met (os : Os) (args : Array Value) : laidMetH Tryz.prog rowLaid ((laidWorld os).forCall (fun _ _ => 0) ⟨#[], args, []⟩).memory := by
  have e1 : (rowPlain.filter fun x => (rowPlain.map (·.1)).contains x.1) = rowPlain := List.filter_eq_self.2 fun x hx => List.contains_iff_mem.2 (List.mem_map.2 ⟨x, hx, rfl⟩)
  have e2 : (rowPlain.filter fun x => !(rowPlain.map (·.1)).contains x.1) = [] := List.filter_eq_nil_iff.2 fun x hx => by rw [List.contains_iff_mem.2 (List.mem_map.2 ⟨x, hx, rfl⟩)]; simp
  have h : laidMet Tryz.prog rowPlain (laidWorld os) := laidMet_layVars (w0 := preWorld os) (rowPlain.map (·.1)) [] (by rw [e1]; rfl) (by rw [e1]; exact lw_fits os) (by rw [e1]; exact lw_ifaces os) (by rw [e2]; exact LaidIn.none)
  have h' := laidMetH_of_parts (P := Tryz.prog) (l := rowLaid) (w := laidWorld os) h (lw_handle os)
  exact h'.of_heap (by simp [World.memory, World.forCall, Input.heap])
theorem lw_vars (os : Os) (args : Array Value) : ((laidWorld os).forCall (fun _ _ => 0) ⟨#[], args, []⟩).variablesRefB Tryz.prog = true := by kernel_rfl
theorem lw_rest (os : Os) (args : Array Value) : (((laidWorld os).forCall (fun _ _ => 0) ⟨#[], args, []⟩).heap.toList.drop Tryz.prog.globals.size).take ((begin Tryz.prog (fun _ _ => 0) default).world.heap.size - Tryz.prog.globals.size) =
      (begin Tryz.prog (fun _ _ => 0) default).world.heap.toList.drop Tryz.prog.globals.size := by kernel_rfl
end Go.Proofs.YtincgdbfmnnpaaaGreatDoor

/- A map[int]bool of the call's own: which keys it holds as true. -/
namespace Go.Proofs.YtincgdbfmnnpaaaGreatDoor
open Go.RowKit
def FreeMap (w : World) (b n : Nat) (S : Int → Bool) : Prop :=
  ∃ D : DataW Unit, w.ownsMap Tryz.prog 3 (plainElem (H := Unit) Tryz.prog 4) b n D ∧ ∀ i : Int, D.atKey (.int .i64 i) (.lit (.bool false)) = .lit (.bool (S i))
theorem FreeMap.made (w : World) : FreeMap (w.alloc (.map #[] 0)) w.heap.size 0 (fun _ => false) :=
  ⟨_, World.ownsMap_made _ _ _ _, fun _ => rfl⟩
theorem int_K : Maps.Keyed Tryz.prog 3 := Maps.int_keyed Tryz.underlying3
theorem FreeMap.isMap {w : World} {b n : Nat} {D : DataW Unit} (h : w.ownsMap Tryz.prog 3 (plainElem (H := Unit) Tryz.prog 4) b n D) : Maps.IsMap D := by
  obtain ⟨es, clock, hb, F, hs, rfl⟩ := h
  exact ⟨_, rfl⟩
theorem i64_wf (i : Int) (h : -9223372036854775808 ≤ i ∧ i ≤ 9223372036854775807) : (Lit.int .i64 i).wf = true := by
  simp [Lit.wf, IntKind.min, IntKind.max, IntKind.bits, IntKind.signed]
  omega
theorem FreeMap.update {w : World} {b n : Nat} {S : Int → Bool} (h : FreeMap w b n S) (hn : n ≤ 1000000) (i : Int) (hi : -9223372036854775808 ≤ i ∧ i ≤ 9223372036854775807) :
    ∃ w', (Instr.mapUpdate 110 (.map (some b)) (.int .i64 i) (.bool true)).run Tryz.prog w = .ok () w' ∧ FreeMap w' b (n + 1) (fun j => decide (j = i) || S j) ∧ w.grownBy w' (some b) := by
  obtain ⟨D, h1, h2⟩ := h
  obtain ⟨w', hr, ho, hg⟩ := h1.update int_K Tryz.underlying110 (by simp [maxLen]; omega) (Maps.keyOf_int_mk Tryz.underlying3 (i64_wf i hi)) (plainElem_bool (H := Unit) Tryz.underlying4 true)
  refine ⟨w', hr, ⟨_, ho, fun j => ?_⟩, hg⟩
  by_cases e : j = i
  · subst e
    rw [Maps.atKey_put_same (FreeMap.isMap h1) (by trivial)]
    simp
  · rw [Maps.atKey_put_other (by intro x; cases x; exact e rfl), h2 j]
    simp [e]
theorem FreeMap.lookup {w : World} {b n : Nat} {S : Int → Bool} (h : FreeMap w b n S) (i : Int) (hi : -9223372036854775808 ≤ i ∧ i ≤ 9223372036854775807) :
    (Instr.lookup 110 (.map (some b)) (.int .i64 i) false).run Tryz.prog w = .ok (.bool (S i)) w := by
  obtain ⟨D, h1, h2⟩ := h
  obtain ⟨v, ps, hr, hv⟩ := h1.lookup int_K Tryz.underlying110 (z := .bool false) (by kernel_rfl) (plainElem_bool (H := Unit) Tryz.underlying4 false) (Maps.keyOf_int_mk Tryz.underlying3 (i64_wf i hi))
  rw [h2 i] at hv
  rw [hr]
  have hu : Tryz.prog.underlying 4 = some .bool := Tryz.underlying4
  unfold plainElem at hv
  rw [hu] at hv
  cases v <;> simp at hv
  obtain ⟨rfl, _⟩ := hv
  rfl
theorem FreeMap.kept {w w' : World} {b n : Nat} {S : Int → Bool} (h : FreeMap w b n S) {row : Option Nat} (hg : w.grownBy w' row) (hne : some b ≠ row) : FreeMap w' b n S := by
  obtain ⟨D, h1, h2⟩ := h
  exact ⟨D, h1.kept hg hne, h2⟩
theorem FreeMap.lt {w : World} {b n : Nat} {S : Int → Bool} (h : FreeMap w b n S) : b < w.heap.size := by
  obtain ⟨D, h1, h2⟩ := h
  exact h1.lt
theorem wpList_insert_free {w : World} {ops : Array Oper} {rest : List Oper} {o : Oper} {a : Act} {Q : Exit → Act → World → Prop} (hg : o.guard = none) (m x v : Operand) (hop : o.op = .insert 110 m x v ∨ o.op = .mapUpdate 110 m x v)
    (b n : Nat) (S : Int → Bool) (i : Int) (hm : a.eval m = .map (some b)) (hx : a.eval x = .int .i64 i) (hv : a.eval v = .bool true) (hF : FreeMap w b n S) (hn : n ≤ 1000000) (hi : -9223372036854775808 ≤ i ∧ i ≤ 9223372036854775807)
    (h : ∀ w', FreeMap w' b (n + 1) (fun j => decide (j = i) || S j) → w.grownBy w' (some b) → wpList Tryz.prog ops Q rest (a.put o.dst undef) w') : wpList Tryz.prog ops Q (o :: rest) a w := by
  refine wpList_plain hg fun K' hK' => ?_
  obtain ⟨w', hrun, r1, r2⟩ := hF.update hn i hi
  unfold Oper.wp
  rcases hop with hop | hop <;>
  · simp [execOp, hop, hm, hx, hv, hrun, Result.andThen]
    exact hK' _ _ (h w' r1 r2)
theorem grown_trans {a b c : World} {r : Option Nat} (h : a.grownBy b r) (k : b.grownBy c r) : a.grownBy c r :=
  ⟨k.os.trans h.os, k.tape.trans h.tape, k.output.trans h.output, Nat.le_trans h.size k.size, fun i hi hne => (k.block i (Nat.lt_of_lt_of_le hi h.size) hne).trans (h.block i hi hne)⟩
theorem wpList_insert_free2 {w w0 : World} {ops : Array Oper} {rest : List Oper} {o : Oper} {a : Act} {Q : Exit → Act → World → Prop} (hg : o.guard = none) (m x v : Operand) (hop : o.op = .insert 110 m x v ∨ o.op = .mapUpdate 110 m x v)
    (b n : Nat) (S : Int → Bool) (i : Int) (hm : a.eval m = .map (some b)) (hx : a.eval x = .int .i64 i) (hv : a.eval v = .bool true) (hF : FreeMap w b n S) (hn : n ≤ 1000000) (hi : -9223372036854775808 ≤ i ∧ i ≤ 9223372036854775807)
    (hG : w0.grownBy w (some b)) (h : ∀ w', FreeMap w' b (n + 1) (fun j => decide (j = i) || S j) → w0.grownBy w' (some b) → wpList Tryz.prog ops Q rest (a.put o.dst undef) w') : wpList Tryz.prog ops Q (o :: rest) a w :=
  wpList_insert_free hg m x v hop b n S i hm hx hv hF hn hi fun w' h1 h2 => h w' h1 (grown_trans hG h2)
end Go.Proofs.YtincgdbfmnnpaaaGreatDoor

/- quaymasterref.HeadRead. -/
namespace Go.Proofs.YtincgdbfmnnpaaaGreatDoor
open Go.RowKit
def hzV : Value := .agg #[.int .i64 0, .bool false, .int .i64 0, .slice none 0 0]
theorem kind_none (op : Int) (h : kindOf op = none) (w : World) : Calls Tryz.prog 37 #[.int .i64 op] w fun e w' =>
    e = .returned (.tuple #[.string ⟨#[]⟩, .int .i64 0, .slice none 0 0, .bool false]) ∧ Below w.heap.size w w' := by
  refine (kind_any op w).mono ?_
  rintro e w' ⟨v, rfl, hb, _⟩
  rw [h]
  exact ⟨rfl, hb⟩
theorem kind_some (op : Int) (k : Knd) (h : kindOf op = some k) (w : World) : Calls Tryz.prog 37 #[.int .i64 op] w fun e w' =>
    ∃ b, e = .returned (.tuple #[.string k.n, .int .i64 k.m, .slice (some ⟨b, 0, none⟩) k.l.length k.l.length, .bool true]) ∧ Below w.heap.size w w' ∧ w'.heap[b]? = some (.cells (k.l.flatMap Fld.cells).toArray 112) := by
  refine (kind_any op w).mono ?_
  rintro e w' ⟨v, rfl, hb, hf⟩
  rw [h]
  obtain ⟨b, rfl, h2⟩ := hf k h
  exact ⟨b, rfl, hb, h2⟩
theorem results_cell3 {P : Program} {fn : Func} {p t1 t2 t3 : Tmp} {ty : TypeId} (h : fn.results = #[.cell p ty, .tmp t1, .tmp t2, .tmp t3]) (tmps : Array Value) (w : World) (g : Nat) (cs : List Value) (d : TypeDesc)
    (hp : tmps.getD p undef = .pointer (some ⟨g, 0, none⟩)) (hg : w.rangeAt g 0 cs) (hu : P.underlying ty = some d) (hd : d.isRow = true) (hi : (P.info? ty).map (·.size) = some cs.length) :
    (results fn tmps).run P w = .ok (.tuple #[.agg cs.toArray, tmps.getD t1 undef, tmps.getD t2 undef, tmps.getD t3 undef]) w := by
  have hp' : tmps[p]?.getD undef = .pointer (some ⟨g, 0, none⟩) := by simpa using hp
  simp [results, h, hp', asAddr, run_loadVar_mid w g 0 ty cs d hg hu hd hi]
theorem headinfo : (Tryz.prog.info? 37).map (·.size) = some 4 := by kernel_rfl
theorem range_new (w : World) (c : List Value) (t : TypeId) : (w.alloc (.cells c.toArray t)).rangeAt w.heap.size 0 c := range_of_heap (alloc_heap_new w _)
set_option maxRecDepth 100000 in
theorem headread_size (s : ByteArray) (w : World) (h : (((s.size : Nat) : Int) == 48) = false) : Calls Tryz.prog 26 #[.string s] w fun e w' =>
    e = .returned (.tuple #[hzV, .int .i64 0, .int .i64 0, .int .i64 7]) ∧ Below w.heap.size w w' := by
  go_enter Tryz.func26, Tryz.ntmps26
  go_wp2_with fail
  refine bodyPost_ret (results_cell3 Tryz.results26 _ _ w.heap.size [.int .i64 0, .bool false, .int .i64 0, .slice none 0 0] _ rfl (range_new w _ _) Tryz.underlying37 rfl headinfo) rfl ⟨rfl, below_alloc (Below.refl _ _) (Nat.le_refl _) _⟩
set_option maxRecDepth 100000 in
theorem headread_high (s : ByteArray) (w : World) (h : s.size = 48) (q1 : ((s[0].toNat : Int) / 128 % 256 == 1) = true) : Calls Tryz.prog 26 #[.string s] w fun e w' =>
    e = .returned (.tuple #[hzV, .int .i64 0, .int .i64 0, .int .i64 3]) ∧ Below w.heap.size w w' := by
  have h0 : (((s.size : Nat) : Int) == 48) = true := by simp [h]
  have h1 : (0 : Int) < (s.size : Int) := by omega
  go_enter Tryz.func26, Tryz.ntmps26
  go_wp2_with fail
  refine bodyPost_ret (results_cell3 Tryz.results26 _ _ w.heap.size [.int .i64 0, .bool false, .int .i64 0, .slice none 0 0] _ rfl (range_new w _ _) Tryz.underlying37 rfl headinfo) rfl ⟨rfl, below_alloc (Below.refl _ _) (Nat.le_refl _) _⟩
set_option maxRecDepth 100000 in
theorem headread_none (s : ByteArray) (w : World) (h : s.size = 48) (q1 : ((s[0].toNat : Int) / 128 % 256 == 1) = false) (q2 : kindOf ((s[0].toNat : Int) % 64) = none) : Calls Tryz.prog 26 #[.string s] w fun e w' =>
    e = .returned (.tuple #[hzV, .int .i64 0, .int .i64 0, .int .i64 1]) ∧ Below w.heap.size w w' := by
  have h0 : (((s.size : Nat) : Int) == 48) = true := by simp [h]
  have h1 : (0 : Int) < (s.size : Int) := by omega
  have kn := kind_none ((s[0].toNat : Int) % 64) q2
  have KN := Lib.hid kn
  clear kn q2
  go_enter Tryz.func26, Tryz.ntmps26
  go_wp2_with fail
  refine (KN.out _).mono ?_
  rintro e w1 ⟨rfl, hb⟩
  have hH : w1.heap[w.heap.size]? = some (.cells #[.int .i64 0, .bool false, .int .i64 0, .slice none 0 0] 37 (0, 0)) := (hb.block _ (by simp)).trans (alloc_heap_new w _)
  have hbb : Below w.heap.size w w1 := (below_alloc (Below.refl _ w) (Nat.le_refl _) _).trans (hb.mono (by simp))
  have HH := Lib.hid hH
  clear hH
  go_wp2_with (first
    | (refine wpList_load_row rfl 37 _ rfl w.heap.size rfl 37 _ _ _ HH.out Tryz.underlying37 rfl headinfo ?_)
    | (refine wpList_store_row rfl 37 _ _ rfl w.heap.size #[.int .i64 0, .bool false, .int .i64 0, .slice none 0 0] rfl rfl 37 _ HH.out headinfo rfl (by simp [Value.oneCell']) ?_))
  refine bodyPost_ret (results_cell3 Tryz.results26 _ _ w.heap.size [.int .i64 0, .bool false, .int .i64 0, .slice none 0 0] _ rfl (range_of_heap (setRow_heap _ _ _ _ _ _ HH.out)) Tryz.underlying37 rfl headinfo) rfl ⟨rfl, below_setRow hbb (Nat.le_refl _) _⟩
end Go.Proofs.YtincgdbfmnnpaaaGreatDoor

/- quaymasterref.HeadRead, behind Kind. -/
namespace Go.Proofs.YtincgdbfmnnpaaaGreatDoor
open Go.RowKit
/-- The numbers of the fields. -/
def numOf (l : List UInt8) (f : Fld) : Nat := beN ((l.drop f.a.toNat).take f.b.toNat)
def numsV (l : List UInt8) (fs : List Fld) : List Value := fs.map fun f => .int .u64 (numOf l f)
def baseFree (j : Int) : Bool := decide (j = 7) || (decide (j = 6) || (decide (j = 5) || (decide (j = 4) || (decide (j = 1) || (decide (j = 0) || false)))))
def inF (fs : List Fld) (j : Int) : Bool := fs.any fun f => decide (f.a ≤ j) && decide (j < f.a + f.b)
def Fld.fit (f : Fld) : Bool := decide (0 ≤ f.a) && decide (1 ≤ f.b) && decide (f.b ≤ 8) && decide (f.a + f.b ≤ 48)
theorem kinds_fit : (kinds.all fun k => decide (k.l.length ≤ 12) && k.l.all Fld.fit) = true := by kernel_rfl
theorem kind_fit {op : Int} {k : Knd} (h : kindOf op = some k) : k.l.length ≤ 12 ∧ ∀ f ∈ k.l, 0 ≤ f.a ∧ 1 ≤ f.b ∧ f.b ≤ 8 ∧ f.a + f.b ≤ 48 := by
  have hm := List.mem_of_find?_eq_some h
  have := List.all_eq_true.1 kinds_fit k hm
  simp only [Bool.and_eq_true, decide_eq_true_eq] at this
  refine ⟨this.1, fun f hf => ?_⟩
  have := List.all_eq_true.1 this.2 f hf
  simp only [Fld.fit, Bool.and_eq_true, decide_eq_true_eq] at this
  exact ⟨this.1.1.1, this.1.1.2, this.1.2, this.2⟩
/-- What stands between the rounds: the head's cells, the fields, the numbers so far, the free bytes so far. -/
structure HSt (w : World) (m kb : Nat) (k : Knd) (l : List UInt8) (hd : Value → List Value) (wr : World) (k0 n : Nat) (S : Int → Bool) (v : Value) : Prop where
  below : Below w.heap.size w wr
  size : m < wr.heap.size
  head : wr.heap[w.heap.size]? = some (.cells (hd v).toArray 37 (0, 0))
  flds : wr.heap[kb]? = some (.cells (k.l.flatMap Fld.cells).toArray 112)
  nums : wr.ownsRow (m + 1) 60 1 v k0 (numsV l (k.l.take k0))
  free : FreeMap wr m n S
theorem grown_setCell (w : World) (p : Addr) (u : Value) : w.grownBy (w.setCell p u) (some p.block) :=
  ⟨rfl, rfl, rfl, by simp [World.setCell], fun i _ hi => Below.heap_setCell _ _ _ _ (fun e => hi (by rw [e]))⟩
theorem hst_start {w w1 w2 : World} {kb : Nat} {k : Knd} {l : List UInt8} {op fl : Int} {nb : Bool} (hlt : w.heap.size < w1.heap.size) (hkl : kb < w1.heap.size) (hne : kb ≠ w.heap.size)
    (hb : Below w.heap.size w w2) (hF : FreeMap w2 w1.heap.size 6 baseFree) (hH : w2.heap[w.heap.size]? = some (.cells #[.int .i64 0, .bool false, .int .i64 0, .slice none 0 0] 37 (0, 0)))
    (hK : w2.heap[kb]? = some (.cells (k.l.flatMap Fld.cells).toArray 112)) :
    HSt w w1.heap.size kb k l (fun v => [.int .i64 op, .bool nb, .int .i64 fl, v]) ((((w2.setCell ⟨w.heap.size, 0, none⟩ (.int .i64 op)).setCell ⟨w.heap.size, 1, none⟩ (.bool nb)).setCell ⟨w.heap.size, 2, none⟩ (.int .i64 fl)).setCell ⟨w.heap.size, 3, none⟩ (.slice none 0 0)).drew 0 6 baseFree (.slice none 0 0) := by
  have g1 := grown_setCell w2 ⟨w.heap.size, 0, none⟩ (.int .i64 op)
  have g2 := grown_trans g1 (grown_setCell _ ⟨w.heap.size, 1, none⟩ (.bool nb))
  have g3 := grown_trans g2 (grown_setCell _ ⟨w.heap.size, 2, none⟩ (.int .i64 fl))
  have g4 := grown_trans g3 (grown_setCell _ ⟨w.heap.size, 3, none⟩ (.slice none 0 0))
  refine ⟨?_, ?_, ?_, ?_, World.ownsRow_nil _ _ _ _, ?_⟩
  · exact ((((hb.setCell (p := ⟨w.heap.size, 0, none⟩) (Nat.le_refl _) _).setCell (p := ⟨w.heap.size, 1, none⟩) (Nat.le_refl _) _).setCell (p := ⟨w.heap.size, 2, none⟩) (Nat.le_refl _) _).setCell (p := ⟨w.heap.size, 3, none⟩) (Nat.le_refl _) _).drew
  · exact Nat.lt_of_lt_of_le hF.lt g4.size
  · exact heap_setCell_same _ _ 3 _ _ _ (heap_setCell_same _ _ 2 _ _ _ (heap_setCell_same _ _ 1 _ _ _ (heap_setCell_same _ _ 0 _ _ _ hH)))
  · exact (g4.block _ (heap_lt hK) (by simpa using hne)).trans hK
  · have hx : some w1.heap.size ≠ some w.heap.size := fun e => by injection e with e; omega
    obtain ⟨D, e1, e2⟩ := hF.kept g4 hx
    exact ⟨D, e1.drew, e2⟩
theorem HSt.alloc {w wr : World} {m kb : Nat} {k : Knd} {l : List UInt8} {hd : Value → List Value} {k0 n : Nat} {S : Int → Bool} {v : Value} (h : HSt w m kb k l hd wr k0 n S v) (o : Obj) : HSt w m kb k l hd (wr.alloc o) k0 n S v :=
  ⟨below_alloc h.below (Nat.le_refl _) o, by have := h.size; simp; omega, (Below.heap_alloc _ _ _ (heap_lt h.head)).trans h.head, (Below.heap_alloc _ _ _ (heap_lt h.flds)).trans h.flds, h.nums.alloc o, by
    obtain ⟨D, e1, e2⟩ := h.free
    exact ⟨D, e1.alloc o, e2⟩⟩
theorem HSt.upd {w wr w' : World} {m kb : Nat} {k : Knd} {l : List UInt8} {hd : Value → List Value} {k0 n n' : Nat} {S S' : Int → Bool} {v : Value} (h : HSt w m kb k l hd wr k0 n S v) (hm : w.heap.size < m) (hkb : kb < m)
    (hF : FreeMap w' m n' S') (hG : wr.grownBy w' (some m)) : HSt w m kb k l hd w' k0 n' S' v :=
  ⟨h.below.grown hG h.below.size (fun k hk => by injection hk with hk; omega), Nat.lt_of_lt_of_le h.size hG.size, (hG.block _ (heap_lt h.head) (fun e => by injection e with e; omega)).trans h.head,
   (hG.block _ (heap_lt h.flds) (fun e => by injection e with e; omega)).trans h.flds, h.nums.kept hG (by
    cases hv : v.ownBlock with
    | none => exact .inl rfl
    | some g => exact .inr (fun e => by injection e with e; have := (h.nums.lt g hv).1; omega)), hF⟩
theorem HSt.later {w wr w' : World} {m kb : Nat} {k : Knd} {l : List UInt8} {hd : Value → List Value} {k0 n : Nat} {S : Int → Bool} {v : Value} (h : HSt w m kb k l hd wr k0 n S v) (hb : Below wr.heap.size wr w') : HSt w m kb k l hd w' k0 n S v := by
  have hG : wr.grownBy w' none := ⟨hb.os, hb.tape, hb.output, hb.size, fun i hi _ => hb.block i hi⟩
  refine ⟨h.below.trans (hb.mono h.below.size), Nat.lt_of_lt_of_le h.size hb.size, (hb.block _ (heap_lt h.head)).trans h.head, (hb.block _ (heap_lt h.flds)).trans h.flds, h.nums.kept hG ?_, h.free.kept hG (by simp)⟩
  cases hv : v.ownBlock with
  | none => exact .inl rfl
  | some g => exact .inr (by simp)
theorem own_slice {w : World} {base : Nat} {e : TypeId} {size n : Nat} {v : Value} {xs : List Value} (h : w.ownsRow base e size v n xs) : ∃ a m c, v = .slice a m c := by
  rcases h.2 with ⟨rfl, _⟩ | ⟨g, cap, cur, rfl, _⟩
  · exact ⟨_, _, _, rfl⟩
  · exact ⟨_, _, _, rfl⟩
/-- Behind the append: all but the numbers stands. -/
theorem HSt.appended {w wr w' : World} {m kb : Nat} {k : Knd} {l : List UInt8} {hd : Value → List Value} {k0 n : Nat} {S : Int → Bool} {v : Value} (h : HSt w m kb k l hd wr k0 n S v) (o : Obj) (hm : w.heap.size < m) (hkb : kb < m)
    (hG : (wr.alloc o).grownBy w' v.ownBlock) : Below w.heap.size w w' ∧ m < w'.heap.size ∧ w'.heap[w.heap.size]? = some (.cells (hd v).toArray 37 (0, 0)) ∧
      w'.heap[kb]? = some (.cells (k.l.flatMap Fld.cells).toArray 112) ∧ FreeMap w' m n S := by
  have h2 := h.alloc o
  have hv : ∀ g, v.ownBlock = some g → m + 1 ≤ g := fun g e => (h.nums.lt g e).1
  have hne : ∀ i, i ≤ m → some i ≠ v.ownBlock := fun i hi e => by have := hv i e.symm; omega
  exact ⟨h2.below.grown hG h2.below.size (fun g e => by have := hv g e; omega), Nat.lt_of_lt_of_le h2.size hG.size, (hG.block _ (heap_lt h2.head) (hne _ (by omega))).trans h2.head, (hG.block _ (heap_lt h2.flds) (hne _ (by omega))).trans h2.flds, h2.free.kept hG (hne m (Nat.le_refl _))⟩
/-- Behind the store of the longer row. -/
theorem HSt.stored {w w' : World} {m kb : Nat} {k : Knd} {l : List UInt8} {op fl : Int} {nb : Bool} {k0 n : Nat} {S : Int → Bool} {v v' : Value} {f : Fld} (hm : w.heap.size < m) (hne : kb ≠ w.heap.size)
    (h : Below w.heap.size w w' ∧ m < w'.heap.size ∧ w'.heap[w.heap.size]? = some (.cells ((fun v : Value => [Value.int .i64 op, .bool nb, .int .i64 fl, v]) v).toArray 37 (0, 0)) ∧
      w'.heap[kb]? = some (.cells (k.l.flatMap Fld.cells).toArray 112) ∧ FreeMap w' m n S) (hf : k.l[k0]? = some f)
    (hown : w'.ownsRow (m + 1) 60 1 v' (k0 + 1) (numsV l (k.l.take k0) ++ [.int .u64 (numOf l f)])) :
    HSt w m kb k l (fun v => [.int .i64 op, .bool nb, .int .i64 fl, v]) (w'.setCell ⟨w.heap.size, 3, none⟩ v') (k0 + 1) n S v' := by
  obtain ⟨h1, h2, h3, h4, h5⟩ := h
  have g := grown_setCell w' ⟨w.heap.size, 3, none⟩ v'
  refine ⟨h1.setCell (p := ⟨w.heap.size, 3, none⟩) (Nat.le_refl _) _, Nat.lt_of_lt_of_le h2 g.size, heap_setCell_same _ _ 3 _ _ _ h3, (g.block _ (heap_lt h4) (by simpa using hne)).trans h4, ?_, h5.kept g (fun e => by injection e with e; simp at e; omega)⟩
  have : numsV l (k.l.take (k0 + 1)) = numsV l (k.l.take k0) ++ [.int .u64 (numOf l f)] := by
    rw [List.take_add_one, hf]
    simp [numsV]
  rw [this]
  refine hown.kept g ?_
  cases hv : v'.ownBlock with
  | none => exact .inl rfl
  | some q => exact .inr (fun e => by injection e with e; have := (hown.lt q hv).1; simp at e; omega)
def headOk (l : List UInt8) (k : Knd) : Bool := (List.range 48).all fun t => (baseFree (t : Nat) || inF k.l (t : Nat)) || (l.getD t 0).toNat == 0
theorem headOk_true {l : List UInt8} {k : Knd} (h : ∀ t : Nat, t < 48 → ((baseFree t || inF k.l t) || (l.getD t 0).toNat == 0) = true) : headOk l k = true := by
  unfold headOk
  rw [List.all_eq_true]
  intro t ht
  exact h t (List.mem_range.1 ht)
theorem headOk_false {l : List UInt8} {k : Knd} {t : Nat} (ht : t < 48) (h : ((baseFree t || inF k.l t) || (l.getD t 0).toNat == 0) = false) : headOk l k = false := by
  unfold headOk
  rw [List.all_eq_false]
  exact ⟨t, List.mem_range.2 ht, by rw [h]; simp⟩
theorem getD_byte (s : ByteArray) (t : Nat) (h : t < s.size) : s.data.toList.getD t 0 = s[t] := by
  have h' : t < s.data.toList.length := by rw [← Lib.size_eq]; exact h
  rw [List.getD_eq_getElem?_getD, List.getElem?_eq_getElem h']
  rfl
def HeadPost (w : World) (l : List UInt8) (k : Knd) (op : Int) (nb : Bool) (fl : Int) (e : Ending) (w' : World) : Prop :=
  Below w.heap.size w w' ∧ ((headOk l k = true ∧ ∃ v, e = .returned (.tuple #[.agg #[.int .i64 op, .bool nb, .int .i64 fl, v], .int .i64 (l.getD 4 0).toNat, .int .i64 (beN ((l.drop 5).take 3)), .int .i64 0]) ∧
    w'.ownsRow w.heap.size 60 1 v k.l.length (numsV l k.l)) ∨ (headOk l k = false ∧ e = .returned (.tuple #[hzV, .int .i64 0, .int .i64 0, .int .i64 3])))
theorem own_mono {w : World} {base base' : Nat} {e : TypeId} {size n : Nat} {v : Value} {xs : List Value} (h : w.ownsRow base e size v n xs) (hb : base' ≤ base) : w.ownsRow base' e size v n xs := by
  refine ⟨h.1, ?_⟩
  rcases h.2 with h2 | ⟨g, cap, cur, h1, h2, h3⟩
  · exact .inl h2
  · exact .inr ⟨g, cap, cur, h1, Nat.le_trans hb h2, h3⟩
/-- Behind the last store of the head into itself. -/
theorem HSt.last {w wr : World} {m kb : Nat} {k : Knd} {l : List UInt8} {op fl : Int} {nb : Bool} {n : Nat} {S : Int → Bool} {v : Value} (hm : w.heap.size < m)
    (h : HSt w m kb k l (fun v => [.int .i64 op, .bool nb, .int .i64 fl, v]) wr k.l.length n S v) :
    Below w.heap.size w ((((wr.setCell ⟨w.heap.size, 0, none⟩ (.int .i64 op)).setCell ⟨w.heap.size, 1, none⟩ (.bool nb)).setCell ⟨w.heap.size, 2, none⟩ (.int .i64 fl)).setCell ⟨w.heap.size, 3, none⟩ v).drew ∧
    ((((wr.setCell ⟨w.heap.size, 0, none⟩ (.int .i64 op)).setCell ⟨w.heap.size, 1, none⟩ (.bool nb)).setCell ⟨w.heap.size, 2, none⟩ (.int .i64 fl)).setCell ⟨w.heap.size, 3, none⟩ v).drew.rangeAt w.heap.size 0 [.int .i64 op, .bool nb, .int .i64 fl, v] ∧
    ((((wr.setCell ⟨w.heap.size, 0, none⟩ (.int .i64 op)).setCell ⟨w.heap.size, 1, none⟩ (.bool nb)).setCell ⟨w.heap.size, 2, none⟩ (.int .i64 fl)).setCell ⟨w.heap.size, 3, none⟩ v).drew.ownsRow w.heap.size 60 1 v k.l.length (numsV l k.l) := by
  have g1 := grown_setCell wr ⟨w.heap.size, 0, none⟩ (.int .i64 op)
  have g2 := grown_trans g1 (grown_setCell _ ⟨w.heap.size, 1, none⟩ (.bool nb))
  have g3 := grown_trans g2 (grown_setCell _ ⟨w.heap.size, 2, none⟩ (.int .i64 fl))
  have g4 := grown_trans g3 (grown_setCell _ ⟨w.heap.size, 3, none⟩ v)
  refine ⟨?_, ?_, ?_⟩
  · exact ((((h.below.setCell (p := ⟨w.heap.size, 0, none⟩) (Nat.le_refl _) _).setCell (p := ⟨w.heap.size, 1, none⟩) (Nat.le_refl _) _).setCell (p := ⟨w.heap.size, 2, none⟩) (Nat.le_refl _) _).setCell (p := ⟨w.heap.size, 3, none⟩) (Nat.le_refl _) _).drew
  · exact range_of_heap (t := 37) (heap_setCell_same _ _ 3 _ _ _ (heap_setCell_same _ _ 2 _ _ _ (heap_setCell_same _ _ 1 _ _ _ (heap_setCell_same _ _ 0 _ _ _ h.head))))
  · have hx : v.ownBlock = none ∨ v.ownBlock ≠ some w.heap.size := by
      cases hv : v.ownBlock with
      | none => exact .inl rfl
      | some g => exact .inr (fun e => by injection e with e; have := (h.nums.lt g hv).1; omega)
    have := own_mono (h.nums.kept g4 hx) (base' := w.heap.size) (by omega)
    rw [List.take_length] at this
    exact this
theorem u64_info : (Tryz.prog.info? 60).map (fun i => (i.zero, i.size, i.bytes)) = some (some (.int .u64 0), 1, 8) := by kernel_rfl
theorem makeMap_run (w : World) : (Instr.makeMap 110 none).run Tryz.prog w = .ok (.map (some w.heap.size)) (w.alloc (.map #[] 0)) := rfl
set_option maxRecDepth 100000 in
set_option maxHeartbeats 8000000 in
theorem headread_ok0 (s : ByteArray) (w : World) (k : Knd) (h : s.size = 48) (q1 : ((s[0].toNat : Int) / 128 % 256 == 1) = false) (q2 : kindOf ((s[0].toNat : Int) % 64) = some k)
    (q3 : ((s[0].toNat : Int) / 64 % 256 == 1) = false) (q4 : (bits .or .i64 (s[1].toNat : Int) k.m != k.m) = false) : Calls Tryz.prog 26 #[.string s] w fun e w' =>
    HeadPost w s.data.toList k ((s[0].toNat : Int) % 64) false (s[1].toNat : Int) e w' := by
  have h0 : (((s.size : Nat) : Int) == 48) = true := by simp [h]
  have h1 : (0 : Int) < (s.size : Int) := by omega
  have h2 : (1 : Int) < (s.size : Int) := by omega
  have hw1 := IntWalk.i64_in ((s[1].toNat : Nat) : Int) (by have := s[1].toNat_lt; omega)
  have hmk := makeMap_run
  have hfit := kind_fit q2
  have kn := kind_some ((s[0].toNat : Int) % 64) k q2
  have KN := Lib.hid kn
  clear kn q2
  go_enter Tryz.func26, Tryz.ntmps26
  go_wp2_with fail
  refine (KN.out _).mono ?_
  rintro e w1 ⟨kb, rfl, hb, hk⟩
  have hH : w1.heap[w.heap.size]? = some (.cells #[.int .i64 0, .bool false, .int .i64 0, .slice none 0 0] 37 (0, 0)) := (hb.block _ (by simp)).trans (alloc_heap_new w _)
  have hbb : Below w.heap.size w w1 := (below_alloc (Below.refl _ w) (Nat.le_refl _) _).trans (hb.mono (by simp))
  have HH := Lib.hid hH
  have HKB := Lib.hid hk
  clear hH hk
  go_wp2_with (first
    | (refine wpList_insert_free rfl _ _ _ (.inl rfl) w1.heap.size _ _ _ rfl rfl rfl (FreeMap.made w1) (by omega) (by omega) ?_; intro w2 hF hG)
    | (refine wpList_insert_free2 rfl _ _ _ (.inl rfl) w1.heap.size _ _ _ rfl rfl rfl hF (by omega) (by omega) hG ?_; clear hF hG; clear w2; intro w2 hF hG))
  have hlt1 : w.heap.size < w1.heap.size := Nat.lt_of_lt_of_le (by simp) hb.size
  have hkl : kb < w1.heap.size := heap_lt HKB.out
  have hne : kb ≠ w.heap.size := by
    intro e; rw [e, HH.out] at HKB; have := HKB.out; simp at this
  have hH2 : w2.heap[w.heap.size]? = some (.cells #[.int .i64 0, .bool false, .int .i64 0, .slice none 0 0] 37 (0, 0)) := (hG.block _ (by simp; omega) (by simp; omega)).trans ((Below.heap_alloc w1 _ _ hlt1).trans HH.out)
  have hK2 : w2.heap[kb]? = some (.cells (k.l.flatMap Fld.cells).toArray 112) := (hG.block _ (by simp; omega) (by simp; omega)).trans ((Below.heap_alloc w1 _ _ hkl).trans HKB.out)
  have hb2 : Below w.heap.size w w2 := Below.grown (below_alloc hbb (Nat.le_refl _) (.map #[] 0)) hG (by simp; omega) (by intro k hk; simp at hk; omega)
  have c0 : w2.cell? ⟨w.heap.size, 0, none⟩ = some (.int .i64 0) := by simp [World.cell?, hH2]
  have c1 : w2.cell? ⟨w.heap.size, 1, none⟩ = some (.bool false) := by simp [World.cell?, hH2]
  have c2 : w2.cell? ⟨w.heap.size, 2, none⟩ = some (.int .i64 0) := by simp [World.cell?, hH2]
  have c3 : w2.cell? ⟨w.heap.size, 3, none⟩ = some (.slice none 0 0) := by simp [World.cell?, hH2]
  have f0 : w2.frozen? ⟨w.heap.size, 0, none⟩ = false := by simp [World.frozen?, hH2]
  have f1 : w2.frozen? ⟨w.heap.size, 1, none⟩ = false := by simp [World.frozen?, hH2]
  have f2 : w2.frozen? ⟨w.heap.size, 2, none⟩ = false := by simp [World.frozen?, hH2]
  have f3 : w2.frozen? ⟨w.heap.size, 3, none⟩ = false := by simp [World.frozen?, hH2]
  have HF := Lib.hid hF
  have HG := Lib.hid hG
  have HH2 := Lib.hid hH2
  have HK2 := Lib.hid hK2
  have HB2 := Lib.hid hb2
  clear hF hG hH2 hK2 hb2 hmk HH HKB KN
  go_region
  go_wp2_with fail
  have hst := hst_start (l := s.data.toList) (op := (s[0].toNat : Int) % 64) (nb := false) (fl := (s[1].toNat : Int)) hlt1 hkl hne HB2.out HF.out HH2.out HK2.out
  generalize hW : World.drew _ = W at hst ⊢
  generalize hd : (fun v : Value => [Value.int .i64 ((s[0].toNat : Int) % 64), .bool false, .int .i64 (s[1].toNat : Int), v]) = hdf at hst
  have HD := Lib.hid hd
  have HST := Lib.hid hst
  have HFIT := Lib.hid hfit
  clear hst hd hW c0 c1 c2 c3 f0 f1 f2 f3 HF HG HH2 HK2 HB2 hfit
  clear w2
  go_loopw [74] (fun i wr => ∃ (k0 n : Nat) (S : Int → Bool) (v : Value), k0 ≤ k.l.length ∧ i = .int .i64 k0 ∧ HSt w w1.heap.size kb k s.data.toList hdf wr k0 n S v ∧ n ≤ 6 + 8 * k0 ∧ ∀ j, S j = (baseFree j || inF (k.l.take k0) j)) (fun i _ => k.l.length - (intOf i).toNat)
  case atStart => exact ⟨0, 6, baseFree, _, Nat.zero_le _, rfl, HST.out, by omega, fun j => by simp [inF]⟩
  case round =>
    obtain ⟨wo, hwo⟩ : ∃ X, X = wr := ⟨_, rfl⟩
    subst hwo
    obtain ⟨k0, n, S, v, hk0, rfl, hst, hn, hS⟩ := hrel
    have HST0 := Lib.hid hst
    have HS := Lib.hid hS
    clear hst hS
    by_cases hlt : k0 < k.l.length
    · obtain ⟨f, hf⟩ : ∃ f, k.l[k0]? = some f := ⟨_, List.getElem?_eq_getElem hlt⟩
      have hfr := range_flat Fld.cells (n := 3) (fun _ => rfl) k.l HST0.out.flds hf
      have d0 : wo.cell? ⟨kb, k0 * 3, none⟩ = some (.string f.n) := hfr 0 _ rfl
      have d1 : wo.cell? ⟨kb, k0 * 3 + 1, none⟩ = some (.int .i64 f.a) := hfr 1 _ rfl
      have d2 : wo.cell? ⟨kb, k0 * 3 + 2, none⟩ = some (.int .i64 f.b) := hfr 2 _ rfl
      have HFF := Lib.hid hf
      have hlti : (k0 : Int) < (k.l.length : Int) := by omega
      clear hfr hf
      go_wp2_with fail
      obtain ⟨fa, fb, fc, fd⟩ := HFIT.out.2 f (List.mem_of_getElem? HFF.out)
      have fl := HFIT.out.1
      go_loopw [80] (fun q wr' => ∃ (q0 n' : Nat) (S' : Int → Bool), (q0 : Int) ≤ f.b ∧ q = .int .i64 q0 ∧ HSt w w1.heap.size kb k s.data.toList hdf wr' k0 n' S' v ∧ n' ≤ n + q0 ∧ (∀ j, S' j = (S j || (decide (f.a ≤ j) && decide (j < f.a + q0)))) ∧
        wr'.heap[wo.heap.size]? = some (.cells #[.string f.n, .int .i64 f.a, .int .i64 f.b] 112 (0, 0))) (fun q _ => (f.b - intOf q).toNat)
      case atStart =>
        refine ⟨0, n, S, by omega, rfl, HST0.out.alloc _, by omega, fun j => ?_, alloc_heap_new _ _⟩
        have : (decide (f.a ≤ j) && decide (j < f.a + ((0 : Nat) : Int))) = false := by
          by_cases e : f.a ≤ j
          · simp
          · simp [e]
        rw [this, Bool.or_false]
      case round =>
        obtain ⟨q0, n', S', hq, rfl, hst', hn', hS', hfb⟩ := hrel
        have e0 : wr.cell? ⟨wo.heap.size, 0, none⟩ = some (.string f.n) := by simp [World.cell?, hfb]
        have e1 : wr.cell? ⟨wo.heap.size, 1, none⟩ = some (.int .i64 f.a) := by simp [World.cell?, hfb]
        have e2 : wr.cell? ⟨wo.heap.size, 2, none⟩ = some (.int .i64 f.b) := by simp [World.cell?, hfb]
        have HST1 := Lib.hid hst'
        have HS1 := Lib.hid hS'
        have HFB := Lib.hid hfb
        clear hst' hS' hfb
        by_cases hqlt : (q0 : Int) < f.b
        · have hwa := IntWalk.i64_in (f.a + (q0 : Int)) (by omega)
          go_wp2_with (refine wpList_insert_free rfl _ _ _ (.inr rfl) w1.heap.size _ _ (f.a + (q0 : Int)) rfl rfl rfl HST1.out.free (by omega) (by omega) ?_; intro w3 hF hG)
          refine ⟨⟨q0 + 1, n' + 1, _, by omega, by go_num, HST1.out.upd hlt1 hkl hF hG, by omega, fun j => ?_, ?_⟩, by simp [intOf]; omega⟩
          · show (decide (j = f.a + (q0 : Int)) || S' j) = _
            rw [HS1.out j]
            by_cases hSj : S j = true
            · simp [hSj]
            · simp only [Bool.not_eq_true] at hSj
              rw [hSj, Bool.eq_iff_iff]
              simp
              omega
          · exact (hG.block _ (heap_lt HFB.out) (fun e => by injection e with e; have := HST0.out.size; omega)).trans HFB.out
        · have hqe : (q0 : Int) = f.b := by omega
          have hwa := IntWalk.i64_in (f.a + f.b) (by omega)
          go_wp2_with fail
          have hex : (s.extract f.a.toNat (f.a + f.b).toNat).data.toList = (s.data.toList.drop f.a.toNat).take f.b.toNat := by
            rw [Lib.extract_data]; congr 1; omega
          have hez : (s.extract f.a.toNat (f.a + f.b).toNat).size ≤ 8 := by
            rw [Lib.size_eq, hex]; exact Nat.le_trans (List.length_take_le _ _) (by omega)
          have hun := unnumber_any (s.extract f.a.toNat (f.a + f.b).toNat) wr hez
          rw [hex] at hun
          have HUN := Lib.hid hun
          have HST2 := Lib.hid HST1.out
          have HS2 := Lib.hid HS1.out
          clear hun hex HST1 HS1
          refine HUN.out.mono ?_
          rintro e w4 ⟨rfl, hb4⟩
          have hst4 := HST2.out.later hb4
          have hc3 : w4.cell? ⟨w.heap.size, 3, none⟩ = some v := by
            have := hst4.head
            rw [← HD.out] at this
            simp [World.cell?, this]
          have hfz : w4.frozen? ⟨w.heap.size, 3, none⟩ = false := by simp [World.frozen?, hst4.head]
          have HST4 := Lib.hid hst4
          obtain ⟨i0, hi, hz0, hz1, hz2⟩ := info_parts u64_info
          obtain ⟨N, hN⟩ : ∃ N, N = beN ((s.data.toList.drop f.a.toNat).take f.b.toNat) := ⟨_, rfl⟩
          rw [← hN]
          have HN := Lib.hid hN
          clear hst4 hN hb4
          go_wp2_with (at_builtin; go_loud (refine wpList_append_own _ rfl _ _ 35 rfl (w1.heap.size + 1) 60 i0 (.int .u64 0) 1 8 Tryz.underlying35 hi hz0 hz1 hz2 rfl (by decide) _ _ _ rfl (HST4.out.nums.alloc _) ⟨w4.heap.size, 0, none⟩ 1 1 [.int .u64 N] rfl rfl (cell_one_new _ _ _) (fun x hx => by simp at hx; subst hx; rfl) (by unfold maxLen; omega) (by omega) (by have := HST4.out.size; simp; omega) ?_; intro v' w5 hown' hgrow5 hnil5; obtain ⟨av, nv, cv, rfl⟩ := own_slice hown'; have H5 := HST4.out.appended _ hlt1 hkl hgrow5; have hh5 := H5.2.2.1; rw [← HD.out] at hh5; have hc5 : w5.cell? ⟨w.heap.size, 3, none⟩ = some v := (by simp [World.cell?, hh5]); have hf5 : w5.frozen? ⟨w.heap.size, 3, none⟩ = false := (by simp [World.frozen?, hh5]); clear hh5; have HH5 := Lib.hid H5; have HOWN := Lib.hid hown'; clear H5 hown' hnil5 hgrow5))
          have hnum : N = numOf s.data.toList f := HN.out
          have hown6 := HOWN.out
          rw [hnum] at hown6
          have H6 := HH5.out
          have HS3 := HD.out
          subst HS3
          refine ⟨⟨k0 + 1, n', S', _, by omega, by go_num, HSt.stored hlt1 hne H6 HFF.out hown6, by omega, fun j => ?_⟩, by simp [intOf]; omega⟩
          rw [HS2.out j, HS.out j, List.take_add_one, HFF.out, hqe]
          simp [inF, Bool.or_assoc]
    · obtain rfl : k0 = k.l.length := by omega
      have hlen48 : ((s.size : Nat) : Int) = 48 := by omega
      have hSall : ∀ j, S j = (baseFree j || inF k.l j) := fun j => by rw [HS.out j, List.take_length]
      have HSA := Lib.hid hSall
      clear hSall
      have hh0 := HST0.out.head
      rw [← HD.out] at hh0
      have HH0 := Lib.hid hh0
      clear hh0
      go_wp2_with fail
      go_loop [111] (fun i => ∃ j0 : Nat, j0 ≤ 48 ∧ i = .int .i64 j0 ∧ ∀ t : Nat, t < j0 → ((baseFree t || inF k.l t) || (s.data.toList.getD t 0).toNat == 0) = true) (fun i => 48 - (intOf i).toNat)
      case atStart => exact ⟨0, by omega, rfl, fun t ht => by omega⟩
      case round =>
        obtain ⟨j0, hj0, rfl, hall⟩ := hrel
        have HALL := Lib.hid hall
        clear hall
        by_cases hjl : j0 < 48
        · have hjs : j0 < s.size := by omega
          have hji : (j0 : Int) < 48 := by omega
          have hji2 : (j0 : Int) < (s.size : Int) := by omega
          have hl := HST0.out.free.lookup (j0 : Int) (by omega)
          by_cases hSj : S (j0 : Int) = true
          · rw [hSj] at hl
            go_wp2_with fail
            refine ⟨⟨j0 + 1, by omega, by go_num, fun t ht => ?_⟩, by simp [intOf]; omega⟩
            by_cases e : t < j0
            · exact HALL.out t e
            · obtain rfl : t = j0 := by omega
              rw [← HSA.out, hSj]; rfl
          · replace hSj : S (j0 : Int) = false := by simpa using hSj
            rw [hSj] at hl
            by_cases hz : (s[j0]'hjs).toNat = 0
            · have hzb : (((s[j0]'hjs).toNat : Int) != 0) = false := by simp [hz]
              go_wp2_with fail
              refine ⟨⟨j0 + 1, by omega, by go_num, fun t ht => ?_⟩, by simp [intOf]; omega⟩
              by_cases e : t < j0
              · exact HALL.out t e
              · obtain rfl : t = j0 := by omega
                rw [getD_byte s t hjs, hz]; simp
            · have hzb : (((s[j0]'hjs).toNat : Int) != 0) = true := by simpa using hz
              go_wp2_with (refine wpList_store_row rfl 37 _ _ rfl w.heap.size #[.int .i64 0, .bool false, .int .i64 0, .slice none 0 0] rfl rfl 37 _ HH0.out headinfo rfl (by simp [Value.oneCell']) ?_)
              refine bodyPost_ret (results_cell3 Tryz.results26 _ _ w.heap.size [.int .i64 0, .bool false, .int .i64 0, .slice none 0 0] _ rfl (range_of_heap (setRow_heap _ _ _ _ _ _ HH0.out)) Tryz.underlying37 rfl headinfo) rfl ⟨below_setRow HST0.out.below (Nat.le_refl _) _, .inr ⟨headOk_false hjl ?_, rfl⟩⟩
              rw [getD_byte s j0 hjs, ← HSA.out, hSj]
              simpa using hz
        · obtain rfl : j0 = 48 := by omega
          have hok := headOk_true HALL.out
          have h5 : (5 : Int) ≤ 8 := by omega
          have h8 : (8 : Int) ≤ (s.size : Int) := by omega
          have h4 : (4 : Int) < (s.size : Int) := by omega
          go_wp2_with fail
          have hex : (s.extract 5 8).data.toList = (s.data.toList.drop 5).take 3 := by rw [Lib.extract_data]
          have hez : (s.extract 5 8).size ≤ 8 := by
            rw [Lib.size_eq, hex]; exact Nat.le_trans (List.length_take_le _ _) (by omega)
          have hun := unnumber_any (s.extract 5 8) wo hez
          rw [hex] at hun
          have hlt3 := beN_lt ((s.data.toList.drop 5).take 3).length _ rfl
          have hle3 : ((s.data.toList.drop 5).take 3).length ≤ 3 := List.length_take_le _ _
          have hpw : 256 ^ ((s.data.toList.drop 5).take 3).length ≤ 256 ^ 3 := Nat.pow_le_pow_right (by decide) hle3
          obtain ⟨N, hN⟩ : ∃ N, N = beN ((s.data.toList.drop 5).take 3) := ⟨_, rfl⟩
          rw [← hN] at hun hlt3
          have hN16 : (N : Int) ≤ 16777215 := by omega
          have HN := Lib.hid hN
          have HUN := Lib.hid hun
          clear hun hex hlt3 hpw hN hle3
          refine HUN.out.mono ?_
          rintro e w6 ⟨rfl, hb6⟩
          have hst6 := HST0.out.later hb6
          have hH6 := hst6.head
          rw [← HD.out] at hH6
          obtain ⟨av, nv, cv, rfl⟩ := own_slice hst6.nums
          have c0 : w6.cell? ⟨w.heap.size, 0, none⟩ = some (.int .i64 ((s[0].toNat : Int) % 64)) := by simp [World.cell?, hH6]
          have c1 : w6.cell? ⟨w.heap.size, 1, none⟩ = some (.bool false) := by simp [World.cell?, hH6]
          have c2 : w6.cell? ⟨w.heap.size, 2, none⟩ = some (.int .i64 (s[1].toNat : Int)) := by simp [World.cell?, hH6]
          have c3 : w6.cell? ⟨w.heap.size, 3, none⟩ = some (.slice av nv cv) := by simp [World.cell?, hH6]
          have f0 : w6.frozen? ⟨w.heap.size, 0, none⟩ = false := by simp [World.frozen?, hH6]
          have f1 : w6.frozen? ⟨w.heap.size, 1, none⟩ = false := by simp [World.frozen?, hH6]
          have f2 : w6.frozen? ⟨w.heap.size, 2, none⟩ = false := by simp [World.frozen?, hH6]
          have f3 : w6.frozen? ⟨w.heap.size, 3, none⟩ = false := by simp [World.frozen?, hH6]
          have hw4 := IntWalk.i64_in ((s[4].toNat : Nat) : Int) (by have := s[4].toNat_lt; omega)
          have hwN := IntWalk.i64_in (N : Int) (by omega)
          have HST6 := Lib.hid hst6
          have HH6 := Lib.hid hH6
          clear hst6 hH6 hb6
          go_wp2_with fail
          go_region
          go_wp2_with fail
          have hst7 := HST6.out
          rw [← HD.out] at hst7
          obtain ⟨r1, r2, r3⟩ := hst7.last hlt1
          refine bodyPost_ret (results_cell3 Tryz.results26 _ _ w.heap.size [.int .i64 ((s[0].toNat : Int) % 64), .bool false, .int .i64 (s[1].toNat : Int), .slice av nv cv] _ rfl r2 Tryz.underlying37 rfl headinfo) rfl ⟨r1, .inl ⟨hok, .slice av nv cv, ?_, r3⟩⟩
          rw [getD_byte s 4 (by omega), ← HN.out]
          rfl
end Go.Proofs.YtincgdbfmnnpaaaGreatDoor

/- quaymasterref.HeadRead, behind Kind, a head with the bit Now. -/
namespace Go.Proofs.YtincgdbfmnnpaaaGreatDoor
open Go.RowKit
set_option maxRecDepth 100000 in
set_option maxHeartbeats 8000000 in
theorem headread_ok1 (s : ByteArray) (w : World) (k : Knd) (h : s.size = 48) (q1 : ((s[0].toNat : Int) / 128 % 256 == 1) = false) (q2 : kindOf ((s[0].toNat : Int) % 64) = some k)
    (q3 : ((s[0].toNat : Int) / 64 % 256 == 1) = true) (q5 : ¬ (32 ≤ (s[0].toNat : Int) % 64)) (q4 : (bits .or .i64 (s[1].toNat : Int) k.m != k.m) = false) : Calls Tryz.prog 26 #[.string s] w fun e w' =>
    HeadPost w s.data.toList k ((s[0].toNat : Int) % 64) true (s[1].toNat : Int) e w' := by
  have h0 : (((s.size : Nat) : Int) == 48) = true := by simp [h]
  have h1 : (0 : Int) < (s.size : Int) := by omega
  have h2 : (1 : Int) < (s.size : Int) := by omega
  have hw1 := IntWalk.i64_in ((s[1].toNat : Nat) : Int) (by have := s[1].toNat_lt; omega)
  have hmk := makeMap_run
  have hfit := kind_fit q2
  have kn := kind_some ((s[0].toNat : Int) % 64) k q2
  have KN := Lib.hid kn
  clear kn q2
  go_enter Tryz.func26, Tryz.ntmps26
  go_wp2_with fail
  refine (KN.out _).mono ?_
  rintro e w1 ⟨kb, rfl, hb, hk⟩
  have hH : w1.heap[w.heap.size]? = some (.cells #[.int .i64 0, .bool false, .int .i64 0, .slice none 0 0] 37 (0, 0)) := (hb.block _ (by simp)).trans (alloc_heap_new w _)
  have hbb : Below w.heap.size w w1 := (below_alloc (Below.refl _ w) (Nat.le_refl _) _).trans (hb.mono (by simp))
  have HH := Lib.hid hH
  have HKB := Lib.hid hk
  clear hH hk
  go_wp2_with (first
    | (refine wpList_insert_free rfl _ _ _ (.inl rfl) w1.heap.size _ _ _ rfl rfl rfl (FreeMap.made w1) (by omega) (by omega) ?_; intro w2 hF hG)
    | (refine wpList_insert_free2 rfl _ _ _ (.inl rfl) w1.heap.size _ _ _ rfl rfl rfl hF (by omega) (by omega) hG ?_; clear hF hG; clear w2; intro w2 hF hG))
  have hlt1 : w.heap.size < w1.heap.size := Nat.lt_of_lt_of_le (by simp) hb.size
  have hkl : kb < w1.heap.size := heap_lt HKB.out
  have hne : kb ≠ w.heap.size := by
    intro e; rw [e, HH.out] at HKB; have := HKB.out; simp at this
  have hH2 : w2.heap[w.heap.size]? = some (.cells #[.int .i64 0, .bool false, .int .i64 0, .slice none 0 0] 37 (0, 0)) := (hG.block _ (by simp; omega) (by simp; omega)).trans ((Below.heap_alloc w1 _ _ hlt1).trans HH.out)
  have hK2 : w2.heap[kb]? = some (.cells (k.l.flatMap Fld.cells).toArray 112) := (hG.block _ (by simp; omega) (by simp; omega)).trans ((Below.heap_alloc w1 _ _ hkl).trans HKB.out)
  have hb2 : Below w.heap.size w w2 := Below.grown (below_alloc hbb (Nat.le_refl _) (.map #[] 0)) hG (by simp; omega) (by intro k hk; simp at hk; omega)
  have c0 : w2.cell? ⟨w.heap.size, 0, none⟩ = some (.int .i64 0) := by simp [World.cell?, hH2]
  have c1 : w2.cell? ⟨w.heap.size, 1, none⟩ = some (.bool false) := by simp [World.cell?, hH2]
  have c2 : w2.cell? ⟨w.heap.size, 2, none⟩ = some (.int .i64 0) := by simp [World.cell?, hH2]
  have c3 : w2.cell? ⟨w.heap.size, 3, none⟩ = some (.slice none 0 0) := by simp [World.cell?, hH2]
  have f0 : w2.frozen? ⟨w.heap.size, 0, none⟩ = false := by simp [World.frozen?, hH2]
  have f1 : w2.frozen? ⟨w.heap.size, 1, none⟩ = false := by simp [World.frozen?, hH2]
  have f2 : w2.frozen? ⟨w.heap.size, 2, none⟩ = false := by simp [World.frozen?, hH2]
  have f3 : w2.frozen? ⟨w.heap.size, 3, none⟩ = false := by simp [World.frozen?, hH2]
  have HF := Lib.hid hF
  have HG := Lib.hid hG
  have HH2 := Lib.hid hH2
  have HK2 := Lib.hid hK2
  have HB2 := Lib.hid hb2
  clear hF hG hH2 hK2 hb2 hmk HH HKB KN
  go_region
  go_wp2_with fail
  have hst := hst_start (l := s.data.toList) (op := (s[0].toNat : Int) % 64) (nb := true) (fl := (s[1].toNat : Int)) hlt1 hkl hne HB2.out HF.out HH2.out HK2.out
  generalize hW : World.drew _ = W at hst ⊢
  generalize hd : (fun v : Value => [Value.int .i64 ((s[0].toNat : Int) % 64), .bool true, .int .i64 (s[1].toNat : Int), v]) = hdf at hst
  have HD := Lib.hid hd
  have HST := Lib.hid hst
  have HFIT := Lib.hid hfit
  clear hst hd hW c0 c1 c2 c3 f0 f1 f2 f3 HF HG HH2 HK2 HB2 hfit
  clear w2
  go_loopw [74] (fun i wr => ∃ (k0 n : Nat) (S : Int → Bool) (v : Value), k0 ≤ k.l.length ∧ i = .int .i64 k0 ∧ HSt w w1.heap.size kb k s.data.toList hdf wr k0 n S v ∧ n ≤ 6 + 8 * k0 ∧ ∀ j, S j = (baseFree j || inF (k.l.take k0) j)) (fun i _ => k.l.length - (intOf i).toNat)
  case atStart => exact ⟨0, 6, baseFree, _, Nat.zero_le _, rfl, HST.out, by omega, fun j => by simp [inF]⟩
  case round =>
    obtain ⟨wo, hwo⟩ : ∃ X, X = wr := ⟨_, rfl⟩
    subst hwo
    obtain ⟨k0, n, S, v, hk0, rfl, hst, hn, hS⟩ := hrel
    have HST0 := Lib.hid hst
    have HS := Lib.hid hS
    clear hst hS
    by_cases hlt : k0 < k.l.length
    · obtain ⟨f, hf⟩ : ∃ f, k.l[k0]? = some f := ⟨_, List.getElem?_eq_getElem hlt⟩
      have hfr := range_flat Fld.cells (n := 3) (fun _ => rfl) k.l HST0.out.flds hf
      have d0 : wo.cell? ⟨kb, k0 * 3, none⟩ = some (.string f.n) := hfr 0 _ rfl
      have d1 : wo.cell? ⟨kb, k0 * 3 + 1, none⟩ = some (.int .i64 f.a) := hfr 1 _ rfl
      have d2 : wo.cell? ⟨kb, k0 * 3 + 2, none⟩ = some (.int .i64 f.b) := hfr 2 _ rfl
      have HFF := Lib.hid hf
      have hlti : (k0 : Int) < (k.l.length : Int) := by omega
      clear hfr hf
      go_wp2_with fail
      obtain ⟨fa, fb, fc, fd⟩ := HFIT.out.2 f (List.mem_of_getElem? HFF.out)
      have fl := HFIT.out.1
      go_loopw [80] (fun q wr' => ∃ (q0 n' : Nat) (S' : Int → Bool), (q0 : Int) ≤ f.b ∧ q = .int .i64 q0 ∧ HSt w w1.heap.size kb k s.data.toList hdf wr' k0 n' S' v ∧ n' ≤ n + q0 ∧ (∀ j, S' j = (S j || (decide (f.a ≤ j) && decide (j < f.a + q0)))) ∧
        wr'.heap[wo.heap.size]? = some (.cells #[.string f.n, .int .i64 f.a, .int .i64 f.b] 112 (0, 0))) (fun q _ => (f.b - intOf q).toNat)
      case atStart =>
        refine ⟨0, n, S, by omega, rfl, HST0.out.alloc _, by omega, fun j => ?_, alloc_heap_new _ _⟩
        have : (decide (f.a ≤ j) && decide (j < f.a + ((0 : Nat) : Int))) = false := by
          by_cases e : f.a ≤ j
          · simp
          · simp [e]
        rw [this, Bool.or_false]
      case round =>
        obtain ⟨q0, n', S', hq, rfl, hst', hn', hS', hfb⟩ := hrel
        have e0 : wr.cell? ⟨wo.heap.size, 0, none⟩ = some (.string f.n) := by simp [World.cell?, hfb]
        have e1 : wr.cell? ⟨wo.heap.size, 1, none⟩ = some (.int .i64 f.a) := by simp [World.cell?, hfb]
        have e2 : wr.cell? ⟨wo.heap.size, 2, none⟩ = some (.int .i64 f.b) := by simp [World.cell?, hfb]
        have HST1 := Lib.hid hst'
        have HS1 := Lib.hid hS'
        have HFB := Lib.hid hfb
        clear hst' hS' hfb
        by_cases hqlt : (q0 : Int) < f.b
        · have hwa := IntWalk.i64_in (f.a + (q0 : Int)) (by omega)
          go_wp2_with (refine wpList_insert_free rfl _ _ _ (.inr rfl) w1.heap.size _ _ (f.a + (q0 : Int)) rfl rfl rfl HST1.out.free (by omega) (by omega) ?_; intro w3 hF hG)
          refine ⟨⟨q0 + 1, n' + 1, _, by omega, by go_num, HST1.out.upd hlt1 hkl hF hG, by omega, fun j => ?_, ?_⟩, by simp [intOf]; omega⟩
          · show (decide (j = f.a + (q0 : Int)) || S' j) = _
            rw [HS1.out j]
            by_cases hSj : S j = true
            · simp [hSj]
            · simp only [Bool.not_eq_true] at hSj
              rw [hSj, Bool.eq_iff_iff]
              simp
              omega
          · exact (hG.block _ (heap_lt HFB.out) (fun e => by injection e with e; have := HST0.out.size; omega)).trans HFB.out
        · have hqe : (q0 : Int) = f.b := by omega
          have hwa := IntWalk.i64_in (f.a + f.b) (by omega)
          go_wp2_with fail
          have hex : (s.extract f.a.toNat (f.a + f.b).toNat).data.toList = (s.data.toList.drop f.a.toNat).take f.b.toNat := by
            rw [Lib.extract_data]; congr 1; omega
          have hez : (s.extract f.a.toNat (f.a + f.b).toNat).size ≤ 8 := by
            rw [Lib.size_eq, hex]; exact Nat.le_trans (List.length_take_le _ _) (by omega)
          have hun := unnumber_any (s.extract f.a.toNat (f.a + f.b).toNat) wr hez
          rw [hex] at hun
          have HUN := Lib.hid hun
          have HST2 := Lib.hid HST1.out
          have HS2 := Lib.hid HS1.out
          clear hun hex HST1 HS1
          refine HUN.out.mono ?_
          rintro e w4 ⟨rfl, hb4⟩
          have hst4 := HST2.out.later hb4
          have hc3 : w4.cell? ⟨w.heap.size, 3, none⟩ = some v := by
            have := hst4.head
            rw [← HD.out] at this
            simp [World.cell?, this]
          have hfz : w4.frozen? ⟨w.heap.size, 3, none⟩ = false := by simp [World.frozen?, hst4.head]
          have HST4 := Lib.hid hst4
          obtain ⟨i0, hi, hz0, hz1, hz2⟩ := info_parts u64_info
          obtain ⟨N, hN⟩ : ∃ N, N = beN ((s.data.toList.drop f.a.toNat).take f.b.toNat) := ⟨_, rfl⟩
          rw [← hN]
          have HN := Lib.hid hN
          clear hst4 hN hb4
          go_wp2_with (at_builtin; go_loud (refine wpList_append_own _ rfl _ _ 35 rfl (w1.heap.size + 1) 60 i0 (.int .u64 0) 1 8 Tryz.underlying35 hi hz0 hz1 hz2 rfl (by decide) _ _ _ rfl (HST4.out.nums.alloc _) ⟨w4.heap.size, 0, none⟩ 1 1 [.int .u64 N] rfl rfl (cell_one_new _ _ _) (fun x hx => by simp at hx; subst hx; rfl) (by unfold maxLen; omega) (by omega) (by have := HST4.out.size; simp; omega) ?_; intro v' w5 hown' hgrow5 hnil5; obtain ⟨av, nv, cv, rfl⟩ := own_slice hown'; have H5 := HST4.out.appended _ hlt1 hkl hgrow5; have hh5 := H5.2.2.1; rw [← HD.out] at hh5; have hc5 : w5.cell? ⟨w.heap.size, 3, none⟩ = some v := (by simp [World.cell?, hh5]); have hf5 : w5.frozen? ⟨w.heap.size, 3, none⟩ = false := (by simp [World.frozen?, hh5]); clear hh5; have HH5 := Lib.hid H5; have HOWN := Lib.hid hown'; clear H5 hown' hnil5 hgrow5))
          have hnum : N = numOf s.data.toList f := HN.out
          have hown6 := HOWN.out
          rw [hnum] at hown6
          have H6 := HH5.out
          have HS3 := HD.out
          subst HS3
          refine ⟨⟨k0 + 1, n', S', _, by omega, by go_num, HSt.stored hlt1 hne H6 HFF.out hown6, by omega, fun j => ?_⟩, by simp [intOf]; omega⟩
          rw [HS2.out j, HS.out j, List.take_add_one, HFF.out, hqe]
          simp [inF, Bool.or_assoc]
    · obtain rfl : k0 = k.l.length := by omega
      have hlen48 : ((s.size : Nat) : Int) = 48 := by omega
      have hSall : ∀ j, S j = (baseFree j || inF k.l j) := fun j => by rw [HS.out j, List.take_length]
      have HSA := Lib.hid hSall
      clear hSall
      have hh0 := HST0.out.head
      rw [← HD.out] at hh0
      have HH0 := Lib.hid hh0
      clear hh0
      go_wp2_with fail
      go_loop [111] (fun i => ∃ j0 : Nat, j0 ≤ 48 ∧ i = .int .i64 j0 ∧ ∀ t : Nat, t < j0 → ((baseFree t || inF k.l t) || (s.data.toList.getD t 0).toNat == 0) = true) (fun i => 48 - (intOf i).toNat)
      case atStart => exact ⟨0, by omega, rfl, fun t ht => by omega⟩
      case round =>
        obtain ⟨j0, hj0, rfl, hall⟩ := hrel
        have HALL := Lib.hid hall
        clear hall
        by_cases hjl : j0 < 48
        · have hjs : j0 < s.size := by omega
          have hji : (j0 : Int) < 48 := by omega
          have hji2 : (j0 : Int) < (s.size : Int) := by omega
          have hl := HST0.out.free.lookup (j0 : Int) (by omega)
          by_cases hSj : S (j0 : Int) = true
          · rw [hSj] at hl
            go_wp2_with fail
            refine ⟨⟨j0 + 1, by omega, by go_num, fun t ht => ?_⟩, by simp [intOf]; omega⟩
            by_cases e : t < j0
            · exact HALL.out t e
            · obtain rfl : t = j0 := by omega
              rw [← HSA.out, hSj]; rfl
          · replace hSj : S (j0 : Int) = false := by simpa using hSj
            rw [hSj] at hl
            by_cases hz : (s[j0]'hjs).toNat = 0
            · have hzb : (((s[j0]'hjs).toNat : Int) != 0) = false := by simp [hz]
              go_wp2_with fail
              refine ⟨⟨j0 + 1, by omega, by go_num, fun t ht => ?_⟩, by simp [intOf]; omega⟩
              by_cases e : t < j0
              · exact HALL.out t e
              · obtain rfl : t = j0 := by omega
                rw [getD_byte s t hjs, hz]; simp
            · have hzb : (((s[j0]'hjs).toNat : Int) != 0) = true := by simpa using hz
              go_wp2_with (refine wpList_store_row rfl 37 _ _ rfl w.heap.size #[.int .i64 0, .bool false, .int .i64 0, .slice none 0 0] rfl rfl 37 _ HH0.out headinfo rfl (by simp [Value.oneCell']) ?_)
              refine bodyPost_ret (results_cell3 Tryz.results26 _ _ w.heap.size [.int .i64 0, .bool false, .int .i64 0, .slice none 0 0] _ rfl (range_of_heap (setRow_heap _ _ _ _ _ _ HH0.out)) Tryz.underlying37 rfl headinfo) rfl ⟨below_setRow HST0.out.below (Nat.le_refl _) _, .inr ⟨headOk_false hjl ?_, rfl⟩⟩
              rw [getD_byte s j0 hjs, ← HSA.out, hSj]
              simpa using hz
        · obtain rfl : j0 = 48 := by omega
          have hok := headOk_true HALL.out
          have h5 : (5 : Int) ≤ 8 := by omega
          have h8 : (8 : Int) ≤ (s.size : Int) := by omega
          have h4 : (4 : Int) < (s.size : Int) := by omega
          go_wp2_with fail
          have hex : (s.extract 5 8).data.toList = (s.data.toList.drop 5).take 3 := by rw [Lib.extract_data]
          have hez : (s.extract 5 8).size ≤ 8 := by
            rw [Lib.size_eq, hex]; exact Nat.le_trans (List.length_take_le _ _) (by omega)
          have hun := unnumber_any (s.extract 5 8) wo hez
          rw [hex] at hun
          have hlt3 := beN_lt ((s.data.toList.drop 5).take 3).length _ rfl
          have hle3 : ((s.data.toList.drop 5).take 3).length ≤ 3 := List.length_take_le _ _
          have hpw : 256 ^ ((s.data.toList.drop 5).take 3).length ≤ 256 ^ 3 := Nat.pow_le_pow_right (by decide) hle3
          obtain ⟨N, hN⟩ : ∃ N, N = beN ((s.data.toList.drop 5).take 3) := ⟨_, rfl⟩
          rw [← hN] at hun hlt3
          have hN16 : (N : Int) ≤ 16777215 := by omega
          have HN := Lib.hid hN
          have HUN := Lib.hid hun
          clear hun hex hlt3 hpw hN hle3
          refine HUN.out.mono ?_
          rintro e w6 ⟨rfl, hb6⟩
          have hst6 := HST0.out.later hb6
          have hH6 := hst6.head
          rw [← HD.out] at hH6
          obtain ⟨av, nv, cv, rfl⟩ := own_slice hst6.nums
          have c0 : w6.cell? ⟨w.heap.size, 0, none⟩ = some (.int .i64 ((s[0].toNat : Int) % 64)) := by simp [World.cell?, hH6]
          have c1 : w6.cell? ⟨w.heap.size, 1, none⟩ = some (.bool true) := by simp [World.cell?, hH6]
          have c2 : w6.cell? ⟨w.heap.size, 2, none⟩ = some (.int .i64 (s[1].toNat : Int)) := by simp [World.cell?, hH6]
          have c3 : w6.cell? ⟨w.heap.size, 3, none⟩ = some (.slice av nv cv) := by simp [World.cell?, hH6]
          have f0 : w6.frozen? ⟨w.heap.size, 0, none⟩ = false := by simp [World.frozen?, hH6]
          have f1 : w6.frozen? ⟨w.heap.size, 1, none⟩ = false := by simp [World.frozen?, hH6]
          have f2 : w6.frozen? ⟨w.heap.size, 2, none⟩ = false := by simp [World.frozen?, hH6]
          have f3 : w6.frozen? ⟨w.heap.size, 3, none⟩ = false := by simp [World.frozen?, hH6]
          have hw4 := IntWalk.i64_in ((s[4].toNat : Nat) : Int) (by have := s[4].toNat_lt; omega)
          have hwN := IntWalk.i64_in (N : Int) (by omega)
          have HST6 := Lib.hid hst6
          have HH6 := Lib.hid hH6
          clear hst6 hH6 hb6
          go_wp2_with fail
          go_region
          go_wp2_with fail
          have hst7 := HST6.out
          rw [← HD.out] at hst7
          obtain ⟨r1, r2, r3⟩ := hst7.last hlt1
          refine bodyPost_ret (results_cell3 Tryz.results26 _ _ w.heap.size [.int .i64 ((s[0].toNat : Int) % 64), .bool true, .int .i64 (s[1].toNat : Int), .slice av nv cv] _ rfl r2 Tryz.underlying37 rfl headinfo) rfl ⟨r1, .inl ⟨hok, .slice av nv cv, ?_, r3⟩⟩
          rw [getD_byte s 4 (by omega), ← HN.out]
          rfl
end Go.Proofs.YtincgdbfmnnpaaaGreatDoor

/- quaymasterref.HeadRead: the flags refused; the whole. -/
namespace Go.Proofs.YtincgdbfmnnpaaaGreatDoor
open Go.RowKit
set_option maxRecDepth 100000 in
theorem headread_flags0 (s : ByteArray) (w : World) (k : Knd) (h : s.size = 48) (q1 : ((s[0].toNat : Int) / 128 % 256 == 1) = false) (q2 : kindOf ((s[0].toNat : Int) % 64) = some k)
    (q3 : ((s[0].toNat : Int) / 64 % 256 == 1) = false) (q4 : (bits .or .i64 (s[1].toNat : Int) k.m != k.m) = true) : Calls Tryz.prog 26 #[.string s] w fun e w' =>
    e = .returned (.tuple #[hzV, .int .i64 0, .int .i64 0, .int .i64 3]) ∧ Below w.heap.size w w' := by
  have h0 : (((s.size : Nat) : Int) == 48) = true := by simp [h]
  have h1 : (0 : Int) < (s.size : Int) := by omega
  have h2 : (1 : Int) < (s.size : Int) := by omega
  have hw1 := IntWalk.i64_in ((s[1].toNat : Nat) : Int) (by have := s[1].toNat_lt; omega)
  have kn := kind_some ((s[0].toNat : Int) % 64) k q2
  have KN := Lib.hid kn
  clear kn q2
  go_enter Tryz.func26, Tryz.ntmps26
  go_wp2_with fail
  refine (KN.out _).mono ?_
  rintro e w1 ⟨kb, rfl, hb, hk⟩
  have hH : w1.heap[w.heap.size]? = some (.cells #[.int .i64 0, .bool false, .int .i64 0, .slice none 0 0] 37 (0, 0)) := (hb.block _ (by simp)).trans (alloc_heap_new w _)
  have hbb : Below w.heap.size w w1 := (below_alloc (Below.refl _ w) (Nat.le_refl _) _).trans (hb.mono (by simp))
  have HH := Lib.hid hH
  clear hH hk
  go_wp2_with (first | (refine wpList_load_row rfl 37 _ rfl w.heap.size rfl 37 _ _ _ HH.out Tryz.underlying37 rfl headinfo ?_) | (refine wpList_store_row rfl 37 _ _ rfl w.heap.size #[.int .i64 0, .bool false, .int .i64 0, .slice none 0 0] rfl rfl 37 _ HH.out headinfo rfl (by simp [Value.oneCell']) ?_))
  refine bodyPost_ret (results_cell3 Tryz.results26 _ _ w.heap.size [.int .i64 0, .bool false, .int .i64 0, .slice none 0 0] _ rfl (range_of_heap (setRow_heap _ _ _ _ _ _ HH.out)) Tryz.underlying37 rfl headinfo) rfl ⟨rfl, below_setRow hbb (Nat.le_refl _) _⟩
set_option maxRecDepth 100000 in
theorem headread_flags1 (s : ByteArray) (w : World) (k : Knd) (h : s.size = 48) (q1 : ((s[0].toNat : Int) / 128 % 256 == 1) = false) (q2 : kindOf ((s[0].toNat : Int) % 64) = some k)
    (q3 : ((s[0].toNat : Int) / 64 % 256 == 1) = true) (q5 : ¬ (32 ≤ (s[0].toNat : Int) % 64)) (q4 : (bits .or .i64 (s[1].toNat : Int) k.m != k.m) = true) : Calls Tryz.prog 26 #[.string s] w fun e w' =>
    e = .returned (.tuple #[hzV, .int .i64 0, .int .i64 0, .int .i64 3]) ∧ Below w.heap.size w w' := by
  have h0 : (((s.size : Nat) : Int) == 48) = true := by simp [h]
  have h1 : (0 : Int) < (s.size : Int) := by omega
  have h2 : (1 : Int) < (s.size : Int) := by omega
  have hw1 := IntWalk.i64_in ((s[1].toNat : Nat) : Int) (by have := s[1].toNat_lt; omega)
  have kn := kind_some ((s[0].toNat : Int) % 64) k q2
  have KN := Lib.hid kn
  clear kn q2
  go_enter Tryz.func26, Tryz.ntmps26
  go_wp2_with fail
  refine (KN.out _).mono ?_
  rintro e w1 ⟨kb, rfl, hb, hk⟩
  have hH : w1.heap[w.heap.size]? = some (.cells #[.int .i64 0, .bool false, .int .i64 0, .slice none 0 0] 37 (0, 0)) := (hb.block _ (by simp)).trans (alloc_heap_new w _)
  have hbb : Below w.heap.size w w1 := (below_alloc (Below.refl _ w) (Nat.le_refl _) _).trans (hb.mono (by simp))
  have HH := Lib.hid hH
  clear hH hk
  go_wp2_with (first | (refine wpList_load_row rfl 37 _ rfl w.heap.size rfl 37 _ _ _ HH.out Tryz.underlying37 rfl headinfo ?_) | (refine wpList_store_row rfl 37 _ _ rfl w.heap.size #[.int .i64 0, .bool false, .int .i64 0, .slice none 0 0] rfl rfl 37 _ HH.out headinfo rfl (by simp [Value.oneCell']) ?_))
  refine bodyPost_ret (results_cell3 Tryz.results26 _ _ w.heap.size [.int .i64 0, .bool false, .int .i64 0, .slice none 0 0] _ rfl (range_of_heap (setRow_heap _ _ _ _ _ _ HH.out)) Tryz.underlying37 rfl headinfo) rfl ⟨rfl, below_setRow hbb (Nat.le_refl _) _⟩
set_option maxRecDepth 100000 in
theorem headread_flags2 (s : ByteArray) (w : World) (k : Knd) (h : s.size = 48) (q1 : ((s[0].toNat : Int) / 128 % 256 == 1) = false) (q2 : kindOf ((s[0].toNat : Int) % 64) = some k)
    (q3 : ((s[0].toNat : Int) / 64 % 256 == 1) = true) (q5 : 32 ≤ (s[0].toNat : Int) % 64) : Calls Tryz.prog 26 #[.string s] w fun e w' =>
    e = .returned (.tuple #[hzV, .int .i64 0, .int .i64 0, .int .i64 3]) ∧ Below w.heap.size w w' := by
  have h0 : (((s.size : Nat) : Int) == 48) = true := by simp [h]
  have h1 : (0 : Int) < (s.size : Int) := by omega
  have h2 : (1 : Int) < (s.size : Int) := by omega
  have hw1 := IntWalk.i64_in ((s[1].toNat : Nat) : Int) (by have := s[1].toNat_lt; omega)
  have kn := kind_some ((s[0].toNat : Int) % 64) k q2
  have KN := Lib.hid kn
  clear kn q2
  go_enter Tryz.func26, Tryz.ntmps26
  go_wp2_with fail
  refine (KN.out _).mono ?_
  rintro e w1 ⟨kb, rfl, hb, hk⟩
  have hH : w1.heap[w.heap.size]? = some (.cells #[.int .i64 0, .bool false, .int .i64 0, .slice none 0 0] 37 (0, 0)) := (hb.block _ (by simp)).trans (alloc_heap_new w _)
  have hbb : Below w.heap.size w w1 := (below_alloc (Below.refl _ w) (Nat.le_refl _) _).trans (hb.mono (by simp))
  have HH := Lib.hid hH
  clear hH hk
  go_wp2_with (first | (refine wpList_load_row rfl 37 _ rfl w.heap.size rfl 37 _ _ _ HH.out Tryz.underlying37 rfl headinfo ?_) | (refine wpList_store_row rfl 37 _ _ rfl w.heap.size #[.int .i64 0, .bool false, .int .i64 0, .slice none 0 0] rfl rfl 37 _ HH.out headinfo rfl (by simp [Value.oneCell']) ?_))
  refine bodyPost_ret (results_cell3 Tryz.results26 _ _ w.heap.size [.int .i64 0, .bool false, .int .i64 0, .slice none 0 0] _ rfl (range_of_heap (setRow_heap _ _ _ _ _ _ HH.out)) Tryz.underlying37 rfl headinfo) rfl ⟨rfl, below_setRow hbb (Nat.le_refl _) _⟩

def headNow (l : List UInt8) : Bool := ((l.getD 0 0).toNat : Int) / 64 % 256 == 1
def headOp (l : List UInt8) : Int := ((l.getD 0 0).toNat : Int) % 64
def headErr (l : List UInt8) : Int :=
  if l.length = 48 then
    if ((l.getD 0 0).toNat : Int) / 128 % 256 == 1 then 3
    else match kindOf (headOp l) with
      | none => 1
      | some k => if (headNow l && decide (32 ≤ headOp l)) || bits .or .i64 ((l.getD 1 0).toNat : Int) k.m != k.m then 3 else if headOk l k then 0 else 3
  else 7
def headVals (l : List UInt8) : List Value := match kindOf (headOp l) with | none => [] | some k => numsV l k.l
def HeadAll (w : World) (l : List UInt8) (e : Ending) (w' : World) : Prop := Below w.heap.size w w' ∧
    ((headErr l = 0 ∧ ∃ v, e = .returned (.tuple #[.agg #[.int .i64 (headOp l), .bool (headNow l), .int .i64 (l.getD 1 0).toNat, v],
        .int .i64 (l.getD 4 0).toNat, .int .i64 (beN ((l.drop 5).take 3)), .int .i64 0]) ∧ w'.ownsRow w.heap.size 60 1 v (headVals l).length (headVals l)) ∨
     (headErr l ≠ 0 ∧ e = .returned (.tuple #[hzV, .int .i64 0, .int .i64 0, .int .i64 (headErr l)])))
theorem headread_any (s : ByteArray) (w : World) : Calls Tryz.prog 26 #[.string s] w fun e w' => HeadAll w s.data.toList e w' := by
  have refuse : ∀ c : Int, c ≠ 0 → headErr s.data.toList = c → (Calls Tryz.prog 26 #[.string s] w fun e w' => e = .returned (.tuple #[hzV, .int .i64 0, .int .i64 0, .int .i64 c]) ∧ Below w.heap.size w w') →
      Calls Tryz.prog 26 #[.string s] w fun e w' => HeadAll w s.data.toList e w' :=
    fun c hc he h => h.mono (fun e w' hh => ⟨hh.2, .inr ⟨by rw [he]; exact hc, by rw [he]; exact hh.1⟩⟩)
  have hlen : s.data.toList.length = s.size := by rw [← Lib.size_eq]
  by_cases h : s.size = 48
  · have g0 := getD_byte s 0 (by omega)
    have g1 := getD_byte s 1 (by omega)
    by_cases q1 : ((s[0].toNat : Int) / 128 % 256 == 1) = true
    · exact refuse 3 (by decide) (by unfold headErr; rw [hlen, if_pos h, g0, if_pos q1]) (headread_high s w h q1)
    · have q1' : ((s[0].toNat : Int) / 128 % 256 == 1) = false := by simpa using q1
      have hop : headOp s.data.toList = (s[0].toNat : Int) % 64 := by unfold headOp; rw [g0]
      have hnow : headNow s.data.toList = ((s[0].toNat : Int) / 64 % 256 == 1) := by unfold headNow; rw [g0]
      cases q2 : kindOf ((s[0].toNat : Int) % 64) with
      | none => exact refuse 1 (by decide) (by unfold headErr; rw [hlen, if_pos h, g0, if_neg q1, hop, q2]) (headread_none s w h q1' q2)
      | some k =>
        have he : headErr s.data.toList = if (((s[0].toNat : Int) / 64 % 256 == 1) && decide ((32 : Int) ≤ (s[0].toNat : Int) % 64)) || bits .or .i64 (s[1].toNat : Int) k.m != k.m then 3 else if headOk s.data.toList k then 0 else 3 := by
          unfold headErr; rw [hlen, if_pos h, g0, if_neg q1, hop, q2, hnow, g1]
        have hvals : headVals s.data.toList = numsV s.data.toList k.l := by unfold headVals; rw [hop, q2]
        have hvl : (headVals s.data.toList).length = k.l.length := by rw [hvals]; simp [numsV]
        have good : ∀ nb, ((s[0].toNat : Int) / 64 % 256 == 1) = nb → headErr s.data.toList = (if headOk s.data.toList k then 0 else 3) → (Calls Tryz.prog 26 #[.string s] w fun e w' => HeadPost w s.data.toList k ((s[0].toNat : Int) % 64) nb (s[1].toNat : Int) e w') →
            Calls Tryz.prog 26 #[.string s] w fun e w' => HeadAll w s.data.toList e w' := fun nb hnb he2 hc => hc.mono (fun e w' hp => by
          obtain ⟨hb, ⟨hok, v, rfl, ho⟩ | ⟨hok, rfl⟩⟩ := hp
          · refine ⟨hb, .inl ⟨by rw [he2, hok]; rfl, v, ?_, ?_⟩⟩
            · rw [hop, hnow, hnb, g1]
            · rw [hvl, hvals]; exact ho
          · refine ⟨hb, .inr ⟨by rw [he2, hok]; decide, ?_⟩⟩
            rw [he2, hok]; rfl)
        by_cases q3 : ((s[0].toNat : Int) / 64 % 256 == 1) = true
        · by_cases q5 : (32 : Int) ≤ (s[0].toNat : Int) % 64
          · exact refuse 3 (by decide) (by rw [he, q3]; simp [q5]) (headread_flags2 s w k h q1' q2 q3 (by omega))
          · by_cases q4 : (bits .or .i64 (s[1].toNat : Int) k.m != k.m) = true
            · exact refuse 3 (by decide) (by rw [he, q4]; simp) (headread_flags1 s w k h q1' q2 q3 (by omega) q4)
            · have q4' : (bits .or .i64 (s[1].toNat : Int) k.m != k.m) = false := by simpa using q4
              exact good true q3 (by rw [he, q4']; simp [q5]) (headread_ok1 s w k h q1' q2 q3 (by omega) q4')
        · have q3' : ((s[0].toNat : Int) / 64 % 256 == 1) = false := by simpa using q3
          by_cases q4 : (bits .or .i64 (s[1].toNat : Int) k.m != k.m) = true
          · exact refuse 3 (by decide) (by rw [he, q4]; simp) (headread_flags0 s w k h q1' q2 q3' q4)
          · have q4' : (bits .or .i64 (s[1].toNat : Int) k.m != k.m) = false := by simpa using q4
            exact good false q3' (by rw [he, q4', q3']; simp) (headread_ok0 s w k h q1' q2 q3' q4')
  · exact refuse 7 (by decide) (by unfold headErr; rw [hlen, if_neg h]) (headread_size s w (by simp; omega))
end Go.Proofs.YtincgdbfmnnpaaaGreatDoor
