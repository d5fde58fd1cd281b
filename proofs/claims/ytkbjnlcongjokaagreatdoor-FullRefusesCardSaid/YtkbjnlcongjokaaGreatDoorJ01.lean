/- A part of the proof: Field, As, Words, As2, As3, Tell, Linear, Get, Size, Kinds1, Kinds2. -/
import Derived.Test.YtkbjnlcongjokaaGreatDoorProg
import Derived.WalkKit
import Derived.Deep.QuietTactic
import Derived.BigQuiet
import Derived.Lib.Hide
import Derived.WalkSpells
import Derived.Lib.Strings
import Derived.LaidEql
import Derived.Stop.Asserts
import Derived.RowKitTokens
import Derived.Laws.OwnMore
import Derived.Deep.AppendLies
import Derived.Deep.Draws
import Derived.Laws.Rows
import Derived.Orders
import Derived.Below
import Derived.Lib.ConvBytes
import Derived.WalkLawsBesides
import Derived.Great.BuildSlice
import Derived.Deep.MidRow
/- field.Pad, Padded, Unpad, Get: their contracts. -/
namespace Go.Proofs.YtkbjnlcongjokaaGreatDoor
open Go.RowKit
def padI (n : Int) : Int := if n < 0 then 0 else (4 - n % 4) % 4
theorem padI_bd (n : Int) : 0 ≤ padI n ∧ padI n ≤ 3 := by unfold padI; split <;> omega
theorem and3 (n : Int) : bits BinOp.and IntKind.i64 n 3 = n % 4 := by
  show IntKind.i64.wrap ((BitVec.ofInt 64 n &&& BitVec.ofInt 64 3).toNat : Int) = _
  have h3 : BitVec.ofInt 64 3 = BitVec.ofNat 64 (2^2 - 1) := by decide
  rw [BitVec.toNat_and, h3]
  simp only [BitVec.toNat_ofNat]
  rw [Nat.mod_eq_of_lt (by decide : 2^2 - 1 < 2^64), Nat.and_two_pow_sub_one_eq_mod, BitVec.toNat_ofInt, IntKind.wrap_i64]
  omega
/-- A text, and noughts to the next four. -/
def bs (l : List UInt8) : ByteArray := ⟨l.toArray⟩
theorem bs_data (l : List UInt8) : (bs l).data.toList = l := rfl
theorem bs_toList (l : List UInt8) : (bs l).toList = l := by rw [Lib.toList_data, bs_data]
theorem bs_size (l : List UInt8) : (bs l).size = l.length := by rw [Lib.size_eq, bs_data]
theorem bs_eq {s : ByteArray} {l : List UInt8} (h : s.data.toList = l) : s = bs l := by rw [← h, bs, Lib.mk_data]
def padded (l : List UInt8) : List UInt8 := l ++ List.replicate (padI l.length).toNat 0
def unpad (s : List UInt8) (n : Int) : List UInt8 × Int × Int :=
  if n < 0 then ([], 0, 2)
  else if n > s.length ∨ n + padI n > s.length then ([], 0, 7)
  else if padded (s.take n.toNat) ≠ s.take (n + padI n).toNat then ([], 0, 3)
  else (s.take n.toNat, n + padI n, 0)
def errV (e : Int) : Value := if e = 0 then .nilIface else .iface 32 (.int .i64 e)
end Go.Proofs.YtkbjnlcongjokaaGreatDoor

/- errors.As at a target of type *api.Errno. (After the guide's worked text on errors.As.) -/
namespace Go.Proofs.YtkbjnlcongjokaaGreatDoor
open Go.RowKit Go.Extern.Stop Go.Stop Go.Extern
theorem ng_eq : Tryz.prog.globals.size = 13 := by kernel_rfl
/-- the handle of a type -/
abbrev th (t : Nat) : Value := .pointer (some ⟨13, t, none⟩)
theorem as_nil (t : Value) (w : World) :
    Calls Tryz.prog 40 #[.nilIface, t] w fun e w' => e = .returned (.bool false) ∧ w' = w := by
  go_enter Tryz.func40, Tryz.ntmps40
  go_wp2
  go_ret
  exact ⟨rfl, rfl⟩
theorem valueOfP (t : Addr) (w : World) : (ReflectliteValue.unpack (.iface 121 (.pointer (some t)))).run Tryz.prog w
    = .ok (.agg #[th 121, .pointer (some ⟨w.heap.size, 0, none⟩), .int .u64 150]) (w.alloc (.cells #[.pointer (some t)] 121)) := by kernel_rfl
theorem typeP (a : Addr) (w : World) : (ReflectliteValue.methodAny (ReflectliteValue.valueError "reflectlite.Value.Type" 0) (fun t _ _ _ => ReflectliteType.toType t) #[.agg #[th 121, .pointer (some a), .int .u64 150]]).run Tryz.prog w
    = .ok (.iface 193 (.agg #[th 121])) w := by kernel_rfl
theorem kindP (w : World) : ((ReflectliteType.abiMethod fun t => (fun a : Nat => Value.int IntKind.u8 (a : Int)) <$> Rtype.kind t) #[th 121]).run Tryz.prog w = .ok (.int .u8 22) w := by kernel_rfl
theorem kindE (w : World) : ((ReflectliteType.abiMethod fun t => (fun a : Nat => Value.int IntKind.u8 (a : Int)) <$> Rtype.kind t) #[th 32]).run Tryz.prog w = .ok (.int .u8 2) w := by kernel_rfl
theorem rlm (z : Sem Value) (f : TypeId → Addr → Nat → Nat → Sem Value) (v : Value) :
    ReflectliteValue.method z f #[v] = (do match ← ReflectliteValue.parts v with | none => z | some (t, a, fl) => f t a fl (fl % 32)) := rfl
theorem partsP (a : Addr) (w : World) : (ReflectliteValue.parts (.agg #[th 121, .pointer (some a), .int .u64 150])).run Tryz.prog w = .ok (some (121, a, 150)) w := by kernel_rfl
theorem isNilP (a p : Addr) (W : World) (ha : W.cell? a = some (.pointer (some p))) :
    (ReflectliteValue.method (ReflectliteValue.valueError "reflectlite.Value.IsNil" 0) ReflectliteValue.isNil #[.agg #[th 121, .pointer (some a), .int .u64 150]]).run Tryz.prog W = .ok (.bool false) W := by
  rw [rlm]
  simp only [Sem.run_bind, partsP, Result.andThen]
  simp [ReflectliteValue.isNil, loadVar, isAgg, underlying, Tryz.underlying121, ha, Result.andThen]
theorem elemP (w : World) : (ReflectliteType.method ReflectliteType.elem #[.agg #[th 121]]).run Tryz.prog w = .ok (.iface 193 (.agg #[th 32])) w := by kernel_rfl
theorem implementsE (w : World) : (ReflectliteType.relation "Implements" ReflectliteType.implements_ #[.agg #[th 32], .iface 193 (.agg #[th 39])]).run Tryz.prog w = .ok (.bool true) w := by kernel_rfl
theorem typeOfE (v : Value) (w : World) : (ReflectliteType.typeOf #[.iface 32 v]).run Tryz.prog w = .ok (.iface 193 (.agg #[th 32])) w := by kernel_rfl
theorem typeOfA (v : Value) (w : World) : (ReflectliteType.typeOf #[.iface 78 v]).run Tryz.prog w = .ok (.iface 193 (.agg #[th 78])) w := by kernel_rfl
theorem assignableE (w : World) : (ReflectliteType.relation "AssignableTo" ReflectliteType.assignableTo #[.agg #[th 32], .iface 193 (.agg #[th 32])]).run Tryz.prog w = .ok (.bool true) w := by kernel_rfl
theorem assignableA (w : World) : (ReflectliteType.relation "AssignableTo" ReflectliteType.assignableTo #[.agg #[th 78], .iface 193 (.agg #[th 32])]).run Tryz.prog w = .ok (.bool false) w := by kernel_rfl
theorem valueOfE (n : Int) (w : World) : (ReflectliteValue.unpack (.iface 32 (.int .i64 n))).run Tryz.prog w
    = .ok (.agg #[th 32, .pointer (some ⟨w.heap.size, 0, none⟩), .int .u64 130]) (w.alloc (.cells #[.int .i64 n] 32)) := by kernel_rfl
theorem elemOfP (w : World) : (Rtype.elem? 121).run Tryz.prog w = .ok (some 32) w := by kernel_rfl
theorem mkE (p : Addr) (w : World) : (ReflectliteValue.mk 32 p ReflectliteValue.flagAddr).run Tryz.prog w = .ok (.agg #[th 32, .pointer (some p), .int .u64 386]) w := by kernel_rfl
theorem elemVP (a p : Addr) (W : World) (ha : W.cell? a = some (.pointer (some p))) :
    (ReflectliteValue.method (ReflectliteValue.valueError "reflectlite.Value.Elem" 0) ReflectliteValue.elem #[.agg #[th 121, .pointer (some a), .int .u64 150]]).run Tryz.prog W
      = .ok (.agg #[th 32, .pointer (some p), .int .u64 386]) W := by
  rw [rlm]
  simp only [Sem.run_bind, partsP, Result.andThen]
  simp [ReflectliteValue.elem, loadVar, isAgg, underlying, Tryz.underlying121, ha, Result.andThen, elemOfP, mkE]
theorem rls (v x : Value) : ReflectliteValue.set #[v, x] = (do
    let (some (dst, a, fl), some (src, b, _)) := (← ReflectliteValue.parts v, ← ReflectliteValue.parts x)
      | unsupported (.noEntry "extern/(internal/reflectlite.Value).Set.zeroValue")
    if fl / ReflectliteValue.flagAddr % 2 == 0 then unsupported (.noEntry "extern/(internal/reflectlite.Value).Set.unaddressable")
    let val ← loadVar src b
    if ← Rtype.directlyAssignable dst src then storeVar dst a val
    else if ← Rtype.implements dst src then
      if (← Rtype.kind src) == 20 then
        match val with
        | .nilIface => unsupported (.noEntry "extern/reflectlite: a nil value of one interface type handed on as a value of another")
        | _ => storeVar dst a val
      else storeVar dst a (.iface src val)
    else panicString ("reflectlite.Set: value of type " ++ (← Rtype.spelt src) ++ " is not assignable to type " ++ (← Rtype.spelt dst))
    pure (.tuple #[])) := rfl
theorem partsEa (a : Addr) (w : World) : (ReflectliteValue.parts (.agg #[th 32, .pointer (some a), .int .u64 386])).run Tryz.prog w = .ok (some (32, a, 386)) w := by kernel_rfl
theorem partsE (a : Addr) (w : World) : (ReflectliteValue.parts (.agg #[th 32, .pointer (some a), .int .u64 130])).run Tryz.prog w = .ok (some (32, a, 130)) w := by kernel_rfl
theorem directE (w : World) : (Rtype.directlyAssignable 32 32).run Tryz.prog w = .ok true w := by kernel_rfl
theorem sizeE (w : World) : (sizeOf 32).run Tryz.prog w = .ok 1 w := by kernel_rfl
theorem setE (ta b : Addr) (n : Int) (old : Value) (W : World) (hb : W.cell? b = some (.int .i64 n)) (ht : W.cell? ta = some old) (hf : W.frozen? ta = false) :
    (ReflectliteValue.set #[.agg #[th 32, .pointer (some ta), .int .u64 386], .agg #[th 32, .pointer (some b), .int .u64 130]]).run Tryz.prog W
      = .ok (.tuple #[]) (W.setCell ta (.int .i64 n)) := by
  rw [rls]
  simp only [Sem.run_bind, partsEa, partsE, Result.andThen]
  simp [ReflectliteValue.flagAddr, loadVar, isAgg, underlying, Tryz.underlying32, hb, Result.andThen, directE, storeVar, Value.cells, storeCells, Addr.add]
  rw [run_store Tryz.prog W ta _ _ (by rfl)]
  simp [ht, hf]
theorem methodKind (h : Value) (w : World) : (Go.method 415 193 (.agg #[h]) "Kind").run Tryz.prog w = .ok (165, h) w := by kernel_rfl
theorem methodElem (h : Value) (w : World) : (Go.method 415 193 (.agg #[h]) "Elem").run Tryz.prog w = .ok (184, .agg #[h]) w := by kernel_rfl
theorem methodImplements (h : Value) (w : World) : (Go.method 415 193 (.agg #[h]) "Implements").run Tryz.prog w = .ok (185, .agg #[h]) w := by kernel_rfl
theorem methodAssignableTo (h : Value) (w : World) : (Go.method 415 193 (.agg #[h]) "AssignableTo").run Tryz.prog w = .ok (182, .agg #[h]) w := by kernel_rfl
theorem methodUnwrap (a : Value) (w : World) : (Go.method 415 78 a "Unwrap").run Tryz.prog w = .ok (175, a) w := by kernel_rfl
end Go.Proofs.YtkbjnlcongjokaaGreatDoor

/- Small words on worlds and memory (partly after the guide's pages of lemmas to copy). -/
namespace Go.Proofs.YtkbjnlcongjokaaGreatDoor
open Go.RowKit
theorem below_drewN {B : Nat} {a w : World} (h : Below B a w) (n : Nat) : Below B a (w.drewN n) := ⟨h.os, h.tape, h.output, h.size, h.block⟩
theorem only_drewN {a w : World} {row : Option Nat} (h : a.grownBy w row) (n : Nat) : a.grownBy (w.drewN n) row := ⟨h.os, h.tape, h.output, h.size, h.block⟩
theorem only_drew {a w : World} {row : Option Nat} (h : a.grownBy w row) : a.grownBy w.drew row := ⟨h.os, h.tape, h.output, h.size, h.block⟩
theorem only_alloc {a w : World} {row : Option Nat} (h : a.grownBy w row) (o : Obj) : a.grownBy (w.alloc o) row :=
  ⟨h.os, h.tape, h.output, Nat.le_trans h.size (by simp), fun i hi hne => (Below.heap_alloc w o i (Nat.lt_of_lt_of_le hi h.size)).trans (h.block i hi hne)⟩
theorem only_setCell {a w : World} {g : Nat} (h : a.grownBy w (some g)) {p : Addr} (hp : p.block = g ∨ a.heap.size ≤ p.block) (u : Value) : a.grownBy (w.setCell p u) (some g) :=
  ⟨h.os, h.tape, h.output, by simpa [World.setCell] using h.size, fun i hi hne => (Below.heap_setCell w p u i (by
    rintro rfl
    rcases hp with hp | hp
    · exact hne (by rw [hp])
    · omega)).trans (h.block i hi hne)⟩
theorem only_of_below {a w : World} (h : Below a.heap.size a w) (row : Option Nat) : a.grownBy w row := ⟨h.os, h.tape, h.output, h.size, fun i hi _ => h.block i hi⟩
theorem only_refl (a : World) (row : Option Nat) : a.grownBy a row := ⟨rfl, rfl, rfl, Nat.le_refl _, fun _ _ _ => rfl⟩
theorem only_trans {a b c : World} {row : Option Nat} (h : a.grownBy b row) (k : b.grownBy c row) : a.grownBy c row :=
  ⟨k.os.trans h.os, k.tape.trans h.tape, k.output.trans h.output, Nat.le_trans h.size k.size, fun i hi hne => (k.block i (Nat.lt_of_lt_of_le hi h.size) hne).trans (h.block i hi hne)⟩
end Go.Proofs.YtkbjnlcongjokaaGreatDoor

/- errors.as: the inner loop, at a target of type *api.Errno. -/
namespace Go.Proofs.YtkbjnlcongjokaaGreatDoor
open Go.RowKit Go.Extern.Stop Go.Stop Go.Extern
theorem ext_valueOf (args : Array Value) (w : World) : (callFunc 57 args).run Tryz.prog w = ((((fun args => ReflectliteValue.unpack (args.getD 0 (.tuple #[]))) : Array Value → Sem Value) args).run Tryz.prog w).andThen fun v w' => .ok (.value v) w' :=
  @run_callFunc_extern Tryz.prog 57 _ (fun args => ReflectliteValue.unpack (args.getD 0 (.tuple #[]))) Tryz.func57 (by kernel_rfl) (by kernel_rfl) (by kernel_rfl) (by kernel_rfl) args w
theorem ext_type (args : Array Value) (w : World) : (callFunc 58 args).run Tryz.prog w = ((((ReflectliteValue.methodAny (ReflectliteValue.valueError "reflectlite.Value.Type" 0) (fun t _ _ _ => ReflectliteType.toType t)) : Array Value → Sem Value) args).run Tryz.prog w).andThen fun v w' => .ok (.value v) w' :=
  @run_callFunc_extern Tryz.prog 58 _ (ReflectliteValue.methodAny (ReflectliteValue.valueError "reflectlite.Value.Type" 0) (fun t _ _ _ => ReflectliteType.toType t)) Tryz.func58 (by kernel_rfl) (by kernel_rfl) (by kernel_rfl) (by kernel_rfl) args w
theorem ext_isNil (args : Array Value) (w : World) : (callFunc 59 args).run Tryz.prog w = ((((ReflectliteValue.method (ReflectliteValue.valueError "reflectlite.Value.IsNil" 0) ReflectliteValue.isNil) : Array Value → Sem Value) args).run Tryz.prog w).andThen fun v w' => .ok (.value v) w' :=
  @run_callFunc_extern Tryz.prog 59 _ (ReflectliteValue.method (ReflectliteValue.valueError "reflectlite.Value.IsNil" 0) ReflectliteValue.isNil) Tryz.func59 (by kernel_rfl) (by kernel_rfl) (by kernel_rfl) (by kernel_rfl) args w
theorem ext_kind (args : Array Value) (w : World) : (callFunc 165 args).run Tryz.prog w = ((((ReflectliteType.abiMethod fun t => do pure (.int .u8 (← Rtype.kind t))) : Array Value → Sem Value) args).run Tryz.prog w).andThen fun v w' => .ok (.value v) w' :=
  @run_callFunc_extern Tryz.prog 165 _ (ReflectliteType.abiMethod fun t => do pure (.int .u8 (← Rtype.kind t))) Tryz.func165 (by kernel_rfl) (by kernel_rfl) (by kernel_rfl) (by kernel_rfl) args w
theorem ext_elem (args : Array Value) (w : World) : (callFunc 184 args).run Tryz.prog w = ((((ReflectliteType.method ReflectliteType.elem) : Array Value → Sem Value) args).run Tryz.prog w).andThen fun v w' => .ok (.value v) w' :=
  @run_callFunc_extern Tryz.prog 184 _ (ReflectliteType.method ReflectliteType.elem) Tryz.func184 (by kernel_rfl) (by kernel_rfl) (by kernel_rfl) (by kernel_rfl) args w
theorem ext_implements (args : Array Value) (w : World) : (callFunc 185 args).run Tryz.prog w = ((((ReflectliteType.relation "Implements" ReflectliteType.implements_) : Array Value → Sem Value) args).run Tryz.prog w).andThen fun v w' => .ok (.value v) w' :=
  @run_callFunc_extern Tryz.prog 185 _ (ReflectliteType.relation "Implements" ReflectliteType.implements_) Tryz.func185 (by kernel_rfl) (by kernel_rfl) (by kernel_rfl) (by kernel_rfl) args w
theorem ext_typeOf (args : Array Value) (w : World) : (callFunc 82 args).run Tryz.prog w = (((ReflectliteType.typeOf : Array Value → Sem Value) args).run Tryz.prog w).andThen fun v w' => .ok (.value v) w' :=
  @run_callFunc_extern Tryz.prog 82 _ ReflectliteType.typeOf Tryz.func82 (by kernel_rfl) (by kernel_rfl) (by kernel_rfl) (by kernel_rfl) args w
theorem ext_assignable (args : Array Value) (w : World) : (callFunc 182 args).run Tryz.prog w = ((((ReflectliteType.relation "AssignableTo" ReflectliteType.assignableTo) : Array Value → Sem Value) args).run Tryz.prog w).andThen fun v w' => .ok (.value v) w' :=
  @run_callFunc_extern Tryz.prog 182 _ (ReflectliteType.relation "AssignableTo" ReflectliteType.assignableTo) Tryz.func182 (by kernel_rfl) (by kernel_rfl) (by kernel_rfl) (by kernel_rfl) args w
theorem ext_elemV (args : Array Value) (w : World) : (callFunc 83 args).run Tryz.prog w = ((((ReflectliteValue.method (ReflectliteValue.valueError "reflectlite.Value.Elem" 0) ReflectliteValue.elem) : Array Value → Sem Value) args).run Tryz.prog w).andThen fun v w' => .ok (.value v) w' :=
  @run_callFunc_extern Tryz.prog 83 _ (ReflectliteValue.method (ReflectliteValue.valueError "reflectlite.Value.Elem" 0) ReflectliteValue.elem) Tryz.func83 (by kernel_rfl) (by kernel_rfl) (by kernel_rfl) (by kernel_rfl) args w
theorem ext_set (args : Array Value) (w : World) : (callFunc 84 args).run Tryz.prog w = (((ReflectliteValue.set : Array Value → Sem Value) args).run Tryz.prog w).andThen fun v w' => .ok (.value v) w' :=
  @run_callFunc_extern Tryz.prog 84 _ ReflectliteValue.set Tryz.func84 (by kernel_rfl) (by kernel_rfl) (by kernel_rfl) (by kernel_rfl) args w
set_option maxRecDepth 100000 in
set_option maxHeartbeats 4000000 in
theorem inner_errno (n : Int) (p t : Addr) (old : Value) (w : World) (hp : w.cell? p = some (.pointer (some t))) (ht0 : w.cell? t = some old) (hf0 : w.frozen? t = false) :
    Calls Tryz.prog 60 #[.iface 32 (.int .i64 n), .iface 121 (.pointer (some t)), .agg #[th 121, .pointer (some p), .int .u64 150], .iface 193 (.agg #[th 32])] w
      fun ev w' => ev = .returned (.bool true) ∧ w'.cell? t = some (.int .i64 n) ∧ w.grownBy w' (some t.block) := by
  have h1 := ext_typeOf
  have h2 := ext_assignable
  have h3 := ext_elemV
  have h4 := ext_valueOf
  have h5 := ext_set
  have f1 := typeOfE
  have f2 := assignableE
  have f4 := valueOfE
  have m1 := methodAssignableTo
  have htl : t.block < w.heap.size := World.block_lt_of_cell? w t ht0
  have hpl : p.block < w.heap.size := World.block_lt_of_cell? w p hp
  have el := elemVP p t (w.alloc (.cells #[th 121, .pointer (some p), .int .u64 150] 158)) (by rw [World.cell?_alloc_lt _ _ p hpl]; exact hp)
  have st := setE t ⟨w.heap.size + 1, 0, none⟩ n old ((w.alloc (.cells #[th 121, .pointer (some p), .int .u64 150] 158)).alloc (.cells #[.int .i64 n] 32))
    (by rw [World.cell?_alloc_at _ _ _ _ (by simp)]; rfl)
    (by rw [World.cell?_alloc_lt _ _ t (by simp; omega), World.cell?_alloc_lt _ _ t htl]; exact ht0)
    (by rw [World.frozen?_alloc_old _ _ t (by simp; omega), World.frozen?_alloc_old _ _ t (Nat.ne_of_lt htl)]; exact hf0)
  go_enter Tryz.func60, Tryz.ntmps60
  go_wp2_with fail
  refine wp_loop_rounds 1 ?_
  rw [rounds_succ]
  go_wp2_with fail
  go_ret
  refine ⟨rfl, World.cell?_setCell_same _ _ _ (by rw [World.cell?_alloc_lt _ _ t (by simp; omega), World.cell?_alloc_lt _ _ t htl]; exact ht0), ?_⟩
  exact only_setCell (only_alloc (only_alloc (only_refl _ _) _) _) (.inl rfl) _
end Go.Proofs.YtkbjnlcongjokaaGreatDoor

/- errors.As at a target of type *api.Errno: at an *api.At, and over errors.as. -/
namespace Go.Proofs.YtkbjnlcongjokaaGreatDoor
open Go.RowKit Go.Extern.Stop Go.Stop Go.Extern
theorem noAs_at (v : Value) (xT : TypeId) (w : World) : (Instr.typeAssert (.iface 78 v) xT 198 true).run Tryz.prog w = .ok (.tuple #[.nilIface, .bool false]) w :=
  run_typeAssert_lacksB Tryz.underlying198 (by kernel_rfl) (by kernel_rfl) v xT w
theorem isUnwrap_at (v : Value) (xT : TypeId) (w : World) : (Instr.typeAssert (.iface 78 v) xT 137 true).run Tryz.prog w = .ok (.tuple #[.iface 78 v, .bool true]) w :=
  run_typeAssert_hasB Tryz.underlying137 (by kernel_rfl) v xT w
theorem unwrap_any (a : Addr) (n : Int) (w : World) (ha : w.cell? a = some (.int .i64 n)) : Calls Tryz.prog 175 #[.pointer (some a)] w fun e w' => e = .returned (.iface 32 (.int .i64 n)) ∧ w' = w := by
  go_enter Tryz.func175, Tryz.ntmps175
  go_wp2
  go_ret
  exact ⟨rfl, rfl⟩
set_option maxRecDepth 100000 in
set_option maxHeartbeats 4000000 in
/-- errors.as at an *api.At: it unwraps. -/
theorem inner_at (n pl : Int) (a p t : Addr) (old : Value) (w : World) (hp : w.cell? p = some (.pointer (some t))) (ht0 : w.cell? t = some old) (hf0 : w.frozen? t = false)
    (ha : w.cell? a = some (.int .i64 n)) :
    Calls Tryz.prog 60 #[.iface 78 (.pointer (some a)), .iface 121 (.pointer (some t)), .agg #[th 121, .pointer (some p), .int .u64 150], .iface 193 (.agg #[th 32])] w
      fun ev w' => ev = .returned (.bool true) ∧ w'.cell? t = some (.int .i64 n) ∧ w.grownBy w' (some t.block) := by
  have h1 := ext_typeOf
  have h2 := ext_assignable
  have h3 := ext_elemV
  have h4 := ext_valueOf
  have h5 := ext_set
  have f1 := typeOfE
  have f1a := typeOfA
  have f2 := assignableE
  have f2a := assignableA
  have f4 := valueOfE
  have m1 := methodAssignableTo
  have m2 := methodUnwrap
  have a1 := noAs_at
  have a2 := isUnwrap_at
  have htl : t.block < w.heap.size := World.block_lt_of_cell? w t ht0
  have hpl : p.block < w.heap.size := World.block_lt_of_cell? w p hp
  have el := elemVP p t (w.alloc (.cells #[th 121, .pointer (some p), .int .u64 150] 158)) (by rw [World.cell?_alloc_lt _ _ p hpl]; exact hp)
  have st := setE t ⟨w.heap.size + 1, 0, none⟩ n old ((w.alloc (.cells #[th 121, .pointer (some p), .int .u64 150] 158)).alloc (.cells #[.int .i64 n] 32))
    (by rw [World.cell?_alloc_at _ _ _ _ (by simp)]; rfl)
    (by rw [World.cell?_alloc_lt _ _ t (by simp; omega), World.cell?_alloc_lt _ _ t htl]; exact ht0)
    (by rw [World.frozen?_alloc_old _ _ t (by simp; omega), World.frozen?_alloc_old _ _ t (Nat.ne_of_lt htl)]; exact hf0)
  go_enter Tryz.func60, Tryz.ntmps60
  go_wp2_with fail
  refine wp_loop_rounds 2 ?_
  rw [rounds_succ]
  go_wp2_with fail
  refine (unwrap_any a n _ (by rw [World.cell?_alloc_lt _ _ a (World.block_lt_of_cell? w a ha)]; exact ha)).mono ?_
  rintro e w2 ⟨rfl, rfl⟩
  go_wp2_with fail
  rw [rounds_succ]
  go_wp2_with fail
  go_ret
  refine ⟨rfl, World.cell?_setCell_same _ _ _ (by rw [World.cell?_alloc_lt _ _ t (by simp; omega), World.cell?_alloc_lt _ _ t htl]; exact ht0), ?_⟩
  exact only_setCell (only_alloc (only_alloc (only_refl _ _) _) _) (.inl rfl) _
set_option maxRecDepth 100000 in
set_option maxHeartbeats 4000000 in
/-- errors.As, over errors.as. -/
theorem as_of (T : TypeId) (v : Value) (n : Int) (t : Addr) (old : Value) (w : World) (hg : w.cell? ⟨0, 0, none⟩ = some (.iface 193 (.agg #[th 39]))) (ht0 : w.cell? t = some old) (hf0 : w.frozen? t = false)
    (hin : ∀ (p : Addr) (W : World), Below w.heap.size w W → W.cell? p = some (.pointer (some t)) → Calls Tryz.prog 60 #[.iface T v, .iface 121 (.pointer (some t)), .agg #[th 121, .pointer (some p), .int .u64 150], .iface 193 (.agg #[th 32])] W
      fun ev w' => ev = .returned (.bool true) ∧ w'.cell? t = some (.int .i64 n) ∧ W.grownBy w' (some t.block)) :
    Calls Tryz.prog 40 #[.iface T v, .iface 121 (.pointer (some t))] w fun ev w' => ev = .returned (.bool true) ∧ w'.cell? t = some (.int .i64 n) ∧ w.grownBy w' (some t.block) := by
  have HIN := Lib.hid hin
  clear hin
  have h4 := ext_valueOf
  have h6 := ext_type
  have h7 := ext_isNil
  have h8 := ext_kind
  have h9 := ext_elem
  have h10 := ext_implements
  have f1 := valueOfP
  have f2 := typeP
  have f3 := kindP
  have f4 := kindE
  have f5 := elemP
  have f6 := implementsE
  have m1 := methodKind
  have m2 := methodElem
  have m3 := methodImplements
  have hgl := World.block_lt_of_cell? w _ hg
  have n8 := isNilP ⟨w.heap.size, 0, none⟩ t ((w.alloc (.cells #[.pointer (some t)] 121)).alloc (.cells #[th 121, .pointer (some ⟨w.heap.size, 0, none⟩), .int .u64 150] 158)) (by simp)
  have hg2 : ((w.alloc (.cells #[.pointer (some t)] 121)).alloc (.cells #[th 121, .pointer (some ⟨w.heap.size, 0, none⟩), .int .u64 150] 158)).cell? ⟨0, 0, none⟩ = some (.iface 193 (.agg #[th 39])) := by
    rw [World.cell?_alloc_lt _ _ ⟨0, 0, none⟩ (by simp), World.cell?_alloc_lt _ _ ⟨0, 0, none⟩ hgl]; exact hg
  go_enter Tryz.func40, Tryz.ntmps40
  go_wp2_with fail
  refine (HIN.out ⟨w.heap.size, 0, none⟩ _ (((Below.refl _ _).alloc (Nat.le_refl _) _).alloc (by simp) _) (by simp)).mono ?_
  rintro e w2 ⟨rfl, hc2, hgr⟩
  go_wp2_with fail
  go_ret
  exact ⟨rfl, hc2, only_trans (only_alloc (only_alloc (only_refl _ _) _) _) hgr⟩
end Go.Proofs.YtkbjnlcongjokaaGreatDoor

/- api.Tell, plain.Place, quaymasterlaw.bare: what an error is. -/
namespace Go.Proofs.YtkbjnlcongjokaaGreatDoor
open Go.RowKit Go.Extern.Stop Go.Stop Go.Extern
/-- An error of the program: none (0, -1), a bare Errno (e, -1), or one at a place. -/
def IsErr (w : World) (v : Value) (e pl : Int) : Prop :=
  (v = errV e ∧ pl = -1) ∨ (e ≠ 0 ∧ ∃ b : Nat, v = .iface 78 (.pointer (some ⟨b, 0, none⟩)) ∧ w.cell? ⟨b, 0, none⟩ = some (.int .i64 e) ∧ w.cell? ⟨b, 1, none⟩ = some (.int .i64 pl))
theorem IsErr.below {B : Nat} {w w' : World} {v : Value} {e pl : Int} (h : IsErr w v e pl) (hB : w.heap.size ≤ B) (hb : Below B w w') : IsErr w' v e pl := by
  rcases h with h | ⟨he, a, hv, h1, h2⟩
  · exact .inl h
  · refine .inr ⟨he, a, hv, ?_, ?_⟩
    · rw [hb.cell (p := ⟨a, 0, none⟩) (Nat.lt_of_lt_of_le (World.block_lt_of_cell? w _ h1) hB)]; exact h1
    · rw [hb.cell (p := ⟨a, 1, none⟩) (Nat.lt_of_lt_of_le (World.block_lt_of_cell? w _ h2) hB)]; exact h2
/-- What the program's start has laid in errors.errorType. -/
def ErrTy (w : World) : Prop := w.cell? ⟨0, 0, none⟩ = some (.iface 193 (.agg #[th 39]))
theorem ErrTy.below {w w' : World} (h : ErrTy w) (hb : Below w.heap.size w w') : ErrTy w' := by
  unfold ErrTy at h ⊢
  rw [hb.cell (p := ⟨0, 0, none⟩) (World.block_lt_of_cell? w _ h)]; exact h
set_option maxRecDepth 100000 in
set_option maxHeartbeats 1000000 in
theorem tell_any (v : Value) (e pl : Int) (w : World) (hg : ErrTy w) (h : IsErr w v e pl) :
    Calls Tryz.prog 20 #[v] w fun en w' => en = .returned (.int .i64 e) ∧ Below w.heap.size w w' := by
  rcases h with ⟨rfl, rfl⟩ | ⟨he, a, rfl, h1, h2⟩
  · by_cases h0 : e = 0
    · subst h0
      show Calls _ _ #[Value.nilIface] _ _
      go_enter Tryz.func20, Tryz.ntmps20
      go_wp2
      go_ret
      exact ⟨rfl, Below.refl _ _⟩
    · have hv : errV e = .iface 32 (.int .i64 e) := by rw [errV, if_neg h0]
      rw [hv]
      have hg1 : ErrTy (w.alloc (.cells #[.int .i64 0] 32)) := hg.below ((Below.refl _ _).alloc (Nat.le_refl _) _)
      have hc := as_of 32 (.int .i64 e) e ⟨w.heap.size, 0, none⟩ (.int .i64 0) (w.alloc (.cells #[.int .i64 0] 32)) hg1 (by simp) (by simp) (fun p W hb hp => inner_errno e p _ (.int .i64 0) W hp (by rw [hb.cell (by simp)]; simp) (by rw [hb.frozen (by simp)]; simp))
      have HC := Lib.hid hc
      clear hc hg1 hv
      go_enter Tryz.func20, Tryz.ntmps20
      go_wp2_with fail
      refine HC.out.mono ?_
      rintro en w2 ⟨rfl, hc2, hgr⟩
      have hb2 : Below w.heap.size w w2 := ⟨hgr.os, hgr.tape, hgr.output, by have := hgr.size; simp at this; omega, fun k hk => by rw [hgr.block k (by simp; omega) (by simp; omega), Below.heap_alloc _ _ _ hk]⟩
      go_wp2_with fail
      go_ret
      exact ⟨rfl, hb2⟩
  · have hg1 : ErrTy (w.alloc (.cells #[.int .i64 0] 32)) := hg.below ((Below.refl _ _).alloc (Nat.le_refl _) _)
    have hal : a < w.heap.size := World.block_lt_of_cell? w ⟨a, 0, none⟩ h1
    have hc := as_of 78 (.pointer (some ⟨a, 0, none⟩)) e ⟨w.heap.size, 0, none⟩ (.int .i64 0) (w.alloc (.cells #[.int .i64 0] 32)) hg1 (by simp) (by simp) (fun p W hb hp => inner_at e pl ⟨a, 0, none⟩ p _ (.int .i64 0) W hp (by rw [hb.cell (by simp)]; simp) (by rw [hb.frozen (by simp)]; simp) (by rw [hb.cell (by simp; omega), World.cell?_alloc_lt _ _ ⟨a, 0, none⟩ hal]; exact h1))
    have HC := Lib.hid hc
    clear hc hg1
    go_enter Tryz.func20, Tryz.ntmps20
    go_wp2_with fail
    refine HC.out.mono ?_
    rintro en w2 ⟨rfl, hc2, hgr⟩
    have hb2 : Below w.heap.size w w2 := ⟨hgr.os, hgr.tape, hgr.output, by have := hgr.size; simp at this; omega, fun k hk => by rw [hgr.block k (by simp; omega) (by simp; omega), Below.heap_alloc _ _ _ hk]⟩
    go_wp2_with fail
    go_ret
    exact ⟨rfl, hb2⟩
end Go.Proofs.YtkbjnlcongjokaaGreatDoor

/- A region whose operations write a run of scratch slots each once, in whatever order: each operation is shown once, from what those say that must stand ahead of it. -/
namespace Go.Proofs.YtkbjnlcongjokaaGreatDoor
open Go Go.RowKit
section
variable {P : Program} {ops : Array Oper} {Q : Exit → Act → World → Prop}
structure LinInv (ops : Array Oper) (d : Nat → Nat) (R : Nat → Value → World → Prop) (a0 : Act) (w0 : World) (listed : Array Bool) (a : Act) (w : World) : Prop where
  size : a.tmps.size = a0.tmps.size
  defers : a.defers = a0.defers
  low : ∀ t, (∀ i, i < ops.size → d i ≠ t) → a.tmps.getD t undef = a0.tmps.getD t undef
  below : Below w0.heap.size w0 w
  len : listed.size = ops.size
  done : ∀ i, listed.getD i false = true → R i (a.tmps.getD (d i) undef) w
def linOk (ops : Array Oper) (d : Nat → Nat) : Bool :=
  (List.range ops.size).all fun i => match ops[i]? with
    | some o => (match o.dst with | some t => t == d i | none => false) && o.guard.isNone && o.after.all fun e => decide (e.on < i)
    | none => false
theorem linOk_at {d : Nat → Nat} (h : linOk ops d = true) {i : Nat} {o : Oper} (ho : ops[i]? = some o) : o.dst = some (d i) ∧ o.guard = none ∧ ∀ e ∈ o.after, e.on < i := by
  have hi : i < ops.size := by
    rcases Nat.lt_or_ge i ops.size with h | h
    · exact h
    · rw [Array.getElem?_eq_none h] at ho; cases ho
  have := List.all_eq_true.1 h i (List.mem_range.2 hi)
  rw [ho] at this
  simp only [Bool.and_eq_true] at this
  obtain ⟨⟨h1, h2⟩, h3⟩ := this
  refine ⟨?_, ?_, ?_⟩
  · revert h1; cases o.dst with
    | none => intro h; cases h
    | some t => intro h; simp at h; rw [h]
  · revert h2; cases o.guard with
    | none => intro _; rfl
    | some d => intro h; cases h
  · intro e he
    have := Array.all_eq_true'.1 h3 e he
    simpa using this
def unl (ops : Array Oper) (listed : Array Bool) : List Nat := (List.range ops.size).filter fun i => !listed.getD i false
theorem unl_set (ops : Array Oper) (listed : Array Bool) (i : Nat) (hi : i < ops.size) (hl : listed.size = ops.size) (hn : listed.getD i false = false) :
    (unl ops (listed.setIfInBounds i true)).length < (unl ops listed).length := by
  have e : unl ops (listed.setIfInBounds i true) = (unl ops listed).filter (fun j => j != i) := by
    unfold unl
    rw [List.filter_filter]
    refine List.filter_congr fun j hj => ?_
    by_cases h : j = i
    · subst h; simp [Array.getD_eq_getD_getElem?, hl, hi]
    · have : i ≠ j := fun e => h e.symm
      simp [Array.getD_eq_getD_getElem?, Array.getElem?_setIfInBounds_ne this, h]
  rw [e]
  refine List.length_filter_lt_length_iff_exists.2 ⟨i, ?_, by simp⟩
  unfold unl
  rw [List.mem_filter]
  exact ⟨List.mem_range.2 hi, by rw [hn]; rfl⟩
theorem wpOp_lin {d : Nat → Nat} {K : Act → World → Prop} {i : Nat} {o : Oper} {a : Act} {w : World} (ho : ops[i]? = some o) (hg : o.guard = none) (h : o.wp P a w K Q) : wpOp P ops Q i K a w := by
  unfold wpOp
  rw [ho]
  have : Region.wanted o (yielded ops a.tmps) = true := by unfold Region.wanted; rw [hg]
  simp only [this, if_true]
  exact Or.inl h
theorem lin_main {d : Nat → Nat} {R : Nat → Value → World → Prop} {a0 : Act} {w0 : World} (hok : linOk ops d = true) (hinj : ∀ i j, i < ops.size → j < ops.size → d i = d j → i = j) (hsz : ∀ i, i < ops.size → d i < a0.tmps.size)
    (hR : ∀ i v w w', R i v w → Below w.heap.size w w' → R i v w')
    (hop : ∀ (i : Nat) (o : Oper), ops[i]? = some o → ∀ (a : Act) (w : World), Below w0.heap.size w0 w → (∀ t, (∀ i, i < ops.size → d i ≠ t) → a.tmps.getD t undef = a0.tmps.getD t undef) →
      (∀ j, (o.after.any fun e => Region.binds .any e && e.on == j) = true → R j (a.tmps.getD (d j) undef) w) →
      o.wp P a w (fun a' w' => ∃ v, a' = a.put o.dst v ∧ Below w.heap.size w w' ∧ R i v w') Q)
    (hend : ∀ (a : Act) (w : World), a.tmps.size = a0.tmps.size → a.defers = a0.defers → (∀ t, (∀ i, i < ops.size → d i ≠ t) → a.tmps.getD t undef = a0.tmps.getD t undef) → Below w0.heap.size w0 w →
      (∀ i, i < ops.size → R i (a.tmps.getD (d i) undef) w) → Q .normal a w) :
    ∀ (fuel : Nat) (listed : Array Bool) (a : Act) (w : World), LinInv ops d R a0 w0 listed a w → (unl ops listed).length ≤ fuel → wpAny P .any ops Q fuel listed a w := by
  have hfin : ∀ (listed : Array Bool) (a : Act) (w : World), LinInv ops d R a0 w0 listed a w → Region.ready .any ops listed = [] → Q .normal a w := by
    intro listed a w h hr
    refine hend a w h.size h.defers h.low h.below fun i hi => h.done i ?_
    induction i using Nat.strongRecOn with
    | ind i ih =>
      cases hl : listed.getD i false with
      | true => rfl
      | false =>
        exfalso
        have ho : ops[i]? = some ops[i] := Array.getElem?_eq_getElem hi
        obtain ⟨_, _, hlt⟩ := linOk_at hok ho
        have : i ∈ Region.ready .any ops listed := by
          unfold Region.ready
          rw [List.mem_filter]
          refine ⟨List.mem_range.2 hi, ?_⟩
          have h1 : listed.getD i true = false := by
            have : i < listed.size := by rw [h.len]; exact hi
            simp only [Array.getD_eq_getD_getElem?, Array.getElem?_eq_getElem this, Option.getD_some] at hl ⊢
            exact hl
          rw [h1, ho]
          simp only [Option.map_some, Option.getD_some, Bool.not_false, Bool.true_and]
          refine Array.all_eq_true'.2 fun e he => ?_
          rw [ih e.on (hlt e he) (Nat.lt_trans (hlt e he) hi)]
          simp
        rw [hr] at this
        cases this
  intro fuel
  induction fuel with
  | zero =>
    intro listed a w h hu
    have hnil : unl ops listed = [] := List.eq_nil_of_length_eq_zero (by omega)
    have hr : Region.ready .any ops listed = [] := by
      unfold Region.ready
      rw [List.filter_eq_nil_iff]
      intro i hi
      have hi' : i < ops.size := List.mem_range.1 hi
      have h1 : listed.getD i false = true := by
        cases hl : listed.getD i false with
        | true => rfl
        | false =>
          have : i ∈ unl ops listed := by
            unfold unl; rw [List.mem_filter]; exact ⟨hi, by rw [hl]; rfl⟩
          rw [hnil] at this; cases this
      have h2 : listed.getD i true = true := by
        have : i < listed.size := by rw [h.len]; exact hi'
        simp only [Array.getD_eq_getD_getElem?, Array.getElem?_eq_getElem this, Option.getD_some] at h1 ⊢
        exact h1
      rw [h2]; simp
    exact ⟨hr, hfin listed a w h hr⟩
  | succ fuel ih =>
    intro listed a w h hu
    refine ⟨hfin listed a w h, ?_⟩
    intro i hi
    unfold Region.ready at hi
    rw [List.mem_filter] at hi
    obtain ⟨hi, hc⟩ := hi
    have hi' : i < ops.size := List.mem_range.1 hi
    have ho : ops[i]? = some ops[i] := Array.getElem?_eq_getElem hi'
    obtain ⟨hd, hg, hlt⟩ := linOk_at hok ho
    rw [ho] at hc
    simp only [Option.map_some, Option.getD_some, Bool.and_eq_true] at hc
    obtain ⟨hc1, hc2⟩ := hc
    have hni : listed.getD i false = false := by
      have : i < listed.size := by rw [h.len]; exact hi'
      simp only [Array.getD_eq_getD_getElem?, Array.getElem?_eq_getElem this, Option.getD_some] at hc1 ⊢
      revert hc1; cases listed[i] <;> simp
    refine wpOp_lin (d := d) ho hg (Oper.wp_mono ?_ (hop i ops[i] ho a w h.below h.low ?_))
    · rintro a' w' ⟨v, rfl, hb, hv⟩
      have hL : w0.heap.size ≤ w.heap.size := h.below.size
      refine ih _ _ _ ⟨?_, ?_, ?_, ?_, ?_, ?_⟩ (by have := unl_set ops listed i hi' h.len hni; omega)
      · rw [hd]; simp [Act.put, h.size]
      · rw [hd]; simp [Act.put, h.defers]
      · intro t ht
        rw [hd, ← h.low t ht]
        have : d i ≠ t := ht i hi'
        simp [Act.put, Array.getD_eq_getD_getElem?, Array.getElem?_setIfInBounds_ne this]
      · exact h.below.trans (hb.mono hL)
      · simp [h.len]
      · intro j hj
        by_cases e : j = i
        · subst e
          have : d j < a.tmps.size := by rw [h.size]; exact hsz j hi'
          rw [hd]
          simpa [Act.put, Array.getD_eq_getD_getElem?, this] using hv
        · have h1 : i ≠ j := fun x => e x.symm
          have h3 : listed.getD j false = true := by
            rw [← hj]; simp [Array.getD_eq_getD_getElem?, Array.getElem?_setIfInBounds_ne h1]
          have hj2 : j < ops.size := by
            rcases Nat.lt_or_ge j ops.size with g | g
            · exact g
            · rw [Array.getD_eq_getD_getElem?, Array.getElem?_eq_none (by rw [h.len]; exact g)] at h3; cases h3
          have h2 : d i ≠ d j := fun g => h1 (hinj i j hi' hj2 g)
          rw [hd]
          have := hR _ _ _ _ (h.done j h3) hb
          simpa [Act.put, Array.getD_eq_getD_getElem?, Array.getElem?_setIfInBounds_ne h2] using this
    · intro j hj
      obtain ⟨k, hk, e1⟩ := Array.any_eq_true.1 hj
      simp only [Bool.and_eq_true, beq_iff_eq] at e1
      have hm := Array.all_eq_true'.1 hc2 _ (Array.getElem_mem hk)
      rw [e1.1] at hm
      simp only [Bool.not_true, Bool.false_or] at hm
      rw [e1.2] at hm
      exact h.done j hm
theorem wp_region_lin {id : Nat} {a0 : Act} {w0 : World} (hm : P.follows .mixedOrders = true) (d : Nat → Nat) (R : Nat → Value → World → Prop)
    (hok : linOk ops d = true) (hinj : ∀ i j, i < ops.size → j < ops.size → d i = d j → i = j) (hsz : ∀ i, i < ops.size → d i < a0.tmps.size)
    (hR : ∀ i v w w', R i v w → Below w.heap.size w w' → R i v w')
    (hop : ∀ (i : Nat) (o : Oper), ops[i]? = some o → ∀ (a : Act) (w : World), Below w0.heap.size w0 w → (∀ t, (∀ i, i < ops.size → d i ≠ t) → a.tmps.getD t undef = a0.tmps.getD t undef) →
      (∀ j, (o.after.any fun e => Region.binds .any e && e.on == j) = true → R j (a.tmps.getD (d j) undef) w) →
      o.wp P a w (fun a' w' => ∃ v, a' = a.put o.dst v ∧ Below w.heap.size w w' ∧ R i v w') Q)
    (hend : ∀ (a : Act) (w : World), a.tmps.size = a0.tmps.size → a.defers = a0.defers → (∀ t, (∀ i, i < ops.size → d i ≠ t) → a.tmps.getD t undef = a0.tmps.getD t undef) → Below w0.heap.size w0 w →
      (∀ i, i < ops.size → R i (a.tmps.getD (d i) undef) w) → Q .normal a w) : (Code.region id ops true).wp P Q a0 w0 := by
  refine wp_region_any hm (lin_main hok hinj hsz hR hop hend ops.size _ _ _ ⟨rfl, rfl, fun _ _ => rfl, ?_, by simp, ?_⟩ ?_)
  · exact (Below.refl _ w0).trans ⟨rfl, rfl, rfl, Nat.le_refl _, fun _ _ => rfl⟩
  · intro i hi
    by_cases h : i < ops.size
    · simp [Array.getD_eq_getD_getElem?, h] at hi
    · simp [Array.getD_eq_getD_getElem?, h] at hi
  · unfold unl; exact Nat.le_trans (List.length_filter_le _ _) (by simp)
theorem wp_region_linN {id : Nat} {a0 : Act} {w0 : World} (hm : P.follows .mixedOrders = true) (d : Nat → Nat) (n : Nat) (hn : ops.size = n) (R : Nat → Value → World → Prop)
    (hok : linOk ops d = true) (hinj : ∀ i j, i < n → j < n → d i = d j → i = j) (hsz : ∀ i, i < n → d i < a0.tmps.size)
    (hR : ∀ i v w w', R i v w → Below w.heap.size w w' → R i v w')
    (hop : ∀ (i : Nat) (o : Oper), ops[i]? = some o → ∀ (a : Act) (w : World), Below w0.heap.size w0 w → (∀ t, (∀ i, i < n → d i ≠ t) → a.tmps.getD t undef = a0.tmps.getD t undef) →
      (∀ j, (o.after.any fun e => Region.binds .any e && e.on == j) = true → R j (a.tmps.getD (d j) undef) w) →
      o.wp P a w (fun a' w' => ∃ v, a' = a.put o.dst v ∧ Below w.heap.size w w' ∧ R i v w') Q)
    (hend : ∀ (a : Act) (w : World), a.tmps.size = a0.tmps.size → a.defers = a0.defers → (∀ t, (∀ i, i < n → d i ≠ t) → a.tmps.getD t undef = a0.tmps.getD t undef) → Below w0.heap.size w0 w →
      (∀ i, i < n → R i (a.tmps.getD (d i) undef) w) → Q .normal a w) : (Code.region id ops true).wp P Q a0 w0 := by
  subst hn
  exact wp_region_lin hm d R hok hinj hsz hR hop hend
end
end Go.Proofs.YtkbjnlcongjokaaGreatDoor

/- field.Get, quaymasterref.Unnumber: the number that bytes are. -/
namespace Go.Proofs.YtkbjnlcongjokaaGreatDoor
open Go.RowKit
/-- The number that bytes are, the highest first. -/
def beN (l : List UInt8) : Nat := l.foldl (fun n c => n * 256 + c.toNat) 0
theorem beN_snoc (l : List UInt8) (c : UInt8) : beN (l ++ [c]) = beN l * 256 + c.toNat := by simp [beN]
theorem beN_lt : ∀ (k : Nat) (l : List UInt8), l.length = k → beN l < 256 ^ k := by
  intro k
  induction k with
  | zero => intro l h; rw [List.eq_nil_of_length_eq_zero h]; decide
  | succ k ih =>
    intro l h
    obtain ⟨c, hl⟩ : ∃ c, l = l.dropLast ++ [c] := ⟨l.getLast (by intro e; simp [e] at h), (List.dropLast_concat_getLast _).symm⟩
    rw [hl, beN_snoc]
    have := ih l.dropLast (by simp [h])
    have := c.toNat_lt
    rw [Nat.pow_succ]
    omega
theorem take_snoc (s : ByteArray) (k : Nat) (h : k < s.size) : s.data.toList.take (k + 1) = s.data.toList.take k ++ [s[k]] := by
  rw [List.take_succ_eq_append_getElem (by simpa using h)]; rfl
theorem take_all (s : ByteArray) (k : Nat) (h : s.size ≤ k) : s.data.toList.take k = s.data.toList := List.take_of_length_le (by rw [← Lib.size_eq]; exact h)
theorem shl_or (n c : Nat) (hn : n < 72057594037927936) (hc : c < 256) : bits .or .u64 ((n : Int) * 256) (c : Int) = ((n * 256 + c : Nat) : Int) := by
  have : ((n : Int) * 256) = ((n * 256 : Nat) : Int) := by simp
  rw [this, u64_or_nat _ _ (by omega) (by omega), nat_join 8 _ _ (by simp) (by simpa using hc)]
/-- []byte(s): the new block. -/
theorem conv_bytes (s : ByteArray) (w : World) : (convert 9 140 (.string s)).run Tryz.prog w = .ok (.slice (some ⟨w.heap.size, 0, none⟩) s.size (grownCap w s.size 0 5)) (Lib.bytesWorld w 5 s) :=
  Lib.run_convert_string_bytes w _ _ _ s Tryz.underlying9 Tryz.underlying140 Tryz.underlying5
theorem bytesWorld_below (w : World) (e : TypeId) (s : ByteArray) : Below w.heap.size w (Lib.bytesWorld w e s) :=
  ⟨rfl, rfl, rfl, by rw [Lib.bytesWorld_size]; omega, fun k hk => Lib.bytesWorld_at_old w e s k hk⟩
theorem bytesWorld_at (w : World) (e : TypeId) (s : ByteArray) (k : Nat) (h : k < s.size) : (Lib.bytesWorld w e s).cell? ⟨w.heap.size, k, none⟩ = some (.int .u8 (s[k]'h).toNat) := by
  rw [Lib.bytesWorld_cell w e s k h]
  congr 3
  rw [List.getD_eq_getElem?_getD, List.getElem?_eq_getElem (by rw [← Lib.size_eq]; exact h)]
  rfl
theorem byte_lt (c : UInt8) : ((c.toNat : Nat) : Int) < 256 := by have := c.toNat_lt; omega
end Go.Proofs.YtkbjnlcongjokaaGreatDoor

/- quaymasterref.within, Pad, PduSize; pdu.Modes, Size. -/
namespace Go.Proofs.YtkbjnlcongjokaaGreatDoor
open Go.RowKit
def wi (n lo hi : Int) : Bool := decide (lo ≤ n) && decide (n ≤ hi)
theorem wi_yes {n lo hi : Int} (h : lo ≤ n ∧ n ≤ hi) : wi n lo hi = true := by simp [wi, h]
theorem wi_no {n lo hi : Int} (h : ¬ (lo ≤ n ∧ n ≤ hi)) : wi n lo hi = false := by simp [wi]; omega
theorem within_any (n lo hi : Int) (w : World) : Calls Tryz.prog 25 #[.int .i64 n, .int .i64 lo, .int .i64 hi] w fun e w' => e = .returned (.bool (wi n lo hi)) ∧ w' = w := by
  by_cases h1 : lo ≤ n
  · by_cases h2 : n ≤ hi
    · rw [wi_yes ⟨h1, h2⟩]
      go_enter Tryz.func25, Tryz.ntmps25
      go_wp2
      go_ret
      exact ⟨rfl, rfl⟩
    · rw [wi_no (by omega)]
      go_enter Tryz.func25, Tryz.ntmps25
      go_wp2
      go_ret
      exact ⟨rfl, rfl⟩
  · rw [wi_no (by omega)]
    go_enter Tryz.func25, Tryz.ntmps25
    go_wp2
    go_ret
    exact ⟨rfl, rfl⟩
end Go.Proofs.YtkbjnlcongjokaaGreatDoor

/- quaymasterref.at, kinds' literal; what one operation of kinds' drawn region makes. -/
namespace Go.Proofs.YtkbjnlcongjokaaGreatDoor
open Go.RowKit
theorem at_any (n : ByteArray) (a b : Int) (w : World) : Calls Tryz.prog 85 #[.string n, .int .i64 a, .int .i64 b] w fun e w' => e = .returned (.agg #[.string n, .int .i64 a, .int .i64 b]) ∧ Below w.heap.size w w' := by
  go_enter Tryz.func85, Tryz.ntmps85
  go_wp2
  exact bodyPost_ret (v := .agg #[.string n, .int .i64 a, .int .i64 b]) (by simp [results, Tryz.results85, go_sem]) rfl ⟨rfl, (Below.refl _ w).alloc (Nat.le_refl _) _⟩
theorem kinds1_any (v : Value) (w : World) : Calls Tryz.prog 86 #[v] w fun e w' => e = .returned v ∧ w = w' := by
  go_enter Tryz.func86, Tryz.ntmps86
  go_wp2
  go_ret
  exact ⟨rfl, rfl⟩
structure Fld where
  n : ByteArray
  a : Int
  b : Int
structure Knd where
  op : Int
  n : ByteArray
  m : Int
  l : List Fld
def Fld.cells (f : Fld) : List Value := [.string f.n, .int .i64 f.a, .int .i64 f.b]
def Fld.v (f : Fld) : Value := .agg f.cells.toArray
/-- The fields l stand in a block of their own, and v is the slice of them. -/
def FldsAt (w : World) (v : Value) (l : List Fld) : Prop :=
  ∃ b, v = .slice (some ⟨b, 0, none⟩) l.length l.length ∧ w.heap[b]? = some (.cells (l.flatMap Fld.cells).toArray 133)
theorem heap_lt {w : World} {b : Nat} {o : Obj} (h : w.heap[b]? = some o) : b < w.heap.size := by
  rcases Nat.lt_or_ge b w.heap.size with h' | h'
  · exact h'
  · rw [Array.getElem?_eq_none h'] at h; cases h
theorem FldsAt.below {w w' : World} {v : Value} {l : List Fld} (h : FldsAt w v l) (hb : Below w.heap.size w w') : FldsAt w' v l := by
  obtain ⟨b, h1, h2⟩ := h
  exact ⟨b, h1, by rw [hb.block b (heap_lt h2)]; exact h2⟩
def rowCells (k : Knd) (v : Value) : List Value := [.int .i64 k.op, .string k.n, .int .i64 k.m, v]
inductive SV where
  | none | fn
  | fld (f : Fld)
  | flds (l : List Fld)
  | row (k : Knd)
  | rows (l : List Knd)
/-- The rows l stand in a block of their own, and v is the slice of them. -/
def KndsAt (w : World) (v : Value) (l : List Knd) : Prop :=
  ∃ b vs, v = .slice (some ⟨b, 0, Option.none⟩) l.length l.length ∧ w.heap[b]? = some (.cells ((l.zip vs).flatMap fun x => rowCells x.1 x.2).toArray 170) ∧
    vs.length = l.length ∧ ∀ (i : Nat) (k : Knd) (v : Value), l[i]? = some k → vs[i]? = some v → FldsAt w v k.l
theorem KndsAt.below {w w' : World} {v : Value} {l : List Knd} (h : KndsAt w v l) (hb : Below w.heap.size w w') : KndsAt w' v l := by
  obtain ⟨b, vs, h1, h2, h3, h4⟩ := h
  exact ⟨b, vs, h1, by rw [hb.block b (heap_lt h2)]; exact h2, h3, fun i k v hk hv => (h4 i k v hk hv).below hb⟩
def SV.holds : SV → Value → World → Prop
  | .none, _, _ => True
  | .fn, v, _ => v = .func (.func 86) #[] #[]
  | .fld f, v, _ => v = f.v
  | .flds l, v, w => FldsAt w v l
  | .row k, v, w => ∃ s, v = .agg (rowCells k s).toArray ∧ FldsAt w s k.l
  | .rows l, v, w => KndsAt w v l
theorem SV.below (s : SV) {v : Value} {w w' : World} (h : s.holds v w) (hb : Below w.heap.size w w') : s.holds v w' := by
  cases s with
  | none => exact h
  | fn => exact h
  | fld f => exact h
  | flds l => exact FldsAt.below h hb
  | row k => obtain ⟨s, h1, h2⟩ := h; exact ⟨s, h1, h2.below hb⟩
  | rows l => exact KndsAt.below h hb
def slot (j : Nat) : Nat := if j = 200 then 0 else j + 22
/-- What operation k of the region is to show. -/
def OpOk (tab : Nat → SV) (box : Nat → Option Fld) (b : Nat → Nat) (k : Nat) (o : Oper) : Prop :=
  ∀ (Q : Exit → Act → World → Prop) (a : Act) (w : World), a.tmps.getD 11 undef = .func (.func 86) #[] #[] →
    (∀ t f, box t = some f → a.tmps.getD t undef = .pointer (some ⟨b t, 0, Option.none⟩) ∧ w.rangeAt (b t) 0 f.cells) →
    (∀ j, (o.after.toList.any fun e => Region.binds .any e && e.on == j) = true → (tab j).holds (a.tmps.getD (slot j) undef) w) →
    o.wp Tryz.prog a w (fun a' w' => ∃ v, a' = a.put o.dst v ∧ Below w.heap.size w w' ∧ (tab k).holds v w') Q
theorem info_of (t : TypeId) (n : Nat) (h : ((Tryz.prog.info? t).bind fun ie => ie.zero.map fun _ => ie.size) = some n) : ∃ ie z, Tryz.prog.info? t = some ie ∧ ie.zero = some z ∧ ie.size = n := by
  cases hi : Tryz.prog.info? t with
  | none => rw [hi] at h; cases h
  | some ie =>
    rw [hi] at h
    cases hz : ie.zero with
    | none => simp [hz] at h
    | some z => simp [hz] at h; exact ⟨ie, z, rfl, hz, h⟩
section
variable {tab : Nat → SV} {box : Nat → Option Fld} {b : Nat → Nat} {k : Nat} {o : Oper}
theorem op_move (ho : o.op = .move (.tmp 11)) (ht : tab k = .fn) : OpOk tab box b k o := by
  intro Q a w h11 _ _
  unfold Oper.wp execOp
  simp only [ho]
  refine ⟨_, rfl, Below.refl _ _, ?_⟩
  rw [ht]
  exact h11
theorem op_load {t : Nat} {f : Fld} (ho : o.op = .load 133 (.tmp t)) (hb : box t = some f) (ht : tab k = .fld f) : OpOk tab box b k o := by
  intro Q a w _ hbx _
  obtain ⟨h1, h2⟩ := hbx t f hb
  refine wp_load_mid _ _ ho (b t) 0 h1 f.cells _ h2 Tryz.underlying133 rfl (by show (Tryz.prog.info? 133).map (·.size) = some 3; kernel_rfl) ⟨_, rfl, Below.refl _ _, ?_⟩
  rw [ht]
  rfl
theorem op_at {n : ByteArray} {x y : Int} {ty : Array TypeId} (ho : o.op = .call { callee := .value (.func 85), args := #[.const (.string n), .const (.int .i64 x), .const (.int .i64 y)], argTypes := ty }) (ht : tab k = .fld ⟨n, x, y⟩) : OpOk tab box b k o := by
  intro Q a w _ _ _
  have hr : (execOp a.eval o).run Tryz.prog w = .ok (.enter 85 #[.string n, .int .i64 x, .int .i64 y]) w := by
    unfold execOp
    simp only [ho]
    kernel_rfl
  unfold Oper.wp
  rw [hr, Oper.upon_enter]
  refine (at_any n x y w).mono ?_
  rintro e w' ⟨rfl, hb⟩
  refine ⟨_, rfl, hb, ?_⟩
  rw [ht]
  rfl
theorem op_call {s t : Nat} {l : List Fld} {ty : Array TypeId} (ho : o.op = .call { callee := .value (.tmp (t + 22)), args := #[.tmp (s + 22)], argTypes := ty })
    (h1 : (o.after.toList.any fun e => Region.binds .any e && e.on == t) = true) (h2 : (o.after.toList.any fun e => Region.binds .any e && e.on == s) = true)
    (hs1 : slot t = t + 22) (hs2 : slot s = s + 22) (ht1 : tab t = .fn) (ht2 : tab s = .flds l) (ht : tab k = .flds l) : OpOk tab box b k o := by
  intro Q a w _ _ hj
  have e1 := hj t h1
  have e2 := hj s h2
  rw [ht1, hs1] at e1
  rw [ht2, hs2] at e2
  replace e1 : a.eval (.tmp (t + 22)) = .func (.func 86) #[] #[] := e1
  have hr : (execOp a.eval o).run Tryz.prog w = .ok (.enter 86 #[a.eval (.tmp (s + 22))]) w := by
    unfold execOp
    simp only [ho, resolve, e1]
    kernel_rfl
  unfold Oper.wp
  rw [hr, Oper.upon_enter]
  refine (kinds1_any _ w).mono ?_
  rintro e w' ⟨rfl, rfl⟩
  refine ⟨_, rfl, Below.refl _ _, ?_⟩
  rw [ht]
  exact e2
theorem op_assign {s : Nat} (ho : o.op = .assign (.tmp (s + 22))) (h2 : (o.after.toList.any fun e => Region.binds .any e && e.on == s) = true) (hs : slot s = s + 22) (ht : tab k = tab s) : OpOk tab box b k o := by
  intro Q a w _ _ hj
  have e2 := hj s h2
  rw [hs] at e2
  unfold Oper.wp execOp
  simp only [ho]
  refine ⟨_, rfl, Below.refl _ _, ?_⟩
  rw [ht]
  exact e2
set_option maxRecDepth 100000 in
theorem built_row (x y : Int) (n : ByteArray) (p : Option Addr) (u v : Nat) : Program.built Tryz.prog 170 [(0, .int .i64 x), (1, .string n), (2, .int .i64 y), (3, .slice p u v)] = some #[.int .i64 x, .string n, .int .i64 y, .slice p u v] := by kernel_rfl
theorem op_row {s : Nat} {n : ByteArray} {x y : Int} {l : List Fld} (ho : o.op = .build 170 #[(0, .const (.int .i64 x)), (1, .const (.string n)), (2, .const (.int .i64 y)), (3, .tmp (s + 22))])
    (h2 : (o.after.toList.any fun e => Region.binds .any e && e.on == s) = true)
    (hs2 : slot s = s + 22) (ht2 : tab s = .flds l) (ht : tab k = .row ⟨x, n, y, l⟩) : OpOk tab box b k o := by
  intro Q a w _ _ hj
  have e2 := hj s h2
  rw [ht2, hs2] at e2
  obtain ⟨bb, e3, e4⟩ := e2
  have e5 : a.eval (.tmp (s + 22)) = .slice (some ⟨bb, 0, Option.none⟩) l.length l.length := e3
  unfold Oper.wp execOp
  simp only [ho, Sem.run_bind]
  have hb := built_row x y n (some ⟨bb, 0, Option.none⟩) l.length l.length
  rw [← e5] at hb
  have hb' := run_build w _ #[(0, Value.int .i64 x), (1, Value.string n), (2, Value.int .i64 y), (3, a.eval (.tmp (s + 22)))] _ hb
  have he : ((#[(0, Operand.const (.int .i64 x)), (1, .const (.string n)), (2, .const (.int .i64 y)), (3, .tmp (s + 22))] : Array (Nat × Operand)).map fun (i, x) => (i, a.eval x)) = #[(0, Value.int .i64 x), (1, Value.string n), (2, Value.int .i64 y), (3, a.eval (.tmp (s + 22)))] := by simp [Act.eval]
  rw [he, hb']
  refine ⟨_, rfl, Below.refl _ _, ?_⟩
  rw [ht]
  exact ⟨_, rfl, bb, e5, e4⟩
theorem parts_of (a : Act) (js : List Nat) (vs : List Value) (h : js.map (fun j => a.eval (.tmp (j + 22))) = vs) :
    (((js.zipIdx 0).map fun x => (x.2, Operand.tmp (x.1 + 22))).toArray.map fun (i, x) => (i, a.eval x)).toList = (vs.zipIdx 0).map fun x => (x.2, x.1) := by
  subst h
  simp [List.zipIdx_map, Function.comp_def]
theorem alloc_heap_new (w : World) (o : Obj) : (w.alloc o).heap[w.heap.size]? = some o := by
  show (w.heap.push o)[w.heap.size]? = _
  simp
theorem zero_fld (n : Nat) (zc : Array Value) (h : zc.size = 3) : ((Array.range n).map (zc[· % zc.size]!)).size = n := by simp
theorem op_flds (js : List Nat) (l : List Fld) (n : Nat) (ho : o.op = .buildSlice 129 n ((js.zipIdx 0).map fun x => (x.2, Operand.tmp (x.1 + 22))).toArray)
    (hn : n = l.length) (hn0 : 0 < l.length) (hn1 : l.length ≤ 1000)
    (hs : ∀ j ∈ js, slot j = j + 22) (h1 : ∀ j ∈ js, (o.after.toList.any fun e => Region.binds .any e && e.on == j) = true) (h2 : js.map tab = l.map .fld) (ht : tab k = .flds l) : OpOk tab box b k o := by
  intro Q a w _ _ hj
  have hv : js.map (fun j => a.eval (.tmp (j + 22))) = l.map Fld.v := by
    clear hn hn0 hn1 ho ht
    have hj' : ∀ j ∈ js, (tab j).holds (a.eval (.tmp (j + 22))) w := fun j hm => by have := hj j (h1 j hm); rw [hs j hm] at this; exact this
    clear hj h1 hs
    induction js generalizing l with
    | nil => cases l with
      | nil => rfl
      | cons f l => cases h2
    | cons j js ih => cases l with
      | nil => cases h2
      | cons f l =>
        simp only [List.map_cons, List.cons.injEq] at h2 ⊢
        refine ⟨?_, ih l h2.2 fun j' hm => hj' j' (List.mem_cons_of_mem _ hm)⟩
        have := hj' j List.mem_cons_self
        rw [h2.1] at this
        exact this
  have hie : ∃ ie z, Tryz.prog.info? 133 = some ie ∧ ie.zero = some z ∧ ie.size = 3 := info_of _ _ (by kernel_rfl)
  obtain ⟨ie, z, hi, hz, hs⟩ := hie
  refine wp_buildSlice 129 133 n _ ho ((l.flatMap Fld.cells).toArray) ie z Tryz.underlying129 hi hz (by rw [hs]; omega) (by rw [hs]; omega) ?_ ?_
  · rw [parts_of a js _ hv, hs]
    have := Great.fill_whole (s := 3) (by omega) (l.map Fld.v) ((Array.range (n * 3)).map (z.cells[· % z.cells.size]!)) (by
      intro v hm
      obtain ⟨f, _, rfl⟩ := List.mem_map.1 hm
      rfl) (by simp [hn])
    rw [this]
    simp [List.flatMap_map, Fld.v, Value.cells]
  · refine ⟨_, rfl, (Below.refl _ w).alloc (Nat.le_refl _) _, ?_⟩
    rw [ht, hn]
    exact ⟨w.heap.size, rfl, alloc_heap_new _ _⟩
theorem op_rows (js : List Nat) (l : List Knd) (n : Nat) (ho : o.op = .buildSlice 167 n ((js.zipIdx 0).map fun x => (x.2, Operand.tmp (x.1 + 22))).toArray)
    (hn : n = l.length) (hn0 : 0 < l.length) (hn1 : l.length ≤ 1000)
    (hs : ∀ j ∈ js, slot j = j + 22) (h1 : ∀ j ∈ js, (o.after.toList.any fun e => Region.binds .any e && e.on == j) = true) (h2 : js.map tab = l.map .row) (ht : tab k = .rows l) : OpOk tab box b k o := by
  intro Q a w _ _ hj
  have hv : ∃ vs : List Value, vs.length = l.length ∧ js.map (fun j => a.eval (.tmp (j + 22))) = (l.zip vs).map (fun x => .agg (rowCells x.1 x.2).toArray) ∧ ∀ (i : Nat) (k : Knd) (v : Value), l[i]? = some k → vs[i]? = some v → FldsAt w v k.l := by
    clear hn hn0 hn1 ho ht
    have hj' : ∀ j ∈ js, (tab j).holds (a.eval (.tmp (j + 22))) w := fun j hm => by have := hj j (h1 j hm); rw [hs j hm] at this; exact this
    clear hj h1 hs
    induction js generalizing l with
    | nil => cases l with
      | nil => exact ⟨[], rfl, rfl, fun i k v hk => by simp at hk⟩
      | cons f l => cases h2
    | cons j js ih => cases l with
      | nil => cases h2
      | cons f l =>
        simp only [List.map_cons, List.cons.injEq] at h2
        obtain ⟨vs, g1, g2, g3⟩ := ih l h2.2 fun j' hm => hj' j' (List.mem_cons_of_mem _ hm)
        have := hj' j List.mem_cons_self
        rw [h2.1] at this
        obtain ⟨s, e1, e2⟩ := this
        refine ⟨s :: vs, by simp [g1], ?_, ?_⟩
        · simp only [List.map_cons, List.zip_cons_cons, g2, e1]
        · intro i k v hk hv
          cases i with
          | zero => simp at hk hv; subst hk hv; exact e2
          | succ i => simp at hk hv; exact g3 i k v hk hv
  obtain ⟨vs, g1, g2, g3⟩ := hv
  have hie : ∃ ie z, Tryz.prog.info? 170 = some ie ∧ ie.zero = some z ∧ ie.size = 4 := info_of _ _ (by kernel_rfl)
  obtain ⟨ie, z, hi, hz, hs⟩ := hie
  refine wp_buildSlice 167 170 n _ ho (((l.zip vs).flatMap fun x => rowCells x.1 x.2).toArray) ie z Tryz.underlying167 hi hz (by rw [hs]; omega) (by rw [hs]; omega) ?_ ?_
  · rw [parts_of a js _ g2, hs]
    have := Great.fill_whole (s := 4) (by omega) ((l.zip vs).map (fun x => .agg (rowCells x.1 x.2).toArray)) ((Array.range (n * 4)).map (z.cells[· % z.cells.size]!)) (by
      intro v hm
      obtain ⟨f, _, rfl⟩ := List.mem_map.1 hm
      rfl) (by simp [hn, g1])
    rw [this]
    simp [List.flatMap_map, Value.cells]
  · refine ⟨_, rfl, (Below.refl _ w).alloc (Nat.le_refl _) _, ?_⟩
    rw [ht, hn]
    exact ⟨w.heap.size, vs, rfl, alloc_heap_new _ _, g1, fun i k v hk hv => (g3 i k v hk hv).below ((Below.refl _ w).alloc (Nat.le_refl _) _)⟩
end
def AllFrom (G : Nat → Oper → Prop) : Nat → List Oper → Prop
  | _, [] => True
  | k, o :: l => G k o ∧ AllFrom G (k + 1) l
theorem AllFrom.at {G : Nat → Oper → Prop} : ∀ {l : List Oper} {k : Nat}, AllFrom G k l → ∀ i o, l[i]? = some o → G (k + i) o
  | [], _, _, i, o, h => by simp at h
  | x :: l, k, h, i, o, hi => by
    cases i with
    | zero => simp at hi; subst hi; exact h.1
    | succ i =>
      simp at hi
      have := h.2.at i o hi
      rw [show k + (i + 1) = k + 1 + i by omega]
      exact this
theorem AllFrom.use {G : Nat → Oper → Prop} {ops : Array Oper} (h : AllFrom G 0 ops.toList) {i : Nat} {o : Oper} (ho : ops[i]? = some o) : G i o := by
  have := h.at i o (by simpa using ho)
  simpa using this
theorem region_gen {c : Code} {Q : Exit → Act → World → Prop} {a : Act} {W : World} (F : World → Prop) (h : ∀ W', F W' → c.wp Tryz.prog Q a W') (hf : F W) : c.wp Tryz.prog Q a W := h W hf
theorem range_of_heap {w : World} {b : Nat} {c : List Value} {t : TypeId} (h : w.heap[b]? = some (.cells c.toArray t)) : w.rangeAt b 0 c := by
  intro j v hv
  simp [World.cell?, h, hv]
theorem alloc_heap_at (w : World) (o : Obj) (i : Nat) (h : i = w.heap.size) : (w.alloc o).heap[i]? = some o := by subst h; exact alloc_heap_new w o
theorem alloc_heap_push (w : World) (o : Obj) : (w.alloc o).heap = w.heap.push o := rfl
theorem range_below {W w1 : World} {b o : Nat} {c : List Value} (h : W.rangeAt b o c) (hb : Below W.heap.size W w1) : w1.rangeAt b o c := fun j v hv => by
  rw [hb.cell (World.block_lt_of_cell? W ⟨b, o + j, Option.none⟩ (h j v hv))]; exact h j v hv
theorem below_alloc {B : Nat} {a w : World} (h : Below B a w) (hB : B ≤ a.heap.size) (o : Obj) : Below B a (w.alloc o) := h.alloc (Nat.le_trans hB h.size) o
theorem AllFrom.cons {G : Nat → Oper → Prop} {k : Nat} {o : Oper} {l : List Oper} (h : G k o) (h' : AllFrom G (k + 1) l) : AllFrom G k (o :: l) := ⟨h, h'⟩
end Go.Proofs.YtkbjnlcongjokaaGreatDoor

/- quaymasterref.kinds: the rows of 5.1 (printed by kinds.py). -/
namespace Go.Proofs.YtkbjnlcongjokaaGreatDoor
open Go.RowKit
theorem at_exact (n : ByteArray) (a b : Int) (w : World) : Calls Tryz.prog 85 #[.string n, .int .i64 a, .int .i64 b] w fun e w' => e = .returned (.agg #[.string n, .int .i64 a, .int .i64 b]) ∧ w.alloc (.cells #[.string n, .int .i64 a, .int .i64 b] 133) = w' := by
  go_enter Tryz.func85, Tryz.ntmps85
  go_wp2
  exact bodyPost_ret (v := .agg #[.string n, .int .i64 a, .int .i64 b]) (by simp [results, Tryz.results85, go_sem]) rfl ⟨rfl, rfl⟩
def b1 : Fld := ⟨⟨#[76, 85, 78]⟩, 8, 8⟩
def b2 : Fld := ⟨⟨#[73, 84, 84]⟩, 16, 4⟩
def b3 : Fld := ⟨⟨#[84, 84, 84]⟩, 20, 4⟩
def b4 : Fld := ⟨⟨#[67, 109, 100, 83, 78]⟩, 24, 4⟩
def b5 : Fld := ⟨⟨#[69, 120, 112, 83, 116, 97, 116, 83, 78]⟩, 28, 4⟩
def b6 : Fld := ⟨⟨#[83, 116, 97, 116, 83, 78]⟩, 24, 4⟩
def b7 : Fld := ⟨⟨#[69, 120, 112, 67, 109, 100, 83, 78]⟩, 28, 4⟩
def b8 : Fld := ⟨⟨#[77, 97, 120, 67, 109, 100, 83, 78]⟩, 32, 4⟩
def b9 : Fld := ⟨⟨#[73, 83, 73, 68]⟩, 8, 6⟩
def b10 : Fld := ⟨⟨#[84, 83, 73, 72]⟩, 14, 2⟩
def k0 : Knd := ⟨0, ⟨#[78, 111, 112, 79, 117, 116]⟩, 128, [b1, b2, b3, b4, b5]⟩
def k1 : Knd := ⟨1, ⟨#[83, 99, 115, 105, 67, 111, 109, 109, 97, 110, 100]⟩, 231, [b1, b2, ⟨⟨#[76, 101, 110, 103, 116, 104]⟩, 20, 4⟩, b4, b5, ⟨⟨#[67, 100, 98, 65]⟩, 32, 8⟩, ⟨⟨#[67, 100, 98, 66]⟩, 40, 8⟩]⟩
def k2 : Knd := ⟨2, ⟨#[84, 97, 115, 107, 82, 101, 113, 117, 101, 115, 116]⟩, 255, [b1, b2, ⟨⟨#[82, 101, 102, 84, 97, 103]⟩, 20, 4⟩, b4, b5, ⟨⟨#[82, 101, 102, 67, 109, 100, 83, 78]⟩, 32, 4⟩, ⟨⟨#[69, 120, 112, 68, 97, 116, 97, 83, 78]⟩, 36, 4⟩]⟩
def k3 : Knd := ⟨3, ⟨#[76, 111, 103, 105, 110, 82, 101, 113, 117, 101, 115, 116]⟩, 207, [⟨⟨#[86, 101, 114, 115, 105, 111, 110, 77, 97, 120]⟩, 2, 1⟩, ⟨⟨#[86, 101, 114, 115, 105, 111, 110, 77, 105, 110]⟩, 3, 1⟩, b9, b10, b2, ⟨⟨#[67, 73, 68]⟩, 20, 2⟩, b4, b5]⟩
def k4 : Knd := ⟨4, ⟨#[84, 101, 120, 116, 82, 101, 113, 117, 101, 115, 116]⟩, 192, [b1, b2, b3, b4, b5]⟩
def k5 : Knd := ⟨5, ⟨#[68, 97, 116, 97, 79, 117, 116]⟩, 128, [b1, b2, b3, b5, ⟨⟨#[68, 97, 116, 97, 83, 78]⟩, 36, 4⟩, ⟨⟨#[79, 102, 102, 115, 101, 116]⟩, 40, 4⟩]⟩
def k6 : Knd := ⟨6, ⟨#[76, 111, 103, 111, 117, 116, 82, 101, 113, 117, 101, 115, 116]⟩, 255, [b2, ⟨⟨#[67, 73, 68]⟩, 20, 2⟩, b4, b5]⟩
def k7 : Knd := ⟨16, ⟨#[83, 110, 97, 99, 107]⟩, 143, [b1, b2, b3, b5, ⟨⟨#[66, 101, 103, 82, 117, 110]⟩, 40, 4⟩, ⟨⟨#[82, 117, 110, 76, 101, 110, 103, 116, 104]⟩, 44, 4⟩]⟩
def k8 : Knd := ⟨32, ⟨#[78, 111, 112, 73, 110]⟩, 128, [b1, b2, b3, b6, b7, b8]⟩
def k9 : Knd := ⟨33, ⟨#[83, 99, 115, 105, 82, 101, 115, 112, 111, 110, 115, 101]⟩, 158, [⟨⟨#[82, 101, 115, 112, 111, 110, 115, 101]⟩, 2, 1⟩, ⟨⟨#[83, 116, 97, 116, 117, 115]⟩, 3, 1⟩, b2, ⟨⟨#[83, 110, 97, 99, 107, 84, 97, 103]⟩, 20, 4⟩, b6, b7, b8, ⟨⟨#[69, 120, 112, 68, 97, 116, 97, 83, 78]⟩, 36, 4⟩, ⟨⟨#[66, 105, 100, 105, 82, 101, 115, 105, 100, 117, 97, 108]⟩, 40, 4⟩, ⟨⟨#[82, 101, 115, 105, 100, 117, 97, 108]⟩, 44, 4⟩]⟩
def k10 : Knd := ⟨34, ⟨#[84, 97, 115, 107, 82, 101, 115, 112, 111, 110, 115, 101]⟩, 128, [⟨⟨#[82, 101, 115, 112, 111, 110, 115, 101]⟩, 2, 1⟩, b2, b6, b7, b8]⟩
def k11 : Knd := ⟨35, ⟨#[76, 111, 103, 105, 110, 82, 101, 115, 112, 111, 110, 115, 101]⟩, 207, [⟨⟨#[86, 101, 114, 115, 105, 111, 110, 77, 97, 120]⟩, 2, 1⟩, ⟨⟨#[86, 101, 114, 115, 105, 111, 110, 65, 99, 116, 105, 118, 101]⟩, 3, 1⟩, b9, b10, b2, b6, b7, b8, ⟨⟨#[83, 116, 97, 116, 117, 115, 67, 108, 97, 115, 115]⟩, 36, 1⟩, ⟨⟨#[83, 116, 97, 116, 117, 115, 68, 101, 116, 97, 105, 108]⟩, 37, 1⟩]⟩
def k12 : Knd := ⟨36, ⟨#[84, 101, 120, 116, 82, 101, 115, 112, 111, 110, 115, 101]⟩, 192, [b1, b2, b3, b6, b7, b8]⟩
def k13 : Knd := ⟨37, ⟨#[68, 97, 116, 97, 73, 110]⟩, 199, [⟨⟨#[83, 116, 97, 116, 117, 115]⟩, 3, 1⟩, b1, b2, b3, b6, b7, b8, ⟨⟨#[68, 97, 116, 97, 83, 78]⟩, 36, 4⟩, ⟨⟨#[79, 102, 102, 115, 101, 116]⟩, 40, 4⟩, ⟨⟨#[82, 101, 115, 105, 100, 117, 97, 108]⟩, 44, 4⟩]⟩
def k14 : Knd := ⟨38, ⟨#[76, 111, 103, 111, 117, 116, 82, 101, 115, 112, 111, 110, 115, 101]⟩, 128, [⟨⟨#[82, 101, 115, 112, 111, 110, 115, 101]⟩, 2, 1⟩, b2, b6, b7, b8, ⟨⟨#[84, 105, 109, 101, 50, 87, 97, 105, 116]⟩, 40, 2⟩, ⟨⟨#[84, 105, 109, 101, 50, 82, 101, 116, 97, 105, 110]⟩, 42, 2⟩]⟩
def k15 : Knd := ⟨49, ⟨#[82, 50, 84]⟩, 128, [b1, b2, b3, b6, b7, b8, ⟨⟨#[82, 50, 84, 83, 78]⟩, 36, 4⟩, ⟨⟨#[79, 102, 102, 115, 101, 116]⟩, 40, 4⟩, ⟨⟨#[76, 101, 110, 103, 116, 104]⟩, 44, 4⟩]⟩
def k16 : Knd := ⟨50, ⟨#[65, 115, 121, 110, 99]⟩, 128, [b1, b2, b6, b7, b8, ⟨⟨#[69, 118, 101, 110, 116]⟩, 36, 1⟩, ⟨⟨#[86, 67, 111, 100, 101]⟩, 37, 1⟩, ⟨⟨#[80, 97, 114, 97, 109, 101, 116, 101, 114, 49]⟩, 38, 2⟩, ⟨⟨#[80, 97, 114, 97, 109, 101, 116, 101, 114, 50]⟩, 40, 2⟩, ⟨⟨#[80, 97, 114, 97, 109, 101, 116, 101, 114, 51]⟩, 42, 2⟩]⟩
def k17 : Knd := ⟨63, ⟨#[82, 101, 106, 101, 99, 116]⟩, 128, [⟨⟨#[82, 101, 97, 115, 111, 110]⟩, 2, 1⟩, b2, b6, b7, b8, ⟨⟨#[68, 97, 116, 97, 83, 78]⟩, 36, 4⟩]⟩
def kinds : List Knd := [k0, k1, k2, k3, k4, k5, k6, k7, k8, k9, k10, k11, k12, k13, k14, k15, k16, k17]
def kbox : Nat → Option Fld
  | 1 => some b1
  | 2 => some b2
  | 3 => some b3
  | 4 => some b4
  | 5 => some b5
  | 6 => some b6
  | 7 => some b7
  | 8 => some b8
  | 9 => some b9
  | 10 => some b10
  | _ => Option.none
def ktab : List SV := [.fn,
  .fld b1,
  .fld b2,
  .fld b3,
  .fld b4,
  .fld b5,
  .flds k0.l,
  .flds k0.l,
  .row k0,
  .fn,
  .fld b1,
  .fld b2,
  .fld ⟨⟨#[76, 101, 110, 103, 116, 104]⟩, 20, 4⟩,
  .fld b4,
  .fld b5,
  .fld ⟨⟨#[67, 100, 98, 65]⟩, 32, 8⟩,
  .fld ⟨⟨#[67, 100, 98, 66]⟩, 40, 8⟩,
  .flds k1.l,
  .flds k1.l,
  .row k1,
  .fn,
  .fld b1,
  .fld b2,
  .fld ⟨⟨#[82, 101, 102, 84, 97, 103]⟩, 20, 4⟩,
  .fld b4,
  .fld b5,
  .fld ⟨⟨#[82, 101, 102, 67, 109, 100, 83, 78]⟩, 32, 4⟩,
  .fld ⟨⟨#[69, 120, 112, 68, 97, 116, 97, 83, 78]⟩, 36, 4⟩,
  .flds k2.l,
  .flds k2.l,
  .row k2,
  .fn,
  .fld ⟨⟨#[86, 101, 114, 115, 105, 111, 110, 77, 97, 120]⟩, 2, 1⟩,
  .fld ⟨⟨#[86, 101, 114, 115, 105, 111, 110, 77, 105, 110]⟩, 3, 1⟩,
  .fld b9,
  .fld b10,
  .fld b2,
  .fld ⟨⟨#[67, 73, 68]⟩, 20, 2⟩,
  .fld b4,
  .fld b5,
  .flds k3.l,
  .flds k3.l,
  .row k3,
  .fn,
  .fld b1,
  .fld b2,
  .fld b3,
  .fld b4,
  .fld b5,
  .flds k0.l,
  .flds k0.l,
  .row k4,
  .fn,
  .fld b1,
  .fld b2,
  .fld b3,
  .fld b5,
  .fld ⟨⟨#[68, 97, 116, 97, 83, 78]⟩, 36, 4⟩,
  .fld ⟨⟨#[79, 102, 102, 115, 101, 116]⟩, 40, 4⟩,
  .flds k5.l,
  .flds k5.l,
  .row k5,
  .fn,
  .fld b2,
  .fld ⟨⟨#[67, 73, 68]⟩, 20, 2⟩,
  .fld b4,
  .fld b5,
  .flds k6.l,
  .flds k6.l,
  .row k6,
  .fn,
  .fld b1,
  .fld b2,
  .fld b3,
  .fld b5,
  .fld ⟨⟨#[66, 101, 103, 82, 117, 110]⟩, 40, 4⟩,
  .fld ⟨⟨#[82, 117, 110, 76, 101, 110, 103, 116, 104]⟩, 44, 4⟩,
  .flds k7.l,
  .flds k7.l,
  .row k7,
  .fn,
  .fld b1,
  .fld b2,
  .fld b3,
  .fld b6,
  .fld b7,
  .fld b8,
  .flds k8.l,
  .flds k8.l,
  .row k8,
  .fn,
  .fld ⟨⟨#[82, 101, 115, 112, 111, 110, 115, 101]⟩, 2, 1⟩,
  .fld ⟨⟨#[83, 116, 97, 116, 117, 115]⟩, 3, 1⟩,
  .fld b2,
  .fld ⟨⟨#[83, 110, 97, 99, 107, 84, 97, 103]⟩, 20, 4⟩,
  .fld b6,
  .fld b7,
  .fld b8,
  .fld ⟨⟨#[69, 120, 112, 68, 97, 116, 97, 83, 78]⟩, 36, 4⟩,
  .fld ⟨⟨#[66, 105, 100, 105, 82, 101, 115, 105, 100, 117, 97, 108]⟩, 40, 4⟩,
  .fld ⟨⟨#[82, 101, 115, 105, 100, 117, 97, 108]⟩, 44, 4⟩,
  .flds k9.l,
  .flds k9.l,
  .row k9,
  .fn,
  .fld ⟨⟨#[82, 101, 115, 112, 111, 110, 115, 101]⟩, 2, 1⟩,
  .fld b2,
  .fld b6,
  .fld b7,
  .fld b8,
  .flds k10.l,
  .flds k10.l,
  .row k10,
  .fn,
  .fld ⟨⟨#[86, 101, 114, 115, 105, 111, 110, 77, 97, 120]⟩, 2, 1⟩,
  .fld ⟨⟨#[86, 101, 114, 115, 105, 111, 110, 65, 99, 116, 105, 118, 101]⟩, 3, 1⟩,
  .fld b9,
  .fld b10,
  .fld b2,
  .fld b6,
  .fld b7,
  .fld b8,
  .fld ⟨⟨#[83, 116, 97, 116, 117, 115, 67, 108, 97, 115, 115]⟩, 36, 1⟩,
  .fld ⟨⟨#[83, 116, 97, 116, 117, 115, 68, 101, 116, 97, 105, 108]⟩, 37, 1⟩,
  .flds k11.l,
  .flds k11.l,
  .row k11,
  .fn,
  .fld b1,
  .fld b2,
  .fld b3,
  .fld b6,
  .fld b7,
  .fld b8,
  .flds k8.l,
  .flds k8.l,
  .row k12,
  .fn,
  .fld ⟨⟨#[83, 116, 97, 116, 117, 115]⟩, 3, 1⟩,
  .fld b1,
  .fld b2,
  .fld b3,
  .fld b6,
  .fld b7,
  .fld b8,
  .fld ⟨⟨#[68, 97, 116, 97, 83, 78]⟩, 36, 4⟩,
  .fld ⟨⟨#[79, 102, 102, 115, 101, 116]⟩, 40, 4⟩,
  .fld ⟨⟨#[82, 101, 115, 105, 100, 117, 97, 108]⟩, 44, 4⟩,
  .flds k13.l,
  .flds k13.l,
  .row k13,
  .fn,
  .fld ⟨⟨#[82, 101, 115, 112, 111, 110, 115, 101]⟩, 2, 1⟩,
  .fld b2,
  .fld b6,
  .fld b7,
  .fld b8,
  .fld ⟨⟨#[84, 105, 109, 101, 50, 87, 97, 105, 116]⟩, 40, 2⟩,
  .fld ⟨⟨#[84, 105, 109, 101, 50, 82, 101, 116, 97, 105, 110]⟩, 42, 2⟩,
  .flds k14.l,
  .flds k14.l,
  .row k14,
  .fn,
  .fld b1,
  .fld b2,
  .fld b3,
  .fld b6,
  .fld b7,
  .fld b8,
  .fld ⟨⟨#[82, 50, 84, 83, 78]⟩, 36, 4⟩,
  .fld ⟨⟨#[79, 102, 102, 115, 101, 116]⟩, 40, 4⟩,
  .fld ⟨⟨#[76, 101, 110, 103, 116, 104]⟩, 44, 4⟩,
  .flds k15.l,
  .flds k15.l,
  .row k15,
  .fn,
  .fld b1,
  .fld b2,
  .fld b6,
  .fld b7,
  .fld b8,
  .fld ⟨⟨#[69, 118, 101, 110, 116]⟩, 36, 1⟩,
  .fld ⟨⟨#[86, 67, 111, 100, 101]⟩, 37, 1⟩,
  .fld ⟨⟨#[80, 97, 114, 97, 109, 101, 116, 101, 114, 49]⟩, 38, 2⟩,
  .fld ⟨⟨#[80, 97, 114, 97, 109, 101, 116, 101, 114, 50]⟩, 40, 2⟩,
  .fld ⟨⟨#[80, 97, 114, 97, 109, 101, 116, 101, 114, 51]⟩, 42, 2⟩,
  .flds k16.l,
  .flds k16.l,
  .row k16,
  .fn,
  .fld ⟨⟨#[82, 101, 97, 115, 111, 110]⟩, 2, 1⟩,
  .fld b2,
  .fld b6,
  .fld b7,
  .fld b8,
  .fld ⟨⟨#[68, 97, 116, 97, 83, 78]⟩, 36, 4⟩,
  .flds k17.l,
  .flds k17.l,
  .row k17,
  .rows kinds,
  .rows kinds]
def kat (i : Nat) : SV := ktab.getD i .none

def kblk (h : Nat) : Nat → Nat
  | 1 => h + 3
  | 2 => h + 4
  | 3 => h + 5
  | 4 => h + 8
  | 5 => h + 9
  | 6 => h + 13
  | 7 => h + 14
  | 8 => h + 15
  | 9 => h + 18
  | 10 => h + 19
  | _ => h
set_option maxRecDepth 100000 in
set_option maxHeartbeats 40000000 in
theorem kinds_any (w : World) : Calls Tryz.prog 61 #[] w fun e w' => ∃ v, e = .returned v ∧ KndsAt w' v kinds ∧ Below w.heap.size w w' := by
  go_enter Tryz.func61, Tryz.ntmps61
  go_wp2_with (first
    | (go_at_call 85; refine (at_exact _ _ _ _).mono ?_; rintro e w' ⟨rfl, rfl⟩)
    | (go_at_call 86; refine (kinds1_any _ _).mono ?_; rintro e w' ⟨rfl, rfl⟩))
  refine region_gen (fun W => Below w.heap.size w W ∧ ∀ t f, kbox t = some f → W.rangeAt (kblk w.heap.size t) 0 f.cells) ?_ ?_
  · rintro W ⟨hW, hbox⟩
    refine wp_region_linN rfl slot 201 (by kernel_rfl) (fun i v w => (kat i).holds v w) (by kernel_rfl) ?_ ?_ (fun i v w w' h hb => SV.below _ h hb) ?_ ?_
    · intro i j hi hj h; unfold slot at h; split at h <;> split at h <;> omega
    · intro i hi; unfold slot; split <;> simp <;> omega
    · intro i o ho a w1 hb hlow hj
      refine AllFrom.use (G := OpOk kat kbox (kblk w.heap.size)) ?_ ho _ a w1 ?_ ?_ (fun j h => hj j (by rw [← Array.any_toList]; exact h))
      · clear hj ho hlow hb hbox hW
        refine AllFrom.cons (op_move rfl rfl) ?_
        refine AllFrom.cons (op_load rfl rfl rfl) ?_
        refine AllFrom.cons (op_load rfl rfl rfl) ?_
        refine AllFrom.cons (op_load rfl rfl rfl) ?_
        refine AllFrom.cons (op_load rfl rfl rfl) ?_
        refine AllFrom.cons (op_load rfl rfl rfl) ?_
        refine AllFrom.cons (op_flds [1, 2, 3, 4, 5] _ 5 rfl rfl (by decide) (by decide) (by decide) (by decide) rfl rfl) ?_
        refine AllFrom.cons (op_call (t := 0) (s := 6) rfl rfl rfl rfl rfl rfl rfl rfl) ?_
        refine AllFrom.cons (op_row (s := 7) rfl rfl rfl rfl rfl) ?_
        refine AllFrom.cons (op_move rfl rfl) ?_
        refine AllFrom.cons (op_load rfl rfl rfl) ?_
        refine AllFrom.cons (op_load rfl rfl rfl) ?_
        refine AllFrom.cons (op_at rfl rfl) ?_
        refine AllFrom.cons (op_load rfl rfl rfl) ?_
        refine AllFrom.cons (op_load rfl rfl rfl) ?_
        refine AllFrom.cons (op_at rfl rfl) ?_
        refine AllFrom.cons (op_at rfl rfl) ?_
        refine AllFrom.cons (op_flds [10, 11, 12, 13, 14, 15, 16] _ 7 rfl rfl (by decide) (by decide) (by decide) (by decide) rfl rfl) ?_
        refine AllFrom.cons (op_call (t := 9) (s := 17) rfl rfl rfl rfl rfl rfl rfl rfl) ?_
        refine AllFrom.cons (op_row (s := 18) rfl rfl rfl rfl rfl) ?_
        refine AllFrom.cons (op_move rfl rfl) ?_
        refine AllFrom.cons (op_load rfl rfl rfl) ?_
        refine AllFrom.cons (op_load rfl rfl rfl) ?_
        refine AllFrom.cons (op_at rfl rfl) ?_
        refine AllFrom.cons (op_load rfl rfl rfl) ?_
        refine AllFrom.cons (op_load rfl rfl rfl) ?_
        refine AllFrom.cons (op_at rfl rfl) ?_
        refine AllFrom.cons (op_at rfl rfl) ?_
        refine AllFrom.cons (op_flds [21, 22, 23, 24, 25, 26, 27] _ 7 rfl rfl (by decide) (by decide) (by decide) (by decide) rfl rfl) ?_
        refine AllFrom.cons (op_call (t := 20) (s := 28) rfl rfl rfl rfl rfl rfl rfl rfl) ?_
        refine AllFrom.cons (op_row (s := 29) rfl rfl rfl rfl rfl) ?_
        refine AllFrom.cons (op_move rfl rfl) ?_
        refine AllFrom.cons (op_at rfl rfl) ?_
        refine AllFrom.cons (op_at rfl rfl) ?_
        refine AllFrom.cons (op_load rfl rfl rfl) ?_
        refine AllFrom.cons (op_load rfl rfl rfl) ?_
        refine AllFrom.cons (op_load rfl rfl rfl) ?_
        refine AllFrom.cons (op_at rfl rfl) ?_
        refine AllFrom.cons (op_load rfl rfl rfl) ?_
        refine AllFrom.cons (op_load rfl rfl rfl) ?_
        refine AllFrom.cons (op_flds [32, 33, 34, 35, 36, 37, 38, 39] _ 8 rfl rfl (by decide) (by decide) (by decide) (by decide) rfl rfl) ?_
        refine AllFrom.cons (op_call (t := 31) (s := 40) rfl rfl rfl rfl rfl rfl rfl rfl) ?_
        refine AllFrom.cons (op_row (s := 41) rfl rfl rfl rfl rfl) ?_
        refine AllFrom.cons (op_move rfl rfl) ?_
        refine AllFrom.cons (op_load rfl rfl rfl) ?_
        refine AllFrom.cons (op_load rfl rfl rfl) ?_
        refine AllFrom.cons (op_load rfl rfl rfl) ?_
        refine AllFrom.cons (op_load rfl rfl rfl) ?_
        refine AllFrom.cons (op_load rfl rfl rfl) ?_
        refine AllFrom.cons (op_flds [44, 45, 46, 47, 48] _ 5 rfl rfl (by decide) (by decide) (by decide) (by decide) rfl rfl) ?_
        refine AllFrom.cons (op_call (t := 43) (s := 49) rfl rfl rfl rfl rfl rfl rfl rfl) ?_
        refine AllFrom.cons (op_row (s := 50) rfl rfl rfl rfl rfl) ?_
        refine AllFrom.cons (op_move rfl rfl) ?_
        refine AllFrom.cons (op_load rfl rfl rfl) ?_
        refine AllFrom.cons (op_load rfl rfl rfl) ?_
        refine AllFrom.cons (op_load rfl rfl rfl) ?_
        refine AllFrom.cons (op_load rfl rfl rfl) ?_
        refine AllFrom.cons (op_at rfl rfl) ?_
        refine AllFrom.cons (op_at rfl rfl) ?_
        refine AllFrom.cons (op_flds [53, 54, 55, 56, 57, 58] _ 6 rfl rfl (by decide) (by decide) (by decide) (by decide) rfl rfl) ?_
        refine AllFrom.cons (op_call (t := 52) (s := 59) rfl rfl rfl rfl rfl rfl rfl rfl) ?_
        refine AllFrom.cons (op_row (s := 60) rfl rfl rfl rfl rfl) ?_
        refine AllFrom.cons (op_move rfl rfl) ?_
        refine AllFrom.cons (op_load rfl rfl rfl) ?_
        refine AllFrom.cons (op_at rfl rfl) ?_
        refine AllFrom.cons (op_load rfl rfl rfl) ?_
        refine AllFrom.cons (op_load rfl rfl rfl) ?_
        refine AllFrom.cons (op_flds [63, 64, 65, 66] _ 4 rfl rfl (by decide) (by decide) (by decide) (by decide) rfl rfl) ?_
        refine AllFrom.cons (op_call (t := 62) (s := 67) rfl rfl rfl rfl rfl rfl rfl rfl) ?_
        refine AllFrom.cons (op_row (s := 68) rfl rfl rfl rfl rfl) ?_
        refine AllFrom.cons (op_move rfl rfl) ?_
        refine AllFrom.cons (op_load rfl rfl rfl) ?_
        refine AllFrom.cons (op_load rfl rfl rfl) ?_
        refine AllFrom.cons (op_load rfl rfl rfl) ?_
        refine AllFrom.cons (op_load rfl rfl rfl) ?_
        refine AllFrom.cons (op_at rfl rfl) ?_
        refine AllFrom.cons (op_at rfl rfl) ?_
        refine AllFrom.cons (op_flds [71, 72, 73, 74, 75, 76] _ 6 rfl rfl (by decide) (by decide) (by decide) (by decide) rfl rfl) ?_
        refine AllFrom.cons (op_call (t := 70) (s := 77) rfl rfl rfl rfl rfl rfl rfl rfl) ?_
        refine AllFrom.cons (op_row (s := 78) rfl rfl rfl rfl rfl) ?_
        refine AllFrom.cons (op_move rfl rfl) ?_
        refine AllFrom.cons (op_load rfl rfl rfl) ?_
        refine AllFrom.cons (op_load rfl rfl rfl) ?_
        refine AllFrom.cons (op_load rfl rfl rfl) ?_
        refine AllFrom.cons (op_load rfl rfl rfl) ?_
        refine AllFrom.cons (op_load rfl rfl rfl) ?_
        refine AllFrom.cons (op_load rfl rfl rfl) ?_
        refine AllFrom.cons (op_flds [81, 82, 83, 84, 85, 86] _ 6 rfl rfl (by decide) (by decide) (by decide) (by decide) rfl rfl) ?_
        refine AllFrom.cons (op_call (t := 80) (s := 87) rfl rfl rfl rfl rfl rfl rfl rfl) ?_
        refine AllFrom.cons (op_row (s := 88) rfl rfl rfl rfl rfl) ?_
        refine AllFrom.cons (op_move rfl rfl) ?_
        refine AllFrom.cons (op_at rfl rfl) ?_
        refine AllFrom.cons (op_at rfl rfl) ?_
        refine AllFrom.cons (op_load rfl rfl rfl) ?_
        refine AllFrom.cons (op_at rfl rfl) ?_
        refine AllFrom.cons (op_load rfl rfl rfl) ?_
        refine AllFrom.cons (op_load rfl rfl rfl) ?_
        refine AllFrom.cons (op_load rfl rfl rfl) ?_
        refine AllFrom.cons (op_at rfl rfl) ?_
        refine AllFrom.cons (op_at rfl rfl) ?_
        refine AllFrom.cons (op_at rfl rfl) ?_
        refine AllFrom.cons (op_flds [91, 92, 93, 94, 95, 96, 97, 98, 99, 100] _ 10 rfl rfl (by decide) (by decide) (by decide) (by decide) rfl rfl) ?_
        refine AllFrom.cons (op_call (t := 90) (s := 101) rfl rfl rfl rfl rfl rfl rfl rfl) ?_
        refine AllFrom.cons (op_row (s := 102) rfl rfl rfl rfl rfl) ?_
        refine AllFrom.cons (op_move rfl rfl) ?_
        refine AllFrom.cons (op_at rfl rfl) ?_
        refine AllFrom.cons (op_load rfl rfl rfl) ?_
        refine AllFrom.cons (op_load rfl rfl rfl) ?_
        refine AllFrom.cons (op_load rfl rfl rfl) ?_
        refine AllFrom.cons (op_load rfl rfl rfl) ?_
        refine AllFrom.cons (op_flds [105, 106, 107, 108, 109] _ 5 rfl rfl (by decide) (by decide) (by decide) (by decide) rfl rfl) ?_
        refine AllFrom.cons (op_call (t := 104) (s := 110) rfl rfl rfl rfl rfl rfl rfl rfl) ?_
        refine AllFrom.cons (op_row (s := 111) rfl rfl rfl rfl rfl) ?_
        refine AllFrom.cons (op_move rfl rfl) ?_
        refine AllFrom.cons (op_at rfl rfl) ?_
        refine AllFrom.cons (op_at rfl rfl) ?_
        refine AllFrom.cons (op_load rfl rfl rfl) ?_
        refine AllFrom.cons (op_load rfl rfl rfl) ?_
        refine AllFrom.cons (op_load rfl rfl rfl) ?_
        refine AllFrom.cons (op_load rfl rfl rfl) ?_
        refine AllFrom.cons (op_load rfl rfl rfl) ?_
        refine AllFrom.cons (op_load rfl rfl rfl) ?_
        refine AllFrom.cons (op_at rfl rfl) ?_
        refine AllFrom.cons (op_at rfl rfl) ?_
        refine AllFrom.cons (op_flds [114, 115, 116, 117, 118, 119, 120, 121, 122, 123] _ 10 rfl rfl (by decide) (by decide) (by decide) (by decide) rfl rfl) ?_
        refine AllFrom.cons (op_call (t := 113) (s := 124) rfl rfl rfl rfl rfl rfl rfl rfl) ?_
        refine AllFrom.cons (op_row (s := 125) rfl rfl rfl rfl rfl) ?_
        refine AllFrom.cons (op_move rfl rfl) ?_
        refine AllFrom.cons (op_load rfl rfl rfl) ?_
        refine AllFrom.cons (op_load rfl rfl rfl) ?_
        refine AllFrom.cons (op_load rfl rfl rfl) ?_
        refine AllFrom.cons (op_load rfl rfl rfl) ?_
        refine AllFrom.cons (op_load rfl rfl rfl) ?_
        refine AllFrom.cons (op_load rfl rfl rfl) ?_
        refine AllFrom.cons (op_flds [128, 129, 130, 131, 132, 133] _ 6 rfl rfl (by decide) (by decide) (by decide) (by decide) rfl rfl) ?_
        refine AllFrom.cons (op_call (t := 127) (s := 134) rfl rfl rfl rfl rfl rfl rfl rfl) ?_
        refine AllFrom.cons (op_row (s := 135) rfl rfl rfl rfl rfl) ?_
        refine AllFrom.cons (op_move rfl rfl) ?_
        refine AllFrom.cons (op_at rfl rfl) ?_
        refine AllFrom.cons (op_load rfl rfl rfl) ?_
        refine AllFrom.cons (op_load rfl rfl rfl) ?_
        refine AllFrom.cons (op_load rfl rfl rfl) ?_
        refine AllFrom.cons (op_load rfl rfl rfl) ?_
        refine AllFrom.cons (op_load rfl rfl rfl) ?_
        refine AllFrom.cons (op_load rfl rfl rfl) ?_
        refine AllFrom.cons (op_at rfl rfl) ?_
        refine AllFrom.cons (op_at rfl rfl) ?_
        refine AllFrom.cons (op_at rfl rfl) ?_
        refine AllFrom.cons (op_flds [138, 139, 140, 141, 142, 143, 144, 145, 146, 147] _ 10 rfl rfl (by decide) (by decide) (by decide) (by decide) rfl rfl) ?_
        refine AllFrom.cons (op_call (t := 137) (s := 148) rfl rfl rfl rfl rfl rfl rfl rfl) ?_
        refine AllFrom.cons (op_row (s := 149) rfl rfl rfl rfl rfl) ?_
        refine AllFrom.cons (op_move rfl rfl) ?_
        refine AllFrom.cons (op_at rfl rfl) ?_
        refine AllFrom.cons (op_load rfl rfl rfl) ?_
        refine AllFrom.cons (op_load rfl rfl rfl) ?_
        refine AllFrom.cons (op_load rfl rfl rfl) ?_
        refine AllFrom.cons (op_load rfl rfl rfl) ?_
        refine AllFrom.cons (op_at rfl rfl) ?_
        refine AllFrom.cons (op_at rfl rfl) ?_
        refine AllFrom.cons (op_flds [152, 153, 154, 155, 156, 157, 158] _ 7 rfl rfl (by decide) (by decide) (by decide) (by decide) rfl rfl) ?_
        refine AllFrom.cons (op_call (t := 151) (s := 159) rfl rfl rfl rfl rfl rfl rfl rfl) ?_
        refine AllFrom.cons (op_row (s := 160) rfl rfl rfl rfl rfl) ?_
        refine AllFrom.cons (op_move rfl rfl) ?_
        refine AllFrom.cons (op_load rfl rfl rfl) ?_
        refine AllFrom.cons (op_load rfl rfl rfl) ?_
        refine AllFrom.cons (op_load rfl rfl rfl) ?_
        refine AllFrom.cons (op_load rfl rfl rfl) ?_
        refine AllFrom.cons (op_load rfl rfl rfl) ?_
        refine AllFrom.cons (op_load rfl rfl rfl) ?_
        refine AllFrom.cons (op_at rfl rfl) ?_
        refine AllFrom.cons (op_at rfl rfl) ?_
        refine AllFrom.cons (op_at rfl rfl) ?_
        refine AllFrom.cons (op_flds [163, 164, 165, 166, 167, 168, 169, 170, 171] _ 9 rfl rfl (by decide) (by decide) (by decide) (by decide) rfl rfl) ?_
        refine AllFrom.cons (op_call (t := 162) (s := 172) rfl rfl rfl rfl rfl rfl rfl rfl) ?_
        refine AllFrom.cons (op_row (s := 173) rfl rfl rfl rfl rfl) ?_
        refine AllFrom.cons (op_move rfl rfl) ?_
        refine AllFrom.cons (op_load rfl rfl rfl) ?_
        refine AllFrom.cons (op_load rfl rfl rfl) ?_
        refine AllFrom.cons (op_load rfl rfl rfl) ?_
        refine AllFrom.cons (op_load rfl rfl rfl) ?_
        refine AllFrom.cons (op_load rfl rfl rfl) ?_
        refine AllFrom.cons (op_at rfl rfl) ?_
        refine AllFrom.cons (op_at rfl rfl) ?_
        refine AllFrom.cons (op_at rfl rfl) ?_
        refine AllFrom.cons (op_at rfl rfl) ?_
        refine AllFrom.cons (op_at rfl rfl) ?_
        refine AllFrom.cons (op_flds [176, 177, 178, 179, 180, 181, 182, 183, 184, 185] _ 10 rfl rfl (by decide) (by decide) (by decide) (by decide) rfl rfl) ?_
        refine AllFrom.cons (op_call (t := 175) (s := 186) rfl rfl rfl rfl rfl rfl rfl rfl) ?_
        refine AllFrom.cons (op_row (s := 187) rfl rfl rfl rfl rfl) ?_
        refine AllFrom.cons (op_move rfl rfl) ?_
        refine AllFrom.cons (op_at rfl rfl) ?_
        refine AllFrom.cons (op_load rfl rfl rfl) ?_
        refine AllFrom.cons (op_load rfl rfl rfl) ?_
        refine AllFrom.cons (op_load rfl rfl rfl) ?_
        refine AllFrom.cons (op_load rfl rfl rfl) ?_
        refine AllFrom.cons (op_at rfl rfl) ?_
        refine AllFrom.cons (op_flds [190, 191, 192, 193, 194, 195] _ 6 rfl rfl (by decide) (by decide) (by decide) (by decide) rfl rfl) ?_
        refine AllFrom.cons (op_call (t := 189) (s := 196) rfl rfl rfl rfl rfl rfl rfl rfl) ?_
        refine AllFrom.cons (op_row (s := 197) rfl rfl rfl rfl rfl) ?_
        refine AllFrom.cons (op_rows [8, 19, 30, 42, 51, 61, 69, 79, 89, 103, 112, 126, 136, 150, 161, 174, 188, 198] kinds 18 rfl rfl (by decide) (by decide) (by decide) (by decide) rfl rfl) ?_
        refine AllFrom.cons (op_assign (s := 199) rfl rfl rfl rfl) ?_
        exact trivial
      · exact hlow 11 (by intro i _; unfold slot; split <;> omega)
      · intro t f hf
        have hf' := hf
        unfold kbox at hf
        split at hf <;> first | (cases hf; exact ⟨(hlow _ (by intro i _; unfold slot; split <;> omega)).trans rfl, range_below (hbox _ _ hf') hb⟩) | (cases hf; done)
    · intro a w1 hsz hdf _ hb hi
      have h200 := hi 200 (by omega)
      have hb' := hW.trans (hb.mono hW.size)
      obtain ⟨T, D⟩ := a
      have h2 : KndsAt w1 (T.getD 0 undef) kinds := h200
      have hT : 0 < T.size := by rw [hsz]; simp
      clear hi hsz h200 hb hbox hW
      go_wp2
      subst hdf
      refine bodyPost_ret (v := T.getD 0 undef) (by simp [results, Tryz.results61, go_sem, hT]) rfl ⟨_, rfl, h2, hb'⟩
  · constructor
    · repeat (refine below_alloc ?_ (Nat.le_refl _) _)
      exact Below.refl _ _
    · intro t f h
      unfold kbox at h
      split at h
      · cases h
        refine range_of_heap (t := 133) ?_
        iterate 16 (refine (Below.heap_alloc _ _ _ (by simp [kblk])).trans ?_)
        exact alloc_heap_at _ _ _ (by simp [kblk])
      · cases h
        refine range_of_heap (t := 133) ?_
        iterate 15 (refine (Below.heap_alloc _ _ _ (by simp [kblk])).trans ?_)
        exact alloc_heap_at _ _ _ (by simp [kblk])
      · cases h
        refine range_of_heap (t := 133) ?_
        iterate 14 (refine (Below.heap_alloc _ _ _ (by simp [kblk])).trans ?_)
        exact alloc_heap_at _ _ _ (by simp [kblk])
      · cases h
        refine range_of_heap (t := 133) ?_
        iterate 11 (refine (Below.heap_alloc _ _ _ (by simp [kblk])).trans ?_)
        exact alloc_heap_at _ _ _ (by simp [kblk])
      · cases h
        refine range_of_heap (t := 133) ?_
        iterate 10 (refine (Below.heap_alloc _ _ _ (by simp [kblk])).trans ?_)
        exact alloc_heap_at _ _ _ (by simp [kblk])
      · cases h
        refine range_of_heap (t := 133) ?_
        iterate 6 (refine (Below.heap_alloc _ _ _ (by simp [kblk])).trans ?_)
        exact alloc_heap_at _ _ _ (by simp [kblk])
      · cases h
        refine range_of_heap (t := 133) ?_
        iterate 5 (refine (Below.heap_alloc _ _ _ (by simp [kblk])).trans ?_)
        exact alloc_heap_at _ _ _ (by simp [kblk])
      · cases h
        refine range_of_heap (t := 133) ?_
        iterate 4 (refine (Below.heap_alloc _ _ _ (by simp [kblk])).trans ?_)
        exact alloc_heap_at _ _ _ (by simp [kblk])
      · cases h
        refine range_of_heap (t := 133) ?_
        iterate 1 (refine (Below.heap_alloc _ _ _ (by simp [kblk])).trans ?_)
        exact alloc_heap_at _ _ _ (by simp [kblk])
      · cases h
        refine range_of_heap (t := 133) ?_
        exact alloc_heap_at _ _ _ (by simp [kblk])
      · cases h
end Go.Proofs.YtkbjnlcongjokaaGreatDoor
