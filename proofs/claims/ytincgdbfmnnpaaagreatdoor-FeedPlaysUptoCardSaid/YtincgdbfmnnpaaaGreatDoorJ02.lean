/- A part of the proof: Kinds2, Kind, SplitLaw, Split, RowText, Row, SplitOne. -/
import Derived.Test.YtincgdbfmnnpaaaGreatDoorJ01
import Derived.RangeFuncNested
import Derived.RangeFuncBound
import Derived.RangeFuncCalls
import Derived.RangeFuncLeaves
import Derived.Test.YtincgdbfmnnpaaaGreatDoorShelf
import Derived.OwnWalkIn
import Derived.TacticsInMore
import Derived.LoopNIn
import Derived.LoopIn
import Derived.Shelf.Abstract
import Derived.Shelf.RegionOpen
/- quaymasterref.kinds: the rows of 5.1 (printed by kinds.py). -/
namespace Go.Proofs.YtincgdbfmnnpaaaGreatDoor
open Go.RowKit
theorem at_exact (n : ByteArray) (a b : Int) (w : World) : Calls Tryz.prog 72 #[.string n, .int .i64 a, .int .i64 b] w fun e w' => e = .returned (.agg #[.string n, .int .i64 a, .int .i64 b]) ∧ w.alloc (.cells #[.string n, .int .i64 a, .int .i64 b] 112) = w' := by
  go_enter Tryz.func72, Tryz.ntmps72
  go_wp2
  exact bodyPost_ret (v := .agg #[.string n, .int .i64 a, .int .i64 b]) (by simp [results, Tryz.results72, go_sem]) rfl ⟨rfl, rfl⟩
def b1 : Fld := ⟨⟨#[76, 85, 78]⟩, 8, 8⟩
def b2 : Fld := ⟨⟨#[73, 84, 84]⟩, 16, 4⟩
def b3 : Fld := ⟨⟨#[84, 84, 84]⟩, 20, 4⟩
def b4 : Fld := ⟨⟨#[67, 109, 100, 83, 78]⟩, 24, 4⟩
def b5 : Fld := ⟨⟨#[69, 120, 112, 83, 116, 97, 116, 83, 78]⟩, 28, 4⟩
def b6 : Fld := ⟨⟨#[83, 116, 97, 116, 83, 78]⟩, 24, 4⟩
def b7 : Fld := ⟨⟨#[69, 120, 112, 67, 109, 100, 83, 78]⟩, 28, 4⟩
def b8 : Fld := ⟨⟨#[77, 97, 120, 67, 109, 100, 83, 78]⟩, 32, 4⟩
def b9 : Fld := ⟨⟨#[73, 83, 73, 68]⟩, 8, 6⟩
def b10 : Fld := ⟨⟨#[84, 83, 73, 72]⟩, 14, 2⟩
def k0 : Knd := ⟨0, ⟨#[78, 111, 112, 79, 117, 116]⟩, 128, [b1, b2, b3, b4, b5]⟩
def k1 : Knd := ⟨1, ⟨#[83, 99, 115, 105, 67, 111, 109, 109, 97, 110, 100]⟩, 231, [b1, b2, ⟨⟨#[76, 101, 110, 103, 116, 104]⟩, 20, 4⟩, b4, b5, ⟨⟨#[67, 100, 98, 65]⟩, 32, 8⟩, ⟨⟨#[67, 100, 98, 66]⟩, 40, 8⟩]⟩
def k2 : Knd := ⟨2, ⟨#[84, 97, 115, 107, 82, 101, 113, 117, 101, 115, 116]⟩, 255, [b1, b2, ⟨⟨#[82, 101, 102, 84, 97, 103]⟩, 20, 4⟩, b4, b5, ⟨⟨#[82, 101, 102, 67, 109, 100, 83, 78]⟩, 32, 4⟩, ⟨⟨#[69, 120, 112, 68, 97, 116, 97, 83, 78]⟩, 36, 4⟩]⟩
def k3 : Knd := ⟨3, ⟨#[76, 111, 103, 105, 110, 82, 101, 113, 117, 101, 115, 116]⟩, 207, [⟨⟨#[86, 101, 114, 115, 105, 111, 110, 77, 97, 120]⟩, 2, 1⟩, ⟨⟨#[86, 101, 114, 115, 105, 111, 110, 77, 105, 110]⟩, 3, 1⟩, b9, b10, b2, ⟨⟨#[67, 73, 68]⟩, 20, 2⟩, b4, b5]⟩
def k4 : Knd := ⟨4, ⟨#[84, 101, 120, 116, 82, 101, 113, 117, 101, 115, 116]⟩, 192, [b1, b2, b3, b4, b5]⟩
def k5 : Knd := ⟨5, ⟨#[68, 97, 116, 97, 79, 117, 116]⟩, 128, [b1, b2, b3, b5, ⟨⟨#[68, 97, 116, 97, 83, 78]⟩, 36, 4⟩, ⟨⟨#[79, 102, 102, 115, 101, 116]⟩, 40, 4⟩]⟩
def k6 : Knd := ⟨6, ⟨#[76, 111, 103, 111, 117, 116, 82, 101, 113, 117, 101, 115, 116]⟩, 255, [b2, ⟨⟨#[67, 73, 68]⟩, 20, 2⟩, b4, b5]⟩
def k7 : Knd := ⟨16, ⟨#[83, 110, 97, 99, 107]⟩, 143, [b1, b2, b3, b5, ⟨⟨#[66, 101, 103, 82, 117, 110]⟩, 40, 4⟩, ⟨⟨#[82, 117, 110, 76, 101, 110, 103, 116, 104]⟩, 44, 4⟩]⟩
def k8 : Knd := ⟨32, ⟨#[78, 111, 112, 73, 110]⟩, 128, [b1, b2, b3, b6, b7, b8]⟩
def k9 : Knd := ⟨33, ⟨#[83, 99, 115, 105, 82, 101, 115, 112, 111, 110, 115, 101]⟩, 158, [⟨⟨#[82, 101, 115, 112, 111, 110, 115, 101]⟩, 2, 1⟩, ⟨⟨#[83, 116, 97, 116, 117, 115]⟩, 3, 1⟩, b2, ⟨⟨#[83, 110, 97, 99, 107, 84, 97, 103]⟩, 20, 4⟩, b6, b7, b8, ⟨⟨#[69, 120, 112, 68, 97, 116, 97, 83, 78]⟩, 36, 4⟩, ⟨⟨#[66, 105, 100, 105, 82, 101, 115, 105, 100, 117, 97, 108]⟩, 40, 4⟩, ⟨⟨#[82, 101, 115, 105, 100, 117, 97, 108]⟩, 44, 4⟩]⟩
def k10 : Knd := ⟨34, ⟨#[84, 97, 115, 107, 82, 101, 115, 112, 111, 110, 115, 101]⟩, 128, [⟨⟨#[82, 101, 115, 112, 111, 110, 115, 101]⟩, 2, 1⟩, b2, b6, b7, b8]⟩
def k11 : Knd := ⟨35, ⟨#[76, 111, 103, 105, 110, 82, 101, 115, 112, 111, 110, 115, 101]⟩, 207, [⟨⟨#[86, 101, 114, 115, 105, 111, 110, 77, 97, 120]⟩, 2, 1⟩, ⟨⟨#[86, 101, 114, 115, 105, 111, 110, 65, 99, 116, 105, 118, 101]⟩, 3, 1⟩, b9, b10, b2, b6, b7, b8, ⟨⟨#[83, 116, 97, 116, 117, 115, 67, 108, 97, 115, 115]⟩, 36, 1⟩, ⟨⟨#[83, 116, 97, 116, 117, 115, 68, 101, 116, 97, 105, 108]⟩, 37, 1⟩]⟩
def k12 : Knd := ⟨36, ⟨#[84, 101, 120, 116, 82, 101, 115, 112, 111, 110, 115, 101]⟩, 192, [b1, b2, b3, b6, b7, b8]⟩
def k13 : Knd := ⟨37, ⟨#[68, 97, 116, 97, 73, 110]⟩, 199, [⟨⟨#[83, 116, 97, 116, 117, 115]⟩, 3, 1⟩, b1, b2, b3, b6, b7, b8, ⟨⟨#[68, 97, 116, 97, 83, 78]⟩, 36, 4⟩, ⟨⟨#[79, 102, 102, 115, 101, 116]⟩, 40, 4⟩, ⟨⟨#[82, 101, 115, 105, 100, 117, 97, 108]⟩, 44, 4⟩]⟩
def k14 : Knd := ⟨38, ⟨#[76, 111, 103, 111, 117, 116, 82, 101, 115, 112, 111, 110, 115, 101]⟩, 128, [⟨⟨#[82, 101, 115, 112, 111, 110, 115, 101]⟩, 2, 1⟩, b2, b6, b7, b8, ⟨⟨#[84, 105, 109, 101, 50, 87, 97, 105, 116]⟩, 40, 2⟩, ⟨⟨#[84, 105, 109, 101, 50, 82, 101, 116, 97, 105, 110]⟩, 42, 2⟩]⟩
def k15 : Knd := ⟨49, ⟨#[82, 50, 84]⟩, 128, [b1, b2, b3, b6, b7, b8, ⟨⟨#[82, 50, 84, 83, 78]⟩, 36, 4⟩, ⟨⟨#[79, 102, 102, 115, 101, 116]⟩, 40, 4⟩, ⟨⟨#[76, 101, 110, 103, 116, 104]⟩, 44, 4⟩]⟩
def k16 : Knd := ⟨50, ⟨#[65, 115, 121, 110, 99]⟩, 128, [b1, b2, b6, b7, b8, ⟨⟨#[69, 118, 101, 110, 116]⟩, 36, 1⟩, ⟨⟨#[86, 67, 111, 100, 101]⟩, 37, 1⟩, ⟨⟨#[80, 97, 114, 97, 109, 101, 116, 101, 114, 49]⟩, 38, 2⟩, ⟨⟨#[80, 97, 114, 97, 109, 101, 116, 101, 114, 50]⟩, 40, 2⟩, ⟨⟨#[80, 97, 114, 97, 109, 101, 116, 101, 114, 51]⟩, 42, 2⟩]⟩
def k17 : Knd := ⟨63, ⟨#[82, 101, 106, 101, 99, 116]⟩, 128, [⟨⟨#[82, 101, 97, 115, 111, 110]⟩, 2, 1⟩, b2, b6, b7, b8, ⟨⟨#[68, 97, 116, 97, 83, 78]⟩, 36, 4⟩]⟩
def kinds : List Knd := [k0, k1, k2, k3, k4, k5, k6, k7, k8, k9, k10, k11, k12, k13, k14, k15, k16, k17]
def kbox : Nat → Option Fld
  | 1 => some b1
  | 2 => some b2
  | 3 => some b3
  | 4 => some b4
  | 5 => some b5
  | 6 => some b6
  | 7 => some b7
  | 8 => some b8
  | 9 => some b9
  | 10 => some b10
  | _ => Option.none
def ktab : List SV := [.fn,
  .fld b1,
  .fld b2,
  .fld b3,
  .fld b4,
  .fld b5,
  .flds k0.l,
  .flds k0.l,
  .row k0,
  .fn,
  .fld b1,
  .fld b2,
  .fld ⟨⟨#[76, 101, 110, 103, 116, 104]⟩, 20, 4⟩,
  .fld b4,
  .fld b5,
  .fld ⟨⟨#[67, 100, 98, 65]⟩, 32, 8⟩,
  .fld ⟨⟨#[67, 100, 98, 66]⟩, 40, 8⟩,
  .flds k1.l,
  .flds k1.l,
  .row k1,
  .fn,
  .fld b1,
  .fld b2,
  .fld ⟨⟨#[82, 101, 102, 84, 97, 103]⟩, 20, 4⟩,
  .fld b4,
  .fld b5,
  .fld ⟨⟨#[82, 101, 102, 67, 109, 100, 83, 78]⟩, 32, 4⟩,
  .fld ⟨⟨#[69, 120, 112, 68, 97, 116, 97, 83, 78]⟩, 36, 4⟩,
  .flds k2.l,
  .flds k2.l,
  .row k2,
  .fn,
  .fld ⟨⟨#[86, 101, 114, 115, 105, 111, 110, 77, 97, 120]⟩, 2, 1⟩,
  .fld ⟨⟨#[86, 101, 114, 115, 105, 111, 110, 77, 105, 110]⟩, 3, 1⟩,
  .fld b9,
  .fld b10,
  .fld b2,
  .fld ⟨⟨#[67, 73, 68]⟩, 20, 2⟩,
  .fld b4,
  .fld b5,
  .flds k3.l,
  .flds k3.l,
  .row k3,
  .fn,
  .fld b1,
  .fld b2,
  .fld b3,
  .fld b4,
  .fld b5,
  .flds k0.l,
  .flds k0.l,
  .row k4,
  .fn,
  .fld b1,
  .fld b2,
  .fld b3,
  .fld b5,
  .fld ⟨⟨#[68, 97, 116, 97, 83, 78]⟩, 36, 4⟩,
  .fld ⟨⟨#[79, 102, 102, 115, 101, 116]⟩, 40, 4⟩,
  .flds k5.l,
  .flds k5.l,
  .row k5,
  .fn,
  .fld b2,
  .fld ⟨⟨#[67, 73, 68]⟩, 20, 2⟩,
  .fld b4,
  .fld b5,
  .flds k6.l,
  .flds k6.l,
  .row k6,
  .fn,
  .fld b1,
  .fld b2,
  .fld b3,
  .fld b5,
  .fld ⟨⟨#[66, 101, 103, 82, 117, 110]⟩, 40, 4⟩,
  .fld ⟨⟨#[82, 117, 110, 76, 101, 110, 103, 116, 104]⟩, 44, 4⟩,
  .flds k7.l,
  .flds k7.l,
  .row k7,
  .fn,
  .fld b1,
  .fld b2,
  .fld b3,
  .fld b6,
  .fld b7,
  .fld b8,
  .flds k8.l,
  .flds k8.l,
  .row k8,
  .fn,
  .fld ⟨⟨#[82, 101, 115, 112, 111, 110, 115, 101]⟩, 2, 1⟩,
  .fld ⟨⟨#[83, 116, 97, 116, 117, 115]⟩, 3, 1⟩,
  .fld b2,
  .fld ⟨⟨#[83, 110, 97, 99, 107, 84, 97, 103]⟩, 20, 4⟩,
  .fld b6,
  .fld b7,
  .fld b8,
  .fld ⟨⟨#[69, 120, 112, 68, 97, 116, 97, 83, 78]⟩, 36, 4⟩,
  .fld ⟨⟨#[66, 105, 100, 105, 82, 101, 115, 105, 100, 117, 97, 108]⟩, 40, 4⟩,
  .fld ⟨⟨#[82, 101, 115, 105, 100, 117, 97, 108]⟩, 44, 4⟩,
  .flds k9.l,
  .flds k9.l,
  .row k9,
  .fn,
  .fld ⟨⟨#[82, 101, 115, 112, 111, 110, 115, 101]⟩, 2, 1⟩,
  .fld b2,
  .fld b6,
  .fld b7,
  .fld b8,
  .flds k10.l,
  .flds k10.l,
  .row k10,
  .fn,
  .fld ⟨⟨#[86, 101, 114, 115, 105, 111, 110, 77, 97, 120]⟩, 2, 1⟩,
  .fld ⟨⟨#[86, 101, 114, 115, 105, 111, 110, 65, 99, 116, 105, 118, 101]⟩, 3, 1⟩,
  .fld b9,
  .fld b10,
  .fld b2,
  .fld b6,
  .fld b7,
  .fld b8,
  .fld ⟨⟨#[83, 116, 97, 116, 117, 115, 67, 108, 97, 115, 115]⟩, 36, 1⟩,
  .fld ⟨⟨#[83, 116, 97, 116, 117, 115, 68, 101, 116, 97, 105, 108]⟩, 37, 1⟩,
  .flds k11.l,
  .flds k11.l,
  .row k11,
  .fn,
  .fld b1,
  .fld b2,
  .fld b3,
  .fld b6,
  .fld b7,
  .fld b8,
  .flds k8.l,
  .flds k8.l,
  .row k12,
  .fn,
  .fld ⟨⟨#[83, 116, 97, 116, 117, 115]⟩, 3, 1⟩,
  .fld b1,
  .fld b2,
  .fld b3,
  .fld b6,
  .fld b7,
  .fld b8,
  .fld ⟨⟨#[68, 97, 116, 97, 83, 78]⟩, 36, 4⟩,
  .fld ⟨⟨#[79, 102, 102, 115, 101, 116]⟩, 40, 4⟩,
  .fld ⟨⟨#[82, 101, 115, 105, 100, 117, 97, 108]⟩, 44, 4⟩,
  .flds k13.l,
  .flds k13.l,
  .row k13,
  .fn,
  .fld ⟨⟨#[82, 101, 115, 112, 111, 110, 115, 101]⟩, 2, 1⟩,
  .fld b2,
  .fld b6,
  .fld b7,
  .fld b8,
  .fld ⟨⟨#[84, 105, 109, 101, 50, 87, 97, 105, 116]⟩, 40, 2⟩,
  .fld ⟨⟨#[84, 105, 109, 101, 50, 82, 101, 116, 97, 105, 110]⟩, 42, 2⟩,
  .flds k14.l,
  .flds k14.l,
  .row k14,
  .fn,
  .fld b1,
  .fld b2,
  .fld b3,
  .fld b6,
  .fld b7,
  .fld b8,
  .fld ⟨⟨#[82, 50, 84, 83, 78]⟩, 36, 4⟩,
  .fld ⟨⟨#[79, 102, 102, 115, 101, 116]⟩, 40, 4⟩,
  .fld ⟨⟨#[76, 101, 110, 103, 116, 104]⟩, 44, 4⟩,
  .flds k15.l,
  .flds k15.l,
  .row k15,
  .fn,
  .fld b1,
  .fld b2,
  .fld b6,
  .fld b7,
  .fld b8,
  .fld ⟨⟨#[69, 118, 101, 110, 116]⟩, 36, 1⟩,
  .fld ⟨⟨#[86, 67, 111, 100, 101]⟩, 37, 1⟩,
  .fld ⟨⟨#[80, 97, 114, 97, 109, 101, 116, 101, 114, 49]⟩, 38, 2⟩,
  .fld ⟨⟨#[80, 97, 114, 97, 109, 101, 116, 101, 114, 50]⟩, 40, 2⟩,
  .fld ⟨⟨#[80, 97, 114, 97, 109, 101, 116, 101, 114, 51]⟩, 42, 2⟩,
  .flds k16.l,
  .flds k16.l,
  .row k16,
  .fn,
  .fld ⟨⟨#[82, 101, 97, 115, 111, 110]⟩, 2, 1⟩,
  .fld b2,
  .fld b6,
  .fld b7,
  .fld b8,
  .fld ⟨⟨#[68, 97, 116, 97, 83, 78]⟩, 36, 4⟩,
  .flds k17.l,
  .flds k17.l,
  .row k17,
  .rows kinds,
  .rows kinds]
def kat (i : Nat) : SV := ktab.getD i .none

def kblk (h : Nat) : Nat → Nat
  | 1 => h + 3
  | 2 => h + 4
  | 3 => h + 5
  | 4 => h + 8
  | 5 => h + 9
  | 6 => h + 13
  | 7 => h + 14
  | 8 => h + 15
  | 9 => h + 18
  | 10 => h + 19
  | _ => h
set_option maxRecDepth 100000 in
set_option maxHeartbeats 40000000 in
theorem kinds_any (w : World) : Calls Tryz.prog 52 #[] w fun e w' => ∃ v, e = .returned v ∧ KndsAt w' v kinds ∧ Below w.heap.size w w' := by
  go_enter Tryz.func52, Tryz.ntmps52
  go_wp2_with (first
    | (go_at_call 72; refine (at_exact _ _ _ _).mono ?_; rintro e w' ⟨rfl, rfl⟩)
    | (go_at_call 73; refine (kinds1_any _ _).mono ?_; rintro e w' ⟨rfl, rfl⟩))
  refine region_gen (fun W => Below w.heap.size w W ∧ ∀ t f, kbox t = some f → W.rangeAt (kblk w.heap.size t) 0 f.cells) ?_ ?_
  · rintro W ⟨hW, hbox⟩
    refine wp_region_linN rfl slot 201 (by kernel_rfl) (fun i v w => (kat i).holds v w) (by kernel_rfl) ?_ ?_ (fun i v w w' h hb => SV.below _ h hb) ?_ ?_
    · intro i j hi hj h; unfold slot at h; split at h <;> split at h <;> omega
    · intro i hi; unfold slot; split <;> simp <;> omega
    · intro i o ho a w1 hb hlow hj
      refine AllFrom.use (G := OpOk kat kbox (kblk w.heap.size)) ?_ ho _ a w1 ?_ ?_ (fun j h => hj j (by rw [← Array.any_toList]; exact h))
      · clear hj ho hlow hb hbox hW
        refine AllFrom.cons (op_move rfl rfl) ?_
        refine AllFrom.cons (op_load rfl rfl rfl) ?_
        refine AllFrom.cons (op_load rfl rfl rfl) ?_
        refine AllFrom.cons (op_load rfl rfl rfl) ?_
        refine AllFrom.cons (op_load rfl rfl rfl) ?_
        refine AllFrom.cons (op_load rfl rfl rfl) ?_
        refine AllFrom.cons (op_flds [1, 2, 3, 4, 5] _ 5 rfl rfl (by decide) (by decide) (by decide) (by decide) rfl rfl) ?_
        refine AllFrom.cons (op_call (t := 0) (s := 6) rfl rfl rfl rfl rfl rfl rfl rfl) ?_
        refine AllFrom.cons (op_row (s := 7) rfl rfl rfl rfl rfl) ?_
        refine AllFrom.cons (op_move rfl rfl) ?_
        refine AllFrom.cons (op_load rfl rfl rfl) ?_
        refine AllFrom.cons (op_load rfl rfl rfl) ?_
        refine AllFrom.cons (op_at rfl rfl) ?_
        refine AllFrom.cons (op_load rfl rfl rfl) ?_
        refine AllFrom.cons (op_load rfl rfl rfl) ?_
        refine AllFrom.cons (op_at rfl rfl) ?_
        refine AllFrom.cons (op_at rfl rfl) ?_
        refine AllFrom.cons (op_flds [10, 11, 12, 13, 14, 15, 16] _ 7 rfl rfl (by decide) (by decide) (by decide) (by decide) rfl rfl) ?_
        refine AllFrom.cons (op_call (t := 9) (s := 17) rfl rfl rfl rfl rfl rfl rfl rfl) ?_
        refine AllFrom.cons (op_row (s := 18) rfl rfl rfl rfl rfl) ?_
        refine AllFrom.cons (op_move rfl rfl) ?_
        refine AllFrom.cons (op_load rfl rfl rfl) ?_
        refine AllFrom.cons (op_load rfl rfl rfl) ?_
        refine AllFrom.cons (op_at rfl rfl) ?_
        refine AllFrom.cons (op_load rfl rfl rfl) ?_
        refine AllFrom.cons (op_load rfl rfl rfl) ?_
        refine AllFrom.cons (op_at rfl rfl) ?_
        refine AllFrom.cons (op_at rfl rfl) ?_
        refine AllFrom.cons (op_flds [21, 22, 23, 24, 25, 26, 27] _ 7 rfl rfl (by decide) (by decide) (by decide) (by decide) rfl rfl) ?_
        refine AllFrom.cons (op_call (t := 20) (s := 28) rfl rfl rfl rfl rfl rfl rfl rfl) ?_
        refine AllFrom.cons (op_row (s := 29) rfl rfl rfl rfl rfl) ?_
        refine AllFrom.cons (op_move rfl rfl) ?_
        refine AllFrom.cons (op_at rfl rfl) ?_
        refine AllFrom.cons (op_at rfl rfl) ?_
        refine AllFrom.cons (op_load rfl rfl rfl) ?_
        refine AllFrom.cons (op_load rfl rfl rfl) ?_
        refine AllFrom.cons (op_load rfl rfl rfl) ?_
        refine AllFrom.cons (op_at rfl rfl) ?_
        refine AllFrom.cons (op_load rfl rfl rfl) ?_
        refine AllFrom.cons (op_load rfl rfl rfl) ?_
        refine AllFrom.cons (op_flds [32, 33, 34, 35, 36, 37, 38, 39] _ 8 rfl rfl (by decide) (by decide) (by decide) (by decide) rfl rfl) ?_
        refine AllFrom.cons (op_call (t := 31) (s := 40) rfl rfl rfl rfl rfl rfl rfl rfl) ?_
        refine AllFrom.cons (op_row (s := 41) rfl rfl rfl rfl rfl) ?_
        refine AllFrom.cons (op_move rfl rfl) ?_
        refine AllFrom.cons (op_load rfl rfl rfl) ?_
        refine AllFrom.cons (op_load rfl rfl rfl) ?_
        refine AllFrom.cons (op_load rfl rfl rfl) ?_
        refine AllFrom.cons (op_load rfl rfl rfl) ?_
        refine AllFrom.cons (op_load rfl rfl rfl) ?_
        refine AllFrom.cons (op_flds [44, 45, 46, 47, 48] _ 5 rfl rfl (by decide) (by decide) (by decide) (by decide) rfl rfl) ?_
        refine AllFrom.cons (op_call (t := 43) (s := 49) rfl rfl rfl rfl rfl rfl rfl rfl) ?_
        refine AllFrom.cons (op_row (s := 50) rfl rfl rfl rfl rfl) ?_
        refine AllFrom.cons (op_move rfl rfl) ?_
        refine AllFrom.cons (op_load rfl rfl rfl) ?_
        refine AllFrom.cons (op_load rfl rfl rfl) ?_
        refine AllFrom.cons (op_load rfl rfl rfl) ?_
        refine AllFrom.cons (op_load rfl rfl rfl) ?_
        refine AllFrom.cons (op_at rfl rfl) ?_
        refine AllFrom.cons (op_at rfl rfl) ?_
        refine AllFrom.cons (op_flds [53, 54, 55, 56, 57, 58] _ 6 rfl rfl (by decide) (by decide) (by decide) (by decide) rfl rfl) ?_
        refine AllFrom.cons (op_call (t := 52) (s := 59) rfl rfl rfl rfl rfl rfl rfl rfl) ?_
        refine AllFrom.cons (op_row (s := 60) rfl rfl rfl rfl rfl) ?_
        refine AllFrom.cons (op_move rfl rfl) ?_
        refine AllFrom.cons (op_load rfl rfl rfl) ?_
        refine AllFrom.cons (op_at rfl rfl) ?_
        refine AllFrom.cons (op_load rfl rfl rfl) ?_
        refine AllFrom.cons (op_load rfl rfl rfl) ?_
        refine AllFrom.cons (op_flds [63, 64, 65, 66] _ 4 rfl rfl (by decide) (by decide) (by decide) (by decide) rfl rfl) ?_
        refine AllFrom.cons (op_call (t := 62) (s := 67) rfl rfl rfl rfl rfl rfl rfl rfl) ?_
        refine AllFrom.cons (op_row (s := 68) rfl rfl rfl rfl rfl) ?_
        refine AllFrom.cons (op_move rfl rfl) ?_
        refine AllFrom.cons (op_load rfl rfl rfl) ?_
        refine AllFrom.cons (op_load rfl rfl rfl) ?_
        refine AllFrom.cons (op_load rfl rfl rfl) ?_
        refine AllFrom.cons (op_load rfl rfl rfl) ?_
        refine AllFrom.cons (op_at rfl rfl) ?_
        refine AllFrom.cons (op_at rfl rfl) ?_
        refine AllFrom.cons (op_flds [71, 72, 73, 74, 75, 76] _ 6 rfl rfl (by decide) (by decide) (by decide) (by decide) rfl rfl) ?_
        refine AllFrom.cons (op_call (t := 70) (s := 77) rfl rfl rfl rfl rfl rfl rfl rfl) ?_
        refine AllFrom.cons (op_row (s := 78) rfl rfl rfl rfl rfl) ?_
        refine AllFrom.cons (op_move rfl rfl) ?_
        refine AllFrom.cons (op_load rfl rfl rfl) ?_
        refine AllFrom.cons (op_load rfl rfl rfl) ?_
        refine AllFrom.cons (op_load rfl rfl rfl) ?_
        refine AllFrom.cons (op_load rfl rfl rfl) ?_
        refine AllFrom.cons (op_load rfl rfl rfl) ?_
        refine AllFrom.cons (op_load rfl rfl rfl) ?_
        refine AllFrom.cons (op_flds [81, 82, 83, 84, 85, 86] _ 6 rfl rfl (by decide) (by decide) (by decide) (by decide) rfl rfl) ?_
        refine AllFrom.cons (op_call (t := 80) (s := 87) rfl rfl rfl rfl rfl rfl rfl rfl) ?_
        refine AllFrom.cons (op_row (s := 88) rfl rfl rfl rfl rfl) ?_
        refine AllFrom.cons (op_move rfl rfl) ?_
        refine AllFrom.cons (op_at rfl rfl) ?_
        refine AllFrom.cons (op_at rfl rfl) ?_
        refine AllFrom.cons (op_load rfl rfl rfl) ?_
        refine AllFrom.cons (op_at rfl rfl) ?_
        refine AllFrom.cons (op_load rfl rfl rfl) ?_
        refine AllFrom.cons (op_load rfl rfl rfl) ?_
        refine AllFrom.cons (op_load rfl rfl rfl) ?_
        refine AllFrom.cons (op_at rfl rfl) ?_
        refine AllFrom.cons (op_at rfl rfl) ?_
        refine AllFrom.cons (op_at rfl rfl) ?_
        refine AllFrom.cons (op_flds [91, 92, 93, 94, 95, 96, 97, 98, 99, 100] _ 10 rfl rfl (by decide) (by decide) (by decide) (by decide) rfl rfl) ?_
        refine AllFrom.cons (op_call (t := 90) (s := 101) rfl rfl rfl rfl rfl rfl rfl rfl) ?_
        refine AllFrom.cons (op_row (s := 102) rfl rfl rfl rfl rfl) ?_
        refine AllFrom.cons (op_move rfl rfl) ?_
        refine AllFrom.cons (op_at rfl rfl) ?_
        refine AllFrom.cons (op_load rfl rfl rfl) ?_
        refine AllFrom.cons (op_load rfl rfl rfl) ?_
        refine AllFrom.cons (op_load rfl rfl rfl) ?_
        refine AllFrom.cons (op_load rfl rfl rfl) ?_
        refine AllFrom.cons (op_flds [105, 106, 107, 108, 109] _ 5 rfl rfl (by decide) (by decide) (by decide) (by decide) rfl rfl) ?_
        refine AllFrom.cons (op_call (t := 104) (s := 110) rfl rfl rfl rfl rfl rfl rfl rfl) ?_
        refine AllFrom.cons (op_row (s := 111) rfl rfl rfl rfl rfl) ?_
        refine AllFrom.cons (op_move rfl rfl) ?_
        refine AllFrom.cons (op_at rfl rfl) ?_
        refine AllFrom.cons (op_at rfl rfl) ?_
        refine AllFrom.cons (op_load rfl rfl rfl) ?_
        refine AllFrom.cons (op_load rfl rfl rfl) ?_
        refine AllFrom.cons (op_load rfl rfl rfl) ?_
        refine AllFrom.cons (op_load rfl rfl rfl) ?_
        refine AllFrom.cons (op_load rfl rfl rfl) ?_
        refine AllFrom.cons (op_load rfl rfl rfl) ?_
        refine AllFrom.cons (op_at rfl rfl) ?_
        refine AllFrom.cons (op_at rfl rfl) ?_
        refine AllFrom.cons (op_flds [114, 115, 116, 117, 118, 119, 120, 121, 122, 123] _ 10 rfl rfl (by decide) (by decide) (by decide) (by decide) rfl rfl) ?_
        refine AllFrom.cons (op_call (t := 113) (s := 124) rfl rfl rfl rfl rfl rfl rfl rfl) ?_
        refine AllFrom.cons (op_row (s := 125) rfl rfl rfl rfl rfl) ?_
        refine AllFrom.cons (op_move rfl rfl) ?_
        refine AllFrom.cons (op_load rfl rfl rfl) ?_
        refine AllFrom.cons (op_load rfl rfl rfl) ?_
        refine AllFrom.cons (op_load rfl rfl rfl) ?_
        refine AllFrom.cons (op_load rfl rfl rfl) ?_
        refine AllFrom.cons (op_load rfl rfl rfl) ?_
        refine AllFrom.cons (op_load rfl rfl rfl) ?_
        refine AllFrom.cons (op_flds [128, 129, 130, 131, 132, 133] _ 6 rfl rfl (by decide) (by decide) (by decide) (by decide) rfl rfl) ?_
        refine AllFrom.cons (op_call (t := 127) (s := 134) rfl rfl rfl rfl rfl rfl rfl rfl) ?_
        refine AllFrom.cons (op_row (s := 135) rfl rfl rfl rfl rfl) ?_
        refine AllFrom.cons (op_move rfl rfl) ?_
        refine AllFrom.cons (op_at rfl rfl) ?_
        refine AllFrom.cons (op_load rfl rfl rfl) ?_
        refine AllFrom.cons (op_load rfl rfl rfl) ?_
        refine AllFrom.cons (op_load rfl rfl rfl) ?_
        refine AllFrom.cons (op_load rfl rfl rfl) ?_
        refine AllFrom.cons (op_load rfl rfl rfl) ?_
        refine AllFrom.cons (op_load rfl rfl rfl) ?_
        refine AllFrom.cons (op_at rfl rfl) ?_
        refine AllFrom.cons (op_at rfl rfl) ?_
        refine AllFrom.cons (op_at rfl rfl) ?_
        refine AllFrom.cons (op_flds [138, 139, 140, 141, 142, 143, 144, 145, 146, 147] _ 10 rfl rfl (by decide) (by decide) (by decide) (by decide) rfl rfl) ?_
        refine AllFrom.cons (op_call (t := 137) (s := 148) rfl rfl rfl rfl rfl rfl rfl rfl) ?_
        refine AllFrom.cons (op_row (s := 149) rfl rfl rfl rfl rfl) ?_
        refine AllFrom.cons (op_move rfl rfl) ?_
        refine AllFrom.cons (op_at rfl rfl) ?_
        refine AllFrom.cons (op_load rfl rfl rfl) ?_
        refine AllFrom.cons (op_load rfl rfl rfl) ?_
        refine AllFrom.cons (op_load rfl rfl rfl) ?_
        refine AllFrom.cons (op_load rfl rfl rfl) ?_
        refine AllFrom.cons (op_at rfl rfl) ?_
        refine AllFrom.cons (op_at rfl rfl) ?_
        refine AllFrom.cons (op_flds [152, 153, 154, 155, 156, 157, 158] _ 7 rfl rfl (by decide) (by decide) (by decide) (by decide) rfl rfl) ?_
        refine AllFrom.cons (op_call (t := 151) (s := 159) rfl rfl rfl rfl rfl rfl rfl rfl) ?_
        refine AllFrom.cons (op_row (s := 160) rfl rfl rfl rfl rfl) ?_
        refine AllFrom.cons (op_move rfl rfl) ?_
        refine AllFrom.cons (op_load rfl rfl rfl) ?_
        refine AllFrom.cons (op_load rfl rfl rfl) ?_
        refine AllFrom.cons (op_load rfl rfl rfl) ?_
        refine AllFrom.cons (op_load rfl rfl rfl) ?_
        refine AllFrom.cons (op_load rfl rfl rfl) ?_
        refine AllFrom.cons (op_load rfl rfl rfl) ?_
        refine AllFrom.cons (op_at rfl rfl) ?_
        refine AllFrom.cons (op_at rfl rfl) ?_
        refine AllFrom.cons (op_at rfl rfl) ?_
        refine AllFrom.cons (op_flds [163, 164, 165, 166, 167, 168, 169, 170, 171] _ 9 rfl rfl (by decide) (by decide) (by decide) (by decide) rfl rfl) ?_
        refine AllFrom.cons (op_call (t := 162) (s := 172) rfl rfl rfl rfl rfl rfl rfl rfl) ?_
        refine AllFrom.cons (op_row (s := 173) rfl rfl rfl rfl rfl) ?_
        refine AllFrom.cons (op_move rfl rfl) ?_
        refine AllFrom.cons (op_load rfl rfl rfl) ?_
        refine AllFrom.cons (op_load rfl rfl rfl) ?_
        refine AllFrom.cons (op_load rfl rfl rfl) ?_
        refine AllFrom.cons (op_load rfl rfl rfl) ?_
        refine AllFrom.cons (op_load rfl rfl rfl) ?_
        refine AllFrom.cons (op_at rfl rfl) ?_
        refine AllFrom.cons (op_at rfl rfl) ?_
        refine AllFrom.cons (op_at rfl rfl) ?_
        refine AllFrom.cons (op_at rfl rfl) ?_
        refine AllFrom.cons (op_at rfl rfl) ?_
        refine AllFrom.cons (op_flds [176, 177, 178, 179, 180, 181, 182, 183, 184, 185] _ 10 rfl rfl (by decide) (by decide) (by decide) (by decide) rfl rfl) ?_
        refine AllFrom.cons (op_call (t := 175) (s := 186) rfl rfl rfl rfl rfl rfl rfl rfl) ?_
        refine AllFrom.cons (op_row (s := 187) rfl rfl rfl rfl rfl) ?_
        refine AllFrom.cons (op_move rfl rfl) ?_
        refine AllFrom.cons (op_at rfl rfl) ?_
        refine AllFrom.cons (op_load rfl rfl rfl) ?_
        refine AllFrom.cons (op_load rfl rfl rfl) ?_
        refine AllFrom.cons (op_load rfl rfl rfl) ?_
        refine AllFrom.cons (op_load rfl rfl rfl) ?_
        refine AllFrom.cons (op_at rfl rfl) ?_
        refine AllFrom.cons (op_flds [190, 191, 192, 193, 194, 195] _ 6 rfl rfl (by decide) (by decide) (by decide) (by decide) rfl rfl) ?_
        refine AllFrom.cons (op_call (t := 189) (s := 196) rfl rfl rfl rfl rfl rfl rfl rfl) ?_
        refine AllFrom.cons (op_row (s := 197) rfl rfl rfl rfl rfl) ?_
        refine AllFrom.cons (op_rows [8, 19, 30, 42, 51, 61, 69, 79, 89, 103, 112, 126, 136, 150, 161, 174, 188, 198] kinds 18 rfl rfl (by decide) (by decide) (by decide) (by decide) rfl rfl) ?_
        refine AllFrom.cons (op_assign (s := 199) rfl rfl rfl rfl) ?_
        exact trivial
      · exact hlow 11 (by intro i _; unfold slot; split <;> omega)
      · intro t f hf
        have hf' := hf
        unfold kbox at hf
        split at hf <;> first | (cases hf; exact ⟨(hlow _ (by intro i _; unfold slot; split <;> omega)).trans rfl, range_below (hbox _ _ hf') hb⟩) | (cases hf; done)
    · intro a w1 hsz hdf _ hb hi
      have h200 := hi 200 (by omega)
      have hb' := hW.trans (hb.mono hW.size)
      obtain ⟨T, D⟩ := a
      have h2 : KndsAt w1 (T.getD 0 undef) kinds := h200
      have hT : 0 < T.size := by rw [hsz]; simp
      clear hi hsz h200 hb hbox hW
      go_wp2
      subst hdf
      refine bodyPost_ret (v := T.getD 0 undef) (by simp [results, Tryz.results52, go_sem, hT]) rfl ⟨_, rfl, h2, hb'⟩
  · constructor
    · repeat (refine below_alloc ?_ (Nat.le_refl _) _)
      exact Below.refl _ _
    · intro t f h
      unfold kbox at h
      split at h
      · cases h
        refine range_of_heap (t := 112) ?_
        iterate 16 (refine (Below.heap_alloc _ _ _ (by simp [kblk])).trans ?_)
        exact alloc_heap_at _ _ _ (by simp [kblk])
      · cases h
        refine range_of_heap (t := 112) ?_
        iterate 15 (refine (Below.heap_alloc _ _ _ (by simp [kblk])).trans ?_)
        exact alloc_heap_at _ _ _ (by simp [kblk])
      · cases h
        refine range_of_heap (t := 112) ?_
        iterate 14 (refine (Below.heap_alloc _ _ _ (by simp [kblk])).trans ?_)
        exact alloc_heap_at _ _ _ (by simp [kblk])
      · cases h
        refine range_of_heap (t := 112) ?_
        iterate 11 (refine (Below.heap_alloc _ _ _ (by simp [kblk])).trans ?_)
        exact alloc_heap_at _ _ _ (by simp [kblk])
      · cases h
        refine range_of_heap (t := 112) ?_
        iterate 10 (refine (Below.heap_alloc _ _ _ (by simp [kblk])).trans ?_)
        exact alloc_heap_at _ _ _ (by simp [kblk])
      · cases h
        refine range_of_heap (t := 112) ?_
        iterate 6 (refine (Below.heap_alloc _ _ _ (by simp [kblk])).trans ?_)
        exact alloc_heap_at _ _ _ (by simp [kblk])
      · cases h
        refine range_of_heap (t := 112) ?_
        iterate 5 (refine (Below.heap_alloc _ _ _ (by simp [kblk])).trans ?_)
        exact alloc_heap_at _ _ _ (by simp [kblk])
      · cases h
        refine range_of_heap (t := 112) ?_
        iterate 4 (refine (Below.heap_alloc _ _ _ (by simp [kblk])).trans ?_)
        exact alloc_heap_at _ _ _ (by simp [kblk])
      · cases h
        refine range_of_heap (t := 112) ?_
        iterate 1 (refine (Below.heap_alloc _ _ _ (by simp [kblk])).trans ?_)
        exact alloc_heap_at _ _ _ (by simp [kblk])
      · cases h
        refine range_of_heap (t := 112) ?_
        exact alloc_heap_at _ _ _ (by simp [kblk])
      · cases h
end Go.Proofs.YtincgdbfmnnpaaaGreatDoor

/- quaymasterref.Kind. -/
namespace Go.Proofs.YtincgdbfmnnpaaaGreatDoor
open Go.RowKit
def kindOf (op : Int) : Option Knd := kinds.find? fun k => k.op == op
theorem find_none {l : List Knd} {op : Int} (h : ∀ (j : Nat) (kd : Knd), l[j]? = some kd → kd.op ≠ op) : (l.find? fun k => k.op == op) = none := by
  rw [List.find?_eq_none]
  intro x hx
  obtain ⟨j, hj⟩ := List.mem_iff_getElem?.1 hx
  simpa using h j x hj
theorem find_some {l : List Knd} {op : Int} : ∀ {k : Nat} {kd : Knd}, (∀ j : Nat, j < k → ∀ kd : Knd, l[j]? = some kd → kd.op ≠ op) → l[k]? = some kd → kd.op = op → (l.find? fun k => k.op == op) = some kd := by
  induction l with
  | nil => intro k kd _ h; simp at h
  | cons x l ih =>
    intro k kd hn hk he
    cases k with
    | zero => simp at hk; subst hk; simp [he]
    | succ k =>
      have h0 : x.op ≠ op := hn 0 (by omega) x rfl
      have h1 : (x.op == op) = false := by simpa using h0
      rw [List.find?_cons, h1]
      exact ih (fun j hj kd h => hn (j + 1) (Nat.succ_lt_succ hj) kd (by simpa using h)) (by simpa using hk) he
theorem flat_at {α : Type} (f : α → List Value) (n : Nat) (hf : ∀ x, (f x).length = n) : ∀ (l : List α) (k j : Nat) (x : α), l[k]? = some x → j < n → (l.flatMap f)[k * n + j]? = (f x)[j]? := by
  intro l
  induction l with
  | nil => intro k j x h; simp at h
  | cons y l ih =>
    intro k j x h hj
    rw [List.flatMap_cons]
    cases k with
    | zero =>
      simp at h
      subst h
      rw [List.getElem?_append_left (by rw [hf]; omega)]
      simp
    | succ k =>
      rw [List.getElem?_append_right (by rw [hf, Nat.succ_mul]; omega), hf]
      have : (k + 1) * n + j - n = k * n + j := by rw [Nat.succ_mul]; omega
      rw [this]
      exact ih k j x (by simpa using h) hj
theorem range_flat {α : Type} {w : World} {b n : Nat} {t : TypeId} (f : α → List Value) (hf : ∀ x, (f x).length = n) (l : List α) (h : w.heap[b]? = some (.cells (l.flatMap f).toArray t)) {k : Nat} {x : α} (hk : l[k]? = some x) :
    w.rangeAt b (k * n) (f x) := by
  intro j v hv
  have hj : j < n := by
    rcases Nat.lt_or_ge j n with g | g
    · exact g
    · rw [List.getElem?_eq_none (by rw [hf]; exact g)] at hv; cases hv
  have := flat_at f n hf l k j x hk hj
  simp [World.cell?, h, this, hv]
theorem KndsAt.row {w : World} {v : Value} {l : List Knd} (h : KndsAt w v l) : ∃ b, ∃ vs : List Value, v = .slice (some ⟨b, 0, none⟩) l.length l.length ∧ vs.length = l.length ∧ b < w.heap.size ∧
    ∀ (k : Nat) (kd : Knd) (s : Value), l[k]? = some kd → vs[k]? = some s → w.rangeAt b (k * 4) (rowCells kd s) ∧ FldsAt w s kd.l := by
  obtain ⟨b, vs, h1, h2, h3, h4⟩ := h
  refine ⟨b, vs, h1, h3, heap_lt h2, fun k kd s hk hs => ⟨?_, h4 k kd s hk hs⟩⟩
  exact range_flat (fun x : Knd × Value => rowCells x.1 x.2) (fun _ => rfl) (l.zip vs) h2 (x := (kd, s)) (by
    rw [List.getElem?_zip_eq_some]; exact ⟨hk, hs⟩)
def kindV (o : Option Knd) (v : Value) : Value := match o with
  | some k => .tuple #[.string k.n, .int .i64 k.m, v, .bool true]
  | none => .tuple #[.string ⟨#[]⟩, .int .i64 0, .slice none 0 0, .bool false]
set_option maxRecDepth 100000 in
set_option maxHeartbeats 4000000 in
theorem kind_any (op : Int) (w : World) : Calls Tryz.prog 37 #[.int .i64 op] w fun e w' =>
    ∃ v, e = .returned (kindV (kindOf op) v) ∧ Below w.heap.size w w' ∧ ∀ k, kindOf op = some k → FldsAt w' v k.l := by
  go_enter Tryz.func37, Tryz.ntmps37
  go_wp2_with fail
  refine (kinds_any w).mono ?_
  rintro e w1 ⟨sv, rfl, hs, hb1⟩
  obtain ⟨b, vs, rfl, hl, hbl, hrow⟩ := hs.row
  have hlen : kinds.length = 18 := by kernel_rfl
  rw [hlen] at hl ⊢
  go_wp2_with fail
  go_loopw [7, 10] (fun _ i wr => ∃ k : Nat, k ≤ 18 ∧ i = .int .i64 k ∧ Below w1.heap.size w1 wr ∧ ∀ j : Nat, j < k → ∀ kd : Knd, kinds[j]? = some kd → kd.op ≠ op) (fun _ i _ => 18 - (intOf i).toNat)
  case atStart => exact ⟨0, by omega, rfl, Below.refl _ _, fun j hj => by omega⟩
  case round =>
    obtain ⟨k, hk, rfl, hb, hn⟩ := hrel
    have HN := Lib.hid hn
    clear hn
    by_cases hk2 : k < 18
    · have hk3 : k < kinds.length := by rw [hlen]; exact hk2
      obtain ⟨kd, hkd⟩ : ∃ kd, kinds[k]? = some kd := ⟨_, List.getElem?_eq_getElem hk3⟩
      obtain ⟨s, hsv⟩ : ∃ s, vs[k]? = some s := ⟨_, List.getElem?_eq_getElem (by rw [hl]; exact hk2)⟩
      obtain ⟨hr, hf⟩ := hrow k kd s hkd hsv
      have HF := Lib.hid hf
      obtain ⟨sb, rfl, _⟩ := hf
      have hr2 := range_below hr hb
      have c0 : wr.cell? ⟨b, k * 4, none⟩ = some (.int .i64 kd.op) := hr2 0 _ rfl
      have c1 : wr.cell? ⟨b, k * 4 + 1, none⟩ = some (.string kd.n) := hr2 1 _ rfl
      have c2 : wr.cell? ⟨b, k * 4 + 2, none⟩ = some (.int .i64 kd.m) := hr2 2 _ rfl
      have c3 : wr.cell? ⟨b, k * 4 + 3, none⟩ = some (.slice (some ⟨sb, 0, none⟩) kd.l.length kd.l.length) := hr2 3 _ rfl
      have HS := Lib.hid hs
      have HRow := Lib.hid hrow
      have HKD := Lib.hid hkd
      have HSV := Lib.hid hsv
      clear hr2 hs hrow hr hkd hsv
      by_cases he : kd.op = op
      · have he2 : (kd.op == op) = true := by simpa using he
        have HE := Lib.hid he
        clear he
        go_wp2_with fail
        go_quiet (fail)
        go_wp2_with fail
        have hko : kindOf op = some kd := find_some HN.out HKD.out HE.out
        refine bodyPost_ret (v := kindV (some kd) (.slice (some ⟨sb, 0, none⟩) kd.l.length kd.l.length)) (by simp [results, Tryz.results37, go_sem, kindV]) rfl ⟨.slice (some ⟨sb, 0, none⟩) kd.l.length kd.l.length, by rw [hko], ?_, ?_⟩
        · exact below_drewN (below_alloc (hb1.trans (hb.mono hb1.size)) (Nat.le_refl _) _) _
        · intro k' hk'
          rw [hko] at hk'
          cases hk'
          exact HF.out.below (below_drewN (below_alloc hb (Nat.le_refl _) _) _)
      · have he2 : (kd.op == op) = false := by simpa using he
        have HE := Lib.hid he
        clear he
        go_wp2_with fail
        refine ⟨⟨k + 1, by omega, by go_num, ?_, ?_⟩, by simp [intOf]; omega⟩
        · exact below_alloc hb (Nat.le_refl _) _
        · intro j hj kd' hkd'
          by_cases e : j < k
          · exact HN.out j e kd' hkd'
          · obtain rfl : j = k := by omega
            rw [HKD.out] at hkd'
            cases hkd'
            exact HE.out
    · obtain rfl : k = 18 := by omega
      go_wp2_with fail
      have hko : kindOf op = none := find_none fun j kd' h => HN.out j (by
        rcases Nat.lt_or_ge j 18 with g | g
        · exact g
        · rw [List.getElem?_eq_none (by rw [hlen]; exact g)] at h; cases h) kd' h
      refine bodyPost_ret (v := kindV none undef) (by simp [results, Tryz.results37, go_sem, kindV]) rfl ⟨undef, by rw [hko], hb1.trans (hb.mono hb1.size), fun k' hk' => by rw [hko] at hk'; cases hk'⟩
end Go.Proofs.YtincgdbfmnnpaaaGreatDoor

/- A range over an iterator that keeps its own state in three cells of its maker's (strings.SplitSeq): the law of the loop. -/
namespace Go.Proofs.YtincgdbfmnnpaaaGreatDoor
open Go.RowKit
/-- What abides a turn of the iterator's three cells, and of whatever is no cells at or behind H. -/
def Abid {β : Type} (B H : Nat) (I : β → World → Prop) : Prop :=
  ∀ s W W' row, I s W → W.grownBy W' row → (∀ r, row = some r → (B ≤ r ∧ r < B + 3) ∨ (H ≤ r ∧ ∃ o : Obj, W.heap[r]? = some o ∧ o.isCells = false)) → I s W'
/-- What a round keeps: all that lay from B on. -/
def Kept (B : Nat) (W W' : World) : Prop := W.heap.size ≤ W'.heap.size ∧ ∀ k, B ≤ k → k < W.heap.size → W'.heap[k]? = W.heap[k]?
theorem Kept.refl (B : Nat) (W : World) : Kept B W W := ⟨Nat.le_refl _, fun _ _ _ => rfl⟩
theorem Kept.trans {B : Nat} {X Y Z : World} (h : Kept B X Y) (k : Kept B Y Z) : Kept B X Z := ⟨Nat.le_trans h.1 k.1, fun i hB hi => (k.2 i hB (Nat.lt_of_lt_of_le hi h.1)).trans (h.2 i hB hi)⟩
theorem Kept.of_below {B : Nat} {W W' : World} (h : Below W.heap.size W W') : Kept B W W' := ⟨h.size, fun i _ hi => h.block i hi⟩
theorem Kept.of_grown {B : Nat} {W W' : World} {row : Option Nat} (h : W.grownBy W' row) (hr : ∀ r, row = some r → r < B ∨ W.heap.size ≤ r) : Kept B W W' :=
  ⟨h.size, fun i hB hi => h.block i hi (fun e => by rcases hr i e.symm with h | h <;> omega)⟩
/-- The iterator's contract, the three cells as they stand in W. -/
def SplitIter (F : Fence) (n : Nat) (P : Program) (g : Nat) (lb : Array Value) (B : Nat) (xs : List (List UInt8)) (w : World) : Prop :=
  ∀ (l : Nat) (J Jx : List (List UInt8) → World → Prop) (W : World), (∀ k, B ≤ k → k < B + 3 → W.heap[k]? = w.heap[k]?) →
    (∀ s X Y row, J s X → X.grownBy Y row → (∀ r, row = some r → B ≤ r ∧ r < B + 3) → J s Y) →
    (∀ pre x W1, J pre W1 → pre ++ [x] <+: xs → YieldAt F (n - 1) P l #[.string ⟨x.toArray⟩] W1 fun e W' =>
      (e = .returned (.bool true) ∧ J (pre ++ [x]) W' ∧ Kept B W1 W') ∨ (e = .returned (.bool false) ∧ Jx (pre ++ [x]) W')) →
    J [] W →
    CallsIn F n P g (#[.func (.yield l) #[] #[]] ++ lb) W fun e W' => (∃ v, e = .returned v) ∧ (J xs W' ∨ ∃ pre, pre <+: xs ∧ Jx pre W')
/-- How a round may be left. -/
def splitPost (B : Nat) (I : List (List UInt8) → World → Prop) (Ix : Code → List (List UInt8) → World → Prop) (xs : List (List UInt8)) (W : World) : Exit → Act → World → Prop
  | .normal, _, W' => Kept B W W' ∧ I xs W'
  | .ret, _, W' => Kept B W W' ∧ Ix .ret xs W'
  | .exit id, _, W' => Kept B W W' ∧ Ix (.exit id) xs W'
  | .goto t, _, W' => Kept B W W' ∧ Ix (.goto t) xs W'
  | .panic _, _, _ => False
  | .outgrown, _, _ => False
theorem kept_put {B : Nat} (W : World) (l : Nat) (o : Obj) (h : ∀ k, B ≤ k → k < W.heap.size → k ≠ l → True) : (W.putObj l o).heap.size = W.heap.size := by simp [World.putObj]
variable {F : Fence} {n : Nat} {P : Program}
theorem wpIn_range_split {g : Operand} {ps : Array Tmp} {assign body : Code} {Q : Exit → Act → World → Prop} {a : Act} {w : World}
    (hro : F.round = none) (h1 : 1 ≤ n) {gf : Nat} {lb : Array Value} (hg : a.eval g = .func (.func gf) #[] lb) (hFg : F.fn gf) (eg : ∀ args w, (callFunc gf args).run P w = .ok (.enter gf args) w)
    (B : Nat) (hB : B + 3 ≤ w.heap.size) (xs : List (List UInt8)) (hseq : SplitIter F (n - 1) P gf lb B xs w) (hps : 1 = ps.size)
    (I : List (List UInt8) → World → Prop) (Ix : Code → List (List UInt8) → World → Prop) (hI : Abid B w.heap.size I) (hIx : ∀ c, Abid B w.heap.size (Ix c)) (h0 : I [] w) (a₁ : List UInt8 → Act)
    (hassign : ∀ (l : Nat) (x : List UInt8) (W : World) (K : Act → World → Prop), K (a₁ x) W →
      assign.wpIn (F.inRound l) (n - 1 - 1) P (Exit.then K (fun _ _ _ => False)) { tmps := (ps.zip #[.string ⟨x.toArray⟩]).foldl (fun t (p, v) => t.setIfInBounds p v) a.tmps, defers := [] } W)
    (hbody : ∀ (l : Nat) (pre : List (List UInt8)) (x : List UInt8) (W : World), I pre W → pre ++ [x] <+: xs → w.heap.size ≤ W.heap.size → body.wpIn (F.inRound l) (n - 1 - 1) P (splitPost B I Ix (pre ++ [x]) W) (a₁ x) W)
    (hdone : ∀ (D : Nat) (W : World), w.heap.size ≤ D → I xs W → W.heap[D]? = some (.deferred (some [])) → Q .normal { a with defers := { target := .collected D, args := #[] } :: a.defers } W)
    (hstop : ∀ (D : Nat) (c : Code) (pre : List (List UInt8)) (W : World), w.heap.size ≤ D → pre <+: xs → Ix c pre W → W.heap[D]? = some (.deferred (some [])) → c.wpIn F n P Q { a with defers := { target := .collected D, args := #[] } :: a.defers } W) :
    (Code.rangeFunc g ps assign body).wpIn F n P Q a w := by
  refine wpIn_rangeFunc fun fn hfn => ?_
  rw [hro]
  obtain ⟨rec, hrec⟩ : ∃ rec : LoopState → Option Code → Loop, rec = fun st pe => { state := st, pending := pe, fn, tmps := a.tmps, params := ps, assign, body, defers := w.heap.size } := ⟨_, rfl⟩
  obtain ⟨W1, hW1⟩ : ∃ W1, (w.alloc (.deferred (some []))).alloc (.loop (rec .ready none)) = W1 := ⟨_, rfl⟩
  have hs1 : W1.heap.size = w.heap.size + 1 + 1 := by rw [← hW1]; simp
  have hb1 : Below w.heap.size w W1 := by
    rw [← hW1]; exact ((Below.refl _ w).alloc (Nat.le_refl _) _).alloc (by simp) _
  have hL1 : W1.heap[w.heap.size + 1]? = some (.loop (rec .ready none)) := by
    rw [← hW1]; have := World.alloc_heap_new (w.alloc (.deferred (some []))) (.loop (rec .ready none)); rwa [World.size_alloc] at this
  have hK1 : W1.heap[w.heap.size]? = some (.deferred (some [])) := by
    rw [← hW1]; exact (Below.heap_alloc _ _ _ (by simp)).trans (World.alloc_heap_new w _)
  have putI : ∀ (J : List (List UInt8) → World → Prop), Abid B w.heap.size J → ∀ s (W : World) (l : Nat) (o o' : Obj), J s W → w.heap.size ≤ l → W.heap[l]? = some o → o.isCells = false → J s (W.putObj l o') :=
    fun J hJ s W l o o' hs hl ho hc => hJ s W _ (some l) hs (grownBy_putObj' W l o') (fun r e => by cases e; exact .inr ⟨hl, o, ho, hc⟩)
  have hI1 : I [] W1 := hI [] w W1 none h0 ⟨hb1.os, hb1.tape, hb1.output, hb1.size, fun i hi _ => hb1.block i hi⟩ (fun r e => by cases e)
  refine ⟨w.heap.size + 1, [{ target := .collected w.heap.size, args := #[] }], W1, { target := .fn (.func gf) lb, args := #[.func (.yield (w.heap.size + 1)) #[] #[]] }, W1, gf,
    #[.func (.yield (w.heap.size + 1)) #[] #[]] ++ lb, W1, ?_, ?_, ?_, ?_, fun _ => h1, ?_⟩
  · rw [← hW1, hrec]; exact run_enterLoop_outer _ _ _ _ _
  · simp only [resolve, hg]
    simp [go_sem]
  · intro f' hf'; simp [Target.leads] at hf'; subst hf'; exact hFg
  · simp [invoke, go_sem, eg]
  have keepB : ∀ (X Y : World) (row : Option Nat) (k : Nat), k < X.heap.size → w.heap.size ≤ k → X.grownBy Y row → (∀ r, row = some r → B ≤ r ∧ r < B + 3) → Y.heap[k]? = X.heap[k]? :=
    fun X Y row k hk hw hg hr => hg.block k hk (fun e => by have := hr k e.symm; omega)
  refine (hseq (w.heap.size + 1)
      (fun pre W => I pre W ∧ W.heap[w.heap.size + 1]? = some (.loop (rec .ready none)) ∧ W.heap[w.heap.size]? = some (.deferred (some [])))
      (fun pre W => ∃ c, Ix c pre W ∧ W.heap[w.heap.size + 1]? = some (.loop (rec .done (some c))) ∧ W.heap[w.heap.size]? = some (.deferred (some [])))
      W1 (fun k hk1 hk2 => hb1.block k (by omega))
      (fun s X Y row hs hg' hr => ⟨hI s X Y row hs.1 hg' (fun r e => .inl (hr r e)), (keepB X Y row _ (Array.getElem?_eq_some_iff.1 hs.2.1).1 (by omega) hg' hr).trans hs.2.1, (keepB X Y row _ (Array.getElem?_eq_some_iff.1 hs.2.2).1 (by omega) hg' hr).trans hs.2.2⟩)
      ?_ ⟨hI1, hL1, hK1⟩).mono ?_
  · rintro pre x W ⟨hi, hl, hk⟩ hpre
    have hlt : w.heap.size + 1 < W.heap.size := (Array.getElem?_eq_some_iff.1 hl).1
    have hy := run_yield (P := P) (args := #[.string ⟨x.toArray⟩]) hl (by rw [hrec]; exact hps)
    rw [hrec] at hy
    refine ⟨fn, _, assign, body, hy, roundIn_of_wpIn hfn (hassign _ x W _ ⟨_, run_beginRound hl (by rw [hrec]), ?_⟩)⟩
    obtain ⟨W2, hW2⟩ : ∃ W2, W.putObj (w.heap.size + 1) (.loop { rec .ready none with state := .busy }) = W2 := ⟨_, rfl⟩
    have hs2 : W2.heap.size = W.heap.size := by rw [← hW2]; simp [World.putObj]
    have hl2 : W2.heap[w.heap.size + 1]? = some (.loop { rec .ready none with state := .busy }) := by rw [← hW2]; exact World.putObj_heap_same hlt
    have hk2 : W2.heap[w.heap.size]? = some (.deferred (some [])) := by rw [← hW2]; exact (World.putObj_heap_other (by omega)).trans hk
    have hi2 : I pre W2 := by rw [← hW2]; exact putI I hI pre W _ _ _ hi (by omega) hl rfl
    have hkp2 : ∀ k, B ≤ k → k < B + 3 → W2.heap[k]? = W.heap[k]? := fun k _ _ => by rw [← hW2]; exact World.putObj_heap_other (by omega)
    show body.wpIn _ _ _ _ (a₁ x) (W.putObj (w.heap.size + 1) (.loop { rec .ready none with state := .busy }))
    rw [hW2]
    refine wpIn_mono (hbody _ pre x _ hi2 hpre (by omega)) ?_
    have fin : ∀ (jump : Option Code) (W3 : World), Kept B W2 W3 →
        ∃ W4, (Instr.endRound (w.heap.size + 1) jump).run P W3 = .ok (.bool jump.isNone) W4 ∧ W4 = W3.putObj (w.heap.size + 1) (.loop (rec (if jump.isNone then .ready else .done) jump)) ∧
        W3.heap[w.heap.size + 1]? = some (.loop { rec .ready none with state := .busy }) ∧
        W4.heap[w.heap.size + 1]? = some (.loop (rec (if jump.isNone then .ready else .done) jump)) ∧ W4.heap[w.heap.size]? = some (.deferred (some [])) := fun jump W3 hk3 => by
      have hl3 : W3.heap[w.heap.size + 1]? = some (.loop { rec .ready none with state := .busy }) := (hk3.2 _ (by omega) (by omega)).trans hl2
      have hr3 := run_endRound (P := P) jump hl3
      rw [hrec] at hr3 hl3 ⊢
      exact ⟨_, hr3, rfl, hl3, World.putObj_heap_same (Array.getElem?_eq_some_iff.1 hl3).1, (World.putObj_heap_other (by omega)).trans ((hk3.2 _ (by omega) (by omega)).trans hk2)⟩
    rintro e a3 W3 hp
    cases e with
    | normal =>
      obtain ⟨hk3, hi3⟩ := hp
      obtain ⟨W4, hr, hW4, hl3, hl4, hk4⟩ := fin none W3 hk3
      refine ⟨_, W4, hr, .inl ⟨rfl, ⟨by rw [hW4]; exact putI I hI _ W3 _ _ _ hi3 (by omega) hl3 rfl, hl4, hk4⟩, ?_⟩⟩
      have hsz : W4.heap.size = W3.heap.size := by rw [hW4]; simp [World.putObj]
      refine ⟨by have := hk3.1; omega, fun k hkB hkl => ?_⟩
      by_cases e1 : k = w.heap.size + 1
      · subst e1; rw [hl4, hl]; rfl
      · rw [hW4, World.putObj_heap_other e1, hk3.2 k hkB (by omega), ← hW2, World.putObj_heap_other e1]
    | ret =>
      obtain ⟨hk3, hi3⟩ := hp
      obtain ⟨W4, hr, hW4, hl3, hl4, hk4⟩ := fin (some .ret) W3 hk3
      exact ⟨_, W4, hr, .inr ⟨rfl, .ret, by rw [hW4]; exact putI _ (hIx _) _ W3 _ _ _ hi3 (by omega) hl3 rfl, hl4, hk4⟩⟩
    | exit id =>
      obtain ⟨hk3, hi3⟩ := hp
      obtain ⟨W4, hr, hW4, hl3, hl4, hk4⟩ := fin (some (.exit id)) W3 hk3
      exact ⟨_, W4, hr, .inr ⟨rfl, .exit id, by rw [hW4]; exact putI _ (hIx _) _ W3 _ _ _ hi3 (by omega) hl3 rfl, hl4, hk4⟩⟩
    | goto t =>
      obtain ⟨hk3, hi3⟩ := hp
      obtain ⟨W4, hr, hW4, hl3, hl4, hk4⟩ := fin (some (.goto t)) W3 hk3
      exact ⟨_, W4, hr, .inr ⟨rfl, .goto t, by rw [hW4]; exact putI _ (hIx _) _ W3 _ _ _ hi3 (by omega) hl3 rfl, hl4, hk4⟩⟩
    | panic ch => exact hp.elim
    | outgrown => exact hp.elim
  · rintro e W2 ⟨⟨v, rfl⟩, (⟨hi, hl, hk⟩ | ⟨pre, hSp, c, hi, hl, hk⟩)⟩
    · exact ⟨none, _, by have := run_endLoop (P := P) hl (by rw [hrec]; simp); rw [hrec] at this; exact this, hdone _ _ (Nat.le_refl _) (putI I hI _ _ _ _ _ hi (by omega) hl rfl) ((World.putObj_heap_other (by omega)).trans hk)⟩
    · exact ⟨some c, _, by have := run_endLoop (P := P) hl (by rw [hrec]; simp); rw [hrec] at this; exact this, hstop _ c pre _ (Nat.le_refl _) hSp (putI _ (hIx c) _ _ _ _ _ hi (by omega) hl rfl) ((World.putObj_heap_other (by omega)).trans hk)⟩
end Go.Proofs.YtincgdbfmnnpaaaGreatDoor

/- strings.SplitSeq at a separator of one byte: its maker, its iterator. -/
namespace Go.Proofs.YtincgdbfmnnpaaaGreatDoor
open Go.RowKit Go.Shelf
attribute [local go_sem] Oper.semAt_some
/-- The pieces of bytes between a byte c. -/
def splitC (c : UInt8) : Nat → List UInt8 → List (List UInt8)
  | 0, l => [l]
  | k + 1, l => if Lib.indexByte l c < 0 then [l] else l.take (Lib.indexByte l c).toNat :: splitC c k (l.drop ((Lib.indexByte l c).toNat + 1))
theorem indexByte_bd (c : UInt8) : ∀ l : List UInt8, -1 ≤ Lib.indexByte l c ∧ Lib.indexByte l c < l.length
  | [] => by simp [Lib.indexByte]
  | b :: l => by
    have := indexByte_bd c l
    unfold Lib.indexByte
    split
    · simp
    · split
      · simp; omega
      · simp; omega
theorem splitseq0_any (s sep : ByteArray) (w : World) : Calls Tryz.prog 92 #[.string s, .string sep, .int .i64 0] w fun e w' =>
    e = .returned (.func (.func 106) #[] #[.pointer (some ⟨w.heap.size + 1, 0, none⟩), .pointer (some ⟨w.heap.size, 0, none⟩), .pointer (some ⟨w.heap.size + 1 + 1, 0, none⟩)]) ∧
    w' = ((w.alloc (.cells #[.string s] 9)).alloc (.cells #[.string sep] 9)).alloc (.cells #[.int .i64 0] 3) := by
  go_enter Tryz.func92, Tryz.ntmps92
  go_wp2
  go_ret
  exact ⟨rfl, rfl⟩
theorem splitseq_any (s sep : ByteArray) (w : World) : Calls Tryz.prog 79 #[.string s, .string sep] w fun e w' =>
    e = .returned (.func (.func 106) #[] #[.pointer (some ⟨w.heap.size + 1, 0, none⟩), .pointer (some ⟨w.heap.size, 0, none⟩), .pointer (some ⟨w.heap.size + 1 + 1, 0, none⟩)]) ∧
    w' = ((w.alloc (.cells #[.string s] 9)).alloc (.cells #[.string sep] 9)).alloc (.cells #[.int .i64 0] 3) := by
  go_enter Tryz.func79, Tryz.ntmps79
  go_wp2_with (go_at_call 92; refine (splitseq0_any _ _ _).mono ?_; rintro e w' ⟨rfl, rfl⟩)
  go_ret
  exact ⟨rfl, rfl⟩
theorem grown_cell {W : World} (B : Nat) (v : Value) : W.grownBy (W.setCell ⟨B, 0, none⟩ v) (some B) := ⟨rfl, rfl, rfl, by simp [World.setCell], fun i _ hi => Below.heap_setCell _ _ _ _ (fun e => hi (by rw [e]))⟩
theorem cells_set {W : World} {B : Nat} {x y : Value} {t : TypeId} (h : W.heap[B]? = some (.cells #[x] t (0, 0))) : (W.setCell ⟨B, 0, none⟩ y).heap[B]? = some (.cells #[y] t (0, 0)) := by
  simp [World.setCell, Array.getElem?_modify, h]
/-- What stands between the rounds. -/
structure SpSt (c : UInt8) (B : Nat) (xs : List (List UInt8)) (J : List (List UInt8) → World → Prop) (W : World) : Prop where
  go : ∃ pre t k, xs = pre ++ splitC c k t.data.toList ∧ t.size ≤ k ∧ k ≤ 140737488355328 ∧ J pre W ∧ W.heap[B]? = some (.cells #[.string t] 9 (0, 0)) ∧
    W.heap[B + 1]? = some (.cells #[.string ⟨#[c]⟩] 9 (0, 0)) ∧ W.heap[B + 1 + 1]? = some (.cells #[.int .i64 0] 3 (0, 0))
def spLeft (B : Nat) (W : World) : Nat := match W.cell? ⟨B, 0, none⟩ with | some (.string t) => t.size | _ => 0
set_option maxRecDepth 100000 in
set_option maxHeartbeats 1000000 in
theorem split_iter (c : UInt8) (B : Nat) (s : ByteArray) (hs : s.size ≤ 140737488355328) (w : World) (n : Nat) (hn : 3 ≤ n)
    (h0 : w.heap[B]? = some (.cells #[.string s] 9 (0, 0))) (h1 : w.heap[B + 1]? = some (.cells #[.string ⟨#[c]⟩] 9 (0, 0))) (h2 : w.heap[B + 1 + 1]? = some (.cells #[.int .i64 0] 3 (0, 0))) :
    SplitIter Fence.wide n Tryz.prog 106 #[.pointer (some ⟨B + 1, 0, none⟩), .pointer (some ⟨B, 0, none⟩), .pointer (some ⟨B + 1 + 1, 0, none⟩)] B (splitC c s.size s.data.toList) w := by
  intro l J Jx W hcell hJ hY hJ0
  refine callsIn_of_wp Tryz.func106 rfl trivial ?_ rfl
  simp only [Tryz.ntmps106, List.size_toArray, List.length_cons, List.length_nil, Nat.reduceAdd, Nat.reduceSub, Array.replicate_succ, Array.replicate_zero, List.push_toArray, List.append_toArray, List.nil_append, List.cons_append]
  have hst : SpSt c B (splitC c s.size s.data.toList) J W := ⟨[], s, s.size, rfl, Nat.le_refl _, hs, hJ0, (hcell _ (by omega) (by omega)).trans h0, (hcell _ (by omega) (by omega)).trans h1, (hcell _ (by omega) (by omega)).trans h2⟩
  have c1 : W.cell? ⟨B + 1, 0, none⟩ = some (.string ⟨#[c]⟩) := by simp [World.cell?, (hcell _ (by omega) (by omega)).trans h1]
  have HST := Lib.hid hst
  have hn1 : 1 ≤ n := by omega
  have hfi : Fence.wide.fn 55 := trivial
  clear hst h0 h1 h2 hcell hJ0
  gi_wp2
  gi_loopw [7] (fun _ wr => SpSt c B (splitC c s.size s.data.toList) J wr) (fun _ wr => spLeft B wr)
  case atStart => exact HST.out
  case round =>
    obtain ⟨pre, t, k, hx, htk, hkm, hj, hB, hB1, hB2⟩ := hrel
    have d0 : wr.cell? ⟨B, 0, none⟩ = some (.string t) := by simp [World.cell?, hB]
    have d1 : wr.cell? ⟨B + 1, 0, none⟩ = some (.string ⟨#[c]⟩) := by simp [World.cell?, hB1]
    have d2 : wr.cell? ⟨B + 1 + 1, 0, none⟩ = some (.int .i64 0) := by simp [World.cell?, hB2]
    have f0 : wr.frozen? ⟨B, 0, none⟩ = false := by simp [World.frozen?, hB]
    have hts : t.data.toList.length = t.size := by rw [← Lib.size_eq]
    have hbd := indexByte_bd c t.data.toList
    rw [hts] at hbd
    have HTS := Lib.hid hts
    have HX := Lib.hid hx
    have HB := Lib.hid hB
    have HB1 := Lib.hid hB1
    have HB2 := Lib.hid hB2
    clear hts hx hB hB1 hB2
    have hidx := fun w => Tryz.strings_Index_one t c w
    by_cases hneg : Lib.indexByte t.data.toList c < 0
    · have hi : Lib.indexByte t.data.toList c = -1 := by omega
      rw [hi] at hidx
      have hsp : splitC c k t.data.toList = [t.data.toList] := by
        cases k with
        | zero => rfl
        | succ k => rw [splitC, if_pos hneg]
      obtain ⟨fn, tmps, assign, body, hy, hR⟩ := hY pre t.data.toList wr hj (by rw [HX.out, hsp]; exact List.prefix_refl _)
      rw [show (⟨t.data.toList.toArray⟩ : ByteArray) = t from Lib.mk_data t] at hy
      have HIDX := Lib.hid hidx
      have HSP := Lib.hid hsp
      clear hidx hsp hi hneg hbd
      gi_wp2_with (gi_at_call 55; refine (callsIn_wide.2 (HIDX.out _)).mono ?_; rintro e w' ⟨rfl, rfl⟩)
      refine hR.mono ?_
      rintro e W3 (⟨rfl, hJ3, hk3⟩ | ⟨rfl, hJx3⟩)
      · gi_wp2
        go_end0
        refine ⟨⟨_, rfl⟩, .inl ?_⟩
        rw [HX.out, HSP.out]
        exact hJ3
      · gi_wp2
        go_end0
        refine ⟨⟨_, rfl⟩, .inr ⟨_, ?_, hJx3⟩⟩
        rw [HX.out, HSP.out]
        exact List.prefix_refl _
    · obtain ⟨i, hi⟩ : ∃ i : Nat, Lib.indexByte t.data.toList c = i := ⟨(Lib.indexByte t.data.toList c).toNat, by omega⟩
      rw [hi] at hidx hbd
      have hlt : i < t.size := by omega
      obtain ⟨k, rfl⟩ : ∃ k', k = k' + 1 := ⟨k - 1, by omega⟩
      have hsp : splitC c (k + 1) t.data.toList = t.data.toList.take i :: splitC c k (t.data.toList.drop (i + 1)) := by
        rw [splitC, if_neg hneg, hi]; rfl
      obtain ⟨fn, tmps, assign, body, hy, hR⟩ := hY pre (t.data.toList.take i) wr hj (by rw [HX.out, hsp]; exact ⟨splitC c k (t.data.toList.drop (i + 1)), by simp⟩)
      rw [show (⟨(t.data.toList.take i).toArray⟩ : ByteArray) = t.extract 0 i from (bs_eq (by rw [Lib.extract_data]; simp)).symm] at hy
      have HIDX := Lib.hid hidx
      have HSP := Lib.hid hsp
      clear hidx hsp hi hneg hbd
      have hlti : (i : Int) < (t.size : Int) := by omega
      gi_wp2_with (gi_at_call 55; refine (callsIn_wide.2 (HIDX.out _)).mono ?_; rintro e w' ⟨rfl, rfl⟩)
      refine hR.mono ?_
      rintro e W3 (⟨rfl, hJ3, hk3⟩ | ⟨rfl, hJx3⟩)
      · have g0 : W3.heap[B]? = some (.cells #[.string t] 9 (0, 0)) := (hk3.2 _ (by omega) (Array.getElem?_eq_some_iff.1 HB.out).1).trans HB.out
        have g1 : W3.heap[B + 1]? = some (.cells #[.string ⟨#[c]⟩] 9 (0, 0)) := (hk3.2 _ (by omega) (Array.getElem?_eq_some_iff.1 HB1.out).1).trans HB1.out
        have g2 : W3.heap[B + 1 + 1]? = some (.cells #[.int .i64 0] 3 (0, 0)) := (hk3.2 _ (by omega) (Array.getElem?_eq_some_iff.1 HB2.out).1).trans HB2.out
        have e0 : W3.cell? ⟨B, 0, none⟩ = some (.string t) := by simp [World.cell?, g0]
        have e1 : W3.cell? ⟨B + 1, 0, none⟩ = some (.string ⟨#[c]⟩) := by simp [World.cell?, g1]
        have ef : W3.frozen? ⟨B, 0, none⟩ = false := by simp [World.frozen?, g0]
        have G0 := Lib.hid g0
        have G1 := Lib.hid g1
        have G2 := Lib.hid g2
        have hi1 : (i : Int) + 1 ≤ (t.size : Int) := by omega
        clear g0 g1 g2 hk3 d0 d1 d2 f0
        have hsz : (t.extract (i + 1) t.size).size = t.size - (i + 1) := by rw [Lib.size_eq, Lib.extract_to_end, List.length_drop, ← Lib.size_eq]
        have hda : (t.extract (i + 1) t.size).data.toList = t.data.toList.drop (i + 1) := Lib.extract_to_end _ _
        have HSZ := Lib.hid hsz
        have HDA := Lib.hid hda
        clear hsz hda
        gi_wp2
        have g := grown_cell (W := W3) B (.string (t.extract (i + 1) t.size))
        refine ⟨⟨pre ++ [t.data.toList.take i], t.extract (i + 1) t.size, k, ?_, by rw [HSZ.out]; omega, by omega, hJ _ _ _ _ hJ3 g (fun r e => by cases e; omega), cells_set G0.out, (g.block _ (Array.getElem?_eq_some_iff.1 G1.out).1 (fun e => by injection e with e; omega)).trans G1.out, (g.block _ (Array.getElem?_eq_some_iff.1 G2.out).1 (fun e => by injection e with e; omega)).trans G2.out⟩, ?_⟩
        · rw [HX.out, HSP.out, HDA.out]; simp
        · have k1 : (W3.setCell ⟨B, 0, none⟩ (.string (t.extract (i + 1) t.size))).cell? ⟨B, 0, none⟩ = some (.string (t.extract (i + 1) t.size)) := by simp [World.cell?, cells_set G0.out]
          have k2 : ∀ X : World, X.heap[B]? = some (.cells #[.string t] 9 (0, 0)) → spLeft B X = t.size := fun X hX => by simp [spLeft, World.cell?, hX]
          rw [k2 _ HB.out, spLeft, k1]
          show (t.extract (i + 1) t.size).size < t.size
          rw [HSZ.out]; omega
      · gi_wp2
        refine bodyPost_ret (results_none rfl _ _ _) rfl ?_
        refine ⟨⟨_, rfl⟩, .inr ⟨_, ?_, hJx3⟩⟩
        rw [HX.out, HSP.out]
        exact ⟨splitC c k (t.data.toList.drop (i + 1)), by simp⟩
end Go.Proofs.YtincgdbfmnnpaaaGreatDoor

/- head's rows as text, against the table 'kinds': plain. -/
namespace Go.Proofs.YtincgdbfmnnpaaaGreatDoor
open Go.RowKit
/-- The pieces, by one way through. -/
def splitGo (c : UInt8) : List UInt8 → List UInt8 → List (List UInt8)
  | cur, [] => [cur]
  | cur, b :: l => if b == c then cur :: splitGo c [] l else splitGo c (cur ++ [b]) l
theorem indexByte_cons (b : UInt8) (l : List UInt8) (c : UInt8) : Lib.indexByte (b :: l) c = if b == c then 0 else if Lib.indexByte l c < 0 then -1 else Lib.indexByte l c + 1 := by
  have := indexByte_bd c l
  rw [Lib.indexByte]
  split
  · rfl
  · by_cases h : Lib.indexByte l c < 0
    · have : Lib.indexByte l c = -1 := by omega
      simp [this]
    · have h' : ¬ Lib.indexByte l c = -1 := by omega
      simp [h, h']
theorem splitGo_eq (c : UInt8) : ∀ (l cur : List UInt8), splitGo c cur l =
    if Lib.indexByte l c < 0 then [cur ++ l] else (cur ++ l.take (Lib.indexByte l c).toNat) :: splitGo c [] (l.drop ((Lib.indexByte l c).toNat + 1))
  | [], cur => by simp [splitGo, Lib.indexByte]
  | b :: l, cur => by
    have hb := indexByte_bd c l
    rw [splitGo, indexByte_cons]
    by_cases h : (b == c) = true
    · simp [h]
    · rw [if_neg h, if_neg h, splitGo_eq c l (cur ++ [b])]
      by_cases h2 : Lib.indexByte l c < 0
      · simp [h2]
      · have h3 : ¬ (Lib.indexByte l c + 1 < 0) := by omega
        have h4 : (Lib.indexByte l c + 1).toNat = (Lib.indexByte l c).toNat + 1 := by omega
        simp [h2, h3, h4]
theorem splitC_go (c : UInt8) : ∀ (k : Nat) (l : List UInt8), l.length ≤ k → splitC c k l = splitGo c [] l
  | 0, l, h => by
    obtain rfl : l = [] := List.eq_nil_of_length_eq_zero (by omega)
    rfl
  | k + 1, l, h => by
    have hb := indexByte_bd c l
    rw [splitC, splitGo_eq]
    by_cases h2 : Lib.indexByte l c < 0
    · simp [h2]
    · rw [if_neg h2, if_neg h2, splitC_go c k _ (by rw [List.length_drop]; omega)]
      simp
/-- The text of the rows, out of the function's own constant. -/
noncomputable def rowsB : ByteArray := match Tryz.f64.body with
  | some (.seq _ (.seq (.seq (.region _ ops _) _) _)) => match ops[0]? with
    | some o => match o.op with
      | .call c => match c.args[0]? with
        | some (Operand.const (Value.string b)) => b
        | _ => ⟨#[]⟩
      | _ => ⟨#[]⟩
    | none => ⟨#[]⟩
  | _ => ⟨#[]⟩
noncomputable def rowsW : List (List (List UInt8)) := (splitGo 124 [] rowsB.data.toList).map Lib.fields
def dec2 (n : Nat) : List UInt8 := if n < 10 then [UInt8.ofNat (48 + n)] else [UInt8.ofNat (48 + n / 10), UInt8.ofNat (48 + n % 10)]
theorem dec2_eq {n : Nat} (h : n < 100) : Lib.decDigits n = dec2 n := by
  unfold dec2
  split
  · exact Lib.decDigits_one (by omega)
  · exact Lib.decDigits_two (by omega) h
theorem itoa_dec2 {op : Int} {n : Nat} (hn : n < 100) : Lib.itoa op = dec2 n ↔ op = n := by
  constructor
  · intro h
    unfold Lib.itoa at h
    by_cases h0 : op < 0
    · rw [if_pos h0] at h
      exfalso
      unfold dec2 at h
      split at h
      · injection h with h1 _
        have := congrArg UInt8.toNat h1
        rw [UInt8.toNat_ofNat'] at this
        simp at this
        omega
      · injection h with h1 _
        have := congrArg UInt8.toNat h1
        rw [UInt8.toNat_ofNat'] at this
        simp at this
        omega
    · rw [if_neg h0] at h
      by_cases h1 : op.toNat < 100
      · rw [dec2_eq h1] at h
        have key : ∀ a b : Nat, a < 100 → b < 100 → dec2 a = dec2 b → a = b := by
          intro a b ha hb he
          unfold dec2 at he
          have e : ∀ x y : Nat, x < 200 → y < 200 → UInt8.ofNat x = UInt8.ofNat y → x = y := by
            intro x y hx hy hxy
            have := congrArg UInt8.toNat hxy
            rw [UInt8.toNat_ofNat', UInt8.toNat_ofNat'] at this
            omega
          split at he <;> split at he
          · injection he with h1 _
            have := e _ _ (by omega) (by omega) h1
            omega
          · simp at he
          · simp at he
          · injection he with h1 h2
            injection h2 with h2 _
            have := e _ _ (by omega) (by omega) h1
            have := e _ _ (by omega) (by omega) h2
            omega
        have := key _ _ h1 hn h
        omega
      · exfalso
        have hlen : ∀ m : Nat, 1 ≤ (Lib.decDigits m).length := by
          intro m
          rw [Lib.decDigits]
          split
          · simp
          · simp
        have h2 : 3 ≤ (Lib.decDigits op.toNat).length := by
          rw [Lib.decDigits, dif_neg (by omega), Lib.decDigits, dif_neg (by omega)]
          have := hlen (op.toNat / 10 / 10)
          simp
          omega
        have h3 : (dec2 n).length ≤ 2 := by unfold dec2; split <;> simp
        rw [h] at h2
        omega
  · rintro rfl
    rw [Lib.itoa_nonneg, dec2_eq hn]
/-- A field's word: its name, its place, its size. -/
def fldWord (x : List UInt8) : Option (List UInt8 × Int × Int) := match splitGo 58 [] x with
  | [n, a, b] => match Lib.atoi a, Lib.atoi b with
    | some p, some q => if a.length ≤ 18 ∧ b.length ≤ 18 then some (n, p, q) else none
    | _, _ => none
  | _ => none
def rowFits (ws : List (List UInt8)) (k : Knd) : Bool := match ws with
  | o :: n :: m :: fs => o == dec2 k.op.toNat && decide (0 ≤ k.op) && decide (k.op < 100) && n == k.n.data.toList && Lib.atoi m == some k.m && (decide (m.length ≤ 18)) &&
      fs.map fldWord == k.l.map (fun f => some (f.n.data.toList, f.a, f.b)) && fs.all (fun x => decide (x.length ≤ 300))
  | _ => false
theorem rows_fit : (decide (rowsW.length = 18) && (rowsW.zip kinds).all fun x => rowFits x.1 x.2) = true := by kernel_rfl
theorem rows_ascii : ((splitGo 124 [] rowsB.data.toList).all fun x => (x.all fun b => decide (b.toNat < 128)) && decide (x.length ≤ 3000)) = true := by kernel_rfl
theorem rows_size : decide (rowsB.size = rowsB.data.toList.length ∧ rowsB.size ≤ 3000) = true := by kernel_rfl
end Go.Proofs.YtincgdbfmnnpaaaGreatDoor

/- head.row. -/
namespace Go.Proofs.YtincgdbfmnnpaaaGreatDoor
open Go.RowKit Go.Shelf
attribute [local go_sem] Oper.semAt_some
/-- The two tables that the library reads. -/
def Tabs (w : World) : Prop := Lib.TabIs Tryz.prog w "strings.asciiSpace" .u8 Lib.asciiSpaceTab ∧ Lib.TabIs Tryz.prog w "internal/strconv.uint64pow10" .u64 Lib.pow10Tab
theorem tab_below {name : String} {k : IntKind} {zs : List Int} {w w' : World} (h : Lib.TabIs Tryz.prog w name k zs) (hb : Below w.heap.size w w') : Lib.TabIs Tryz.prog w' name k zs := by
  unfold Lib.TabIs World.var? at h ⊢
  cases hg : Tryz.prog.globalNamed name with
  | none => rw [hg] at h; exact h
  | some g =>
    rw [hg] at h
    simp only [Option.bind_some] at h ⊢
    have hlt : g < w.heap.size := by
      rcases Nat.lt_or_ge g w.heap.size with hl | hl
      · exact hl
      · rw [Array.getElem?_eq_none hl] at h; cases h
    rw [hb.block g hlt]
    exact h
theorem Tabs.below {w w' : World} (h : Tabs w) (hb : Below w.heap.size w w') : Tabs w' := ⟨tab_below h.1 hb, tab_below h.2 hb⟩
theorem heap_push (w : World) (o : Obj) : (w.alloc o).heap = w.heap.push o := rfl
theorem heaps5 (w : World) (a b c d e : Obj) : (((((w.alloc a).alloc b).alloc c).alloc d).alloc e).heap[w.heap.size]? = some a ∧ (((((w.alloc a).alloc b).alloc c).alloc d).alloc e).heap[w.heap.size + 1]? = some b ∧
    (((((w.alloc a).alloc b).alloc c).alloc d).alloc e).heap[w.heap.size + 1 + 1]? = some c ∧ (((((w.alloc a).alloc b).alloc c).alloc d).alloc e).heap[w.heap.size + 1 + 1 + 1]? = some d ∧
    (((((w.alloc a).alloc b).alloc c).alloc d).alloc e).heap[w.heap.size + 1 + 1 + 1 + 1]? = some e := by
  simp only [heap_push, Array.getElem?_push, Array.size_push]
  refine ⟨?_, ?_, ?_, ?_, ?_⟩
  · rw [if_neg (by omega), if_neg (by omega), if_neg (by omega), if_neg (by omega), if_pos trivial]
  · rw [if_neg (by omega), if_neg (by omega), if_neg (by omega), if_pos trivial]
  · rw [if_neg (by omega), if_neg (by omega), if_pos trivial]
  · rw [if_neg (by omega), if_pos trivial]
  · rw [if_pos trivial]
noncomputable def rowOf (op : Int) : Option (List (List UInt8)) := ((rowsW.zip kinds).find? fun x => x.2.op == op).map (·.1)
theorem grow_below (w : World) (k : Nat) (os : Array Obj) : Below w.heap.size w (Sort.grow (w.drewN k) os) :=
  ⟨rfl, rfl, rfl, by show w.heap.size ≤ (w.heap ++ os).size; rw [Array.size_append]; omega, fun i hi => by
    show (w.heap ++ os)[i]? = w.heap[i]?
    exact Array.getElem?_append_left hi⟩
theorem find_at {α : Type} {p : α → Bool} : ∀ {l : List α} {k : Nat} {x : α}, l[k]? = some x → p x = true → (∀ (j : Nat) y, j < k → l[j]? = some y → p y = false) → l.find? p = some x
  | [], k, x, h, _, _ => by simp at h
  | y :: l, 0, x, h, hp, _ => by
    simp at h
    subst h
    rw [List.find?_cons, hp]
  | y :: l, k + 1, x, h, hp, hn => by
    rw [List.find?_cons, hn 0 y (by omega) rfl]
    exact find_at (k := k) (by simpa using h) hp (fun j z hj hz => hn (j + 1) z (by omega) (by simpa using hz))
theorem rows_len : rowsW.length = 18 := by
  have := rows_fit
  rw [Bool.and_eq_true] at this
  exact of_decide_eq_true this.1
theorem kinds_len : kinds.length = 18 := by kernel_rfl
theorem row_pair {j : Nat} {ws : List (List UInt8)} {kd : Knd} (h1 : rowsW[j]? = some ws) (h2 : kinds[j]? = some kd) : rowFits ws kd = true := by
  have := rows_fit
  rw [Bool.and_eq_true] at this
  exact List.all_eq_true.1 this.2 (ws, kd) (List.mem_iff_getElem?.2 ⟨j, by rw [List.getElem?_zip_eq_some]; exact ⟨h1, h2⟩⟩)
theorem fits_head {ws : List (List UInt8)} {kd : Knd} (h : rowFits ws kd = true) : ∃ n m fs, ws = dec2 kd.op.toNat :: n :: m :: fs ∧ 0 ≤ kd.op ∧ kd.op < 100 ∧ n = kd.n.data.toList ∧ Lib.atoi m = some kd.m ∧ m.length ≤ 18 ∧
    fs.map fldWord = kd.l.map (fun f => some (f.n.data.toList, f.a, f.b)) ∧ ∀ x ∈ fs, x.length ≤ 300 := by
  unfold rowFits at h
  split at h
  · simp only [Bool.and_eq_true, beq_iff_eq, decide_eq_true_eq, List.all_eq_true] at h
    obtain ⟨⟨⟨⟨⟨⟨⟨h1, h2⟩, h3⟩, h4⟩, h5⟩, h6⟩, h7⟩, h8⟩ := h
    exact ⟨_, _, _, by rw [h1], h2, h3, h4, h5, h6, h7, h8⟩
  · cases h
theorem row_at (pre : List (List UInt8)) (x : List UInt8) (h : pre ++ [x] <+: splitGo 124 [] rowsB.data.toList) : ∃ (kd : Knd) (ws : List (List UInt8)) (o : List UInt8) (rest : List (List UInt8)),
    kinds[pre.length]? = some kd ∧ Lib.fields x = ws ∧ ws = o :: rest ∧ o = dec2 kd.op.toNat ∧ kd.op.toNat < 100 ∧ rowsW[pre.length]? = some ws ∧ (∀ (j : Nat) b, x[j]? = some b → b.toNat < 128) ∧ x.length ≤ 3000 := by
  obtain ⟨t, ht⟩ := h
  have hx : (splitGo 124 [] rowsB.data.toList)[pre.length]? = some x := by rw [← ht]; simp
  have hw : rowsW[pre.length]? = some (Lib.fields x) := by unfold rowsW; rw [List.getElem?_map, hx]; rfl
  have hl : pre.length < kinds.length := by
    rw [kinds_len, ← rows_len]
    exact (List.getElem?_eq_some_iff.1 hw).1
  have hk := List.getElem?_eq_getElem hl
  obtain ⟨n, m, fs, h1, h2, h3, -⟩ := fits_head (row_pair hw hk)
  have ha := List.all_eq_true.1 rows_ascii x (List.mem_iff_getElem?.2 ⟨_, hx⟩)
  rw [Bool.and_eq_true, List.all_eq_true, decide_eq_true_eq] at ha
  exact ⟨_, _, _, _, hk, rfl, h1, rfl, by omega, hw, fun j b hb => of_decide_eq_true (ha.1 b (List.mem_iff_getElem?.2 ⟨j, hb⟩)), ha.2⟩
theorem kind_pos {j : Nat} {kd : Knd} (h : kinds[j]? = some kd) : 0 ≤ kd.op ∧ kd.op < 100 := by
  have hl : j < rowsW.length := by rw [rows_len, ← kinds_len]; exact (List.getElem?_eq_some_iff.1 h).1
  obtain ⟨n, m, fs, h1, h2, h3, -⟩ := fits_head (row_pair (List.getElem?_eq_getElem hl) h)
  exact ⟨h2, h3⟩
theorem bcell {W w1 : World} (hb : Below W.heap.size W w1) : (∀ b o, b < W.heap.size → w1.cell? ⟨b, o, none⟩ = W.cell? ⟨b, o, none⟩) ∧ (∀ b o, b < W.heap.size → w1.frozen? ⟨b, o, none⟩ = W.frozen? ⟨b, o, none⟩) :=
  ⟨fun b o h => hb.cell (p := ⟨b, o, none⟩) h, fun b o h => hb.frozen (p := ⟨b, o, none⟩) h⟩
structure RowI (w : World) (op : Int) (pre : List (List UInt8)) (W : World) : Prop where
  below : Below w.heap.size w W
  cop : W.heap[w.heap.size]? = some (.cells #[.int .i64 op] 3 (0, 0))
  res : W.heap[w.heap.size + 1]? = some (.cells #[.slice none 0 0] 151 (0, 0))
  no : ∀ (j : Nat), j < pre.length → ∀ k, kinds[j]? = some k → k.op ≠ op
structure RowX (w : World) (op : Int) (pre : List (List UInt8)) (W : World) : Prop where
  below : Below w.heap.size w W
  row : ∃ ws b, rowOf op = some ws ∧ w.heap.size + 1 + 1 ≤ b ∧ W.heap[w.heap.size + 1]? = some (.cells #[.slice (some ⟨b, 0, none⟩) ws.length ws.length] 151 (0, 0)) ∧
    W.heap[b]? = some (.cells (ws.map fun l => Value.string ⟨l.toArray⟩).toArray 9 (0, 0)) ∧ w.heap.size + 1 + 1 + 3 ≤ b
theorem RowI.abid (w : World) (op : Int) {H : Nat} (hH : w.heap.size + 1 + 1 ≤ H) : Abid (w.heap.size + 1 + 1) H (RowI w op) := by
  intro pre W W' row h hg hr
  have hb : ∀ k, k < w.heap.size + 1 + 1 → k < W.heap.size → W'.heap[k]? = W.heap[k]? := fun k hk hl => hg.block k hl (fun e => by rcases hr k e.symm with h | ⟨h, _⟩ <;> omega)
  exact ⟨⟨hg.os.trans h.below.os, hg.tape.trans h.below.tape, hg.output.trans h.below.output, Nat.le_trans h.below.size hg.size, fun i hi => (hb i (by omega) (Nat.lt_of_lt_of_le hi h.below.size)).trans (h.below.block i hi)⟩,
    (hb _ (by omega) (heap_lt h.cop)).trans h.cop, (hb _ (by omega) (heap_lt h.res)).trans h.res, h.no⟩
theorem RowX.abid (w : World) (op : Int) {H : Nat} (hH : w.heap.size + 1 + 1 ≤ H) (c : Code) : Abid (w.heap.size + 1 + 1) H (fun pre W => c = .ret ∧ RowX w op pre W) := by
  rintro pre W W' row ⟨hc, h⟩ hg hr
  have hb : ∀ k, k < w.heap.size + 1 + 1 → k < W.heap.size → W'.heap[k]? = W.heap[k]? := fun k hk hl => hg.block k hl (fun e => by rcases hr k e.symm with h | ⟨h, _⟩ <;> omega)
  obtain ⟨ws, b, h1, h2, h3, h4, h5⟩ := h.row
  refine ⟨hc, ⟨hg.os.trans h.below.os, hg.tape.trans h.below.tape, hg.output.trans h.below.output, Nat.le_trans h.below.size hg.size, fun i hi => (hb i (by omega) (Nat.lt_of_lt_of_le hi h.below.size)).trans (h.below.block i hi)⟩,
    ws, b, h1, h2, (hb _ (by omega) (heap_lt h3)).trans h3, (hg.block b (heap_lt h4) (fun e => ?_)).trans h4, h5⟩
  rcases hr b e.symm with h | ⟨_, o, ho, hc⟩
  · omega
  · rw [h4] at ho; injection ho with ho; subst ho; cases hc
/-- Behind the numeral. -/
structure RowAft (w : World) (op : Int) (W : World) (C : Array Value) (W2 : World) : Prop where
  below : Below w.heap.size w W2
  cop : W2.heap[w.heap.size]? = some (.cells #[.int .i64 op] 3 (0, 0))
  res : W2.heap[w.heap.size + 1]? = some (.cells #[.slice none 0 0] 151 (0, 0))
  blk : W2.heap[W.heap.size]? = some (.cells C 9 (0, 0))
  kept : Kept (w.heap.size + 1 + 1) W W2
theorem RowAft.of {w : World} {op : Int} {W : World} {C : Array Value} {W2 : World} {pre : List (List UInt8)} (h : Below (W.alloc (.cells C 9)).heap.size (W.alloc (.cells C 9)) W2) (hI : RowI w op pre W) : RowAft w op W C W2 := by
  have hs : (W.alloc (.cells C 9)).heap.size = W.heap.size + 1 := by simp
  have ho : ∀ k, k < W.heap.size → W2.heap[k]? = W.heap[k]? := fun k hk => (h.block k (by omega)).trans (Below.heap_alloc _ _ _ hk)
  have hle : W.heap.size ≤ W2.heap.size := by have := h.size; omega
  exact ⟨⟨h.os.trans hI.below.os, h.tape.trans hI.below.tape, h.output.trans hI.below.output, Nat.le_trans hI.below.size hle, fun i hi => (ho i (Nat.lt_of_lt_of_le hi hI.below.size)).trans (hI.below.block i hi)⟩,
    (ho _ (heap_lt hI.cop)).trans hI.cop, (ho _ (heap_lt hI.res)).trans hI.res, (h.block _ (by omega)).trans (alloc_heap_new W _), hle, fun k _ hk => ho k hk⟩
theorem RowAft.op1 {w : World} {op : Int} {W : World} {C : Array Value} {W2 : World} (h : RowAft w op W C W2) : W2.cell? ⟨w.heap.size, 0, none⟩ = some (.int .i64 op) := by simp [World.cell?, h.cop]
theorem RowAft.resc {w : World} {op : Int} {W : World} {C : Array Value} {W2 : World} (h : RowAft w op W C W2) : W2.cell? ⟨w.heap.size + 1, 0, none⟩ = some (.slice none 0 0) := by simp [World.cell?, h.res]
theorem RowAft.frz {w : World} {op : Int} {W : World} {C : Array Value} {W2 : World} (h : RowAft w op W C W2) : W2.frozen? ⟨w.heap.size + 1, 0, none⟩ = false := by simp [World.frozen?, h.res]
theorem RowAft.word {w : World} {op : Int} {W : World} {C : Array Value} {W2 : World} {ws rest : List (List UInt8)} {o : List UInt8} (h : RowAft w op W C W2) (hC : C = (ws.map fun l => Value.string ⟨l.toArray⟩).toArray) (hw : ws = o :: rest) :
    W2.cell? ⟨W.heap.size, 0, none⟩ = some (.string ⟨o.toArray⟩) := by
  subst hC hw
  simp [World.cell?, h.blk]
theorem row_found {op : Int} {j : Nat} {kd : Knd} {ws : List (List UInt8)} (hk : kinds[j]? = some kd) (hw : rowsW[j]? = some ws) (he : op = kd.op) (hn : ∀ i, i < j → ∀ k, kinds[i]? = some k → k.op ≠ op) : rowOf op = some ws := by
  unfold rowOf
  rw [find_at (l := rowsW.zip kinds) (k := j) (x := (ws, kd)) (by rw [List.getElem?_zip_eq_some]; exact ⟨hw, hk⟩) (by simp [he]) (fun i y hi hy => by
    obtain ⟨y1, y2⟩ := y
    rw [List.getElem?_zip_eq_some] at hy
    simpa using hn i hi y2 hy.2)]
  rfl
theorem row_lost {op : Int} (hn : ∀ i, i < 18 → ∀ k, kinds[i]? = some k → k.op ≠ op) : rowOf op = none := by
  unfold rowOf
  rw [List.find?_eq_none.2 (fun x hx => ?_)]
  · rfl
  · obtain ⟨i, hi⟩ := List.mem_iff_getElem?.1 hx
    obtain ⟨x1, x2⟩ := x
    rw [List.getElem?_zip_eq_some] at hi
    have hl : i < 18 := by rw [← kinds_len]; exact (List.getElem?_eq_some_iff.1 hi.2).1
    simpa using hn i hl x2 hi.2
theorem cells_set1 {W : World} {B : Nat} {x y : Value} {t : TypeId} (h : W.heap[B]? = some (.cells #[x] t (0, 0))) : (W.setCell ⟨B, 0, none⟩ y).heap[B]? = some (.cells #[y] t (0, 0)) := cells_set h
theorem row_hit {w : World} {op : Int} {W W2 : World} {C : Array Value} {pre : List (List UInt8)} {x : List UInt8} {ws : List (List UInt8)} {n : Nat} (ha : RowAft w op W C W2) (hC : C = (ws.map fun l => Value.string ⟨l.toArray⟩).toArray) (hn : n = ws.length)
    (hr : rowOf op = some ws) (hW : w.heap.size + 5 ≤ W.heap.size) :
    Kept (w.heap.size + 1 + 1) W (W2.setCell ⟨w.heap.size + 1, 0, none⟩ (.slice (some ⟨W.heap.size, 0, none⟩) n n)) ∧ (Code.ret = Code.ret ∧ RowX w op (pre ++ [x]) (W2.setCell ⟨w.heap.size + 1, 0, none⟩ (.slice (some ⟨W.heap.size, 0, none⟩) n n))) := by
  have g := grown_cell (W := W2) (w.heap.size + 1) (.slice (some ⟨W.heap.size, 0, none⟩) n n)
  subst hn hC
  refine ⟨ha.kept.trans (Kept.of_grown g (fun r e => by cases e; left; omega)), rfl, ha.below.setCell (p := ⟨w.heap.size + 1, 0, none⟩) (by simp) _, ws, W.heap.size, hr, by omega, cells_set ha.res, (g.block _ (heap_lt ha.blk) (fun e => by injection e with e; omega)).trans ha.blk, by omega⟩
set_option maxRecDepth 100000 in
set_option maxHeartbeats 2000000 in
theorem row_any (op : Int) (h0 : -9223372036854775808 ≤ op) (h1 : op ≤ 9223372036854775807) (w : World) (ht : Tabs w) : Calls Tryz.prog 64 #[.int .i64 op] w fun e w' => Below w.heap.size w w' ∧
    ((rowOf op = none ∧ e = .returned (.slice none 0 0)) ∨ ∃ ws b, rowOf op = some ws ∧ e = .returned (.slice (some ⟨b, 0, none⟩) ws.length ws.length) ∧ w'.heap[b]? = some (.cells (ws.map fun l => Value.string ⟨l.toArray⟩).toArray 9 (0, 0))) := by
  refine (callsIn_wide (n := 9)).1 ?_
  refine callsIn_of_wp_marks Tryz.func64 rfl trivial ?_ rfl
  simp only [Tryz.ntmps64, List.size_toArray, List.length_cons, List.length_nil, Nat.reduceAdd, Nat.reduceSub, Array.replicate_succ, Array.replicate_zero, List.push_toArray, List.append_toArray, List.nil_append, List.cons_append]
  have hf1 : Fence.wide.fn 79 := trivial
  have HT := Lib.hid ht
  clear ht
  gi_wp2_with (gi_at_call 79; refine (callsIn_wide.2 (splitseq_any rowsB ⟨#[124]⟩ _)).mono ?_; rintro e w' ⟨rfl, rfl⟩)
  obtain ⟨W0, hW0⟩ : ∃ W0, (((((w.alloc (Obj.cells #[Value.int IntKind.i64 op] 3)).alloc (Obj.cells #[Value.slice none 0 0] 151)).alloc (Obj.cells #[Value.string rowsB] 9)).alloc (Obj.cells #[Value.string ⟨#[124]⟩] 9)).alloc (Obj.cells #[Value.int IntKind.i64 0] 3)) = W0 := ⟨_, rfl⟩
  have hs0 : W0.heap.size = w.heap.size + 5 := by rw [← hW0]; simp
  have hB0 : Below w.heap.size w W0 := by
    rw [← hW0]; exact (((((Below.refl _ w).alloc (Nat.le_refl _) _).alloc (by simp) _).alloc (by simp; omega) _).alloc (by simp; omega) _).alloc (by simp; omega) _
  have hk0 : W0.heap[w.heap.size]? = some (.cells #[.int .i64 op] 3 (0, 0)) := by rw [← hW0]; exact (heaps5 _ _ _ _ _ _).1
  have hk1 : W0.heap[w.heap.size + 1]? = some (.cells #[.slice none 0 0] 151 (0, 0)) := by rw [← hW0]; exact (heaps5 _ _ _ _ _ _).2.1
  have hk2 : W0.heap[w.heap.size + 1 + 1]? = some (.cells #[.string rowsB] 9 (0, 0)) := by rw [← hW0]; exact (heaps5 _ _ _ _ _ _).2.2.1
  have hk3 : W0.heap[w.heap.size + 1 + 1 + 1]? = some (.cells #[.string ⟨#[124]⟩] 9 (0, 0)) := by rw [← hW0]; exact (heaps5 _ _ _ _ _ _).2.2.2.1
  have hk4 : W0.heap[w.heap.size + 1 + 1 + 1 + 1]? = some (.cells #[.int .i64 0] 3 (0, 0)) := by rw [← hW0]; exact (heaps5 _ _ _ _ _ _).2.2.2.2
  rw [hW0]
  clear hW0
  have hsz : rowsB.size ≤ 140737488355328 := by have := (of_decide_eq_true rows_size).2; omega
  have hit := split_iter 124 (w.heap.size + 1 + 1) rowsB hsz W0 8 (by omega) hk2 hk3 hk4
  rw [splitC_go 124 _ _ (by rw [(of_decide_eq_true rows_size).1]; exact Nat.le_refl _)] at hit
  refine wpIn_range_split rfl (by omega) (gf := 106) (lb := #[.pointer (some ⟨w.heap.size + 1 + 1 + 1, 0, none⟩), .pointer (some ⟨w.heap.size + 1 + 1, 0, none⟩), .pointer (some ⟨w.heap.size + 1 + 1 + 1 + 1, 0, none⟩)]) rfl trivial
    (enters_of Tryz.func106 (by kernel_rfl) rfl) (w.heap.size + 1 + 1) (by omega) (splitGo 124 [] rowsB.data.toList) hit rfl
    (fun pre W => RowI w op pre W) (fun c pre W => c = .ret ∧ RowX w op pre W) (RowI.abid _ _ (by omega)) (fun c => RowX.abid _ _ (by omega) c) ⟨hB0, hk0, hk1, fun j hj => by simp at hj⟩
    (fun x => { tmps := #[.int .i64 op, .pointer (some ⟨w.heap.size, 0, none⟩), .pointer (some ⟨w.heap.size + 1, 0, none⟩), .string ⟨x.toArray⟩, undef, .func (.func 106) #[] #[.pointer (some ⟨w.heap.size + 1 + 1 + 1, 0, none⟩), .pointer (some ⟨w.heap.size + 1 + 1, 0, none⟩), .pointer (some ⟨w.heap.size + 1 + 1 + 1 + 1, 0, none⟩)], .string ⟨x.toArray⟩, undef, undef, undef, undef, undef, undef, undef, undef, undef], defers := [] }) ?assign ?body ?done ?stop
  case assign =>
    intro l x W K hK
    gi_wp2
    exact hK
  case body =>
    rintro l pre x W hI hpre hle
    obtain ⟨kd, ws, o, rest, hkd, hws, hwo, hod, hlt, hro, hasc, hxs⟩ := row_at pre x hpre
    have hF := Tryz.strings_Fields_laid ⟨x.toArray⟩ W (by show x.toArray.size < 4294967281; simp; omega) (by simpa using hasc) (HT.out.below hI.below).1
    rw [show Lib.fields (⟨x.toArray⟩ : ByteArray).data.toList = ws from hws] at hF
    obtain ⟨n, hn⟩ : ∃ n, n = ws.length := ⟨_, rfl⟩
    obtain ⟨C, hC⟩ : ∃ C, C = (ws.map fun l => Value.string ⟨l.toArray⟩).toArray := ⟨_, rfl⟩
    rw [← hn, ← hC] at hF
    have hn0 : 0 < n := by rw [hn, hwo]; simp
    have c0 : (W.alloc (.cells C 9)).cell? ⟨W.heap.size, 0, none⟩ = some (.string ⟨o.toArray⟩) := by
      rw [World.cell?_alloc_at _ _ _ _ rfl, hC, hwo]; rfl
    have cop : (W.alloc (.cells C 9)).cell? ⟨w.heap.size, 0, none⟩ = some (.int .i64 op) := by
      rw [World.cell?_alloc_old _ _ _ (by have := heap_lt hI.cop; show w.heap.size ≠ W.heap.size; omega)]; simp [World.cell?, hI.cop]
    have fres : (W.alloc (.cells C 9)).frozen? ⟨w.heap.size + 1, 0, none⟩ = false := by
      simp [World.frozen?, (Below.heap_alloc W (.cells C 9) _ (heap_lt hI.res)).trans hI.res]
    have hbw : Below w.heap.size w (W.alloc (.cells C 9)) := hI.below.alloc hI.below.size _
    have hIt : ∀ w1, Below (W.alloc (.cells C 9)).heap.size (W.alloc (.cells C 9)) w1 → Calls Tryz.prog 81 #[.int .i64 op] w1 fun e w' => e = .returned (.string ⟨(Lib.itoa op).toArray⟩) ∧ RowAft w op W C w' := fun w1 hb1 =>
      (Tryz.strconv_Itoa op h0 h1 w1 ((HT.out.below hbw).below hb1).2).mono fun e w' ⟨he, k, os, hw⟩ => ⟨he, RowAft.of (hb1.trans ((by rw [hw]; exact grow_below _ _ _ : Below w1.heap.size w1 w').mono hb1.size)) hI⟩
    have hf2 : Fence.wide.fn 80 := trivial
    have hf3 : Fence.wide.fn 81 := trivial
    have HF := Lib.hid hF
    have HIT := Lib.hid hIt
    have HC := Lib.hid hC
    have HN := Lib.hid hn
    have HWS := Lib.hid hws
    have HWO := Lib.hid hwo
    have HOD := Lib.hid hod
    have HKD := Lib.hid hkd
    have HI := Lib.hid hI
    have HBW := Lib.hid hbw
    have HASC := Lib.hid hasc
    have hmx : Tryz.prog.follows .mixedOrders = true := by kernel_rfl
    clear hF hIt hC hn hws hwo hod hkd hI hbw hasc
    gi_wp2_with (gi_at_call 80; refine (CallsIn.inRound l (callsIn_wide.2 HF.out)).mono ?_; rintro e w' ⟨rfl, rfl⟩)
    by_cases heq : op = kd.op.toNat
    · have hio : Lib.itoa op = o := by rw [HOD.out]; exact (itoa_dec2 hlt).2 heq
      have hrow : rowOf op = some ws := row_found HKD.out hro (by have := kind_pos HKD.out; omega) HI.out.no
      have HROW := Lib.hid hrow
      have HIO := Lib.hid hio
      have HEQ := Lib.hid heq
      clear hio heq hrow
      gi_region_with_o (gi_at_call 81; refine (CallsIn.inRound l (callsIn_wide.2 (HIT.out _ (by first | exact Below.refl _ _ | exact (Below.refl _ _).drew)))).mono ?_; rintro e W2 ⟨he, ha⟩; rw [HIO.out] at he; obtain rfl := he; have d1 := ha.op1; have d2 := ha.word (HC.out) (HWO.out); have d3 := ha.frz; have d4 := ha.resc; have HA := Lib.hid ha; clear ha)
      all_goals gi_wp2
      all_goals
        exact row_hit HA.out HC.out HN.out HROW.out (by omega)
    · have hne : ¬ Lib.itoa op = o := by rw [HOD.out]; exact fun h => heq ((itoa_dec2 hlt).1 h)
      obtain ⟨q, hq⟩ : ∃ q, q = Lib.itoa op := ⟨_, rfl⟩
      rw [← hq] at hne
      have hne1 : (o == q) = false := by simpa using fun h : o = q => hne h.symm
      have HQ := Lib.hid hq
      have HEQ := Lib.hid heq
      clear hq heq
      gi_region_with_o (gi_at_call 81; refine (CallsIn.inRound l (callsIn_wide.2 (HIT.out _ (by first | exact Below.refl _ _ | exact (Below.refl _ _).drew)))).mono ?_; rintro e W2 ⟨he, ha⟩; rw [← HQ.out] at he; obtain rfl := he; have d1 := ha.op1; have d2 := ha.word (HC.out) (HWO.out); have d3 := ha.frz; have d4 := ha.resc; have HA := Lib.hid ha; clear ha)
      all_goals gi_wp2
      all_goals
        refine ⟨HA.out.kept, HA.out.below, HA.out.cop, HA.out.res, fun j hj k hk => ?_⟩
        rw [List.length_append, List.length_singleton] at hj
        by_cases hjp : j < pre.length
        · exact HI.out.no j hjp k hk
        · obtain rfl : j = pre.length := by omega
          have := HKD.out
          rw [hk] at this
          injection this with this
          subst this
          have := kind_pos hk
          have := HEQ.out
          omega
  case done =>
    intro D W hD hI hK
    have hnone := row_lost (op := op) (fun i hi => hI.no i (by
      have := rows_len
      unfold rowsW at this
      rw [List.length_map] at this
      omega))
    have d3 : W.frozen? ⟨w.heap.size + 1, 0, none⟩ = false := by simp [World.frozen?, hI.res]
    have d4 : W.cell? ⟨w.heap.size + 1, 0, none⟩ = some (.slice none 0 0) := by simp [World.cell?, hI.res]
    have HI := Lib.hid hI
    have HNO := Lib.hid hnone
    clear hI hnone
    gi_wp2
    have hK' := (KeepsOthers.setCell W ⟨w.heap.size + 1, 0, none⟩ (.slice none 0 0)).same D _ hK rfl
    refine ⟨by simp, .inl ⟨_, _, rfl, run_takeDeferred hK', ?_⟩⟩
    have hc5 := cell_kept (World.cell?_setCell_same' W ⟨w.heap.size + 1, 0, none⟩ (.slice none 0 0) (by rw [d4]; rfl)) (grownBy_putObj' _ D (.deferred none)) (fun r e => by cases e; exact ⟨_, hK', rfl⟩)
    refine ⟨.slice none 0 0, ?_, (HI.out.below.setCell (p := ⟨w.heap.size + 1, 0, none⟩) (by simp) _).trans (belowK_b (w := w) (Nat.le_refl _) _ D _ _ (by omega) hK' rfl rfl), .inl ⟨HNO.out, rfl⟩⟩
    simp [results, Tryz.results64, go_sem, hc5]
  case stop =>
    rintro D c pre W hD hpre ⟨rfl, hX⟩ hK
    obtain ⟨hbel, ws, b, h1, h2, h3, h4, h5⟩ := hX
    have d4 : W.cell? ⟨w.heap.size + 1, 0, none⟩ = some (.slice (some ⟨b, 0, none⟩) ws.length ws.length) := by simp [World.cell?, h3]
    have H4 := Lib.hid h4
    clear h3 h4
    gi_wp2
    refine ⟨by simp, .inl ⟨_, _, rfl, run_takeDeferred hK, ?_⟩⟩
    have hc5 := cell_kept d4 (grownBy_putObj' _ D (.deferred none)) (fun r e => by cases e; exact ⟨_, hK, rfl⟩)
    refine ⟨.slice (some ⟨b, 0, none⟩) ws.length ws.length, ?_, hbel.trans (belowK_b (w := w) (Nat.le_refl _) W D _ _ (by omega) hK rfl rfl), .inr ⟨ws, b, h1, rfl, ?_⟩⟩
    · simp [results, Tryz.results64, go_sem, hc5]
    · exact (World.putObj_heap_other (fun e => by rw [e, hK] at H4; have := H4.out; cases this)).trans H4.out
end Go.Proofs.YtincgdbfmnnpaaaGreatDoor

/- strings.Split at a separator of one byte: the pieces are 'splitGo'. -/
namespace Go.Proofs.YtincgdbfmnnpaaaGreatDoor
open Go.RowKit
theorem index_single (c : UInt8) : ∀ l : List UInt8, Lib.index l [c] = Lib.indexByte l c
  | [] => rfl
  | b :: l => by
    rw [Lib.index, Lib.indexByte, index_single c l]
    have : ([c].isPrefixOf (b :: l)) = (b == c) := by
      simp only [List.isPrefixOf, Bool.and_true]
      exact Bool.beq_comm
    rw [this]
theorem split_one (c : UInt8) : ∀ (n : Nat) (s : ByteArray), s.size ≤ n → Lib.splitB ⟨#[c]⟩ 0 (Lib.countB s ⟨#[c]⟩) s = (splitGo c [] s.data.toList).map bs ∧ Lib.countB s ⟨#[c]⟩ + 1 = (splitGo c [] s.data.toList).length := by
  intro n
  induction n with
  | zero =>
    intro s h
    have hl : s.data.toList = [] := List.eq_nil_of_length_eq_zero (by rw [← Lib.size_eq]; omega)
    have hi : Lib.indexB s ⟨#[c]⟩ = -1 := by
      unfold Lib.indexB
      rw [show (⟨#[c]⟩ : ByteArray).data.toList = [c] from rfl, index_single, hl]; rfl
    rw [Lib.countB_miss _ _ hi, Lib.splitB_zero, hl]
    exact ⟨by simp [splitGo, ← bs_eq hl], rfl⟩
  | succ n ih =>
    intro s h
    have hb := indexByte_bd c s.data.toList
    have hi : Lib.indexB s ⟨#[c]⟩ = Lib.indexByte s.data.toList c := by
      unfold Lib.indexB
      rw [show (⟨#[c]⟩ : ByteArray).data.toList = [c] from rfl, index_single]
    rw [splitGo_eq]
    by_cases hn : Lib.indexByte s.data.toList c < 0
    · rw [Lib.countB_miss _ _ (by omega), Lib.splitB_zero, if_pos hn]
      exact ⟨by simp [← bs_eq (s := s) rfl], rfl⟩
    · obtain ⟨i, hi2⟩ : ∃ i : Nat, Lib.indexByte s.data.toList c = i := ⟨(Lib.indexByte s.data.toList c).toNat, by omega⟩
      rw [hi2] at hi
      rw [← Lib.size_eq, hi2] at hb
      have hsz : (s.extract (i + 1) s.size).size = s.size - (i + 1) := by rw [Lib.size_eq, Lib.extract_to_end, List.length_drop, ← Lib.size_eq]
      obtain ⟨r1, r2⟩ := ih (s.extract (i + 1) s.size) (by rw [hsz]; omega)
      rw [Lib.extract_to_end] at r1 r2
      rw [Lib.countB_hit s ⟨#[c]⟩ i (Nat.le_refl 1) hi, if_neg hn, hi2, Nat.add_comm 1, Lib.splitB_hit _ _ _ _ i hi]
      rw [show (⟨#[c]⟩ : ByteArray).size = 1 from rfl, r1]
      refine ⟨?_, ?_⟩
      · rw [List.map_cons]
        congr 1
        exact bs_eq (by rw [Nat.add_zero, Lib.extract_from_zero]; simp)
      · rw [List.length_cons, Int.toNat_natCast, ← r2]
/-- The library's variable MaxLen holds some number. -/
def MaxL (w : World) : Prop := ∃ m, w.cell? ⟨1, 0, none⟩ = some (.int .i64 m)
theorem MaxL.below {w w' : World} (h : MaxL w) (hb : Below w.heap.size w w') : MaxL w' := by
  obtain ⟨m, hm⟩ := h
  exact ⟨m, (hb.cell (p := ⟨1, 0, none⟩) (World.block_lt_of_cell? w _ hm)).trans hm⟩
theorem split_any (l : List UInt8) (c : UInt8) (w : World) (hm : MaxL w) (hs : l.length < 4294967281) : Calls Tryz.prog 65 #[.string ⟨l.toArray⟩, .string ⟨#[c]⟩] w fun e w' =>
    e = .returned (.slice (some ⟨w.heap.size, 0, none⟩) (splitGo c [] l).length (splitGo c [] l).length) ∧ w' = w.alloc (.cells ((splitGo c [] l).map fun x => Value.string ⟨x.toArray⟩).toArray 9) := by
  obtain ⟨m, hm⟩ := hm
  have := Tryz.strings_Split ⟨l.toArray⟩ ⟨#[c]⟩ m w (by show l.toArray.size < _; simpa using hs) hm (Nat.le_refl 1)
  obtain ⟨r1, r2⟩ := split_one c _ ⟨l.toArray⟩ (Nat.le_refl _)
  rw [r2, r1, List.map_map] at this
  exact this
end Go.Proofs.YtincgdbfmnnpaaaGreatDoor
