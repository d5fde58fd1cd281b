/- A part of the proof: Fields, Ahs, Put, Right, Right2, Flag, Write, Read. -/
import Derived.Test.YtincgdbfmnnpaaaGreatDoorJ03
import Derived.Test.YtincgdbfmnnpaaaGreatDoorJ04
import Derived.Test.YtincgdbfmnnpaaaGreatDoorJ01
import Derived.Deep.RegionHeld3
import Derived.Deep.AppendLies
import Derived.Test.YtincgdbfmnnpaaaGreatDoorJ02
import Derived.Deep.OwnRows
import Derived.Deep.QuietTactic
import Derived.BigQuiet
import Derived.Lib.BufferWrite
import Derived.Lib.SlBuf
/- head.Fields. -/
namespace Go.Proofs.YtincgdbfmnnpaaaGreatDoor
open Go.RowKit
theorem fld_info : (Tryz.prog.info? 112).map (fun i => (i.zero, i.size, i.bytes)) = some (some (.agg #[.string ByteArray.empty, .int .i64 0, .int .i64 0]), 3, 32) := by kernel_rfl
structure FsSt (w : World) (B b : Nat) (C : Array Value) (l : List Fld) (wr : World) (k0 : Nat) (out : Value) : Prop where
  below : Below w.heap.size w wr
  size : B ≤ wr.heap.size
  words : wr.heap[b]? = some (.cells C 9 (0, 0))
  rows : wr.ownsRow B 112 3 out k0 ((l.take k0).flatMap Fld.cells)
theorem own_later {w w' : World} {base : Nat} {e : TypeId} {size n : Nat} {v : Value} {xs : List Value} (h : w.ownsRow base e size v n xs) (hb : Below w.heap.size w w') : w'.ownsRow base e size v n xs := by
  have hG : w.grownBy w' none := ⟨hb.os, hb.tape, hb.output, hb.size, fun i hi _ => hb.block i hi⟩
  refine h.kept hG ?_
  cases hv : v.ownBlock with
  | none => exact .inl rfl
  | some g => exact .inr (by simp)
theorem fldWord_some {x : List UInt8} {r : List UInt8 × Int × Int} (h : fldWord x = some r) : ∃ a b, splitGo 58 [] x = [r.1, a, b] ∧ Lib.atoi a = some r.2.1 ∧ Lib.atoi b = some r.2.2 ∧ a.length ≤ 18 ∧ b.length ≤ 18 := by
  unfold fldWord at h
  split at h
  · rename_i n a b he
    split at h
    · rename_i p q hp hq
      split at h
      · rename_i hl
        injection h with h
        subst h
        exact ⟨a, b, he, hp, hq, hl.1, hl.2⟩
      · cases h
    · cases h
  · cases h
theorem kinds_ne : (kinds.all fun k => decide (1 ≤ k.l.length)) = true := by kernel_rfl
theorem kind_ne {op : Int} {k : Knd} (h : kindOf op = some k) : 1 ≤ k.l.length := of_decide_eq_true (List.all_eq_true.1 kinds_ne k (List.mem_of_find?_eq_some h))
def FsPost (w : World) (k : Knd) (e : Ending) (w' : World) : Prop := Below w.heap.size w w' ∧ ∃ v, e = .returned (.tuple #[v, .nilIface]) ∧ w'.ownsRow w.heap.size 112 3 v k.l.length (k.l.flatMap Fld.cells)
set_option maxRecDepth 100000 in
theorem fields_none (op : Int) (h0 : -9223372036854775808 ≤ op) (h1 : op ≤ 9223372036854775807) (h : kindOf op = none) (w : World) (hw : Laid w) : Calls Tryz.prog 43 #[.int .i64 op] w fun e w' =>
    e = .returned (.tuple #[.slice none 0 0, .iface 31 (.int .i64 1)]) ∧ Below w.heap.size w w' := by
  have hr := row_none op h0 h1 h w hw
  have HR := Lib.hid hr
  clear hr
  have hne := fun (w : World) (a : Option Addr) (n c : Nat) => Lib.run_eql_slice_nil (P := Tryz.prog) w 151 9 a n c 0 0 Tryz.underlying151
  go_enter Tryz.func43, Tryz.ntmps43
  go_wp2_with (go_at_call 64; refine HR.out.mono ?_; rintro e w' ⟨rfl, hb⟩)
  go_ret2
  exact ⟨rfl, hb⟩
set_option maxRecDepth 100000 in
set_option maxHeartbeats 2000000 in
theorem fields_some (op : Int) (h0 : -9223372036854775808 ≤ op) (h1 : op ≤ 9223372036854775807) (k : Knd) (h : kindOf op = some k) (w : World) (hw : Laid w) : Calls Tryz.prog 43 #[.int .i64 op] w fun e w' => FsPost w k e w' := by
  have hr := row_some op h0 h1 k h w hw
  have hfit := kind_fit h
  have hkne := kind_ne h
  have HR := Lib.hid hr
  have HFIT := Lib.hid hfit
  have HLD := Lib.hid hw
  clear hr h hfit hw
  have hne := fun (w : World) (a : Option Addr) (n c : Nat) => Lib.run_eql_slice_nil (P := Tryz.prog) w 151 9 a n c 0 0 Tryz.underlying151
  go_enter Tryz.func43, Tryz.ntmps43
  go_wp2_with fail
  refine HR.out.mono ?_
  rintro e w1 ⟨ws, b, hf, rfl, hb, hh⟩
  obtain ⟨n, m, fs, rfl, -, -, -, -, -, h7, h8⟩ := fits_head hf
  obtain ⟨C, hC⟩ : ∃ C, C = ((dec2 k.op.toNat :: n :: m :: fs).map fun l => Value.string ⟨l.toArray⟩).toArray := ⟨_, rfl⟩
  rw [← hC] at hh
  have hlen : fs.length = k.l.length := by have := congrArg List.length h7; simpa using this
  obtain ⟨z, hz⟩ : ∃ z : Nat, z = (dec2 k.op.toNat :: n :: m :: fs).length := ⟨_, rfl⟩
  rw [← hz]
  have hzl : z = 3 + k.l.length := by rw [hz, ← hlen]; simp; omega
  have hlb : w.heap.size ≤ w1.heap.size := hb.size
  have HC := Lib.hid hC
  have HH := Lib.hid hh
  have HB := Lib.hid hb
  have H7 := Lib.hid h7
  have H8 := Lib.hid h8
  have HZ := Lib.hid hzl
  have HLEN := Lib.hid hlen
  have hz3 : (3 : Int) ≤ (z : Int) := by omega
  have hz4 : ¬ z = 3 := by omega
  clear hC hh hb h7 h8 hz hzl hf hlen
  go_wp2_with fail
  obtain ⟨N, hN⟩ : ∃ N, N = z - 3 := ⟨_, rfl⟩
  rw [← hN]
  have hNl : N = k.l.length := by have := HZ.out; omega
  have HN := Lib.hid hNl
  have hN12 : N ≤ 12 := by have := HFIT.out.1; omega
  have hzN : (z : Int) = 3 + (N : Int) := by omega
  have HZN := Lib.hid hzN
  clear hN hNl hz3 hz4 hzN
  obtain ⟨i1, hi, hz0, hz1, hz2⟩ := info_parts fld_info
  go_loopw [5, 21] (fun out i wr => ∃ k0 : Nat, i = .int .i64 k0 ∧ k0 ≤ N ∧ FsSt w w1.heap.size b C k.l wr k0 out) (fun _ i _ => N - (intOf i).toNat)
  case atStart => exact ⟨0, rfl, by omega, ⟨HB.out, Nat.le_refl _, HH.out, World.ownsRow_nil _ _ _ _⟩⟩
  case round =>
    obtain ⟨k0, rfl, hk0, hst⟩ := hrel
    obtain ⟨av, nv, cv, rfl⟩ := own_slice hst.rows
    by_cases hlt : k0 < N
    · have hkl : k0 < k.l.length := by have := HN.out; omega
      obtain ⟨f, hf⟩ : ∃ f, k.l[k0]? = some f := ⟨_, List.getElem?_eq_getElem hkl⟩
      have hx7 := congrArg (fun l => l[k0]?) H7.out
      simp only [List.getElem?_map, hf, Option.map_some] at hx7
      obtain ⟨x, hx, hxf⟩ := Option.map_eq_some_iff.1 hx7
      obtain ⟨sa, sb, hsp, ha, hb, hla, hlb2⟩ := fldWord_some hxf
      have hxl := H8.out x (List.mem_iff_getElem?.2 ⟨k0, hx⟩)
      have hcx : wr.cell? ⟨b, 3 + k0, none⟩ = some (.string ⟨x.toArray⟩) := by
        simp only [World.cell?, hst.words, HC.out]
        simp [Nat.add_comm 3 k0, hx]
      have hS := split_any x 58 wr (HLD.out.below hst.below).maxl (by omega)
      rw [hsp] at hS
      have hA := fun w => atoi_any sa f.a hla ha w
      have hB := fun w => atoi_any sb f.b hlb2 hb w
      have HS := Lib.hid hS
      have HA := Lib.hid hA
      have HBB := Lib.hid hB
      have HST := Lib.hid hst
      have HF := Lib.hid hf
      clear hS hA hB hst hf hx7 hx hxf hsp ha hb hla hlb2
      go_wp2_with fail
      refine HS.out.mono ?_
      rintro e wA ⟨rfl, rfl⟩
      go_wp2_with fail
      refine (HA.out _).mono ?_
      rintro e wB ⟨rfl, hbB⟩
      have b0 : wB.cell? ⟨wr.heap.size, 0, none⟩ = some (.string ⟨f.n.data.toList.toArray⟩) := by rw [hbB.cell (p := ⟨wr.heap.size, 0, none⟩) (by simp), World.cell?_alloc_at _ _ _ _ rfl]; rfl
      have b2 : wB.cell? ⟨wr.heap.size, 2, none⟩ = some (.string ⟨sb.toArray⟩) := by rw [hbB.cell (p := ⟨wr.heap.size, 2, none⟩) (by simp), World.cell?_alloc_at _ _ _ _ rfl]; rfl
      have hlA : wr.heap.size < wB.heap.size := by have := hbB.size; simp at this; omega
      have hbr : Below wr.heap.size wr wB := ((Below.refl _ wr).alloc (Nat.le_refl _) _).trans (hbB.mono (by simp))
      have HBR := Lib.hid hbr
      clear hbB hbr
      go_wp2_with fail
      refine (HBB.out _).mono ?_
      rintro e wC ⟨rfl, hbC⟩
      have c0 : wC.cell? ⟨wr.heap.size, 0, none⟩ = some (.string ⟨f.n.data.toList.toArray⟩) := by rw [hbC.cell (p := ⟨wr.heap.size, 0, none⟩) hlA]; exact b0
      have hbr2 : Below wr.heap.size wr wC := HBR.out.trans (hbC.mono HBR.out.size)
      have hstC : FsSt w w1.heap.size b C k.l wC k0 (.slice av nv cv) := ⟨HST.out.below.trans (hbr2.mono HST.out.below.size), Nat.le_trans HST.out.size hbr2.size, (hbr2.block _ (heap_lt HST.out.words)).trans HST.out.words, own_later HST.out.rows hbr2⟩
      have HC2 := Lib.hid hstC
      clear hbC hbr2 b0 b2 hstC
      have q1 : k0 + 1 ≤ maxLen := by unfold maxLen; omega
      have q2 : (k0 + 1) * 32 ≤ 140737488355328 := by omega
      have q3 : w1.heap.size ≤ (wC.alloc (.cells #[.string ⟨f.n.data.toList.toArray⟩, .int .i64 f.a, .int .i64 f.b] 112)).heap.size := by have := HC2.out.size; simp; omega
      have q4 : ∀ y ∈ ([.string ⟨f.n.data.toList.toArray⟩, .int .i64 f.a, .int .i64 f.b] : List Value), y.oneCell' = true := fun y hy => by simp at hy; rcases hy with rfl | rfl | rfl <;> rfl
      have q5 : ∀ j u, ([.string ⟨f.n.data.toList.toArray⟩, .int .i64 f.a, .int .i64 f.b] : List Value)[j]? = some u → (wC.alloc (.cells #[.string ⟨f.n.data.toList.toArray⟩, .int .i64 f.a, .int .i64 f.b] 112)).cell? ((⟨wC.heap.size, 0, none⟩ : Addr).add j) = some u := World.news_of_block (heap_alloc_new _ _)
      have Q1 := Lib.hid q1
      have Q2 := Lib.hid q2
      have Q3 := Lib.hid q3
      have Q4 := Lib.hid q4
      have Q5 := Lib.hid q5
      clear q1 q2 q3 q4 q5
      go_wp2_with (at_builtin; refine wpList_append_own _ rfl _ _ 107 rfl w1.heap.size 112 i1 (.agg #[.string ByteArray.empty, .int .i64 0, .int .i64 0]) 3 32 Tryz.underlying107 hi hz0 hz1 hz2 rfl (by decide) _ _ _ rfl (HC2.out.rows.alloc _) ⟨wC.heap.size, 0, none⟩ 1 1 [.string ⟨f.n.data.toList.toArray⟩, .int .i64 f.a, .int .i64 f.b] rfl rfl Q5.out Q4.out Q1.out Q2.out Q3.out ?_; intro v' w6 hown6 hgrow6 _; obtain ⟨av6, nv6, cv6, rfl⟩ := own_slice hown6; have HO6 := Lib.hid hown6; have HG6 := Lib.hid hgrow6; clear hown6 hgrow6)
      go_roundw
      case rel =>
        have hne' : ∀ q, (Value.slice av nv cv).ownBlock = some q → w1.heap.size ≤ q := fun q e => (HC2.out.rows.lt q e).1
        have hbl : b < w1.heap.size := heap_lt HH.out
        refine ⟨k0 + 1, by go_num, by omega, ⟨?_, ?_, ?_, ?_⟩⟩
        · exact (HC2.out.below.alloc HC2.out.below.size _).grown HG6.out (by have := HC2.out.below.size; simp; omega) (fun q e => by have := hne' q e; omega)
        · exact Nat.le_trans Q3.out HG6.out.size
        · exact (HG6.out.block _ (by have := heap_lt HC2.out.words; simp; omega) (fun e => by have := hne' _ e.symm; omega)).trans ((Below.heap_alloc _ _ _ (heap_lt HC2.out.words)).trans HC2.out.words)
        · have hx := HO6.out
          rw [List.take_add_one, HF.out, List.flatMap_append]
          have hm : (⟨f.n.data.toList.toArray⟩ : ByteArray) = f.n := Lib.mk_data _
          rw [hm] at hx
          exact hx
      case measure => simp [intOf]; omega
    · obtain rfl : k0 = N := by omega
      have HST := Lib.hid hst
      clear hst
      go_wp2_with fail
      go_ret2
      refine ⟨HST.out.below, _, rfl, ?_⟩
      have hr := HST.out.rows
      rw [HN.out, List.take_length] at hr
      exact own_mono hr hlb
end Go.Proofs.YtincgdbfmnnpaaaGreatDoor

/- ahs.Read: against the spec of quaymasterref.AhsRead. -/
namespace Go.Proofs.YtincgdbfmnnpaaaGreatDoor
open Go.RowKit
theorem count_zero (l : List UInt8) : Lib.countByte l 0 = l.length ↔ ∀ b ∈ l, b = 0 := by
  unfold Lib.countByte
  rw [List.count_eq_length]
  exact ⟨fun h b hb => (h b hb).symm, fun h b hb => (h b hb).symm⟩
theorem pad_count (s : List UInt8) (m p : Nat) (hp : (padI m).toNat = p) (h : m + p ≤ s.length) : padded (s.take m) = s.take (m + p) ↔ Lib.countByte ((s.drop m).take p) 0 = p := by
  have h1 := pad_iff s m (by rw [hp]; exact h)
  rw [hp] at h1
  rw [h1, trim_nil]
  have hl : ((s.drop m).take p).length = p := by rw [List.length_take, List.length_drop]; omega
  have := count_zero ((s.drop m).take p)
  rw [hl] at this
  exact this.symm
structure AhSt (w wr : World) (l : List UInt8) (i0 : Nat) (acc : List (Int × List UInt8)) (out : Value) : Prop where
  below : Below w.heap.size w wr
  rows : wr.ownsRow w.heap.size 62 2 out acc.length (ahsV acc)
  le : i0 ≤ l.length
  few : 3 * acc.length ≤ i0
  same : ahsRead l (l.length + 1) 0 [] = ahsRead l (l.length + 1 - acc.length) i0 acc
/-- What ahs.Read answers. -/
def AhPost (w : World) (r : List (Int × List UInt8) × Int × Int) (e : Ending) (w' : World) : Prop := Below w.heap.size w w' ∧ ∃ v er, e = .returned (.tuple #[v, er]) ∧ IsErr w' er r.2.1 r.2.2 ∧ w'.ownsRow w.heap.size 62 2 v r.1.length (ahsV r.1)
set_option maxRecDepth 100000 in
theorem ahs_long (s : ByteArray) (w : World) (h : (1020 : Int) < (s.size : Int)) : Calls Tryz.prog 33 #[.string s] w fun e w' => AhPost w ([], 4, -1) e w' := by
  go_enter Tryz.func33, Tryz.ntmps33
  go_wp2_with fail
  go_ret2
  exact ⟨Below.refl _ _, _, _, rfl, .inl ⟨rfl, rfl⟩, World.ownsRow_nil _ _ _ _⟩
set_option maxRecDepth 100000 in
set_option maxHeartbeats 4000000 in
theorem ahs_short (s : ByteArray) (w : World) (hw : ErrTy w) (h : ¬ (1020 : Int) < (s.size : Int)) : Calls Tryz.prog 33 #[.string s] w fun e w' => AhPost w (ahsRead s.data.toList (s.data.toList.length + 1) 0 []) e w' := by
  have hlen : s.data.toList.length = s.size := by rw [← Lib.size_eq]
  have HL := Lib.hid hlen
  have HW := Lib.hid hw
  clear hlen hw
  go_enter Tryz.func33, Tryz.ntmps33
  go_wp2_with fail
  go_loopw [4, 5] (fun out i wr => ∃ (i0 : Nat) (acc : List (Int × List UInt8)), i = .int .i64 i0 ∧ AhSt w wr s.data.toList i0 acc out) (fun _ i _ => s.size - (intOf i).toNat)
  case atStart => exact ⟨0, [], rfl, ⟨Below.refl _ _, World.ownsRow_nil _ _ _ _, by omega, by simp, rfl⟩⟩
  case round =>
    obtain ⟨i0, acc, rfl, hst⟩ := hrel
    have hle := hst.le
    rw [HL.out] at hle
    have HST := Lib.hid hst
    clear hst
    by_cases h1 : (i0 : Int) < (s.size : Int)
    · have hi0 : (i0 : Int) ≤ (s.size : Int) := by omega
      have hrl : (s.extract i0 s.size).data.toList = s.data.toList.drop i0 := Lib.extract_to_end _ _
      have hrs : (s.extract i0 s.size).size = s.size - i0 := by rw [Lib.size_eq, hrl, List.length_drop, ← Lib.size_eq]
      have HRL := Lib.hid hrl
      have HRS := Lib.hid hrs
      clear hrl hrs
      obtain ⟨fu, hfu⟩ : ∃ fu, s.data.toList.length + 1 - acc.length = fu + 1 := ⟨s.data.toList.length - acc.length, by have := HST.out.few; have := HST.out.le; omega⟩
      by_cases h3 : (s.size : Int) < (i0 : Int) + 3
      · have hx : s.size - i0 < 3 := by omega
        have hr : ahsRead s.data.toList (s.data.toList.length + 1) 0 [] = ([], 7, (i0 : Int)) := by
          rw [HST.out.same, hfu, ahsRead, HL.out, if_neg (by omega), if_pos (by omega)]
        have HR := Lib.hid hr
        clear hr hfu
        go_wp2_with fail
        go_ret2
        rw [HR.out]
        refine ⟨HST.out.below.alloc HST.out.below.size _, _, _, rfl, .inr ⟨by show (7 : Int) ≠ 0; decide, _, rfl, ?_, ?_⟩, World.ownsRow_nil _ _ _ _⟩
        · rw [World.cell?_alloc_at _ _ _ _ rfl]; rfl
        · rw [World.cell?_alloc_at _ _ _ _ rfl]; rfl
      · have h1n : i0 < s.size := by omega
        have hx3 : ¬ (s.size - i0 < 3) := by omega
        have hge : ((s.extract i0 s.size).extract 0 2).data.toList = [s.data.toList.getD i0 0, s.data.toList.getD (i0 + 1) 0] := by
          rw [Lib.extract_data, HRL.out]
          have g0 := List.drop_eq_getElem_cons (l := s.data.toList) (i := i0) (by rw [HL.out]; omega)
          have g1 := List.drop_eq_getElem_cons (l := s.data.toList) (i := i0 + 1) (by rw [HL.out]; omega)
          rw [g0, g1]
          simp only [List.drop_zero, Nat.sub_zero, List.take_succ_cons, List.take_zero]
          rw [List.getD_eq_getElem?_getD, List.getElem?_eq_getElem (by rw [HL.out]; omega), List.getD_eq_getElem?_getD, List.getElem?_eq_getElem (by rw [HL.out]; omega)]
          rfl
        obtain ⟨N, hN⟩ : ∃ N : Nat, N = 256 * (s.data.toList.getD i0 0).toNat + (s.data.toList.getD (i0 + 1) 0).toNat := ⟨_, rfl⟩
        have hN16 : N ≤ 65535 := by
          have a := (s.data.toList.getD i0 0).toNat_lt
          have b := (s.data.toList.getD (i0 + 1) 0).toNat_lt
          omega
        have hG := fun w => get_any ((s.extract i0 s.size).extract 0 2) w (by rw [Lib.size_eq, hge]; simp)
        rw [hge, show beN [s.data.toList.getD i0 0, s.data.toList.getD (i0 + 1) 0] = N by rw [hN]; simp [beN]; omega] at hG
        obtain ⟨P, hP⟩ : ∃ P : Nat, P = (4 - (3 + N) % 4) % 4 := ⟨_, rfl⟩
        have hpad : padI ((3 + N : Nat) : Int) = (P : Int) := by unfold padI; rw [if_neg (by omega)]; omega
        have hP3 : P ≤ 3 := by omega
        have hN16i : (N : Int) ≤ 65535 := by omega
        have hU := fun w => unpad_any (s.extract i0 s.size) (3 + (N : Int)) w (by rw [HRS.out]; omega) (by omega)
        rw [HRL.out] at hU
        have hun := HST.out.same
        rw [hfu, ahs_unfold s.data.toList i0 fu N P acc (by rw [HL.out]; omega) hN.symm hP.symm, HL.out] at hun
        have hci : ((3 + N : Nat) : Int) = 3 + (N : Int) := by omega
        rw [hci] at hpad
        have hlenr : (s.data.toList.drop i0).length = s.size - i0 := by rw [List.length_drop, HL.out]
        have HG := Lib.hid hG
        have HU := Lib.hid hU
        have HUN := Lib.hid hun
        have HPAD := Lib.hid hpad
        have HFU := Lib.hid hfu
        have HLR := Lib.hid hlenr
        have HN := Lib.hid hN
        clear hG hU hun hpad hfu hge hN hP hlenr hci
        by_cases h5 : s.size < i0 + 3 + N + P
        · have hup : unpad (s.data.toList.drop i0) (3 + (N : Int)) = ([], 0, 7) := by
            unfold unpad
            rw [if_neg (by omega), HLR.out, HPAD.out, if_pos (.inr (by omega))]
          have hr := HUN.out
          rw [if_pos h5] at hr
          have HUP := Lib.hid hup
          have HR := Lib.hid hr
          clear hup hr
          go_wp2_with fail
          refine (HG.out _).mono ?_
          rintro e w' ⟨rfl, rfl⟩
          go_wp2_with fail
          refine (HU.out _).mono ?_
          rintro e w' ⟨⟨t, a, b, rfl, hu⟩, kq, rfl⟩
          rw [HUP.out] at hu
          simp only [Prod.mk.injEq] at hu
          obtain ⟨-, rfl, rfl⟩ := hu
          rw [show errV 7 = .iface 31 (.int .i64 7) from rfl]
          have hbq := below_drewN (Below.refl wr.heap.size wr) kq
          go_wp2_with fail
          refine (tell_any _ 7 (-1) _ (HW.out.below (HST.out.below.trans (hbq.mono HST.out.below.size))) (.inl ⟨rfl, rfl⟩)).mono ?_
          rintro e w5 ⟨rfl, hb5⟩
          go_wp2_with fail
          go_ret2
          rw [HL.out, HR.out]
          have hb6 : Below wr.heap.size wr w5 := hbq.trans hb5
          refine ⟨(HST.out.below.trans (hb6.mono HST.out.below.size)).alloc (Nat.le_trans HST.out.below.size hb6.size) _, _, _, rfl, .inr ⟨by show (7 : Int) ≠ 0; decide, _, rfl, ?_, ?_⟩, World.ownsRow_nil _ _ _ _⟩
          · rw [World.cell?_alloc_at _ _ _ _ rfl]; rfl
          · rw [World.cell?_alloc_at _ _ _ _ rfl]; rfl
        · by_cases h6 : Lib.countByte ((s.data.toList.drop (i0 + 3 + N)).take P) 0 = P
          · have hup : unpad (s.data.toList.drop i0) (3 + (N : Int)) = ((s.data.toList.drop i0).take (3 + N), 3 + (N : Int) + (P : Int), 0) := by
              unfold unpad
              rw [if_neg (by omega), HLR.out, HPAD.out, if_neg (by omega), if_neg]
              · rw [show (3 + (N : Int)).toNat = 3 + N by omega]
              · rw [show (3 + (N : Int)).toNat = 3 + N by omega, show (3 + (N : Int) + (P : Int)).toNat = 3 + N + P by omega]
                refine fun hh => hh ((pad_count (s.data.toList.drop i0) (3 + N) P (by have := HPAD.out; rw [show ((3 + N : Nat) : Int) = 3 + (N : Int) by omega, this]; rfl) (by rw [HLR.out]; omega)).2 ?_)
                rw [List.drop_drop, show i0 + (3 + N) = i0 + 3 + N by omega]
                exact h6
            have hr := HUN.out
            rw [if_neg h5, if_neg (fun hh => hh h6)] at hr
            have HUP := Lib.hid hup
            have HR := Lib.hid hr
            clear hup hr h6
            go_wp2_with fail
            refine (HG.out _).mono ?_
            rintro e w' ⟨rfl, rfl⟩
            go_wp2_with fail
            refine (HU.out _).mono ?_
            rintro e w' ⟨⟨t, a, b, rfl, hu⟩, kq, rfl⟩
            rw [HUP.out] at hu
            simp only [Prod.mk.injEq] at hu
            obtain ⟨ht, rfl, rfl⟩ := hu
            rw [show errV 0 = .nilIface from rfl]
            have hts : t.size = 3 + N := by rw [Lib.size_eq, ← ht, List.length_take, HLR.out]; omega
            have h2t : 2 < t.size := by omega
            have ht2 : (2 : Int) < (t.size : Int) := by omega
            have ht3 : (3 : Int) ≤ (t.size : Int) := by omega
            have hD := (t[2]'h2t).toNat_lt
            have y3 := IntWalk.i64_in (((t[2]'h2t).toNat : Nat) : Int) (by omega)
            have hb2 : t[2]'h2t = s.data.toList.getD (i0 + 2) 0 := by
              rw [← getD_byte t 2 h2t, ← ht, List.getD_eq_getElem?_getD, List.getElem?_take, if_pos (by omega), List.getElem?_drop, ← List.getD_eq_getElem?_getD]
            have he3 : t.extract 3 t.size = bs ((s.data.toList.drop (i0 + 3)).take N) := bs_eq (by
              rw [Lib.extract_to_end, ← ht, List.drop_take, List.drop_drop]
              congr 1
              omega)
            have HB2 := Lib.hid hb2
            have HE3 := Lib.hid he3
            have HTS := Lib.hid hts
            have HT := Lib.hid ht
            clear ht hts hb2 he3
            obtain ⟨i1, hi, hz0, hz1, hz2⟩ := info_parts ahs_info
            obtain ⟨av, nv, cv, rfl⟩ := own_slice HST.out.rows
            have hfew := HST.out.few
            have hacc : acc.length ≤ 340 := by omega
            have hbase : w.heap.size ≤ wr.heap.size := HST.out.below.size
            have hq1 : acc.length + 1 ≤ maxLen := by unfold maxLen; omega
            have hq2 : (acc.length + 1) * 24 ≤ 140737488355328 := by omega
            have hq3 : ∀ o : Obj, w.heap.size ≤ ((wr.drewN kq).drew.alloc o).heap.size := fun o => by simp; omega
            have hq4 : ∀ o : Obj, ((wr.drewN kq).drew.alloc o).heap.size = wr.heap.size + 1 := fun o => by simp
            have hq5 : ∀ o : Obj, ((wr.drewN kq).drew.alloc o).ownsRow w.heap.size 62 2 (.slice av nv cv) acc.length (ahsV acc) := fun o => (show (wr.drewN kq).drew.ownsRow w.heap.size 62 2 (.slice av nv cv) acc.length (ahsV acc) from HST.out.rows).alloc o
            have hq6 : ∀ x ∈ ([.int .i64 ((t[2]'h2t).toNat : Int), .string (t.extract 3 t.size)] : List Value), x.oneCell' = true := fun x hx => by simp at hx; rcases hx with rfl | rfl <;> rfl
            have hq7 : ∀ j u, ([.int .i64 ((t[2]'h2t).toNat : Int), .string (t.extract 3 t.size)] : List Value)[j]? = some u → ((wr.drewN kq).drew.alloc (.cells #[.int .i64 ((t[2]'h2t).toNat : Int), .string (t.extract 3 t.size)] 62)).cell? ((⟨wr.heap.size, 0, none⟩ : Addr).add j) = some u := World.news_of_block (heap_alloc_new _ _)
            have G1 := Lib.hid hq1
            have G2 := Lib.hid hq2
            have G3 := Lib.hid hq3
            have G4 := Lib.hid hq4
            have G5 := Lib.hid hq5
            have G6 := Lib.hid hq6
            have G7 := Lib.hid hq7
            clear hq1 hq2 hq3 hq4 hq5 hq6 hq7
            go_wp2_with fail
            go_region_held3 (fun _ => True) (trivial) ((refine step_append_lies _ (by rfl) _ _ _ (by rfl) w.heap.size 62 i1 (.agg #[.int .i64 0, .string ByteArray.empty]) 2 24 Tryz.underlying38 hi hz0 hz1 hz2 rfl (Nat.succ_pos _) (.slice av nv cv) acc.length (ahsV acc) (by rfl) (G5.out _) ⟨wr.heap.size, 0, none⟩ 1 1 [.int .i64 ((t[2]'h2t).toNat : Int), .string (t.extract 3 t.size)] (by rfl) rfl G7.out G6.out (Nat.succ_pos _) G1.out G2.out (G3.out _) (wr.heap.size + 1) (G4.out _) ?_; intro g cap w6 hown6 hgrow6 hat6 hlt6))
            have HO6 := Lib.hid hown6
            have HG6 := Lib.hid hgrow6
            clear hown6 hgrow6 hat6 hlt6
            have hx9 : (3 : Int) + (N : Int) + (P : Int) ≤ 70000 := by omega
            go_wp2_with fail
            have hown := HST.out.rows
            have hne : ∀ q, (Value.slice av nv cv).ownBlock = some q → w.heap.size ≤ q := fun q e => (hown.lt q e).1
            refine ⟨⟨i0 + 3 + N + P, acc ++ [(((s.data.toList.getD (i0 + 2) 0).toNat : Int), (s.data.toList.drop (i0 + 3)).take N)], by congr 1; omega, ?_, ?_, ?_, ?_, ?_⟩, by simp [intOf]; omega⟩
            · exact (below_alloc (below_drewN HST.out.below _) (Nat.le_refl _) _).grown HG6.out (by simp; omega) hne
            · have hx := HO6.out
              rw [HE3.out, HB2.out] at hx
              rw [List.length_append]
              have : ahsV (acc ++ [(((s.data.toList.getD (i0 + 2) 0).toNat : Int), (s.data.toList.drop (i0 + 3)).take N)]) = ahsV acc ++ [.int .i64 ((s.data.toList.getD (i0 + 2) 0).toNat : Int), .string (bs ((s.data.toList.drop (i0 + 3)).take N))] := by simp [ahsV]
              rw [this]
              exact hx
            · rw [HL.out]; omega
            · simp; omega
            · have hr := HR.out
              rw [HL.out, hr, List.length_append]
              have hF := HFU.out
              have hL := HL.out
              congr 1
              simp only [List.length_cons, List.length_nil]
              omega
          · have hup : unpad (s.data.toList.drop i0) (3 + (N : Int)) = ([], 0, 3) := by
              unfold unpad
              rw [if_neg (by omega), HLR.out, HPAD.out, if_neg (by omega), if_pos]
              rw [show (3 + (N : Int)).toNat = 3 + N by omega, show (3 + (N : Int) + (P : Int)).toNat = 3 + N + P by omega]
              intro hh
              have := (pad_count (s.data.toList.drop i0) (3 + N) P (by have := HPAD.out; rw [show ((3 + N : Nat) : Int) = 3 + (N : Int) by omega, this]; rfl) (by rw [HLR.out]; omega)).1 hh
              rw [List.drop_drop, show i0 + (3 + N) = i0 + 3 + N by omega] at this
              exact h6 this
            have hr := HUN.out
            rw [if_neg h5, if_pos h6] at hr
            have HUP := Lib.hid hup
            have HR := Lib.hid hr
            clear hup hr h6
            go_wp2_with fail
            refine (HG.out _).mono ?_
            rintro e w' ⟨rfl, rfl⟩
            go_wp2_with fail
            refine (HU.out _).mono ?_
            rintro e w' ⟨⟨t, a, b, rfl, hu⟩, kq, rfl⟩
            rw [HUP.out] at hu
            simp only [Prod.mk.injEq] at hu
            obtain ⟨-, rfl, rfl⟩ := hu
            rw [show errV 3 = .iface 31 (.int .i64 3) from rfl]
            have hbq := below_drewN (Below.refl wr.heap.size wr) kq
            go_wp2_with fail
            refine (tell_any _ 3 (-1) _ (HW.out.below (HST.out.below.trans (hbq.mono HST.out.below.size))) (.inl ⟨rfl, rfl⟩)).mono ?_
            rintro e w5 ⟨rfl, hb5⟩
            go_wp2_with fail
            go_ret2
            rw [HL.out, HR.out]
            have hb6 : Below wr.heap.size wr w5 := hbq.trans hb5
            refine ⟨(HST.out.below.trans (hb6.mono HST.out.below.size)).alloc (Nat.le_trans HST.out.below.size hb6.size) _, _, _, rfl, .inr ⟨by show (3 : Int) ≠ 0; decide, _, rfl, ?_, ?_⟩, World.ownsRow_nil _ _ _ _⟩
            · rw [World.cell?_alloc_at _ _ _ _ rfl]; rfl
            · rw [World.cell?_alloc_at _ _ _ _ rfl]; rfl
    · obtain ⟨fu, hfu⟩ : ∃ fu, s.data.toList.length + 1 - acc.length = fu + 1 := ⟨s.data.toList.length - acc.length, by have := HST.out.few; have := HST.out.le; omega⟩
      have hr : ahsRead s.data.toList (s.data.toList.length + 1) 0 [] = (acc, 0, -1) := by
        rw [HST.out.same, hfu, ahsRead, if_pos (by rw [HL.out]; omega)]
      have HR := Lib.hid hr
      clear hr hfu
      obtain ⟨av, nv, cv, rfl⟩ := own_slice HST.out.rows
      go_wp2_with fail
      go_ret2
      have hr2 := HR.out
      rw [HL.out] at hr2
      first | rw [HR.out] | rw [hr2]
      exact ⟨HST.out.below, _, _, rfl, .inl ⟨rfl, rfl⟩, HST.out.rows⟩
theorem ahs_any (s : ByteArray) (w : World) (hw : ErrTy w) : Calls Tryz.prog 33 #[.string s] w fun e w' => AhPost w (ahsAll s.data.toList) e w' := by
  have hlen : s.data.toList.length = s.size := by rw [← Lib.size_eq]
  by_cases h : (1020 : Int) < (s.size : Int)
  · have ha : ahsAll s.data.toList = ([], 4, -1) := by unfold ahsAll; rw [hlen, if_pos (by omega)]
    rw [ha]
    exact ahs_long s w h
  · have ha : ahsAll s.data.toList = ahsRead s.data.toList (s.data.toList.length + 1) 0 [] := by unfold ahsAll; rw [if_neg (by rw [hlen]; omega)]
    rw [ha]
    exact ahs_short s w hw h
end Go.Proofs.YtincgdbfmnnpaaaGreatDoor

/- field.Put. -/
namespace Go.Proofs.YtincgdbfmnnpaaaGreatDoor
open Go.RowKit Go.Deep
/-- The bytes of a number, the highest first. -/
def beB (n size : Nat) : List UInt8 := (List.range size).map fun i => UInt8.ofNat (n / 256 ^ (size - 1 - i) % 256)
def putC (n m k : Nat) : List Value := (List.range m).map fun j => if m - k ≤ j then .int .u8 ((n / 256 ^ (m - 1 - j) % 256 : Nat) : Int) else .int .u8 0
theorem putC_zero (n m : Nat) : madeCells #[.int .u8 0] m = (putC n m 0).toArray := by
  apply Array.ext
  · simp [madeCells, putC]
  · intro i h1 h2
    have : i < m := by simpa [madeCells] using h1
    simp [madeCells, putC, Nat.mod_one]
    omega
theorem putC_set (n m k j : Nat) (hk : k < m) (hj : j = m - 1 - k) (v : Value) (hv : v = .int .u8 ((n / 256 ^ k % 256 : Nat) : Int)) : (putC n m k).toArray.setIfInBounds j v = (putC n m (k + 1)).toArray := by
  subst hj hv
  rw [List.setIfInBounds_toArray]
  congr 1
  apply List.ext_getElem?
  intro i
  rw [List.getElem?_set]
  unfold putC
  simp only [List.length_map, List.length_range, List.getElem?_map]
  by_cases hi : i < m
  · rw [List.getElem?_range hi]
    by_cases e : m - 1 - k = i
    · rw [if_pos e, if_pos (by omega)]
      simp only [Option.map_some]
      rw [if_pos (by omega), show m - 1 - i = k by omega]
    · rw [if_neg e]
      simp only [Option.map_some]
      by_cases h2 : m - k ≤ i
      · rw [if_pos h2, if_pos (by omega)]
      · rw [if_neg h2, if_neg (by omega)]
  · rw [List.getElem?_eq_none (by simpa using hi)]
    by_cases e : m - 1 - k = i
    · omega
    · rw [if_neg e]; rfl
theorem putC_done (n m : Nat) : (putC n m m).toArray = ((beB n m).map fun c => Value.int .u8 (c.toNat : Int)).toArray := by
  congr 1
  unfold putC beB
  rw [List.map_map]
  apply List.map_congr_left
  intro i _
  simp only [Function.comp_apply]
  rw [if_pos (by omega), ofNat_byte _ (by omega)]
theorem u8_info : (Tryz.prog.info? 5).map (fun i => (i.zero, i.size, i.bytes)) = some (some (.int .u8 0), 1, 1) := by kernel_rfl
structure PutSt (w : World) (n m k : Nat) (wr : World) : Prop where
  below : Below w.heap.size w wr
  blk : wr.heap[w.heap.size]? = some (.cells (putC n m k).toArray 5 (0, 0))
set_option maxRecDepth 100000 in
theorem put_any (n m : Nat) (w : World) (hn : n < 256 ^ m) (h1 : 1 ≤ m) (h8 : m ≤ 8) : Calls Tryz.prog 68 #[.int .u64 n, .int .i64 m] w fun e w' =>
    e = .returned (.tuple #[.string (bs (beB n m)), .nilIface]) ∧ Below w.heap.size w w' := by
  have hmk := fun w => run_make_row' (P := Tryz.prog) 84 5 (.int .u8 0) 1 Tryz.underlying84 u8_info rfl .i64 .i64 m (by omega) (by omega) w
  have hpw : 256 ^ m ≤ 256 ^ 8 := Nat.pow_le_pow_right (by decide) h8
  have hn64 : (n : Int) ≤ 18446744073709551615 := by omega
  have hq : ((n : Int) / 2 ^ (8 * m) != 0) = false := by
    have : n / 2 ^ (8 * m) = 0 := by
      rw [Nat.div_eq_zero_iff]
      right
      rw [Nat.pow_mul]; exact hn
    have h2 : (n : Int) / 2 ^ (8 * m) = ((n / 2 ^ (8 * m) : Nat) : Int) := by simp
    rw [h2, this]; rfl
  have hm1 : (1 : Int) ≤ (m : Int) := by omega
  clear hpw
  by_cases hm : m < 8
  all_goals
    go_enter Tryz.func68, Tryz.ntmps68
    go_wp2_with fail
    go_loopw [29] (fun i wr => ∃ k : Nat, i = .int .i64 k ∧ k ≤ m ∧ PutSt w n m k wr) (fun i _ => m - (intOf i).toNat)
    case atStart => exact ⟨0, rfl, by omega, (Below.refl _ _).alloc (Nat.le_refl _) _, by rw [← putC_zero]; exact alloc_heap_new w _⟩
    case round =>
      obtain ⟨k, rfl, hk, hst⟩ := hrel
      by_cases hlt : k < m
      · obtain ⟨j, hj⟩ : ∃ j : Nat, j = m - 1 - k := ⟨_, rfl⟩
        have hc : wr.cell? ⟨w.heap.size, m - 1 - k, none⟩ = some (.int .u8 0) := by
          have h0 : ¬ m - k ≤ m - 1 - k := by omega
          have h1 : m - 1 - k < m := by omega
          simp only [World.cell?, hst.blk]
          rw [List.getElem?_toArray]
          unfold putC
          rw [List.getElem?_map, List.getElem?_range h1, Option.map_some]
          simp only [if_neg h0]; rfl
        have hf : wr.frozen? ⟨w.heap.size, m - 1 - k, none⟩ = false := by simp [World.frozen?, hst.blk]
        have hki : (k : Int) < (m : Int) := by omega
        have hx1 : (0 : Int) ≤ (m : Int) - 1 - (k : Int) := by omega
        have hx2 : (m : Int) - 1 - (k : Int) < (m : Int) := by omega
        have HST := Lib.hid hst
        have HJ := Lib.hid hj
        clear hst hj
        go_wp2_with fail
        go_roundw
        case rel =>
          refine ⟨k + 1, by go_num, by omega, HST.out.below.setCell (p := ⟨w.heap.size, m - 1 - k, none⟩) (Nat.le_refl _) _, ?_⟩
          rw [← putC_set n m k (m - 1 - k) hlt rfl (.int .u8 ((n : Int) / 2 ^ (8 * k) % 256)) (by
            congr 1
            rw [show (256 : Nat) = 2 ^ 8 from rfl, ← Nat.pow_mul]
            simp)]
          simp [World.setCell, Array.getElem?_modify, HST.out.blk]
        case measure => simp [intOf]; omega
      · obtain rfl : k = m := by omega
        have hcs := conv_str wr ⟨w.heap.size, 0, none⟩ k k (beB n k) (by simp [beB]) (fun j hj => by
          rw [addr_add0]
          simp only [World.cell?, hst.blk, putC_done, Nat.zero_add]
          simp [hj])
        have HST := Lib.hid hst
        clear hst
        go_wp2_with fail
        go_ret2
        exact ⟨rfl, HST.out.below⟩
end Go.Proofs.YtincgdbfmnnpaaaGreatDoor

/- head.Right. -/
namespace Go.Proofs.YtincgdbfmnnpaaaGreatDoor
open Go.RowKit
/-- A slice of numbers that can be read. -/
structure U64s (w : World) (A : Option Addr) (xs : List Nat) : Prop where
  at_ : ∀ (k : Nat) (x : Nat), xs[k]? = some x → ∃ ad, A = some ad ∧ ad.block < w.heap.size ∧ w.cell? (ad.add k) = some (.int .u64 (x : Int))
  small : ∀ x ∈ xs, x < 18446744073709551616
theorem block_add (a : Addr) (n : Nat) : (a.add n).block = a.block := by unfold Addr.add; split <;> rfl
theorem U64s.below {w w' : World} {A : Option Addr} {xs : List Nat} (h : U64s w A xs) (hb : Below w.heap.size w w') : U64s w' A xs :=
  ⟨fun k x hx => by
    obtain ⟨ad, h1, h2, h3⟩ := h.at_ k x hx
    exact ⟨ad, h1, Nat.lt_of_lt_of_le h2 hb.size, (hb.cell (by rw [block_add]; exact h2)).trans h3⟩, h.small⟩
/-- The fields stand in a block, one behind the other. -/
structure FldsV (w : World) (g : Nat) (l : List Fld) : Prop where
  cells : ∀ j u, (l.flatMap Fld.cells)[j]? = some u → w.cell? ⟨g, j, none⟩ = some u
  lt : g < w.heap.size
theorem FldsV.below {w w' : World} {g : Nat} {l : List Fld} (h : FldsV w g l) (hb : Below w.heap.size w w') : FldsV w' g l :=
  ⟨fun j u hu => (hb.cell (p := ⟨g, j, none⟩) h.lt).trans (h.cells j u hu), Nat.lt_of_lt_of_le h.lt hb.size⟩
theorem FldsV.fld {w : World} {g : Nat} {l : List Fld} (h : FldsV w g l) {k : Nat} {f : Fld} (hf : l[k]? = some f) : w.cell? ⟨g, k * 3, none⟩ = some (.string f.n) ∧ w.cell? ⟨g, k * 3 + 1, none⟩ = some (.int .i64 f.a) ∧ w.cell? ⟨g, k * 3 + 2, none⟩ = some (.int .i64 f.b) :=
  ⟨h.cells _ _ (flat_at Fld.cells 3 (fun _ => rfl) l k 0 f hf (by omega)), h.cells _ _ (flat_at Fld.cells 3 (fun _ => rfl) l k 1 f hf (by omega)), h.cells _ _ (flat_at Fld.cells 3 (fun _ => rfl) l k 2 f hf (by omega))⟩
theorem fields_v (op : Int) (h0 : -9223372036854775808 ≤ op) (h1 : op ≤ 9223372036854775807) (k : Knd) (h : kindOf op = some k) (w : World) (hw : Laid w) : Calls Tryz.prog 43 #[.int .i64 op] w fun e w' =>
    ∃ g c, e = .returned (.tuple #[.slice (some ⟨g, 0, none⟩) k.l.length c, .nilIface]) ∧ Below w.heap.size w w' ∧ FldsV w' g k.l ∧ w.heap.size ≤ g := by
  refine (fields_some op h0 h1 k h w hw).mono ?_
  rintro e w' ⟨hb, v, rfl, ho⟩
  obtain ⟨a, m, c, rfl⟩ := own_slice ho
  obtain ⟨g, cap, hv, _, hlt⟩ := ho.form (kind_ne h)
  rw [hv]
  rw [hv] at ho
  exact ⟨g, cap, rfl, hb, ⟨fun j u hu => by have := ho.cells (g := g) rfl j u hu; rwa [addr_add0, Nat.zero_add] at this, hlt⟩, (ho.lt g rfl).1⟩
def fitsV (f : Fld) (v : Nat) : Bool := decide (8 ≤ f.b) || (v : Int) / 2 ^ (8 * f.b.toNat) == 0
def firstBad : List Fld → List Nat → Nat → Option Nat
  | f :: l, v :: vs, i => if fitsV f v then firstBad l vs (i + 1) else some i
  | _, _, _ => none
def hdForm (k : Knd) (op : Int) (now : Bool) (fl : Int) : Bool := (now && decide (32 ≤ op)) || decide (fl < 0) || (bits .andNot .i64 fl k.m != 0)
def hdRight (op : Int) (now : Bool) (fl : Int) (vals : List Nat) : Int × Int := match kindOf op with
  | none => (1, -1)
  | some k => if hdForm k op now fl then (3, -1) else if k.l.length ≠ vals.length then (7, -1) else match firstBad k.l vals 0 with
    | none => (0, -1)
    | some i => (2, i)
def hdA (op : Int) (now : Bool) (fl : Int) (A : Option Addr) (n c : Nat) : Value := .agg #[.int .i64 op, .bool now, .int .i64 fl, .slice A n c]
set_option maxRecDepth 100000 in
theorem right_none (op : Int) (now : Bool) (fl : Int) (A : Option Addr) (n c : Nat) (h0 : -9223372036854775808 ≤ op) (h1 : op ≤ 9223372036854775807) (h : kindOf op = none) (w : World) (hw : Laid w) :
    Calls Tryz.prog 45 #[hdA op now fl A n c] w fun e w' => e = .returned (errV 1) ∧ Below w.heap.size w w' := by
  have hf := fun w hw => fields_none op h0 h1 h w hw
  have HF := Lib.hid hf
  have HW := Lib.hid hw
  clear hf hw
  unfold hdA
  go_enter Tryz.func45, Tryz.ntmps45
  go_wp2_with (go_at_call 43; refine (HF.out _ (HW.out.below ((Below.refl _ _).alloc (Nat.le_refl _) _))).mono ?_; rintro e w' ⟨rfl, hb⟩)
  go_ret
  exact ⟨rfl, ((Below.refl _ w).alloc (Nat.le_refl _) _).trans (hb.mono (by simp))⟩
/-- Behind Fields and Flags. -/
structure RtSt (w : World) (op : Int) (now : Bool) (fl : Int) (A : Option Addr) (n c : Nat) (g : Nat) (l : List Fld) (w2 : World) : Prop where
  below : Below w.heap.size w w2
  head : w2.heap[w.heap.size]? = some (.cells #[.int .i64 op, .bool now, .int .i64 fl, .slice A n c] 37 (0, 0))
  flds : FldsV w2 g l
theorem RtSt.c0 {w : World} {op : Int} {now : Bool} {fl : Int} {A : Option Addr} {n c : Nat} {g : Nat} {l : List Fld} {w2 : World} (h : RtSt w op now fl A n c g l w2) :
    w2.cell? ⟨w.heap.size, 0, none⟩ = some (.int .i64 op) ∧ w2.cell? ⟨w.heap.size, 1, none⟩ = some (.bool now) ∧ w2.cell? ⟨w.heap.size, 2, none⟩ = some (.int .i64 fl) ∧ w2.cell? ⟨w.heap.size, 3, none⟩ = some (.slice A n c) := by
  simp [World.cell?, h.head]
theorem RtSt.later {w : World} {op : Int} {now : Bool} {fl : Int} {A : Option Addr} {n c : Nat} {g : Nat} {l : List Fld} {w2 w3 : World} (h : RtSt w op now fl A n c g l w2) (hb : Below w2.heap.size w2 w3) : RtSt w op now fl A n c g l w3 :=
  ⟨h.below.trans (hb.mono h.below.size), (hb.block _ (heap_lt h.head)).trans h.head, h.flds.below hb⟩
set_option maxRecDepth 100000 in
theorem right_form (op : Int) (now : Bool) (fl : Int) (A : Option Addr) (n c : Nat) (h0 : -9223372036854775808 ≤ op) (h1 : op ≤ 9223372036854775807) (k : Knd) (h : kindOf op = some k) (hx : hdForm k op now fl = true) (w : World) (hw : Laid w) :
    Calls Tryz.prog 45 #[hdA op now fl A n c] w fun e w' => e = .returned (errV 3) ∧ Below w.heap.size w w' := by
  have hf := fun w hw => fields_v op h0 h1 k h w hw
  have hg := fun w hw => flags_some op h0 h1 k h w hw
  have HF := Lib.hid hf
  have HG := Lib.hid hg
  have HW := Lib.hid hw
  have HK := Lib.hid h
  clear hf hg hw h
  have key : (now = true ∧ 32 ≤ op) ∨ (¬ (now = true ∧ 32 ≤ op) ∧ fl < 0) ∨ (¬ (now = true ∧ 32 ≤ op) ∧ ¬ fl < 0 ∧ (bits .andNot .i64 fl k.m != 0) = true) := by
    unfold hdForm at hx
    simp only [Bool.or_eq_true, Bool.and_eq_true, decide_eq_true_eq] at hx
    by_cases a : now = true ∧ 32 ≤ op
    · exact .inl a
    · by_cases b : fl < 0
      · exact .inr (.inl ⟨a, b⟩)
      · rcases hx with (hx | hx) | hx
        · exact absurd hx a
        · exact absurd hx b
        · exact .inr (.inr ⟨a, b, hx⟩)
  clear hx
  unfold hdA
  go_enter Tryz.func45, Tryz.ntmps45
  go_wp2_with fail
  refine (HF.out _ (HW.out.below ((Below.refl _ _).alloc (Nat.le_refl _) _))).mono ?_
  rintro e w1 ⟨g, cap, rfl, hb, hv, _⟩
  have hst : RtSt w op now fl A n c g k.l w1 := ⟨((Below.refl _ w).alloc (Nat.le_refl _) _).trans (hb.mono (by simp)), (hb.block _ (by simp)).trans (alloc_heap_new w _), hv⟩
  obtain ⟨c0, c1, c2, c3⟩ := hst.c0
  have HST := Lib.hid hst
  clear hst hb hv
  go_wp2_with fail
  refine (HG.out _ (HW.out.below HST.out.below)).mono ?_
  rintro e w2 ⟨rfl, hb2⟩
  have hst2 := HST.out.later hb2
  clear c0 c1 c2 c3
  obtain ⟨c0, c1, c2, c3⟩ := hst2.c0
  have HST2 := Lib.hid hst2
  clear hst2 hb2
  rcases key with ⟨rfl, hop⟩ | ⟨hno, hfl⟩ | ⟨hno, hfl, hbt⟩
  · go_wp2_with fail
    go_ret
    exact ⟨rfl, HST2.out.below⟩
  · cases now
    · go_wp2_with fail
      go_ret
      exact ⟨rfl, HST2.out.below⟩
    · have hop : ¬ 32 ≤ op := fun e => hno ⟨rfl, e⟩
      clear hno
      go_wp2_with fail
      go_ret
      exact ⟨rfl, HST2.out.below⟩
  · cases now
    · clear hno
      go_wp2_with fail
      go_ret
      exact ⟨rfl, HST2.out.below⟩
    · have hop : ¬ 32 ≤ op := fun e => hno ⟨rfl, e⟩
      clear hno
      go_wp2_with fail
      go_ret
      exact ⟨rfl, HST2.out.below⟩
end Go.Proofs.YtincgdbfmnnpaaaGreatDoor

/- head.Right, behind the form. -/
namespace Go.Proofs.YtincgdbfmnnpaaaGreatDoor
open Go.RowKit
theorem form_false {k : Knd} {op : Int} {now : Bool} {fl : Int} (h : hdForm k op now fl = false) : (now = true → ¬ 32 ≤ op) ∧ ¬ fl < 0 ∧ (bits .andNot .i64 fl k.m != 0) = false := by
  unfold hdForm at h
  simp only [Bool.or_eq_false_iff, Bool.and_eq_false_iff, decide_eq_false_iff_not] at h
  refine ⟨fun hn => ?_, h.1.2, h.2⟩
  rcases h.1.1 with e | e
  · rw [hn] at e; cases e
  · exact e
set_option maxRecDepth 100000 in
theorem right_len (op : Int) (now : Bool) (fl : Int) (A : Option Addr) (n c : Nat) (h0 : -9223372036854775808 ≤ op) (h1 : op ≤ 9223372036854775807) (k : Knd) (h : kindOf op = some k) (hx : hdForm k op now fl = false) (hn : k.l.length ≠ n) (w : World) (hw : Laid w) :
    Calls Tryz.prog 45 #[hdA op now fl A n c] w fun e w' => e = .returned (errV 7) ∧ Below w.heap.size w w' := by
  have hf := fun w hw => fields_v op h0 h1 k h w hw
  have hg := fun w hw => flags_some op h0 h1 k h w hw
  obtain ⟨f1, f2, f3⟩ := form_false hx
  have hnb : ((k.l.length : Nat) != n) = true := by simpa using hn
  have HF := Lib.hid hf
  have HG := Lib.hid hg
  have HW := Lib.hid hw
  have HK := Lib.hid h
  clear hf hg hw h hx
  unfold hdA
  go_enter Tryz.func45, Tryz.ntmps45
  go_wp2_with fail
  refine (HF.out _ (HW.out.below ((Below.refl _ _).alloc (Nat.le_refl _) _))).mono ?_
  rintro e w1 ⟨g, cap, rfl, hb, hv, _⟩
  have hst : RtSt w op now fl A n c g k.l w1 := ⟨((Below.refl _ w).alloc (Nat.le_refl _) _).trans (hb.mono (by simp)), (hb.block _ (by simp)).trans (alloc_heap_new w _), hv⟩
  obtain ⟨c0, c1, c2, c3⟩ := hst.c0
  have HST := Lib.hid hst
  clear hst hb hv
  go_wp2_with fail
  refine (HG.out _ (HW.out.below HST.out.below)).mono ?_
  rintro e w2 ⟨rfl, hb2⟩
  have hst2 := HST.out.later hb2
  clear c0 c1 c2 c3
  obtain ⟨c0, c1, c2, c3⟩ := hst2.c0
  have HST2 := Lib.hid hst2
  clear hst2 hb2
  cases now
  · clear f1
    go_wp2_with fail
    go_ret
    exact ⟨rfl, HST2.out.below⟩
  · have f1 := f1 rfl
    go_wp2_with fail
    go_ret
    exact ⟨rfl, HST2.out.below⟩
theorem firstBad_split : ∀ (l : List Fld) (vs : List Nat) (i : Nat), l.length = vs.length →
    (firstBad l vs i = none ∧ ∀ (j : Nat) (f : Fld) (v : Nat), l[j]? = some f → vs[j]? = some v → fitsV f v = true) ∨
    (∃ j f v, firstBad l vs i = some (i + j) ∧ l[j]? = some f ∧ vs[j]? = some v ∧ fitsV f v = false ∧ ∀ (t : Nat) (f : Fld) (v : Nat), t < j → l[t]? = some f → vs[t]? = some v → fitsV f v = true)
  | [], [], i, _ => .inl ⟨rfl, fun j f v h => by simp at h⟩
  | [], _ :: _, _, h => by simp at h
  | _ :: _, [], _, h => by simp at h
  | f :: l, v :: vs, i, h => by
    by_cases hf : fitsV f v = true
    · rcases firstBad_split l vs (i + 1) (by simpa using h) with ⟨h1, h2⟩ | ⟨j, f', v', h1, h2, h3, h4, h5⟩
      · refine .inl ⟨by rw [firstBad, if_pos hf, h1], fun j => ?_⟩
        cases j with
        | zero => intro f' v' e1 e2; simp at e1 e2; rw [← e1, ← e2]; exact hf
        | succ j => intro f' v' e1 e2; exact h2 j f' v' (by simpa using e1) (by simpa using e2)
      · refine .inr ⟨j + 1, f', v', by rw [firstBad, if_pos hf, h1]; congr 1; omega, by simpa using h2, by simpa using h3, h4, fun t => ?_⟩
        cases t with
        | zero => intro f' v' _ e1 e2; simp at e1 e2; rw [← e1, ← e2]; exact hf
        | succ t => intro f' v' e0 e1 e2; exact h5 t f' v' (by omega) (by simpa using e1) (by simpa using e2)
    · refine .inr ⟨0, f, v, by rw [firstBad, if_neg hf]; rfl, rfl, rfl, by simpa using hf, fun t f' v' e0 => by omega⟩
def RightPost (w : World) (r : Option Nat) (e : Ending) (w' : World) : Prop := ∃ v, e = .returned v ∧ Below w.heap.size w w' ∧ IsErr w' v (match r with | none => 0 | some _ => 2) (match r with | none => -1 | some i => i)
structure RtLp (w : World) (op : Int) (now : Bool) (fl : Int) (A : Option Addr) (n c : Nat) (g : Nat) (l : List Fld) (vals : List Nat) (k0 : Nat) (wr : World) : Prop where
  st : RtSt w op now fl A n c g l wr
  us : U64s wr A vals
  ok : ∀ (j : Nat) (f : Fld) (v : Nat), j < k0 → l[j]? = some f → vals[j]? = some v → fitsV f v = true
theorem RtLp.later {w : World} {op : Int} {now : Bool} {fl : Int} {A : Option Addr} {n c : Nat} {g : Nat} {l : List Fld} {vals : List Nat} {k0 : Nat} {wr w3 : World} (h : RtLp w op now fl A n c g l vals k0 wr) (hb : Below wr.heap.size wr w3) : RtLp w op now fl A n c g l vals k0 w3 :=
  ⟨h.st.later hb, h.us.below hb, h.ok⟩
set_option maxRecDepth 100000 in
set_option maxHeartbeats 1000000 in
theorem right_loop (op : Int) (now : Bool) (fl : Int) (A : Option Addr) (n c : Nat) (vals : List Nat) (h0 : -9223372036854775808 ≤ op) (h1 : op ≤ 9223372036854775807) (k : Knd) (h : kindOf op = some k) (hx : hdForm k op now fl = false) (hn : k.l.length = n) (hvl : vals.length = n) (w : World) (hw : Laid w) (hu : U64s w A vals) :
    Calls Tryz.prog 45 #[hdA op now fl A n c] w fun e w' => RightPost w (firstBad k.l vals 0) e w' := by
  have hf := fun w hw => fields_v op h0 h1 k h w hw
  have hg := fun w hw => flags_some op h0 h1 k h w hw
  obtain ⟨f1, f2, f3⟩ := form_false hx
  have hfit := kind_fit h
  have hl12 := hfit.1
  subst hn
  have HF := Lib.hid hf
  have HG := Lib.hid hg
  have HW := Lib.hid hw
  have HK := Lib.hid h
  have HU := Lib.hid hu
  have HFIT := Lib.hid hfit
  have HVL := Lib.hid hvl
  clear hf hg hw h hx hu hfit hvl
  unfold hdA
  go_enter Tryz.func45, Tryz.ntmps45
  go_wp2_with fail
  refine (HF.out _ (HW.out.below ((Below.refl _ _).alloc (Nat.le_refl _) _))).mono ?_
  rintro e w1 ⟨g, cap, rfl, hb, hv, _⟩
  have hst : RtLp w op now fl A k.l.length c g k.l vals 0 w1 := ⟨⟨((Below.refl _ w).alloc (Nat.le_refl _) _).trans (hb.mono (by simp)), (hb.block _ (by simp)).trans (alloc_heap_new w _), hv⟩,
    HU.out.below (((Below.refl _ w).alloc (Nat.le_refl _) _).trans (hb.mono (by simp))), fun j f v hj => by omega⟩
  obtain ⟨c0, c1, c2, c3⟩ := hst.st.c0
  have HST := Lib.hid hst
  clear hst hb hv
  go_wp2_with fail
  refine (HG.out _ (HW.out.below HST.out.st.below)).mono ?_
  rintro e w2 ⟨rfl, hb2⟩
  have hst2 := HST.out.later hb2
  clear c0 c1 c2 c3
  obtain ⟨c0, c1, c2, c3⟩ := hst2.st.c0
  have HST2 := Lib.hid hst2
  clear hst2 hb2
  cases now
  all_goals
    (try have f1 := f1 rfl)
    go_wp2_with fail
    clear c0 c1 c2 c3
    go_loopw [55] (fun i wr => ∃ k0 : Nat, i = .int .i64 k0 ∧ k0 ≤ k.l.length ∧ RtLp w op _ fl A k.l.length c g k.l vals k0 wr) (fun i _ => k.l.length - (intOf i).toNat)
    case atStart => exact ⟨0, rfl, by omega, HST2.out⟩
    case round =>
      obtain ⟨k0, rfl, hk0, hst⟩ := hrel
      by_cases hlt : k0 < k.l.length
      · obtain ⟨f, hf⟩ : ∃ f, k.l[k0]? = some f := ⟨_, List.getElem?_eq_getElem hlt⟩
        obtain ⟨v, hv⟩ : ∃ v, vals[k0]? = some v := ⟨_, List.getElem?_eq_getElem (by rw [HVL.out]; exact hlt)⟩
        obtain ⟨d0, d1, d2⟩ := hst.st.flds.fld hf
        obtain ⟨fa, fb1, fb8, fab⟩ := HFIT.out.2 f (List.mem_of_getElem? hf)
        obtain ⟨ad, rfl, hadb, hcell⟩ := hst.us.at_ k0 v hv
        have hvs := hst.us.small v (List.mem_of_getElem? hv)
        obtain ⟨b, hbb⟩ : ∃ b : Nat, f.b = b := ⟨f.b.toNat, by omega⟩
        rw [hbb] at d2 fb1 fb8 fab
        have hlt' : k0 < vals.length := by rw [HVL.out]; exact hlt

        have e3 := hst.st.c0.2.2.2
        have hwlt : w.heap.size < wr.heap.size := heap_lt hst.st.head
        have HST0 := Lib.hid hst
        have HFF := Lib.hid hf
        have HV := Lib.hid hv
        have HBB := Lib.hid hbb
        have hki : (k0 : Int) < (k.l.length : Int) := by omega
        have hv64 : (v : Int) ≤ 18446744073709551615 := by omega
        clear hst hf hv hbb hvs
        have hcell2 : ∀ o : Obj, (wr.alloc o).cell? (ad.add k0) = some (.int .u64 (v : Int)) := fun o => by rw [World.cell?_alloc_old _ _ _ (by rw [block_add]; omega)]; exact hcell
        clear hcell
        by_cases hb8 : (b : Int) < 8
        · have hq2 : (v : Int) / 2 ^ (8 * b) = ((v / 2 ^ (8 * b) : Nat) : Int) := by simp
          by_cases hz : v / 2 ^ (8 * b) = 0
          · have hq : ((v : Int) / 2 ^ (8 * b) != 0) = false := by rw [hq2, hz]; rfl
            have hfits : fitsV f v = true := by unfold fitsV; rw [HBB.out, Int.toNat_natCast, hq2, hz]; simp
            have HFITS := Lib.hid hfits
            clear hfits hq2 hz
            go_wp2_with fail
            go_quiet (fail)
            go_wp2_with fail
            go_roundw
            case rel =>
              have hbl := below_drewN ((Below.refl _ wr).alloc (Nat.le_refl _) (.cells #[.string f.n, .int .i64 f.a, .int .i64 b] 112)) nq
              refine ⟨k0 + 1, by go_num, by omega, (HST0.out.later hbl).st, HST0.out.us.below hbl, fun j f' v' hj e1 e2 => ?_⟩
              by_cases hjk : j < k0
              · exact HST0.out.ok j f' v' hjk e1 e2
              · obtain rfl : j = k0 := by omega
                rw [HFF.out] at e1
                rw [HV.out] at e2
                injection e1 with e1
                injection e2 with e2
                subst e1 e2
                exact HFITS.out
            case measure => simp [intOf]; omega
          · have hq : ((v : Int) / 2 ^ (8 * b) != 0) = true := by rw [hq2]; simp; omega
            have hfits : fitsV f v = false := by unfold fitsV; rw [HBB.out, Int.toNat_natCast, hq2]; simp; omega
            have HFITS := Lib.hid hfits
            clear hfits hq2 hz
            go_wp2_with fail
            go_quiet (fail)
            go_wp2_with fail
            go_ret
            have hbl := below_drewN ((Below.refl _ wr).alloc (Nat.le_refl _) (.cells #[.string f.n, .int .i64 f.a, .int .i64 b] 112)) nq
            obtain ⟨h1, h2⟩ | ⟨j, f', v', h1, h2, h3, h4, h5⟩ := firstBad_split k.l vals 0 (by rw [HVL.out])
            · have := h2 k0 f v HFF.out HV.out
              rw [HFITS.out] at this; cases this
            · obtain rfl : j = k0 := by
                by_cases e1 : j < k0
                · have := HST0.out.ok j f' v' e1 h2 h3
                  rw [h4] at this; cases this
                · by_cases e2 : k0 < j
                  · have := h5 k0 f v e2 HFF.out HV.out
                    rw [HFITS.out] at this; cases this
                  · omega
              rw [h1, Nat.zero_add]
              refine ⟨_, rfl, (HST0.out.st.below.trans (hbl.mono HST0.out.st.below.size)).alloc (Nat.le_trans HST0.out.st.below.size hbl.size) _, .inr ⟨by show (2 : Int) ≠ 0; decide, _, rfl, ?_, ?_⟩⟩
              · rw [World.cell?_alloc_at _ _ _ _ (by simp)]; rfl
              · rw [World.cell?_alloc_at _ _ _ _ (by simp)]; rfl
        · have hfits : fitsV f v = true := by unfold fitsV; rw [HBB.out]; simp; omega
          have HFITS := Lib.hid hfits
          have hd8 : decide ((b : Int) < 8) = false := by simpa using hb8
          clear hfits
          go_wp2_with fail
          go_quiet (fail)
          go_wp2_with fail
          go_roundw
          case rel =>
            have hbl := below_drewN ((Below.refl _ wr).alloc (Nat.le_refl _) (.cells #[.string f.n, .int .i64 f.a, .int .i64 b] 112)) nq
            refine ⟨k0 + 1, by go_num, by omega, (HST0.out.later hbl).st, HST0.out.us.below hbl, fun j f' v' hj e1 e2 => ?_⟩
            by_cases hjk : j < k0
            · exact HST0.out.ok j f' v' hjk e1 e2
            · obtain rfl : j = k0 := by omega
              rw [HFF.out] at e1
              rw [HV.out] at e2
              injection e1 with e1
              injection e2 with e2
              subst e1 e2
              exact HFITS.out
          case measure => simp [intOf]; omega
      · obtain rfl : k0 = k.l.length := by omega
        have HST0 := Lib.hid hst
        clear hst
        go_wp2_with fail
        go_ret
        obtain ⟨h1, h2⟩ | ⟨j, f', v', h1, h2, h3, h4, h5⟩ := firstBad_split k.l vals 0 (by rw [HVL.out])
        · rw [h1]
          exact ⟨_, rfl, HST0.out.st.below, .inl ⟨rfl, rfl⟩⟩
        · have := HST0.out.ok j f' v' (List.getElem?_eq_some_iff.1 h2).1 h2 h3
          rw [h4] at this; cases this
/-- Right: what is wrong with any head whose numbers can be read. -/
theorem right_any (op : Int) (now : Bool) (fl : Int) (A : Option Addr) (n c : Nat) (vals : List Nat) (h0 : -9223372036854775808 ≤ op) (h1 : op ≤ 9223372036854775807) (hvl : vals.length = n) (w : World) (hw : Laid w) (hu : U64s w A vals) :
    Calls Tryz.prog 45 #[hdA op now fl A n c] w fun e w' => ∃ v, e = .returned v ∧ Below w.heap.size w w' ∧ IsErr w' v (hdRight op now fl vals).1 (hdRight op now fl vals).2 := by
  unfold hdRight
  cases h : kindOf op with
  | none =>
    refine (right_none op now fl A n c h0 h1 h w hw).mono ?_
    rintro e w' ⟨rfl, hb⟩
    exact ⟨_, rfl, hb, .inl ⟨rfl, rfl⟩⟩
  | some k =>
    by_cases hx : hdForm k op now fl = true
    · simp only [hx, if_true]
      refine (right_form op now fl A n c h0 h1 k h hx w hw).mono ?_
      rintro e w' ⟨rfl, hb⟩
      exact ⟨_, rfl, hb, .inl ⟨rfl, rfl⟩⟩
    · have hx' : hdForm k op now fl = false := by simpa using hx
      simp only [hx']
      by_cases hn : k.l.length = vals.length
      · simp only [hn, ne_eq, not_true_eq_false, if_false, Bool.false_eq_true]
        refine (right_loop op now fl A n c vals h0 h1 k h hx' (by omega) hvl w hw hu).mono ?_
        rintro e w' ⟨v, rfl, hb, hi⟩
        refine ⟨v, rfl, hb, ?_⟩
        cases hb2 : firstBad k.l vals 0 with
        | none => rw [hb2] at hi; exact hi
        | some i => rw [hb2] at hi; exact hi
      · simp only [ne_eq, hn, not_false_eq_true, if_true, Bool.false_eq_true, if_false]
        refine (right_len op now fl A n c h0 h1 k h hx' (by omega) w hw).mono ?_
        rintro e w' ⟨rfl, hb⟩
        exact ⟨_, rfl, hb, .inl ⟨rfl, rfl⟩⟩
end Go.Proofs.YtincgdbfmnnpaaaGreatDoor

/- A head's flags against a mask; plain. -/
namespace Go.Proofs.YtincgdbfmnnpaaaGreatDoor
open Go.RowKit
theorem bits64_andNot (x y : BitVec 64) : (x &&& ~~~y = 0#64) ↔ x &&& y = x := by
  constructor
  · intro h
    apply BitVec.eq_of_getLsbD_eq
    intro i hi
    have := congrArg (fun z => z.getLsbD i) h
    simp only [BitVec.getLsbD_and, BitVec.getLsbD_not, BitVec.getLsbD_zero, hi, decide_true, Bool.true_and] at this ⊢
    revert this
    cases x.getLsbD i <;> cases y.getLsbD i <;> simp
  · intro h
    apply BitVec.eq_of_getLsbD_eq
    intro i hi
    have := congrArg (fun z => z.getLsbD i) h
    simp only [BitVec.getLsbD_and, BitVec.getLsbD_not, BitVec.getLsbD_zero, hi, decide_true, Bool.true_and] at this ⊢
    revert this
    cases x.getLsbD i <;> cases y.getLsbD i <;> simp
theorem bits64_or (x y : BitVec 64) : (x ||| y = y) ↔ x &&& y = x := by
  constructor
  · intro h
    apply BitVec.eq_of_getLsbD_eq
    intro i hi
    have := congrArg (fun z => z.getLsbD i) h
    simp only [BitVec.getLsbD_and, BitVec.getLsbD_or] at this ⊢
    revert this
    cases x.getLsbD i <;> cases y.getLsbD i <;> simp
  · intro h
    apply BitVec.eq_of_getLsbD_eq
    intro i hi
    have := congrArg (fun z => z.getLsbD i) h
    simp only [BitVec.getLsbD_and, BitVec.getLsbD_or] at this ⊢
    revert this
    cases x.getLsbD i <;> cases y.getLsbD i <;> simp
theorem i64_wrap_zero (n : Nat) (h : n < 18446744073709551616) : IntKind.i64.wrap (n : Int) = 0 ↔ n = 0 := by rw [IntKind.wrap_i64]; omega
theorem andNot_zero (a b : Int) : (bits .andNot .i64 a b != 0) = false ↔ BitVec.ofInt 64 a &&& BitVec.ofInt 64 b = BitVec.ofInt 64 a := by
  rw [← bits64_andNot]
  have : (bits .andNot .i64 a b != 0) = false ↔ bits .andNot .i64 a b = 0 := by simp
  rw [this]
  show IntKind.i64.wrap (((BitVec.ofInt 64 a &&& ~~~ BitVec.ofInt 64 b).toNat : Nat) : Int) = 0 ↔ _
  rw [i64_wrap_zero _ (BitVec.isLt _)]
  constructor
  · intro h; exact BitVec.eq_of_toNat_eq (by simpa using h)
  · intro h; rw [h]; rfl
theorem ofInt_toNat64 (a : Int) (h0 : 0 ≤ a) (h1 : a ≤ 9223372036854775807) : (BitVec.ofInt 64 a).toNat = a.toNat := by
  rw [BitVec.toNat_ofInt]; omega
theorem or_same (a b : Int) (h0 : 0 ≤ b) (h1 : b ≤ 9223372036854775807) : (bits .or .i64 a b != b) = false ↔ BitVec.ofInt 64 a &&& BitVec.ofInt 64 b = BitVec.ofInt 64 a := by
  rw [← bits64_or]
  have : (bits .or .i64 a b != b) = false ↔ bits .or .i64 a b = b := by simp
  rw [this]
  show IntKind.i64.wrap (((BitVec.ofInt 64 a ||| BitVec.ofInt 64 b).toNat : Nat) : Int) = b ↔ _
  have hb := ofInt_toNat64 b h0 h1
  constructor
  · intro h
    apply BitVec.eq_of_toNat_eq
    rw [hb]
    have hl := (BitVec.ofInt 64 a ||| BitVec.ofInt 64 b).isLt
    rw [IntKind.wrap_i64] at h
    omega
  · intro h
    rw [h, hb, IntKind.wrap_i64]; omega
theorem flags_or (a b : Int) (h0 : 0 ≤ b) (h1 : b ≤ 9223372036854775807) : (bits .or .i64 a b != b) = (bits .andNot .i64 a b != 0) := by
  have h2 := (or_same a b h0 h1).trans (andNot_zero a b).symm
  cases h3 : (bits .or .i64 a b != b) <;> cases h4 : (bits .andNot .i64 a b != 0)
  · rfl
  · rw [h3, h4] at h2; simp at h2
  · rw [h3, h4] at h2; simp at h2
  · rfl
theorem flags_le {a b : Int} (ha0 : 0 ≤ a) (ha1 : a ≤ 9223372036854775807) (h0 : 0 ≤ b) (h1 : b ≤ 9223372036854775807) (h : (bits .andNot .i64 a b != 0) = false) : a ≤ b := by
  have h2 := congrArg BitVec.toNat ((andNot_zero a b).1 h)
  rw [BitVec.toNat_and, ofInt_toNat64 a ha0 ha1, ofInt_toNat64 b h0 h1] at h2
  have : a.toNat &&& b.toNat ≤ b.toNat := Nat.and_le_right
  omega
theorem kinds_num : (kinds.all fun k => decide (0 ≤ k.m) && decide (k.m ≤ 255) && decide (0 ≤ k.op) && decide (k.op ≤ 63) && bits .or .u8 k.op 64 == k.op + 64) = true := by kernel_rfl
theorem kind_num {op : Int} {k : Knd} (h : kindOf op = some k) : (0 ≤ k.m ∧ k.m ≤ 255) ∧ k.op = op ∧ 0 ≤ op ∧ op ≤ 63 ∧ bits .or .u8 op 64 = op + 64 := by
  have hm := List.mem_of_find?_eq_some h
  have he : k.op = op := by have := List.find?_some h; simpa using this
  have := List.all_eq_true.1 kinds_num k hm
  simp only [Bool.and_eq_true, decide_eq_true_eq, beq_iff_eq] at this
  rw [he] at this
  exact ⟨⟨this.1.1.1.1, this.1.1.1.2⟩, he, this.1.1.2, this.1.2, this.2⟩
end Go.Proofs.YtincgdbfmnnpaaaGreatDoor

/- head.Write, of a head that is right. -/
namespace Go.Proofs.YtincgdbfmnnpaaaGreatDoor
open Go.RowKit Go.Deep
def splice (b : List UInt8) (i : Nat) (s : List UInt8) : List UInt8 := b.take i ++ s ++ b.drop (i + s.length)
theorem splice_len (b : List UInt8) (i : Nat) (s : List UInt8) (h : i + s.length ≤ b.length) : (splice b i s).length = b.length := by
  simp [splice]; omega
def hdBase (o : Nat) (now : Bool) (f wd d : Nat) : List UInt8 := [UInt8.ofNat (o + if now then 64 else 0), UInt8.ofNat f, 0, 0, UInt8.ofNat wd, UInt8.ofNat (d / 65536), UInt8.ofNat (d / 256 % 256), UInt8.ofNat (d % 256)] ++ List.replicate 40 0
def hdN (l : List (Fld × Nat)) (b : List UInt8) : List UInt8 := l.foldl (fun b x => splice b x.1.a.toNat (beB x.2 x.1.b.toNat)) b
theorem beB_len (n m : Nat) : (beB n m).length = m := by simp [beB]
theorem hdN_len : ∀ (l : List (Fld × Nat)) (b : List UInt8), (∀ x ∈ l, 0 ≤ x.1.a ∧ 1 ≤ x.1.b ∧ x.1.b ≤ 8 ∧ x.1.a + x.1.b ≤ 48) → b.length = 48 → (hdN l b).length = 48
  | [], b, _, h => h
  | x :: l, b, hx, h => by
    have h1 := hx x (by simp)
    rw [hdN, List.foldl_cons]
    exact hdN_len l _ (fun y hy => hx y (by simp [hy])) (by rw [splice_len _ _ _ (by rw [beB_len, h]; omega)]; exact h)
def bytesV (l : List UInt8) : List Value := l.map fun c => Value.int .u8 (c.toNat : Int)
theorem bytesV_eq (l : List UInt8) : Lib.byteCells l = bytesV l := rfl
theorem splice_cells (b : List UInt8) (i : Nat) (s : ByteArray) : ((bytesV b).toArray.toList.take i ++ Lib.byteCells s.data.toList ++ (bytesV b).toArray.toList.drop (i + s.size)).toArray = (bytesV (splice b i s.data.toList)).toArray := by
  rw [bytesV_eq]
  congr 1
  rw [Lib.size_eq]; simp [bytesV, splice]
theorem u8_size : (Tryz.prog.info? 5).map (·.size) = some 1 := by kernel_rfl
structure WrSt (w : World) (op : Int) (now : Bool) (fl : Int) (A : Option Addr) (n c : Nat) (g g2 : Nat) (k : Knd) (vals : List Nat) (base : List UInt8) (k0 : Nat) (wr : World) : Prop where
  st : RtSt w op now fl A n c g k.l wr
  us : U64s wr A vals
  low : ∀ ad, A = some ad → ad.block < w.heap.size
  blk : wr.heap[g2]? = some (.cells (bytesV (hdN ((k.l.zip vals).take k0) base)).toArray 5 (0, 0))
  ne1 : w.heap.size < g2
  ne2 : g ≠ g2
theorem below_undrew {B : Nat} {a w : World} (h : Below B a.drew w) : Below B a w := ⟨h.os, h.tape, h.output, h.size, h.block⟩
theorem grown_fldsV {w w' : World} {g g2 : Nat} {l : List Fld} (h : FldsV w g l) (hg : w.grownBy w' (some g2)) (hne : g ≠ g2) : FldsV w' g l :=
  ⟨fun j u hu => (World.cell?_of_block (a := ⟨g, j, none⟩) (hg.block g h.lt (fun e => hne (by injection e)))).trans (h.cells j u hu), Nat.lt_of_lt_of_le h.lt hg.size⟩
theorem grown_u64s {w w' : World} {g2 : Nat} {A : Option Addr} {xs : List Nat} (h : U64s w A xs) (hg : w.grownBy w' (some g2)) (hne : ∀ ad, A = some ad → ad.block ≠ g2) : U64s w' A xs :=
  ⟨fun k x hx => by
    obtain ⟨ad, h1, h2, h3⟩ := h.at_ k x hx
    exact ⟨ad, h1, Nat.lt_of_lt_of_le h2 hg.size, (World.cell?_of_block (by rw [block_add]; exact hg.block _ h2 (fun e => hne ad h1 (by injection e)))).trans h3⟩, h.small⟩
theorem WrSt.later {w : World} {op : Int} {now : Bool} {fl : Int} {A : Option Addr} {n c : Nat} {g g2 : Nat} {k : Knd} {vals : List Nat} {base : List UInt8} {k0 : Nat} {wr w3 : World} (h : WrSt w op now fl A n c g g2 k vals base k0 wr) (hb : Below wr.heap.size wr w3) :
    WrSt w op now fl A n c g g2 k vals base k0 w3 :=
  ⟨h.st.later hb, h.us.below hb, h.low, (hb.block _ (heap_lt h.blk)).trans h.blk, h.ne1, h.ne2⟩
theorem WrSt.copied {w : World} {op : Int} {now : Bool} {fl : Int} {A : Option Addr} {n c : Nat} {g g2 : Nat} {k : Knd} {vals : List Nat} {base : List UInt8} {k0 : Nat} {wr : World} (h : WrSt w op now fl A n c g g2 k vals base k0 wr) {f : Fld} {v : Nat} (hf : k.l[k0]? = some f) (hv : vals[k0]? = some v)
    (C : Array Value) (hC : C = (bytesV (splice (hdN ((k.l.zip vals).take k0) base) f.a.toNat (beB v f.b.toNat))).toArray) : WrSt w op now fl A n c g g2 k vals base (k0 + 1) (wr.setRow g2 C) := by
  have g6 : wr.grownBy (wr.setRow g2 C) (some g2) := ⟨rfl, rfl, rfl, by simp [World.setRow], fun i _ hne => setRow_other wr _ i _ (fun e => hne (by rw [e]))⟩
  refine ⟨⟨below_setRow h.st.below (Nat.le_of_lt h.ne1) _, (g6.block _ (heap_lt h.st.head) (fun e => by injection e with e; have := h.ne1; omega)).trans h.st.head, grown_fldsV h.st.flds g6 h.ne2⟩, grown_u64s h.us g6 (fun ad e => by have := h.low ad e; have := h.ne1; omega), h.low, ?_, h.ne1, h.ne2⟩
  rw [setRow_heap _ _ _ _ _ _ h.blk, hC]
  have : (k.l.zip vals).take (k0 + 1) = (k.l.zip vals).take k0 ++ [(f, v)] := by
    rw [List.take_add_one, (List.getElem?_zip_eq_some (z := (f, v))).2 ⟨hf, hv⟩]; rfl
  rw [this, show hdN ((k.l.zip vals).take k0 ++ [(f, v)]) base = splice (hdN ((k.l.zip vals).take k0) base) f.a.toNat (beB v f.b.toNat) by rw [hdN, List.foldl_append]; rfl]
/-- What a head that is right is. -/
theorem right_ok {op : Int} {now : Bool} {fl : Int} {vals : List Nat} (h : (hdRight op now fl vals).1 = 0) : ∃ k, kindOf op = some k ∧ hdForm k op now fl = false ∧ k.l.length = vals.length ∧ ∀ (j : Nat) (f : Fld) (v : Nat), k.l[j]? = some f → vals[j]? = some v → fitsV f v = true := by
  unfold hdRight at h
  cases hk : kindOf op with
  | none => rw [hk] at h; cases h
  | some k =>
    rw [hk] at h
    simp only at h
    by_cases hx : hdForm k op now fl = true
    · rw [hx] at h; cases h
    · have hx' : hdForm k op now fl = false := by simpa using hx
      rw [hx'] at h
      simp only [Bool.false_eq_true, if_false] at h
      by_cases hn : k.l.length = vals.length
      · obtain ⟨h1, h2⟩ | ⟨j, f, v, h1, -⟩ := firstBad_split k.l vals 0 hn
        · exact ⟨k, rfl, hx', hn, h2⟩
        · rw [h1] at h; simp [hn] at h
      · simp [hn] at h
theorem fits_lt {f : Fld} {v : Nat} (h : fitsV f v = true) (h1 : 1 ≤ f.b) (h8 : f.b ≤ 8) (hv : v < 18446744073709551616) : v < 256 ^ f.b.toNat := by
  unfold fitsV at h
  obtain ⟨b, hb⟩ : ∃ b : Nat, f.b = b := ⟨f.b.toNat, by omega⟩
  rw [hb] at h h1 h8 ⊢
  rw [Int.toNat_natCast] at h ⊢
  rw [show (256 : Nat) = 2 ^ 8 from rfl, ← Nat.pow_mul]
  by_cases h9 : 8 ≤ (b : Int)
  · obtain rfl : b = 8 := by omega
    omega
  · simp only [h9, decide_false, Bool.false_or, beq_iff_eq] at h
    have : (v : Int) / 2 ^ (8 * b) = ((v / 2 ^ (8 * b) : Nat) : Int) := by simp
    rw [this] at h
    have h0 : v / 2 ^ (8 * b) = 0 := by omega
    rw [Nat.div_eq_zero_iff] at h0
    rcases h0 with h0 | h0
    · exact absurd h0 (Nat.pos_iff_ne_zero.1 (Nat.two_pow_pos _))
    · exact h0
def z48 : Array Value := #[.int .u8 0, .int .u8 0, .int .u8 0, .int .u8 0, .int .u8 0, .int .u8 0, .int .u8 0, .int .u8 0, .int .u8 0, .int .u8 0, .int .u8 0, .int .u8 0, .int .u8 0, .int .u8 0, .int .u8 0, .int .u8 0, .int .u8 0, .int .u8 0, .int .u8 0, .int .u8 0, .int .u8 0, .int .u8 0, .int .u8 0, .int .u8 0, .int .u8 0, .int .u8 0, .int .u8 0, .int .u8 0, .int .u8 0, .int .u8 0, .int .u8 0, .int .u8 0, .int .u8 0, .int .u8 0, .int .u8 0, .int .u8 0, .int .u8 0, .int .u8 0, .int .u8 0, .int .u8 0, .int .u8 0, .int .u8 0, .int .u8 0, .int .u8 0, .int .u8 0, .int .u8 0, .int .u8 0, .int .u8 0]
theorem make48 (w : World) : (Instr.makeSlice 84 (.int .i64 48) (.int .i64 48)).run Tryz.prog w = .ok (.slice (some ⟨w.heap.size, 0, none⟩) 48 48) (w.alloc (.cells z48 5)) := by
  have h := run_make_row' (P := Tryz.prog) 84 5 (.int .u8 0) 1 Tryz.underlying84 u8_info rfl .i64 .i64 48 (by omega) (by omega) w
  rw [show madeCells #[.int .u8 0] 48 = z48 from by kernel_rfl] at h
  exact h
theorem base_cells0 (o f wd d : Nat) (h1 : o < 256) (h2 : f < 256) (h3 : wd < 256) (h4 : d < 16777216) : (bytesV (hdBase o false f wd d)).toArray = #[.int .u8 (o : Int), .int .u8 (f : Int), .int .u8 0, .int .u8 0, .int .u8 (wd : Int), .int .u8 ((d : Int) / 65536), .int .u8 ((d : Int) / 256 % 256), .int .u8 ((d : Int) % 256),
    .int .u8 0, .int .u8 0, .int .u8 0, .int .u8 0, .int .u8 0, .int .u8 0, .int .u8 0, .int .u8 0, .int .u8 0, .int .u8 0, .int .u8 0, .int .u8 0, .int .u8 0, .int .u8 0, .int .u8 0, .int .u8 0, .int .u8 0, .int .u8 0, .int .u8 0, .int .u8 0,
    .int .u8 0, .int .u8 0, .int .u8 0, .int .u8 0, .int .u8 0, .int .u8 0, .int .u8 0, .int .u8 0, .int .u8 0, .int .u8 0, .int .u8 0, .int .u8 0, .int .u8 0, .int .u8 0, .int .u8 0, .int .u8 0, .int .u8 0, .int .u8 0, .int .u8 0, .int .u8 0] := by
  congr 1
  simp only [hdBase, bytesV, List.map_append, List.map_cons, List.map_nil, Bool.false_eq_true, if_false, Nat.add_zero]
  rw [ofNat_byte o h1, ofNat_byte f h2, ofNat_byte wd h3, ofNat_byte (d / 65536) (by omega), ofNat_byte (d / 256 % 256) (by omega), ofNat_byte (d % 256) (by omega)]
  simp [List.replicate]
theorem base_cells1 (o f wd d : Nat) (h1 : o < 192) (h2 : f < 256) (h3 : wd < 256) (h4 : d < 16777216) : (bytesV (hdBase o true f wd d)).toArray = #[.int .u8 ((o : Int) + 64), .int .u8 (f : Int), .int .u8 0, .int .u8 0, .int .u8 (wd : Int), .int .u8 ((d : Int) / 65536), .int .u8 ((d : Int) / 256 % 256), .int .u8 ((d : Int) % 256),
    .int .u8 0, .int .u8 0, .int .u8 0, .int .u8 0, .int .u8 0, .int .u8 0, .int .u8 0, .int .u8 0, .int .u8 0, .int .u8 0, .int .u8 0, .int .u8 0, .int .u8 0, .int .u8 0, .int .u8 0, .int .u8 0, .int .u8 0, .int .u8 0, .int .u8 0, .int .u8 0,
    .int .u8 0, .int .u8 0, .int .u8 0, .int .u8 0, .int .u8 0, .int .u8 0, .int .u8 0, .int .u8 0, .int .u8 0, .int .u8 0, .int .u8 0, .int .u8 0, .int .u8 0, .int .u8 0, .int .u8 0, .int .u8 0, .int .u8 0, .int .u8 0, .int .u8 0, .int .u8 0] := by
  congr 1
  simp only [hdBase, bytesV, List.map_append, List.map_cons, List.map_nil, if_true]
  rw [ofNat_byte (o + 64) (by omega), ofNat_byte f h2, ofNat_byte wd h3, ofNat_byte (d / 65536) (by omega), ofNat_byte (d / 256 % 256) (by omega), ofNat_byte (d % 256) (by omega)]
  simp [List.replicate]
set_option maxRecDepth 100000 in
set_option maxHeartbeats 2000000 in
theorem write_any (op : Int) (now : Bool) (fl : Int) (A : Option Addr) (n c : Nat) (vals : List Nat) (words data : Nat) (h0 : -9223372036854775808 ≤ op) (h1 : op ≤ 9223372036854775807) (hfl : fl ≤ 9223372036854775807) (hvl : vals.length = n) (w : World) (hw : Laid w) (hu : U64s w A vals)
    (hr : (hdRight op now fl vals).1 = 0) (hwd : words ≤ 255) (hdt : data ≤ 16777215) (k : Knd) (hk : kindOf op = some k) :
    Calls Tryz.prog 46 #[hdA op now fl A n c, .int .i64 words, .int .i64 data] w fun e w' => e = .returned (.tuple #[.string (bs (hdN (k.l.zip vals) (hdBase op.toNat now fl.toNat words data))), .nilIface]) ∧ Below w.heap.size w w' := by
  obtain ⟨k', hk', hx, hn, hfits⟩ := right_ok hr
  rw [hk] at hk'
  injection hk' with hk'
  subst hk'
  obtain ⟨⟨hm0, hm1⟩, hko, hop0, hop1, hor⟩ := kind_num hk
  obtain ⟨f1, f2, f3⟩ := form_false hx
  have hfle := flags_le (by omega) hfl hm0 (by omega) f3
  obtain ⟨o, rfl⟩ := Int.eq_ofNat_of_zero_le hop0
  obtain ⟨fz, rfl⟩ := Int.eq_ofNat_of_zero_le (by omega : 0 ≤ fl)
  have hR := fun w hw hu => right_any (o : Int) now (fz : Int) A n c vals h0 h1 hvl w hw hu
  have hF := fun w hw => fields_v (o : Int) h0 h1 k hk w hw
  have hmk := make48
  unfold z48 at hmk
  have HR := Lib.hid hR
  have HF := Lib.hid hF
  have HRZ := Lib.hid hr
  have HW := Lib.hid hw
  have HU := Lib.hid hu
  have HFITS := Lib.hid hfits
  have HFIT := Lib.hid (kind_fit hk)
  have HN := Lib.hid hn
  have HVL := Lib.hid hvl
  have HK := Lib.hid hk
  clear hR hF hr hw hu hfits hn hvl hk hko f3 hx f1
  have hflI : (fz : Int) ≤ 255 := by omega
  obtain ⟨base, hbase⟩ : ∃ b, b = hdBase o now fz words data := ⟨_, rfl⟩
  have hblen : base.length = 48 := by rw [hbase]; simp [hdBase]
  rw [Int.toNat_natCast, Int.toNat_natCast, ← hbase]
  have hlow : ∀ ad, A = some ad → ad.block < w.heap.size := fun ad e => by
    have h1 : 1 ≤ vals.length := by rw [← HN.out]; exact kind_ne HK.out
    obtain ⟨ad', e1, e2, _⟩ := HU.out.at_ 0 _ (List.getElem?_eq_getElem h1)
    rw [e] at e1; injection e1 with e1; subst e1; exact e2
  have HLOW := Lib.hid hlow
  have HBASE := Lib.hid hbase
  have HBL := Lib.hid hblen
  clear hlow hbase hblen
  unfold hdA
  go_enter Tryz.func46, Tryz.ntmps46
  go_wp2_with (refine wpList_load_row rfl 37 _ rfl w.heap.size rfl 37 _ _ _ (alloc_heap_new w _) Tryz.underlying37 rfl headinfo ?_)
  refine (HR.out _ (HW.out.below ((Below.refl _ _).alloc (Nat.le_refl _) _)) (HU.out.below ((Below.refl _ _).alloc (Nat.le_refl _) _))).mono ?_
  rintro e w1 ⟨v, rfl, hb, hie⟩
  have hv : v = .nilIface := by
    rcases hie with ⟨he, -⟩ | ⟨hne, -⟩
    · rw [he, HRZ.out]; rfl
    · exact absurd HRZ.out hne
  subst hv
  have hH1 : w1.heap[w.heap.size]? = some (.cells #[.int .i64 o, .bool now, .int .i64 fz, .slice A n c] 37 (0, 0)) := (hb.block _ (by simp)).trans (alloc_heap_new w _)
  have hb1 : Below w.heap.size w w1 := ((Below.refl _ w).alloc (Nat.le_refl _) _).trans (hb.mono (by simp))
  have c0 : w1.cell? ⟨w.heap.size, 0, none⟩ = some (.int .i64 o) := by simp [World.cell?, hH1]
  have c1 : w1.cell? ⟨w.heap.size, 1, none⟩ = some (.bool now) := by simp [World.cell?, hH1]
  have c2 : w1.cell? ⟨w.heap.size, 2, none⟩ = some (.int .i64 fz) := by simp [World.cell?, hH1]
  have hlt1 := heap_lt hH1
  have HH1 := Lib.hid hH1
  have HB1 := Lib.hid hb1
  clear hH1 hb1 hb hie
  have hwdI : (words : Int) ≤ 255 := by omega
  have hdtI : (data : Int) ≤ 16777215 := by omega
  cases now
  all_goals
    go_wp2_with fail
    refine (HF.out _ (HW.out.below (HB1.out.alloc HB1.out.size _))).mono ?_
    rintro e w2 ⟨g, cap, rfl, hb2, hv2, hgl⟩
    have hblk : w2.heap[w1.heap.size]? = some (.cells (bytesV base).toArray 5 (0, 0)) := by
      rw [hb2.block _ (by simp), alloc_heap_new, HBASE.out]
      first | rw [base_cells0 o fz words data (by omega) (by omega) (by omega) (by omega)] | rw [base_cells1 o fz words data (by omega) (by omega) (by omega) (by omega)]
    have hbw2 : Below w1.heap.size w1 w2 := ((Below.refl _ w1).alloc (Nat.le_refl _) _).trans (hb2.mono (by simp))
    have hst : ∃ nb, WrSt w o nb fz A n c g w1.heap.size k vals base 0 w2 := ⟨_, ⟨⟨HB1.out.trans (hbw2.mono HB1.out.size), (hbw2.block _ hlt1).trans HH1.out, hv2⟩, (HU.out.below HB1.out).below hbw2, HLOW.out, hblk, hlt1, by simp at hgl; omega⟩⟩
    have HST := Lib.hid hst
    clear hst hblk hbw2 hb2 hv2 hgl c0 c1 c2
    go_wp2_with fail
    go_loopw [80] (fun i wr => ∃ k0 : Nat, i = .int .i64 k0 ∧ k0 ≤ k.l.length ∧ ∃ nb, WrSt w o nb fz A n c g w1.heap.size k vals base k0 wr) (fun i _ => k.l.length - (intOf i).toNat)
    case atStart => exact ⟨0, rfl, by omega, HST.out⟩
    case round =>
      obtain ⟨k0, rfl, hk0, nb, hst⟩ := hrel
      by_cases hlt : k0 < k.l.length
      · obtain ⟨f, hf⟩ : ∃ f, k.l[k0]? = some f := ⟨_, List.getElem?_eq_getElem hlt⟩
        obtain ⟨v, hv⟩ : ∃ v, vals[k0]? = some v := ⟨_, List.getElem?_eq_getElem (by rw [← HN.out]; exact hlt)⟩
        obtain ⟨d0, d1, d2⟩ := hst.st.flds.fld hf
        obtain ⟨fa, fb1, fb8, fab⟩ := HFIT.out.2 f (List.mem_of_getElem? hf)
        obtain ⟨ad, rfl, hadb, hcell⟩ := hst.us.at_ k0 v hv
        have hvs := hst.us.small v (List.mem_of_getElem? hv)
        have hvp := fits_lt (HFITS.out k0 f v hf hv) fb1 fb8 hvs
        obtain ⟨b, hbb⟩ : ∃ b : Nat, f.b = b := ⟨f.b.toNat, by omega⟩
        obtain ⟨a, haa⟩ : ∃ a : Nat, f.a = a := ⟨f.a.toNat, by omega⟩
        rw [hbb] at d2 fb1 fb8 fab hvp
        rw [haa] at d1 fa fab
        rw [Int.toNat_natCast] at hvp
        have e3 := hst.st.c0.2.2.2
        have hwlt : w.heap.size < wr.heap.size := heap_lt hst.st.head
        have hcell2 : ∀ o : Obj, (wr.alloc o).cell? (ad.add k0) = some (.int .u64 (v : Int)) := fun o => by rw [World.cell?_alloc_old _ _ _ (by rw [block_add]; omega)]; exact hcell
        have hput := fun w => put_any v b w hvp (by omega) (by omega)
        have HPUT := Lib.hid hput
        have HST0 := Lib.hid hst
        have HFF := Lib.hid hf
        have HV := Lib.hid hv
        have HBB := Lib.hid hbb
        have HAA := Lib.hid haa
        have hki : (k0 : Int) < (k.l.length : Int) := by omega
        have hki2 : (k0 : Int) < (n : Int) := by have := HVL.out; have := HN.out; omega
        have hl12 := HFIT.out.1
        clear hst hf hv hbb haa hvs hput hcell hvp
        go_wp2_with fail
        go_region_held3 (fun w' => w'.cell? ⟨w.heap.size, 3, none⟩ = some (.slice (some ad) n c) ∧ w'.cell? (ad.add k0) = some (.int .u64 (v : Int)) ∧ w'.cell? ⟨wr.heap.size, 2, none⟩ = some (.int .i64 (b : Int))) (go_keep) ((go_at_call 68; refine (HPUT.out _).mono ?_; rintro e w6 ⟨rfl, hb6⟩; have hbA := below_undrew hb6; have hst6 := (HST0.out.later ((Below.refl _ wr).alloc (Nat.le_refl _) _)).later hbA; have x1 := hst6.st.c0.2.2.2; have x2 := (hbA.cell (p := ad.add k0) (by rw [block_add]; simp; omega)).trans (hcell2 _); have x3 : w6.cell? ⟨wr.heap.size, 2, none⟩ = some (.int .i64 (b : Int)) := ((hbA.cell (p := ⟨wr.heap.size, 2, none⟩) (by simp)).trans (by rw [World.cell?_alloc_at _ _ _ _ rfl]; rfl)); have x4 : w6.cell? ⟨wr.heap.size, 1, none⟩ = some (.int .i64 (a : Int)) := ((hbA.cell (p := ⟨wr.heap.size, 1, none⟩) (by simp)).trans (by rw [World.cell?_alloc_at _ _ _ _ rfl]; rfl)); have HST6 := Lib.hid hst6; clear hst6 hbA hb6))
        have ha48 : a ≤ 47 := by omega
        have ha1 : ¬ 48 = a := by omega
        have ha2 : (a : Int) ≤ 48 := by omega
        have hbl := hdN_len ((k.l.zip vals).take k0) base (fun x hx => by
          obtain ⟨i, hi⟩ := List.mem_iff_getElem?.1 hx
          rw [List.getElem?_take] at hi
          split at hi
          · rw [List.getElem?_zip_eq_some] at hi
            exact HFIT.out.2 _ (List.mem_of_getElem? hi.1)
          · cases hi) HBL.out
        have hcp := Lib.run_copy_row_string (P := Tryz.prog) w6 84 9 3 5 w1.heap.size a (48 - a) (48 - a) (bs (beB v b)) _ 5 Tryz.underlying84 u8_size HST6.out.blk (by rw [bs_size, beB_len]; omega) (by rw [bs_size, beB_len]; simp [bytesV, hbl]; omega)
        rw [splice_cells] at hcp
        have HCP := Lib.hid hcp
        clear hcp hbl
        go_wp2_with (refine Lib.wpList_copy_run _ rfl (.tmp 99) (.tmp 100) 84 9 rfl _ _ rfl rfl HCP.out ?_)
        go_roundw
        case rel =>
          refine ⟨k0 + 1, by go_num, by omega, nb, HST6.out.copied HFF.out HV.out _ ?_⟩
          rw [HAA.out, HBB.out, bs_data]
          rfl
        case measure => simp [intOf]; omega
      · obtain rfl : k0 = k.l.length := by omega
        have hzl : (k.l.zip vals).take k.l.length = k.l.zip vals := by
          rw [List.take_of_length_le]
          rw [List.length_zip]; exact Nat.min_le_left _ _
        have hblk := hst.blk
        rw [hzl] at hblk
        have hbl := hdN_len (k.l.zip vals) base (fun x hx => by
          obtain ⟨i, hi⟩ := List.mem_iff_getElem?.1 hx
          rw [List.getElem?_zip_eq_some] at hi
          exact HFIT.out.2 _ (List.mem_of_getElem? hi.1)) HBL.out
        have hcs := conv_str wr ⟨w1.heap.size, 0, none⟩ 48 48 (hdN (k.l.zip vals) base) hbl (fun j hj => by
          rw [addr_add0]
          simp only [World.cell?, hblk, Nat.zero_add]
          simp [bytesV, hj])
        have HST0 := Lib.hid hst
        clear hst hblk hbl hzl
        go_wp2_with fail
        go_ret2
        exact ⟨rfl, HST0.out.st.below⟩
end Go.Proofs.YtincgdbfmnnpaaaGreatDoor

/- head.Read: what is refused. -/
namespace Go.Proofs.YtincgdbfmnnpaaaGreatDoor
open Go.RowKit
theorem results_cell3' : True := trivial
set_option maxRecDepth 100000 in
theorem read_size (s : ByteArray) (w : World) (h : (((s.size : Nat) : Int) != 48) = true) : Calls Tryz.prog 32 #[.string s] w fun e w' =>
    e = .returned (.tuple #[hzV, .int .i64 0, .int .i64 0, errV 7]) ∧ Below w.heap.size w w' := by
  go_enter Tryz.func32, Tryz.ntmps32
  go_wp2_with (first
    | (refine wpList_load_row rfl 37 _ rfl w.heap.size rfl 37 _ _ _ (alloc_heap_new w _) Tryz.underlying37 rfl headinfo ?_)
    | (refine wpList_store_row rfl 37 _ _ rfl w.heap.size #[.int .i64 0, .bool false, .int .i64 0, .slice none 0 0] rfl rfl 37 _ (alloc_heap_new w _) headinfo rfl (by simp [Value.oneCell']) ?_))
  refine bodyPost_ret (results_cell3 Tryz.results32 _ _ w.heap.size [.int .i64 0, .bool false, .int .i64 0, .slice none 0 0] _ rfl (range_of_heap (setRow_heap _ _ _ _ _ _ (alloc_heap_new w _))) Tryz.underlying37 rfl headinfo) rfl ⟨rfl, below_setRow (below_alloc (Below.refl _ _) (Nat.le_refl _) _) (Nat.le_refl _) _⟩
set_option maxRecDepth 100000 in
theorem read_high (s : ByteArray) (w : World) (h : s.size = 48) (q1 : 128 ≤ (s[0].toNat : Int)) : Calls Tryz.prog 32 #[.string s] w fun e w' =>
    e = .returned (.tuple #[hzV, .int .i64 0, .int .i64 0, errV 3]) ∧ Below w.heap.size w w' := by
  have h0 : (((s.size : Nat) : Int) != 48) = false := by simp [h]
  have h1 : (0 : Int) < (s.size : Int) := by omega
  go_enter Tryz.func32, Tryz.ntmps32
  go_wp2_with (first
    | (refine wpList_load_row rfl 37 _ rfl w.heap.size rfl 37 _ _ _ (alloc_heap_new w _) Tryz.underlying37 rfl headinfo ?_)
    | (refine wpList_store_row rfl 37 _ _ rfl w.heap.size #[.int .i64 0, .bool false, .int .i64 0, .slice none 0 0] rfl rfl 37 _ (alloc_heap_new w _) headinfo rfl (by simp [Value.oneCell']) ?_))
  refine bodyPost_ret (results_cell3 Tryz.results32 _ _ w.heap.size [.int .i64 0, .bool false, .int .i64 0, .slice none 0 0] _ rfl (range_of_heap (setRow_heap _ _ _ _ _ _ (alloc_heap_new w _))) Tryz.underlying37 rfl headinfo) rfl ⟨rfl, below_setRow (below_alloc (Below.refl _ _) (Nat.le_refl _) _) (Nat.le_refl _) _⟩
set_option maxRecDepth 100000 in
theorem read_none (s : ByteArray) (w : World) (hw : Laid w) (h : s.size = 48) (q1 : ¬ 128 ≤ (s[0].toNat : Int)) (q2 : kindOf ((s[0].toNat : Int) % 64) = none) : Calls Tryz.prog 32 #[.string s] w fun e w' =>
    e = .returned (.tuple #[hzV, .int .i64 0, .int .i64 0, errV 1]) ∧ Below w.heap.size w w' := by
  have h0 : (((s.size : Nat) : Int) != 48) = false := by simp [h]
  have h1 : (0 : Int) < (s.size : Int) := by omega
  have h2 : (1 : Int) < (s.size : Int) := by omega
  have hw1 := IntWalk.i64_in ((s[1].toNat : Nat) : Int) (by have := s[1].toNat_lt; omega)
  have hF := fun w hw => fields_none ((s[0].toNat : Int) % 64) (by omega) (by omega) q2 w hw
  have HF := Lib.hid hF
  have HW := Lib.hid hw
  clear hF hw q2
  go_enter Tryz.func32, Tryz.ntmps32
  go_wp2_with fail
  go_region
  go_wp2_with fail
  refine (HF.out _ (HW.out.below (Below.alloc (Below.refl _ _) (Nat.le_refl _) _).drew)).mono ?_
  rintro e w1 ⟨rfl, hb⟩
  have hH : ∃ cs : List Value, cs.length = 4 ∧ w1.heap[w.heap.size]? = some (.cells cs.toArray 37 (0, 0)) := ⟨[_, _, _, _], rfl, (hb.block _ (by simp)).trans (alloc_heap_new w _)⟩
  have hbb : Below w.heap.size w w1 := (Below.alloc (Below.refl _ w) (Nat.le_refl _) _).trans ((below_undrew hb).mono (by simp))
  obtain ⟨cs, hcs, hH⟩ := hH
  match cs, hcs with
  | [x0, x1, x2, x3], _ =>
  have HH := Lib.hid hH
  clear hH hb
  go_wp2_with (first
    | (refine wpList_store_row rfl 37 _ _ rfl w.heap.size #[.int .i64 0, .bool false, .int .i64 0, .slice none 0 0] rfl rfl 37 _ HH.out headinfo rfl (by simp [Value.oneCell']) ?_))
  refine bodyPost_ret (results_cell3 Tryz.results32 _ _ w.heap.size [.int .i64 0, .bool false, .int .i64 0, .slice none 0 0] _ rfl (range_of_heap (setRow_heap _ _ _ _ _ _ HH.out)) Tryz.underlying37 rfl headinfo) rfl ⟨rfl, below_setRow hbb (Nat.le_refl _) _⟩
end Go.Proofs.YtincgdbfmnnpaaaGreatDoor
