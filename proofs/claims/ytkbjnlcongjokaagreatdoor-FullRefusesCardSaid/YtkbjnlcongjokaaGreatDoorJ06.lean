/- quaymasterlaw.FullRefuses returns true and leaves its arguments as they were, for every pair of numbers, every head and every reason; condition: the listed package-level variables hold what the program's text lays. -/
import Derived.Test.YtkbjnlcongjokaaGreatDoorJ05
import Derived.Test.YtkbjnlcongjokaaGreatDoorJ03
import Derived.Test.YtkbjnlcongjokaaGreatDoorCards
import Derived.Test.YtkbjnlcongjokaaGreatDoorTie
import Derived.Test.YtkbjnlcongjokaaGreatDoorJ02
import Derived.ProofKit
import Derived.SizedLaws
import Derived.Below
import Derived.OpenShut
import Derived.Deep.DeepHandedRow
import Derived.Deep.DeepWitnessRowRef
/- quaymasterlaw.FullRefuses: the walk. -/
namespace Go.Proofs.YtkbjnlcongjokaaGreatDoor
open Go.RowKit
/-- Both sessions stand. -/
structure RfSt (w : World) (rb xb n1 n2 g1 g2 : Nat) (s1 s2 cm : Nat) (wr : World) : Prop where
  below : Below w.heap.size w wr
  r : wr.heap[rb]? = some (.cells (fullC (.pointer (some ⟨n1, 0, none⟩)) cf0 ⟨#[]⟩ true s1 cm (.pointer (some ⟨g1, 0, none⟩)) (.slice none 0 0) false) 65 (0, 0))
  x : wr.heap[xb]? = some (.cells (fullC (.pointer (some ⟨n2, 0, none⟩)) cf0 ⟨#[]⟩ true s2 cm (.pointer (some ⟨g2, 0, none⟩)) (.slice none 0 0) false) 94 (0, 0))
  lt : w.heap.size ≤ rb ∧ w.heap.size ≤ xb ∧ rb ≠ xb
theorem RfSt.later {w : World} {rb xb n1 n2 g1 g2 s1 s2 cm : Nat} {wr w' : World} (h : RfSt w rb xb n1 n2 g1 g2 s1 s2 cm wr) (hb : Below wr.heap.size wr w') : RfSt w rb xb n1 n2 g1 g2 s1 s2 cm w' :=
  ⟨h.below.trans (hb.mono h.below.size), (hb.block _ (heap_lt h.r)).trans h.r, (hb.block _ (heap_lt h.x)).trans h.x, h.lt⟩
theorem belX_under {w wr w' : World} {x : Nat} (h : Below w.heap.size w wr) (hx : BelX wr.heap.size x wr w') (hl : w.heap.size ≤ x) : Below w.heap.size w w' :=
  ⟨hx.os.trans h.os, hx.tape.trans h.tape, hx.output.trans h.output, Nat.le_trans h.size hx.size, fun k hk => (hx.block k (Nat.lt_of_lt_of_le hk h.size) (by omega)).trans (h.block k hk)⟩
theorem fullgt2 {w : World} {bf : Nat} {N : Value} {cf : List Value} {tg : ByteArray} {di : Bool} {st cm : Int} {G L : Value} {cl : Bool} {T : TypeId} (hc : cf.length = 7) (h : w.heap[bf]? = some (.cells (fullC N cf tg di st cm G L cl) T (0, 0))) :
    w.cell? ⟨bf, 10, none⟩ = some (.int .u32 st) ∧ w.cell? ⟨bf, 11, none⟩ = some (.int .u32 cm) := ⟨(fullgt hc h).1, (fullgt hc h).2.1⟩
theorem box6 {w : World} {b : Nat} {x0 x1 x2 x3 x4 x5 : Value} {T : TypeId} (h : w.heap[b]? = some (.cells #[x0, x1, x2, x3, x4, x5] T (0, 0))) :
    w.cell? ⟨b, 0, none⟩ = some x0 ∧ w.cell? ⟨b, 1, none⟩ = some x1 ∧ w.cell? ⟨b, 2, none⟩ = some x2 ∧ w.cell? ⟨b, 3, none⟩ = some x3 ∧ w.cell? ⟨b, 4, none⟩ = some x4 ∧ w.cell? ⟨b, 5, none⟩ = some x5 := by
  simp [World.cell?, h]
set_option maxRecDepth 100000 in
set_option maxHeartbeats 4000000 in
theorem refuses_any (st cm : Nat) (h : ByteArray) (r : Int) (w : World) (hst : st ≤ 4294967295) (hcm : cm ≤ 4294967295) (hw : Laid w) (he : ErrTy w) :
    Calls Tryz.prog 3 #[.int .u32 (st : Int), .int .u32 (cm : Int), .string h, .int .i64 r] w fun e w' => e = .returned (.bool true) ∧ Below w.heap.size w w' := by
  have HW := Lib.hid hw
  have HE := Lib.hid he
  clear hw he
  by_cases h100 : 100 < h.size
  · go_enter Tryz.func3, Tryz.ntmps3
    go_wp2_with fail
    go_ret
    exact ⟨rfl, Below.refl _ _⟩
  · go_enter Tryz.func3, Tryz.ntmps3
    go_wp2_with fail
    refine (newNego_nil _).mono ?_
    rintro e w1 ⟨n1, rfl, hb1, hn1, -⟩
    have hB1 : Below w.heap.size w w1 := (below_alloc (Below.refl _ w) (Nat.le_refl _) _).trans (hb1.mono (by simp))
    have hC1 : w1.heap[w.heap.size]? = some (.cells cf0.toArray 30 (0, 0)) := (hb1.block _ (by simp)).trans (alloc_heap_new w _)
    have hB2 := below_alloc hB1 (Nat.le_refl _) (.cells (fc0 0 (-1)) 34)
    have hC2 := (Below.heap_alloc w1 (.cells (fc0 0 (-1)) 34) _ (heap_lt hC1)).trans hC1
    have HB2 := Lib.hid hB2
    have HC2 := Lib.hid hC2
    clear hb1 hn1 hB1 hC1 hB2 hC2
    go_wp2_with fail
    refine (negoNew_nil _).mono ?_
    rintro e w2 ⟨rfl, rfl⟩
    go_wp2_with fail
    refine (faultIs_any _ _ _).mono ?_
    rintro e w3 ⟨rfl, hb3⟩
    rw [show ((0 : Int) == 0) = true from rfl]
    have hB3 := (below_alloc HB2.out (Nat.le_refl _) _).trans (hb3.mono (below_alloc HB2.out (Nat.le_refl _) _).size)
    have hC3 := (hb3.block _ (by have := heap_lt HC2.out; simp at this ⊢; omega)).trans ((Below.heap_alloc _ _ _ (heap_lt HC2.out)).trans HC2.out)
    obtain ⟨c0, c1, c2, c3, c4, c5, c6⟩ := box7c hC3
    have HB3 := Lib.hid hB3
    have HC3 := Lib.hid hC3
    clear hb3 hB3 hC3
    go_wp2_with fail
    refine (newFull_0 n1 st cm _).mono ?_
    rintro e w4 ⟨rb, g1, rfl, hb4, hrb, hR⟩
    clear c0 c1 c2 c3 c4 c5 c6
    have hB4 := HB3.out.trans (hb4.mono HB3.out.size)
    have hC4 := (hb4.block _ (heap_lt HC3.out)).trans HC3.out
    have hB5 := below_alloc hB4 (Nat.le_refl _) (.cells (fc0 0 (-1)) 34)
    have hC5 := (Below.heap_alloc w4 (.cells (fc0 0 (-1)) 34) _ (heap_lt hC4)).trans hC4
    have hR5 := (Below.heap_alloc w4 (.cells (fc0 0 (-1)) 34) _ (heap_lt hR)).trans hR
    have hrl : rb < w4.heap.size := heap_lt hR
    have hz4 : w.heap.size ≤ w3.heap.size := HB3.out.size
    obtain ⟨c0, c1, c2, c3, c4, c5, c6⟩ := box7c hC5
    generalize w1.heap.size + 1 = n2
    have HB5 := Lib.hid hB5
    have HR5 := Lib.hid hR5
    clear hb4 hB4 hC4 hB5 hC5 hR5 hR
    go_wp2_with fail
    refine (fullNew_0 n2 st cm _).mono ?_
    rintro e w5 ⟨xb, g2, rfl, hb6, hxb, hX⟩
    clear c0 c1 c2 c3 c4 c5 c6
    have hsr : RfSt w rb xb n1 n2 g1 g2 st st cm w5 := ⟨HB5.out.trans (hb6.mono HB5.out.size), (hb6.block _ (heap_lt HR5.out)).trans HR5.out, hX, by simp at hxb; omega⟩
    have HSR := Lib.hid hsr
    clear hsr hb6 hX hxb hrb hz4
    go_wp2_with fail
    by_cases hej : rjErr h.size r = 0
    · obtain ⟨rn, hrn⟩ : ∃ rn : Nat, r = rn := by
        unfold rjErr at hej
        refine ⟨r.toNat, ?_⟩
        by_cases h1 : r < 0 ∨ 255 < r
        · rw [if_pos h1] at hej; cases hej
        · omega
      subst hrn
      have hj : rn ≤ 255 ∧ h.size = 48 := by
        unfold rjErr at hej
        by_cases h1 : (rn : Int) < 0 ∨ 255 < (rn : Int)
        · rw [if_pos h1] at hej; cases hej
        · rw [if_neg h1] at hej
          by_cases h2 : h.size ≠ 48
          · rw [if_pos h2] at hej; cases hej
          · exact ⟨by omega, by omega⟩
      clear hej
      refine (refRefuse_good rb h rn hj.1 hj.2 _ cf0 _ _ st cm _ _ _ w5 HSR.out.r rfl hst hcm).mono ?_
      rintro e w6 ⟨v, rfl, hx6, hr6, ho6⟩
      obtain ⟨A1, a1, rfl, hra6⟩ := own_rowV ho6
      have hlt := HSR.out.lt
      have hsr6 : RfSt w rb xb n1 n2 g1 g2 ((st + 1) % 4294967296) st cm w6 := ⟨belX_under HSR.out.below hx6 hlt.1, hr6, (hx6.block xb (heap_lt HSR.out.x) (fun e => hlt.2.2 e.symm)).trans HSR.out.x, hlt⟩
      have hsr7 := hsr6.later (below_alloc (Below.refl _ w6) (Nat.le_refl _) (.cells (pdu6 63 128 (.slice A1 6 a1) h).toArray 54))
      have hbx7 := alloc_heap_new w6 (.cells (pdu6 63 128 (.slice A1 6 a1) h).toArray 54)
      have ho7 := ho6.alloc (.cells (pdu6 63 128 (.slice A1 6 a1) h).toArray 54)
      have hxl5 : xb < w5.heap.size := heap_lt HSR.out.x
      have hxl6 : xb < w6.heap.size := Nat.lt_of_lt_of_le hxl5 hx6.size
      have hG := frefuse_good xb h rn hj.1 hj.2 _ cf0 _ _ st cm _ _ _ _ (fun w' hx => HW.out.below (belX_under hsr7.below hx hlt.2.1)) hsr7.x rfl hst hcm
      have HG := Lib.hid hG
      have HSR7 := Lib.hid hsr7
      have HBX7 := Lib.hid hbx7
      have HO7 := Lib.hid ho7
      clear hG hsr6 hsr7 hbx7 ho7 hra6 ho6 hr6 hx6
      go_wp2_with fail
      refine HG.out.mono ?_
      rintro e w8 ⟨gv, rfl, hx8, hf8, hgv, hout⟩
      have hsr8 : RfSt w rb xb n1 n2 g1 g2 ((st + 1) % 4294967296) ((st + 1) % 4294967296) cm w8 := ⟨belX_under HSR7.out.below hx8 hlt.2.1, (hx8.block rb (heap_lt HSR7.out.r) hlt.2.2).trans HSR7.out.r, hf8, hlt⟩
      have hbx8 := (hx8.block _ (heap_lt HBX7.out) (by omega)).trans HBX7.out
      have ho8 := HO7.out.kept (row := some xb) ⟨hx8.os, hx8.tape, hx8.output, hx8.size, fun k hk hne => hx8.block k hk (fun e => hne (by rw [e]))⟩ (by
        cases e : (Value.slice A1 6 a1).ownBlock with
        | none => exact .inl rfl
        | some q => exact .inr (fun e2 => by injection e2 with e2; have := (HO7.out.lt q e).1; omega))
      have hra8 : RowV w8 A1 (rejI rn st cm) := by
        obtain ⟨A, c, e1, h1⟩ := own_rowV ho8
        injection e1 with e11 e12 e13
        subst e11
        exact h1
      have hrb8 : RowV w8 (some ⟨gv, 0, none⟩) (rejI rn st cm) := ⟨fun j u hu => ⟨gv, rfl, heap_lt hout, by
        rw [← rejI_V] at hu
        simp [World.cell?, hout, u64V, hu]⟩⟩
      clear ho8 hx8 hf8 hout
      have hP9 := hbx8
      have hQ9 := alloc_heap_new w8 (.cells (pdu6 63 128 (.slice (some ⟨gv, 0, none⟩) 6 6) h).toArray 54)
      have hP10 := (Below.heap_alloc w8 (.cells (pdu6 63 128 (.slice (some ⟨gv, 0, none⟩) 6 6) h).toArray 54) _ (heap_lt hP9)).trans hP9
      have hsr9 := hsr8.later (below_alloc (Below.refl _ w8) (Nat.le_refl _) (.cells (pdu6 63 128 (.slice (some ⟨gv, 0, none⟩) 6 6) h).toArray 54))
      have hra9 := hra8.below (below_alloc (Below.refl _ w8) (Nat.le_refl _) (.cells (pdu6 63 128 (.slice (some ⟨gv, 0, none⟩) 6 6) h).toArray 54))
      have hrb9 := hrb8.below (below_alloc (Below.refl _ w8) (Nat.le_refl _) (.cells (pdu6 63 128 (.slice (some ⟨gv, 0, none⟩) 6 6) h).toArray 54))
      have hN := fnext_any xb _ cf0 _ _ _ _ _ _ _ _ hsr9.x rfl
      have HN := Lib.hid hN
      have HP10 := Lib.hid hP10
      have HQ9 := Lib.hid hQ9
      have HSR9 := Lib.hid hsr9
      have HRA9 := Lib.hid hra9
      have HRB9 := Lib.hid hrb9
      clear hN hP9 hP10 hQ9 hsr9 hra9 hrb9 hsr8 hra8 hrb8 hbx8
      go_wp2_with fail
      refine HN.out.mono ?_
      rintro e w9 ⟨rfl, nn, rfl⟩
      go_wp2_with fail
      have hsd := HSR9.out.later (below_drewN (Below.refl _ _) nn)
      refine (bare_any .nilIface 0 (-1) 0 _ (HE.out.below hsd.below) (.inl ⟨rfl, rfl⟩)).mono ?_
      rintro e w10 ⟨rfl, hb10⟩
      rw [show bareB 0 (-1) 0 = true from by decide]
      have hbd : Below (w8.alloc (.cells (pdu6 63 128 (.slice (some ⟨gv, 0, none⟩) 6 6) h).toArray 54)).heap.size (w8.alloc (.cells (pdu6 63 128 (.slice (some ⟨gv, 0, none⟩) 6 6) h).toArray 54)) w10 := (below_drewN (Below.refl _ _) nn).trans hb10
      have hsr10 := HSR9.out.later hbd
      obtain ⟨p0, p1, p2, p3, p4, p5⟩ := box6 ((hbd.block _ (heap_lt HP10.out)).trans HP10.out)
      obtain ⟨q0, q1, q2, q3, q4, q5⟩ := box6 ((hbd.block _ (heap_lt HQ9.out)).trans HQ9.out)
      have hS := same_any 63 false 128 h (rejI rn st cm) [] 6 0 A1 none (some ⟨gv, 0, none⟩) none a1 0 6 0 w10 (HRA9.out.below hbd) (HRB9.out.below hbd) (rowV_nil _ _) (rowV_nil _ _) rfl rfl (by intro u hu; simp [rejI] at hu; try (rcases hu with rfl | rfl | rfl | rfl | rfl | rfl <;> exact ⟨_, rfl⟩)) (by decide) (by decide)
      have HS := Lib.hid hS
      have HSR10 := Lib.hid hsr10
      clear hS hsr10 hb10 hbd hsd
      go_wp2_with fail
      refine HS.out.mono ?_
      rintro e w11 ⟨rfl, hb11⟩
      clear p0 p1 p2 p3 p4 p5 q0 q1 q2 q3 q4 q5
      have hsr11 := HSR10.out.later hb11
      obtain ⟨x10, x11⟩ := fullgt2 rfl hsr11.r
      have HSR11 := Lib.hid hsr11
      clear hsr11 hb11
      go_wp2_with fail
      go_ret
      exact ⟨rfl, HSR11.out.below⟩
    · refine (refRefuse_bad _ h r w5 hej).mono ?_
      rintro e w6 ⟨rfl, hb6⟩
      have hsr6 := HSR.out.later hb6
      have hsr7 := hsr6.later (below_alloc (Below.refl _ w6) (Nat.le_refl _) (.cells pz6.toArray 54))
      have hbx7 := alloc_heap_new w6 (.cells pz6.toArray 54)
      have hG := fun p W => frefuse_bad p h r W hej
      obtain ⟨c, hc⟩ : ∃ c, c = rjErr h.size r := ⟨_, rfl⟩
      rw [← hc] at hG ⊢
      have HG := Lib.hid hG
      have HSR7 := Lib.hid hsr7
      have HBX7 := Lib.hid hbx7
      clear hG hsr6 hsr7 hbx7 hb6 hc hej
      go_wp2_with fail
      refine (HG.out _ _).mono ?_
      rintro e w8 ⟨rfl, hb8⟩
      have hsr8 := HSR7.out.later hb8
      have hbx8 := (hb8.block _ (heap_lt HBX7.out)).trans HBX7.out
      have hra8 := rowV_nil w8 none
      have hrb8 := rowV_nil w8 none
      clear hb8
      have hP9 := hbx8
      have hQ9 := alloc_heap_new w8 (.cells (pdu6 0 0 (.slice none 0 0) ⟨#[]⟩).toArray 54)
      have hP10 := (Below.heap_alloc w8 (.cells (pdu6 0 0 (.slice none 0 0) ⟨#[]⟩).toArray 54) _ (heap_lt hP9)).trans hP9
      have hsr9 := hsr8.later (below_alloc (Below.refl _ w8) (Nat.le_refl _) (.cells (pdu6 0 0 (.slice none 0 0) ⟨#[]⟩).toArray 54))
      have hra9 := hra8.below (below_alloc (Below.refl _ w8) (Nat.le_refl _) (.cells (pdu6 0 0 (.slice none 0 0) ⟨#[]⟩).toArray 54))
      have hrb9 := hrb8.below (below_alloc (Below.refl _ w8) (Nat.le_refl _) (.cells (pdu6 0 0 (.slice none 0 0) ⟨#[]⟩).toArray 54))
      have hN := fnext_any xb _ cf0 _ _ _ _ _ _ _ _ hsr9.x rfl
      have HN := Lib.hid hN
      have HP10 := Lib.hid hP10
      have HQ9 := Lib.hid hQ9
      have HSR9 := Lib.hid hsr9
      have HRA9 := Lib.hid hra9
      have HRB9 := Lib.hid hrb9
      clear hN hP9 hP10 hQ9 hsr9 hra9 hrb9 hsr8 hra8 hrb8 hbx8
      go_wp2_with fail
      refine HN.out.mono ?_
      rintro e w9 ⟨rfl, nn, rfl⟩
      go_wp2_with fail
      have hsd := HSR9.out.later (below_drewN (Below.refl _ _) nn)
      refine (bare_any (errV c) c (-1) c _ (HE.out.below hsd.below) (.inl ⟨rfl, rfl⟩)).mono ?_
      rintro e w10 ⟨rfl, hb10⟩
      rw [show bareB c (-1) c = true from by simp [bareB]]
      have hbd : Below (w8.alloc (.cells (pdu6 0 0 (.slice none 0 0) ⟨#[]⟩).toArray 54)).heap.size (w8.alloc (.cells (pdu6 0 0 (.slice none 0 0) ⟨#[]⟩).toArray 54)) w10 := (below_drewN (Below.refl _ _) nn).trans hb10
      have hsr10 := HSR9.out.later hbd
      obtain ⟨p0, p1, p2, p3, p4, p5⟩ := box6 ((hbd.block _ (heap_lt HP10.out)).trans HP10.out)
      obtain ⟨q0, q1, q2, q3, q4, q5⟩ := box6 ((hbd.block _ (heap_lt HQ9.out)).trans HQ9.out)
      have hS := same_any 0 false 0 ⟨#[]⟩ ([]) [] 0 0 none none none none 0 0 0 0 w10 (HRA9.out.below hbd) (HRB9.out.below hbd) (rowV_nil _ _) (rowV_nil _ _) rfl rfl (by intro u hu; simp [rejI] at hu; try (rcases hu with rfl | rfl | rfl | rfl | rfl | rfl <;> exact ⟨_, rfl⟩)) (by decide) (by decide)
      have HS := Lib.hid hS
      have HSR10 := Lib.hid hsr10
      clear hS hsr10 hb10 hbd hsd
      go_wp2_with fail
      refine HS.out.mono ?_
      rintro e w11 ⟨rfl, hb11⟩
      clear p0 p1 p2 p3 p4 p5 q0 q1 q2 q3 q4 q5
      have hsr11 := HSR10.out.later hb11
      obtain ⟨x10, x11⟩ := fullgt2 rfl hsr11.r
      have HSR11 := Lib.hid hsr11
      clear hsr11 hb11
      go_wp2_with fail
      go_ret
      exact ⟨rfl, HSR11.out.below⟩
end Go.Proofs.YtkbjnlcongjokaaGreatDoor

namespace Go.Proofs.YtkbjnlcongjokaaGreatDoor
open Go.ChangeShapes Go.WideShapes Go.ChangeAt Go.RowKit Go.Deep Go.ChangeMaps
theorem u32_nat {n : Int} (h : (Lit.int .u32 n).wf = true) : ∃ k : Nat, n = k ∧ k ≤ 4294967295 := by
  have h1 : IntKind.u32.min = 0 := rfl
  have h2 : IntKind.u32.max = 4294967295 := rfl
  simp only [Lit.wf, Bool.and_eq_true, decide_eq_true_eq] at h
  exact ⟨n.toNat, by omega, by omega⟩
set_option maxRecDepth 100000 in
theorem contract (H : Type) (enc : TypeId × Value → H) (W : World) (base : Nat) (args : Array Value) (ds gs : List (DataW H)) (before : List MemPlace)
    (hval : ∀ (j : Nat) t v, Tryz.f3.params[j]? = some t → args[j]? = some v → Value.okWide Tryz.prog W .any base t v)
    (hW : DataW.Whole enc Tryz.prog Tryz.f3.params.toList Rows.fullRefusesSpec.vars false W args.toList ds gs before) (hL : laidMetH Tryz.prog rowLaid W) (hsh : W.ShapedOpen Tryz.prog) :
    Calls Tryz.prog 3 args W fun e W' => ∃ v, e = .returned v ∧ Rows.fullRefusesSpec.post enc Tryz.prog Tryz.f3 false true false false W args v W' := by
  have hW' := hW
  obtain ⟨p, q, hA0, hV, rfl, hfz, hnd⟩ := hW
  have hA : DataW.TrodAll enc Tryz.prog W 0 (fun _ => true) true Tryz.f3.params.toList args.toList ds p := hA0
  rw [Tryz.params3] at hA hval
  obtain ⟨v0, vs0, d0, ds0, p0, q0, hargs, rfl, rfl, h0, r0⟩ := trodAll_cons hA
  obtain ⟨v1, vs1, d1, ds1, p1, q1, rfl, rfl, rfl, h1, r1⟩ := trodAll_cons r0
  obtain ⟨v2, vs2, d2, ds2, p2, q2, rfl, rfl, rfl, h2, r2⟩ := trodAll_cons r1
  obtain ⟨v3, vs3, d3, ds3, p3, q3, rfl, rfl, rfl, h3, r3⟩ := trodAll_cons r2
  obtain ⟨rfl, rfl, rfl⟩ := trodAll_nil r3
  obtain rfl : args = #[v0, v1, v2, v3] := by cases args; simp_all
  obtain ⟨rfl, rfl⟩ := trodVars_none hV
  obtain ⟨st, rfl, rfl, rfl, hwf0⟩ := open_int Tryz.underlying22 (hval 0 22 v0 rfl rfl) h0
  obtain ⟨cm, rfl, rfl, rfl, hwf1⟩ := open_int Tryz.underlying22 (hval 1 22 v1 rfl rfl) h1
  obtain ⟨h, rfl, rfl, rfl, hs⟩ := open_string Tryz.underlying9 (hval 2 9 v2 rfl rfl) h2
  obtain ⟨r, rfl, rfl, rfl, hwf3⟩ := open_int Tryz.underlying3 (hval 3 3 v3 rfl rfl) h3
  clear hA0
  simp only [List.append_nil] at hW'
  obtain ⟨s, rfl, hs1⟩ := u32_nat hwf0
  obtain ⟨c, rfl, hc1⟩ := u32_nat hwf1
  obtain ⟨hlaid, herr⟩ := laid_of_row hL hsh
  refine (refuses_any s c h r W hs1 hc1 hlaid herr).mono fun e W' hp => ?_
  obtain ⟨rfl, hbel⟩ := hp
  refine ⟨_, rfl, _, _, _, [], [], [], hW', ?_, ?_, rfl, hbel.frame _, fun h => by cases h⟩
  · exact trodAll_mk1 (shut_bool Tryz.underlying4 true)
  · exact trodAll_cons_mk (shut_int Tryz.underlying22 hwf0) (trodAll_cons_mk (shut_int Tryz.underlying22 hwf1) (trodAll_cons_mk (shut_string Tryz.underlying9 hs) (trodAll_mk1 (shut_int Tryz.underlying3 hwf3))))
theorem reads (os : Os) {H : Type} (enc : TypeId × Value → H) : ∃ places, DataW.whole enc Tryz.prog ((laidWorld os).forCall (fun _ _ => 0) ⟨#[], #[.int .u32 0, .int .u32 0, .string ⟨#[]⟩, .int .i64 0], []⟩).memory Tryz.f3.params.toList Rows.fullRefusesSpec.vars false #[Value.int .u32 0, .int .u32 0, .string ⟨#[]⟩, .int .i64 0].toList 8 =
    some ([.lit (.int .u32 0), .lit (.int .u32 0), .lit (.string []), .lit (.int .i64 0)], [], places) :=
  ⟨[], by kernel_rfl⟩
set_option maxRecDepth 100000 in
theorem lifted (os : Os) (started : os.Started) (H : Type) (enc : TypeId × Value → H) (F : Stop.Interp) :
    ReturnsInHanded {} Tryz.checked os 3 .any ((OpenSpec.ofChange Rows.fullRefusesSpec).preRow enc Tryz.prog Tryz.f3 Rows.fullRefusesRow.domain false Rows.fullRefusesRow.laid) (((OpenSpec.ofChange Rows.fullRefusesSpec).at F).post enc Tryz.prog Tryz.f3 false true false false) := by
  obtain ⟨places, hx⟩ := reads os enc
  refine returnsInHanded_of_row (C := Tryz.checked) (s := OpenSpec.ofChange Rows.fullRefusesSpec) ownKnobs started (by kernel_rfl) Tryz.func3
    (witness_row_atRef (enc := enc) (C := Tryz.checked) false (laidWorld os) #[.int .u32 0, .int .u32 0, .string ⟨#[]⟩, .int .i64 0] (laidWorld_os os) (lw_vars os _) (lw_rest os _) (by kernel_rfl)
      (OpenSpec.preRow_of_cond 8 hx (by kernel_rfl) (fun k hk => by cases hk) (by kernel_rfl) (laidWorld_met os _))) ?_
  intro W base args ds gs before hval hW _ _ _ hL hsh _
  exact contract H enc W base args ds gs before hval hW hL hsh
theorem said : Rows.FullRefusesSaid :=
  OpenClaim.holds_of_cond 3 Tryz.f3 rfl rfl rfl rfl rfl rfl rfl ⟨rfl, rfl, rfl, rfl, rfl⟩ rfl rfl rfl rfl rfl (by kernel_rfl) Tryz.func3 (by kernel_rfl)
    (of_decide_eq_true (by kernel_rfl)) (by unfold Func.isWrapper; first | (rw [if_pos (by decide +kernel)]; kernel_rfl) | (rw [if_neg (by decide +kernel)]; exact ⟨rfl, rfl⟩))
    (fun os started H enc _ F => by rw [OpenClaim.pre_eq_preRow]; exact lifted os started H enc F)
theorem plain (f : FuncId) (fn : Func) (hf : Tryz.pinned.checked.prog.funcNamed "quaymaster/quaymasterlaw.FullRefuses" = some f) (hfn : Tryz.pinned.checked.prog.funcs[f]? = some fn) :
    true = Tryz.pinned.checked.prog.looks [] ∧ ∀ (j : Nat) t, fn.params[j]? = some t → Tryz.pinned.checked.prog.wantsStandIn t = false := by
  obtain rfl : f = 3 := Option.some.inj ((show Tryz.prog.funcNamed "quaymaster/quaymasterlaw.FullRefuses" = some 3 by kernel_rfl).symm.trans hf) |>.symm
  obtain rfl : fn = Tryz.f3 := (Option.some.inj (Tryz.func3.symm.trans hfn)).symm
  refine ⟨by kernel_rfl, fun j t ht => ?_⟩
  rw [Tryz.params3] at ht
  match j, ht with
  | 0, ht => obtain rfl : t = 22 := (Option.some.inj ht).symm; exact (show Tryz.prog.wantsStandIn 22 = false by kernel_rfl)
  | 1, ht => obtain rfl : t = 22 := (Option.some.inj ht).symm; exact (show Tryz.prog.wantsStandIn 22 = false by kernel_rfl)
  | 2, ht => obtain rfl : t = 9 := (Option.some.inj ht).symm; exact (show Tryz.prog.wantsStandIn 9 = false by kernel_rfl)
  | 3, ht => obtain rfl : t = 3 := (Option.some.inj ht).symm; exact (show Tryz.prog.wantsStandIn 3 = false by kernel_rfl)
  | j + 4, ht => simp at ht
theorem card : Rows.FullRefusesCardSaid :=
  Claim7.holds_tied_plain_at .later [] _ _ _ _ said (fun _ h => by cases h) (by kernel_rfl) (fun _ h => by cases h) fullRefuses_row_tie rfl ⟨rfl, rfl⟩ (by kernel_rfl) rfl plain (by kernel_rfl)
#print axioms card
end Go.Proofs.YtkbjnlcongjokaaGreatDoor
