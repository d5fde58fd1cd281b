/- A part of the proof: PduRef, Same, FeedLaw, RefNext, RefNext2, RefNext3, RefNext4, RefNext5, FeedFns. -/
import Derived.Test.YtincgdbfmnnpaaaGreatDoorJ06
/- quaymasterref.PduRead. -/
namespace Go.Proofs.YtincgdbfmnnpaaaGreatDoor
open Go.RowKit
/-- What quaymasterref.PduRead leaves. -/
def RrPost (w : World) (l : List UInt8) (mode : Int) (e : Ending) (w' : World) : Prop := Below w.heap.size w w' ∧
  ((pduErr l mode = 0 ∧ ∃ v, e = .returned (.tuple #[v, .int .i64 (pduSize l mode).1, .int .i64 0]) ∧ PduIs w' w.heap.size l mode v) ∨ (pduErr l mode ≠ 0 ∧ e = .returned (.tuple #[.agg pzL.toArray, .int .i64 0, .int .i64 (pduErr l mode)])))
theorem rr_refuse (w : World) (l : List UInt8) (mode c : Int) (hc : pduErr l mode = c) (h0 : c ≠ 0) {wr : World} (hb : Below w.heap.size w wr) : RrPost w l mode (.returned (.tuple #[.agg pzL.toArray, .int .i64 0, .int .i64 c])) wr :=
  ⟨hb, .inr ⟨by rw [hc]; exact h0, by rw [hc]⟩⟩
/-- Between the stages: the result's cell and the head's block. -/
structure RSt (w : World) (g : Nat) (pc : List Value) (wr : World) : Prop where
  z : PS0 w wr
  pb : wr.heap[g]? = some (.cells pc.toArray 37 (0, 0))
  ne : w.heap.size < g
theorem RSt.later {w : World} {g : Nat} {pc : List Value} {wr w' : World} (h : RSt w g pc wr) (hb : Below wr.heap.size wr w') : RSt w g pc w' :=
  ⟨h.z.later hb, (hb.block _ (heap_lt h.pb)).trans h.pb, h.ne⟩
theorem RSt.cells {w : World} {g : Nat} {a b c d : Value} {wr : World} (h : RSt w g [a, b, c, d] wr) : wr.cell? ⟨g, 0, none⟩ = some a ∧ wr.cell? ⟨g, 1, none⟩ = some b ∧ wr.cell? ⟨g, 2, none⟩ = some c ∧ wr.cell? ⟨g, 3, none⟩ = some d := by
  simp [World.cell?, h.pb]
theorem RSt.set {w : World} {g : Nat} {pc : List Value} {wr : World} (h : RSt w g pc wr) (i : Nat) (v : Value) : RSt w g (pc.set i v) (wr.setCell ⟨g, i, none⟩ v) := by
  have g6 := grown_setCell wr ⟨g, i, none⟩ v
  refine ⟨⟨h.z.below.setCell (p := ⟨g, i, none⟩) (Nat.le_of_lt h.ne) _, (g6.block _ (heap_lt h.z.res) (fun e => by injection e with e; have e' : w.heap.size = g := e; have := h.ne; omega)).trans h.z.res⟩, ?_, h.ne⟩
  have := h.pb
  simp [World.setCell, Array.getElem?_modify, this]
theorem PS0.cells {w wr : World} (h : PS0 w wr) : wr.cell? ⟨w.heap.size, 0, none⟩ = some (.int .i64 0) ∧ wr.cell? ⟨w.heap.size, 1, none⟩ = some (.bool false) ∧ wr.cell? ⟨w.heap.size, 2, none⟩ = some (.int .i64 0) ∧ wr.cell? ⟨w.heap.size, 3, none⟩ = some (.slice none 0 0) ∧
    wr.cell? ⟨w.heap.size, 4, none⟩ = some (.slice none 0 0) ∧ wr.cell? ⟨w.heap.size, 5, none⟩ = some (.string ⟨#[]⟩) := by
  simp [World.cell?, h.res]
theorem PS0.frz {w wr : World} (h : PS0 w wr) : wr.frozen? ⟨w.heap.size, 0, none⟩ = false ∧ wr.frozen? ⟨w.heap.size, 1, none⟩ = false ∧ wr.frozen? ⟨w.heap.size, 2, none⟩ = false ∧ wr.frozen? ⟨w.heap.size, 3, none⟩ = false ∧
    wr.frozen? ⟨w.heap.size, 4, none⟩ = false ∧ wr.frozen? ⟨w.heap.size, 5, none⟩ = false := by
  simp [World.frozen?, h.res]
theorem PS0.six {w wr : World} (h : PS0 w wr) : PS0 w ((((((wr.setCell ⟨w.heap.size, 0, none⟩ (.int .i64 0)).setCell ⟨w.heap.size, 1, none⟩ (.bool false)).setCell ⟨w.heap.size, 2, none⟩ (.int .i64 0)).setCell ⟨w.heap.size, 3, none⟩ (.slice none 0 0)).setCell
    ⟨w.heap.size, 4, none⟩ (.slice none 0 0)).setCell ⟨w.heap.size, 5, none⟩ (.string ⟨#[]⟩)).drew := by
  refine ⟨Below.trans (b := (((((wr.setCell ⟨w.heap.size, 0, none⟩ (.int .i64 0)).setCell ⟨w.heap.size, 1, none⟩ (.bool false)).setCell ⟨w.heap.size, 2, none⟩ (.int .i64 0)).setCell ⟨w.heap.size, 3, none⟩ (.slice none 0 0)).setCell
    ⟨w.heap.size, 4, none⟩ (.slice none 0 0)).setCell ⟨w.heap.size, 5, none⟩ (.string ⟨#[]⟩)) ?_ (below_drewN (Below.refl _ _) 1), ?_⟩
  · exact (((((h.below.setCell (p := ⟨w.heap.size, 0, none⟩) (Nat.le_refl _) _).setCell (p := ⟨w.heap.size, 1, none⟩) (Nat.le_refl _) _).setCell (p := ⟨w.heap.size, 2, none⟩) (Nat.le_refl _) _).setCell (p := ⟨w.heap.size, 3, none⟩) (Nat.le_refl _) _).setCell (p := ⟨w.heap.size, 4, none⟩) (Nat.le_refl _) _).setCell (p := ⟨w.heap.size, 5, none⟩) (Nat.le_refl _) _
  · have := h.res
    simp [World.setCell, World.drew, Array.getElem?_modify, this]
theorem rs_new {w wr : World} (h : PS0 w wr) (pc : List Value) : RSt w wr.heap.size pc (wr.alloc (.cells pc.toArray 37)) :=
  ⟨h.later ((Below.refl _ wr).alloc (Nat.le_refl _) _), alloc_heap_new wr _, heap_lt h.res⟩
theorem rr_done (w : World) (l : List UInt8) (mode : Int) (z E : Nat) (h0 : pduErr l mode = 0) (hz : pduSize l mode = ((z : Int), 0)) {O1 : Int} {O2 : Bool} {O3 : Int} (h1 : O1 = headOp (l.take 48)) (h2 : O2 = headNow (l.take 48))
    (h3 : O3 = (((l.take 48).getD 1 0).toNat : Int)) {v1 v2 : Value} {t : ByteArray} {wF : World} (hst : PS0 w wF) (hE : pduEnd l = E) (hEz : E ≤ z)
    (hv1 : wF.ownsRow (w.heap.size + 1) 60 1 v1 (headVals (l.take 48)).length (headVals (l.take 48)))
    (hv2 : wF.ownsRow (w.heap.size + 1) 62 2 v2 (ahsAll ((l.take E).drop 48)).1.length (ahsV (ahsAll ((l.take E).drop 48)).1))
    (ht : t = bs (unpad (pduRest l mode) (dlen l)).1) (cs : Array Value) :
    RrPost w l mode (.returned (.tuple #[.agg #[.int .i64 O1, .bool O2, .int .i64 O3, v1, v2, .string t], .int .i64 (z : Int), .int .i64 0])) (wF.setRow w.heap.size cs) := by
  refine ⟨below_setRow hst.below (Nat.le_refl _) _, .inl ⟨h0, _, by rw [hz], v1, v2, by rw [h1, h2, h3, ht], ?_, ?_⟩⟩
  · exact own_mono (own_setRow hv1 w.heap.size (by omega) cs) (by omega)
  · have : (pduAll l mode).take (pduEnd l) = l.take E := by
      rw [hE]; unfold pduAll; rw [hz]
      show (l.take (z : Int).toNat).take E = _
      rw [Int.toNat_natCast, List.take_take, Nat.min_eq_left hEz]
    rw [this]
    exact own_mono (own_setRow hv2 w.heap.size (by omega) cs) (by omega)
set_option maxRecDepth 100000 in
set_option maxHeartbeats 4000000 in
theorem rr_main (s : ByteArray) (mode : Int) (w : World) (hs : s.size ≤ 140737488355328) (z E P : Nat) (hN : PduNum s.data.toList mode z E P) (hz : z ≤ s.size) :
    Calls Tryz.prog 18 #[.string s, .int .i64 mode] w fun e w' => RrPost w s.data.toList mode e w' := by
  have hlen : s.data.toList.length = s.size := by rw [← Lib.size_eq]
  have h4s : 4 < s.size := by have := hN.len; rw [hlen] at this; omega
  have hb := hN.bounds
  have hm0 := hN.m0
  have hm3 := hN.m3
  obtain ⟨n, hn⟩ : ∃ n, n = dlen s.data.toList := ⟨_, rfl⟩
  rw [← hn] at hb
  obtain ⟨b1, b2, b3, b4, b5, b6, b7⟩ := hb
  have hZ := fun w => refsize_any s mode w hs
  rw [hN.size] at hZ
  have hzs : (z : Int) ≤ (s.size : Int) := by omega
  have herr := pdu_err hN (by rw [hlen]; exact hz)
  rw [← hn] at herr
  obtain ⟨B, hB⟩ : ∃ B, B = s.extract 0 z := ⟨_, rfl⟩
  have hBs : B.size = z := by rw [hB, Lib.size_eq, Lib.extract_data]; simp; omega
  have hBl : B.data.toList = s.data.toList.take z := by rw [hB, Lib.extract_data]; simp
  have h4B : 4 < B.size := by rw [hBs]; omega
  have h4 := byte_lt (B[4]'h4B)
  have hE4n : 48 + 4 * (B[4]'h4B).toNat = E := by
    have e1 := hN.E_eq
    have e2 : hw4 s.data.toList = (B[4]'h4B).toNat := by
      rw [← list_at B 4 h4B, hBl]; unfold hw4
      rw [List.getD_eq_getElem?_getD, List.getD_eq_getElem?_getD, List.getElem?_take_of_lt (by omega)]
    omega
  have hE4 : (48 : Int) + (4 : Int) * ((B[4]'h4B).toNat : Int) = (E : Int) := by omega
  have hi4 : (4 : Int) < (B.size : Int) := by omega
  have hEB : (E : Int) ≤ (B.size : Int) := by omega
  have hEx : (48 : Int) + (4 : Int) * ((B[4]'h4B).toNat : Int) ≤ (B.size : Int) := by omega
  have hm2 : mode.tmod 2 = mode % 2 := Int.tmod_eq_emod_of_nonneg hm0
  have HERR := Lib.hid herr
  have HLEN := Lib.hid hlen
  have HNN := Lib.hid hN
  have HN := Lib.hid hn
  have HZ := Lib.hid hZ
  have HB7 := Lib.hid b7
  have HE4 := Lib.hid hE4
  have HE4N := Lib.hid hE4n
  have HBS := Lib.hid hBs
  have HBL := Lib.hid hBl
  clear herr hlen hN hn hZ hE4 hE4n b7 hBs hBl
  obtain ⟨T, hT⟩ : ∃ T, T = at2 E mode := ⟨_, rfl⟩
  have HT := Lib.hid hT
  clear hT
  have HM0 := Lib.hid hm0
  rcases (by omega : mode % 2 = 1 ∨ mode % 2 = 0) with hm1 | hm1
  case' inr =>
    go_enter Tryz.func18, Tryz.ntmps18
    go_wp2_with fail
    refine (HZ.out _).mono ?_
    rintro e wP ⟨rfl, hb1⟩
    have hps : PS0 w wP := ⟨((Below.refl _ w).alloc (Nat.le_refl _) _).trans (hb1.mono (by simp)), (hb1.block _ (by simp)).trans (alloc_heap_new w _)⟩
    have HPS := Lib.hid hps
    go_upto_region 7 with fail
    rw [← hB]
    clear hB hb1 hps
    have hTE : T = E := by rw [HT.out]; unfold at2; rw [hm1]; rfl
    have hnd : ¬ (mode % 2 = 1 ∧ (s.data.toList.drop E).take 4 ≠ digest (s.data.toList.take E)) := fun x => by omega
    have HND := Lib.hid hnd
    go_wp2_with fail
    rw [HE4N.out, HE4.out]
    obtain ⟨R, hR⟩ : ∃ R, R = B.extract E B.size := ⟨_, rfl⟩
    have hRl : R.data.toList = pduRest s.data.toList mode := by
      rw [pdu_rest HNN.out, ← HT.out, hTE, hR, Lib.extract_data, HBL.out, HBS.out]
      exact List.take_of_length_le (by simp; omega)
    rw [← hR]
    have HRL := Lib.hid hRl
    have HM1 := Lib.hid hm1
    clear hR hRl hm1 hTE hnd
  case' inl =>
    go_enter Tryz.func18, Tryz.ntmps18
    go_wp2_with fail
    refine (HZ.out _).mono ?_
    rintro e wP ⟨rfl, hb1⟩
    have hps : PS0 w wP := ⟨((Below.refl _ w).alloc (Nat.le_refl _) _).trans (hb1.mono (by simp)), (hb1.block _ (by simp)).trans (alloc_heap_new w _)⟩
    have HPS := Lib.hid hps
    go_upto_region 7 with fail
    rw [← hB]
    clear hB hb1 hps
    have hTE : T = E + 4 := by rw [HT.out]; unfold at2; rw [hm1]; rfl
    have b8 := HB7.out hm1
    obtain ⟨R0, hR0⟩ : ∃ R0, R0 = B.extract E B.size := ⟨_, rfl⟩
    have hR0l : R0.data.toList = (s.data.toList.take z).drop E := by
      rw [hR0, Lib.extract_data, HBL.out, HBS.out]
      exact List.take_of_length_le (by simp; omega)
    have hR0s : R0.size = z - E := by rw [Lib.size_eq, hR0l]; simp [HLEN.out]; omega
    have hR04 : (4 : Int) ≤ (R0.size : Int) := by omega
    have hRl : (R0.extract 4 R0.size).data.toList = pduRest s.data.toList mode := by
      rw [pdu_rest HNN.out, ← HT.out, hTE, Lib.extract_data, hR0l, List.drop_drop]
      exact List.take_of_length_le (by simp; omega)
    obtain ⟨R, hR⟩ : ∃ R, R = R0.extract 4 R0.size := ⟨_, rfl⟩
    rw [← hR] at hRl
    have hSl : (R0.extract 0 4).toList = (s.data.toList.drop E).take 4 := by
      rw [Lib.extract_toList, hR0l, List.drop_zero, List.drop_take, List.take_take, Nat.min_eq_left (by omega)]
    obtain ⟨X, hX⟩ : ∃ X, X = bs (digest (B.extract 0 E).data.toList) := ⟨_, rfl⟩
    have hDg := fun w => refdigest_any (B.extract 0 E) w (by rw [Lib.size_eq, Lib.extract_data]; simp; omega)
    rw [← hX] at hDg
    have hXl : X.toList = digest (s.data.toList.take E) := by
      rw [hX, bs_toList, Lib.extract_data, HBL.out, List.drop_zero, List.take_take]; congr 2; omega
    have HDG := Lib.hid hDg
    have HXL := Lib.hid hXl
    have HSL := Lib.hid hSl
    have HRL := Lib.hid hRl
    have HR := Lib.hid hR
    have HR0 := Lib.hid hR0
    have HM1 := Lib.hid hm1
    clear hDg hX hXl hSl hRl hR hR0 hR0l hR0s hTE
    go_wp2_with fail
    rw [HE4N.out, HE4.out, ← HR0.out]
    clear hm1
    by_cases hcd : (s.data.toList.drop E).take 4 = digest (s.data.toList.take E)
    case' neg =>
      have hq : (!(R0.extract 0 4).toList == X.toList) = true := by
        have : ((R0.extract 0 4).toList == X.toList) = false := by rw [HXL.out, HSL.out]; simpa using hcd
        rw [this]; rfl
      have HCD := Lib.hid hcd
      clear hcd
      go_region_held3 (fun _ => True) (trivial) ((go_at_call 25; refine (HDG.out _).mono ?_; rintro e w6 ⟨rfl, hb6⟩))
      have hps := HPS.out.later ((below_drewN (Below.refl _ _) 1).trans hb6)
      have HPS2 := Lib.hid hps
      clear hps hb6
      go_wp2_with (refine wpList_store_row rfl 40 _ _ rfl w.heap.size #[.int .i64 0, .bool false, .int .i64 0, .slice none 0 0, .slice none 0 0, .string ⟨#[]⟩] rfl rfl 40 _ HPS2.out.res pduinfo rfl (by simp [Value.oneCell']) ?_)
      have he15 : pduErr s.data.toList mode = 15 := by rw [HERR.out, if_pos ⟨HM1.out, HCD.out⟩]
      refine bodyPost_ret (results_cell2 Tryz.results18 _ _ w.heap.size pzL _ rfl (range_of_heap (setRow_heap _ _ _ _ _ _ HPS2.out.res)) Tryz.underlying40 rfl pduinfo) rfl ?_
      exact rr_refuse w _ mode 15 he15 (by decide) (below_setRow HPS2.out.below (Nat.le_refl _) _)
    case' pos =>
      have hq : (!(R0.extract 0 4).toList == X.toList) = false := by rw [HXL.out, HSL.out, hcd]; simp
      have hnd : ¬ (mode % 2 = 1 ∧ (s.data.toList.drop E).take 4 ≠ digest (s.data.toList.take E)) := fun x => x.2 hcd
      have HND := Lib.hid hnd
      clear hcd hnd
      go_region_held3 (fun _ => True) (trivial) ((go_at_call 25; refine (HDG.out _).mono ?_; rintro e w6 ⟨rfl, hb6⟩))
      have hps := HPS.out.later ((below_drewN (Below.refl _ _) 1).trans hb6)
      clear HPS
      have HPS := Lib.hid hps
      clear hps hb6 hq HDG HXL HSL
      go_wp2_with fail
      rw [← HR.out]
  all_goals
    have hr48 : (B.extract 0 48).data.toList = s.data.toList.take 48 := by
      rw [Lib.extract_data, HBL.out]; simp [List.take_take]; omega
    have hRd := fun w => headread_any (B.extract 0 48) w
    rw [hr48] at hRd
    have HRD := Lib.hid hRd
    clear hRd hr48
    refine (HRD.out _).mono ?_
    rintro e wR ⟨hbR, hR⟩
    have hst0 := HPS.out.later hbR
    have HPR := Lib.hid hst0
    clear hst0
    by_cases hhe : headErr (s.data.toList.take 48) = 0
    case' neg =>
      obtain ⟨h0, -⟩ | ⟨-, rfl⟩ := hR
      case' inl => exact absurd h0 hhe
      case' inr =>
        have hmj : pduErr s.data.toList mode = headErr (s.data.toList.take 48) := by rw [HERR.out, if_neg HND.out, if_pos hhe]
        obtain ⟨c, hc⟩ : ∃ c, c = headErr (s.data.toList.take 48) := ⟨_, rfl⟩
        rw [← hc] at hmj hhe ⊢
        have HMJ := Lib.hid hmj
        have HHE := Lib.hid hhe
        clear hmj hc
        unfold hzV
        have HST := Lib.hid (rs_new HPR.out [.int .i64 0, .bool false, .int .i64 0, .slice none 0 0])
        go_wp2_with (refine wpList_store_row rfl 40 _ _ rfl w.heap.size #[.int .i64 0, .bool false, .int .i64 0, .slice none 0 0, .slice none 0 0, .string ⟨#[]⟩] rfl rfl 40 _ HST.out.z.res pduinfo rfl (by simp [Value.oneCell']) ?_)
        refine bodyPost_ret (results_cell2 Tryz.results18 _ _ w.heap.size pzL _ rfl (range_of_heap (setRow_heap _ _ _ _ _ _ HST.out.z.res)) Tryz.underlying40 rfl pduinfo) rfl ?_
        exact rr_refuse w _ mode c HMJ.out HHE.out (below_setRow HST.out.z.below (Nat.le_refl _) _)
    case' pos =>
      obtain ⟨-, v, rfl, hvo⟩ | ⟨h0, -⟩ := hR
      case' inr => exact absurd hhe h0
      case' inl =>
        have HHE := Lib.hid hhe
        have hvg := own_mono (base' := w.heap.size + 1) hvo (heap_lt HPS.out.res)
        obtain ⟨av, nv, cv, rfl⟩ := own_slice hvo
        have HVG := Lib.hid hvg
        have hn3 : beN ((((s.data.toList.take 48).drop 5)).take 3) = n := by
          rw [HN.out]; unfold dlen; rw [List.drop_take, List.take_take]; rfl
        rw [hn3]
        obtain ⟨O1, hO1⟩ : ∃ O1, O1 = headOp (s.data.toList.take 48) := ⟨_, rfl⟩
        obtain ⟨O2, hO2⟩ : ∃ O2, O2 = headNow (s.data.toList.take 48) := ⟨_, rfl⟩
        obtain ⟨O3, hO3⟩ : ∃ O3 : Int, O3 = (((s.data.toList.take 48).getD 1 0).toNat : Int) := ⟨_, rfl⟩
        obtain ⟨O4, hO4⟩ : ∃ O4 : Int, O4 = (((s.data.toList.take 48).getD 4 0).toNat : Int) := ⟨_, rfl⟩
        rw [← hO1, ← hO2, ← hO3, ← hO4]
        have HO1 := Lib.hid hO1
        have HO2 := Lib.hid hO2
        have HO3 := Lib.hid hO3
        clear hvo hvg hhe hn3 hO1 hO2 hO3 hO4
        go_wp2_with fail
        have hst2 := rs_new HPR.out [.int .i64 O1, .bool O2, .int .i64 O3, .slice av nv cv]
        have hal : (B.extract 48 E).data.toList = (s.data.toList.take E).drop 48 := by
          rw [Lib.extract_data, HBL.out]
          have : min E z = E := by omega
          simp [List.drop_take, List.take_take]; omega
        have hA := fun w => ahsread_any (B.extract 48 E) w
        rw [hal] at hA
        refine (hA _).mono ?_
        rintro e wA ⟨hbA, va, rfl, hoa⟩
        obtain ⟨g, hg⟩ : ∃ g, g = wR.heap.size := ⟨_, rfl⟩
        obtain ⟨F, hF⟩ : ∃ F, F = wA.heap.size := ⟨_, rfl⟩
        rw [← hg] at hst2 ⊢
        obtain ⟨c, hc⟩ : ∃ c, c = (ahsAll ((s.data.toList.take E).drop 48)).2.1 := ⟨_, rfl⟩
        obtain ⟨pl, hpl⟩ : ∃ pl, pl = (ahsAll ((s.data.toList.take E).drop 48)).2.2 := ⟨_, rfl⟩
        rw [← hc, ← hpl]
        have hst3 := hst2.later hbA
        have hvg := own_later (own_later HVG.out ((Below.refl _ wR).alloc (Nat.le_refl _) _)) hbA
        have hog := own_mono (base' := w.heap.size + 1) hoa (heap_lt hst2.z.res)
        obtain ⟨aa, na, ca, rfl⟩ := own_slice hoa
        have HVG2 := Lib.hid hvg
        have HOG := Lib.hid hog
        have HST3 := Lib.hid hst3
        have HC := Lib.hid hc
        have hFs := faultIs_any c pl
        have HFS := Lib.hid hFs
        clear hA hal hvg hoa hog hbA hst2 hst3 hg hbR HRD hc hpl hFs
        go_wp2_with fail
        refine (HFS.out _).mono ?_
        rintro e wF ⟨rfl, hbF⟩
        have hst4 := (HST3.out.later ((Below.refl _ wA).alloc (Nat.le_refl _) (.cells #[.int .i64 c, .int .i64 pl] 91))).later hbF
        have hfb : wF.heap[wA.heap.size]? = some (.cells #[.int .i64 c, .int .i64 pl] 91 (0, 0)) := (hbF.block _ (by simp)).trans (alloc_heap_new wA _)
        rw [← hF] at hfb ⊢
        have hv1 := own_later (own_later HVG2.out ((Below.refl _ wA).alloc (Nat.le_refl _) (.cells #[.int .i64 c, .int .i64 pl] 91))) hbF
        have hv2 := own_later (own_later HOG.out ((Below.refl _ wA).alloc (Nat.le_refl _) (.cells #[.int .i64 c, .int .i64 pl] 91))) hbF
        have hwF : w.heap.size < F := by rw [hF]; exact heap_lt HST3.out.z.res
        have HST4 := Lib.hid hst4
        have HFB := Lib.hid hfb
        have HV1 := Lib.hid hv1
        have HV2 := Lib.hid hv2
        clear hst4 hfb hv1 hv2 hF hbF HVG2 HOG HST3
        by_cases hae : c = 0
        case' neg =>
          have hmj : pduErr s.data.toList mode = c := by rw [HERR.out, if_neg HND.out, if_neg (fun x => x HHE.out), if_pos (by rw [← HC.out]; exact hae), HC.out]
          have HMJ := Lib.hid hmj
          have HAE := Lib.hid hae
          have hcb : (c == 0) = false := beq_false_of_ne hae
          have hc0 : wF.cell? ⟨F, 0, none⟩ = some (.int .i64 c) := by simp [World.cell?, HFB.out]
          obtain ⟨c0, c1, c2, c3, c4, c5⟩ := HST4.out.z.cells
          obtain ⟨f0, f1, f2, f3, f4, f5⟩ := HST4.out.z.frz
          have hn1 : ¬ w.heap.size = F := by omega
          have hn2 : ¬ F = w.heap.size := by omega
          clear hmj hae
          go_wp2_with fail
          go_region
          go_wp2_with fail
          refine bodyPost_ret (results_cell2 Tryz.results18 _ _ w.heap.size pzL _ rfl (range_of_heap HST4.out.z.six.res) Tryz.underlying40 rfl pduinfo) rfl ?_
          exact rr_refuse w _ mode c HMJ.out HAE.out HST4.out.z.six.below
        case' pos =>
          subst hae
          have HAE := Lib.hid (show (ahsAll ((s.data.toList.take E).drop 48)).2.1 = 0 from HC.out.symm)
          have hrl := rest_len HNN.out (by rw [HLEN.out]; exact hz)
          have hRs : R.size = (pduRest s.data.toList mode).length := by rw [← HRL.out, ← Lib.size_eq]
          rw [← HN.out, ← hRs] at hrl
          have hU := fun w => refunpad_any R n w (by split at hrl <;> omega) (by omega) (by omega)
          rw [HRL.out] at hU
          have HU := Lib.hid hU
          have HRLN := Lib.hid hrl
          clear hU hRs hrl HC HFS
          go_wp2_with fail
          refine (HU.out _).mono ?_
          rintro e wU ⟨⟨t, a, b, rfl, hu⟩, hbU⟩
          have hst6 := HST4.out.later hbU
          have hv1 := own_later HV1.out hbU
          have hv2 := own_later HV2.out hbU
          have HST6 := Lib.hid hst6
          clear HV1 HV2
          have HV1 := Lib.hid hv1
          have HV2 := Lib.hid hv2
          clear hst6 hv1 hv2 hbU HST4
          by_cases hb0 : b = 0
          case' neg =>
            have hmj : pduErr s.data.toList mode = b := by
              rw [HERR.out, if_neg HND.out, if_neg (fun x => x HHE.out), if_neg (fun x => x HAE.out), hu, if_pos hb0]
            have HMJ := Lib.hid hmj
            have HB0 := Lib.hid hb0
            have hbb : (b != 0) = true := bne_iff_ne.2 hb0
            clear hmj hu
            go_wp2_with (refine wpList_store_row rfl 40 _ _ rfl w.heap.size #[.int .i64 0, .bool false, .int .i64 0, .slice none 0 0, .slice none 0 0, .string ⟨#[]⟩] rfl rfl 40 _ HST6.out.z.res pduinfo rfl (by simp [Value.oneCell']) ?_)
            refine bodyPost_ret (results_cell2 Tryz.results18 _ _ w.heap.size pzL _ rfl (range_of_heap (setRow_heap _ _ _ _ _ _ HST6.out.z.res)) Tryz.underlying40 rfl pduinfo) rfl ?_
            exact rr_refuse w _ mode b HMJ.out HB0.out (below_setRow HST6.out.z.below (Nat.le_refl _) _)
          case' pos =>
            subst hb0
            have ha := unpad_num (l := pduRest s.data.toList mode) (n := (n : Int)) (by omega) (by rw [hu])
            rw [hu] at ha
            have hpa : padI (n : Int) = (P : Int) := by rw [HN.out]; exact HNN.out.P_eq
            rw [hpa] at ha
            obtain ⟨S, hS⟩ : ∃ S, S = n + P := ⟨_, rfl⟩
            have ha' : a = (S : Int) := by have : a = (n : Int) + (P : Int) := ha; omega
            subst ha'
            have hrl := HRLN.out
            have hSR : (S : Int) ≤ (R.size : Int) := by omega
            have hRsz : (R.size : Int) ≤ 140737488355328 := by split at hrl <;> omega
            have hd1 : (R.extract 0 S).data.toList = (pduRest s.data.toList mode).take (n + P) := by
              rw [Lib.extract_data, HRL.out, hS]; simp
            have hd2 : (R.extract S R.size).toList = (pduRest s.data.toList mode).drop (n + P) := by
              rw [Lib.extract_toList, HRL.out, hS]; exact List.take_of_length_le (by rw [List.length_drop, ← HRL.out, ← Lib.size_eq]; exact Nat.le_refl _)
            have HU3 := Lib.hid hu
            have HD1 := Lib.hid hd1
            have HD2 := Lib.hid hd2
            have HS := Lib.hid hS
            clear ha hpa hu hd1 hd2
            by_cases hm2 : mode / 2 = 1 ∧ 0 < n
            case' neg =>
              have hq : ¬ (mode / 2 = 1 ∧ 0 < n ∧ (pduRest s.data.toList mode).drop (n + P) ≠ digest ((pduRest s.data.toList mode).take (n + P))) := fun x => hm2 ⟨x.1, x.2.1⟩
              have HQ := Lib.hid hq
              have hge : ¬ S < R.size := by split at hrl <;> omega
              have hg3 : decide (S < R.size) = false := decide_eq_false hge
              clear hm2 hq hrl hS
              go_wp2_with fail
              go_quiet (fail)
              have hF := HST6.out.later (below_drewN (Below.refl _ _) nq)
              have hv1 := own_later HV1.out (below_drewN (Below.refl _ _) nq)
              have hv2 := own_later HV2.out (below_drewN (Below.refl _ _) nq)
              generalize wU.drewN nq = wF at hF hv1 hv2 ⊢
              have HF := Lib.hid hF
              have HV1F := Lib.hid hv1
              have HV2F := Lib.hid hv2
              obtain ⟨c0, c1, c2, c3⟩ := hF.cells
              clear hF hv1 hv2 HV1 HV2
              by_cases hbig : 100000 < n
              case' pos =>
                have hmj : pduErr s.data.toList mode = 4 := by
                  rw [HERR.out, if_neg HND.out, if_neg (fun x => x HHE.out), if_neg (fun x => x HAE.out), if_neg (fun x => x (by rw [HU3.out])), if_neg HQ.out, if_pos hbig]
                have HMJ := Lib.hid hmj
                clear hmj c0 c1 c2 c3
                go_wp2_with (refine wpList_store_row rfl 40 _ _ rfl w.heap.size #[.int .i64 0, .bool false, .int .i64 0, .slice none 0 0, .slice none 0 0, .string ⟨#[]⟩] rfl rfl 40 _ HF.out.z.res pduinfo rfl (by simp [Value.oneCell']) ?_)
                refine bodyPost_ret (results_cell2 Tryz.results18 _ _ w.heap.size pzL _ rfl (range_of_heap (setRow_heap _ _ _ _ _ _ HF.out.z.res)) Tryz.underlying40 rfl pduinfo) rfl ?_
                exact rr_refuse w _ mode 4 HMJ.out (by decide) (below_setRow HF.out.z.below (Nat.le_refl _) _)
              case' neg =>
                have hmj : pduErr s.data.toList mode = 0 := by
                  rw [HERR.out, if_neg HND.out, if_neg (fun x => x HHE.out), if_neg (fun x => x HAE.out), if_neg (fun x => x (by rw [HU3.out])), if_neg HQ.out, if_neg hbig]
                have HMJ := Lib.hid hmj
                clear hmj
                go_wp2_with (refine wpList_store_row rfl 40 _ _ rfl w.heap.size #[.int .i64 O1, .bool O2, .int .i64 O3, .slice av nv cv, .slice aa na ca, .string t] rfl rfl 40 _ HF.out.z.res pduinfo rfl (by simp [Value.oneCell']) ?_)
                refine bodyPost_ret (results_cell2 Tryz.results18 _ _ w.heap.size [.int .i64 O1, .bool O2, .int .i64 O3, .slice av nv cv, .slice aa na ca, .string t] _ rfl (range_of_heap (setRow_heap _ _ _ _ _ _ HF.out.z.res)) Tryz.underlying40 rfl pduinfo) rfl ?_
                exact rr_done w s.data.toList mode z E HMJ.out HNN.out.size HO1.out HO2.out HO3.out HF.out.z (pdu_end HNN.out) (by omega) HV1F.out HV2F.out (by rw [← HN.out, HU3.out]; exact bs_eq rfl) _
            case' pos =>
              obtain ⟨hm2, hn0⟩ := hm2
              have hge : S < R.size := by rw [if_neg (by omega)] at hrl; omega
              have hg2 : (S : Int) < (R.size : Int) := by omega
              have hg3 : decide (S < R.size) = true := decide_eq_true hge
              obtain ⟨X, hX⟩ : ∃ X, X = bs (digest (R.extract 0 S).data.toList) := ⟨_, rfl⟩
              have hDg := fun w => refdigest_any (R.extract 0 S) w (by rw [Lib.size_eq, Lib.extract_data]; simp; omega)
              rw [← hX] at hDg
              have hXl : X.toList = digest ((pduRest s.data.toList mode).take (n + P)) := by rw [hX, bs_toList, HD1.out]
              have HDG := Lib.hid hDg
              have HXL := Lib.hid hXl
              have HM2 := Lib.hid hm2
              have HN0 := Lib.hid hn0
              clear hDg hX hXl hm2 hn0 hrl hS
              go_wp2_with fail
              by_cases hcd : (pduRest s.data.toList mode).drop (n + P) = digest ((pduRest s.data.toList mode).take (n + P))
              case' neg =>
                have hq : (!(R.extract S R.size).toList == X.toList) = true := by
                  have : ((R.extract S R.size).toList == X.toList) = false := by rw [HXL.out, HD2.out]; simpa using hcd
                  rw [this]; rfl
                have HCD := Lib.hid hcd
                clear hcd
                go_region_held3 (fun _ => True) (trivial) ((go_at_call 25; refine (HDG.out _).mono ?_; rintro e w6 ⟨rfl, hb6⟩))
                have he13 : pduErr s.data.toList mode = 13 := by
                  rw [HERR.out, if_neg HND.out, if_neg (fun x => x HHE.out), if_neg (fun x => x HAE.out), if_neg (fun x => x (by rw [HU3.out])), if_pos ⟨HM2.out, HN0.out, HCD.out⟩]
                have hF := HST6.out.later ((below_drewN (Below.refl _ _) 1).trans hb6)
                have HF := Lib.hid hF
                have HMJ := Lib.hid he13
                clear hF he13 hb6
                go_wp2_with (refine wpList_store_row rfl 40 _ _ rfl w.heap.size #[.int .i64 0, .bool false, .int .i64 0, .slice none 0 0, .slice none 0 0, .string ⟨#[]⟩] rfl rfl 40 _ HF.out.z.res pduinfo rfl (by simp [Value.oneCell']) ?_)
                refine bodyPost_ret (results_cell2 Tryz.results18 _ _ w.heap.size pzL _ rfl (range_of_heap (setRow_heap _ _ _ _ _ _ HF.out.z.res)) Tryz.underlying40 rfl pduinfo) rfl ?_
                exact rr_refuse w _ mode 13 HMJ.out (by decide) (below_setRow HF.out.z.below (Nat.le_refl _) _)
              case' pos =>
                have hq : (!(R.extract S R.size).toList == X.toList) = false := by rw [HXL.out, HD2.out, hcd]; simp
                have HQ := Lib.hid (show ¬ (mode / 2 = 1 ∧ 0 < n ∧ (pduRest s.data.toList mode).drop (n + P) ≠ digest ((pduRest s.data.toList mode).take (n + P))) from fun x => x.2.2 hcd)
                clear hcd
                go_region_held3 (fun _ => True) (trivial) ((go_at_call 25; refine (HDG.out _).mono ?_; rintro e wF ⟨rfl, hb6⟩))
                have hF := HST6.out.later ((below_drewN (Below.refl _ _) 1).trans hb6)
                have hv1 := own_later HV1.out ((below_drewN (Below.refl _ _) 1).trans hb6)
                have hv2 := own_later HV2.out ((below_drewN (Below.refl _ _) 1).trans hb6)
                clear hq hb6
                have HF := Lib.hid hF
                have HV1F := Lib.hid hv1
                have HV2F := Lib.hid hv2
                obtain ⟨c0, c1, c2, c3⟩ := hF.cells
                clear hF hv1 hv2 HV1 HV2
                by_cases hbig : 100000 < n
                case' pos =>
                  have hmj : pduErr s.data.toList mode = 4 := by
                    rw [HERR.out, if_neg HND.out, if_neg (fun x => x HHE.out), if_neg (fun x => x HAE.out), if_neg (fun x => x (by rw [HU3.out])), if_neg HQ.out, if_pos hbig]
                  have HMJ := Lib.hid hmj
                  clear hmj c0 c1 c2 c3
                  go_wp2_with (refine wpList_store_row rfl 40 _ _ rfl w.heap.size #[.int .i64 0, .bool false, .int .i64 0, .slice none 0 0, .slice none 0 0, .string ⟨#[]⟩] rfl rfl 40 _ HF.out.z.res pduinfo rfl (by simp [Value.oneCell']) ?_)
                  refine bodyPost_ret (results_cell2 Tryz.results18 _ _ w.heap.size pzL _ rfl (range_of_heap (setRow_heap _ _ _ _ _ _ HF.out.z.res)) Tryz.underlying40 rfl pduinfo) rfl ?_
                  exact rr_refuse w _ mode 4 HMJ.out (by decide) (below_setRow HF.out.z.below (Nat.le_refl _) _)
                case' neg =>
                  have hmj : pduErr s.data.toList mode = 0 := by
                    rw [HERR.out, if_neg HND.out, if_neg (fun x => x HHE.out), if_neg (fun x => x HAE.out), if_neg (fun x => x (by rw [HU3.out])), if_neg HQ.out, if_neg hbig]
                  have HMJ := Lib.hid hmj
                  clear hmj
                  go_wp2_with (refine wpList_store_row rfl 40 _ _ rfl w.heap.size #[.int .i64 O1, .bool O2, .int .i64 O3, .slice av nv cv, .slice aa na ca, .string t] rfl rfl 40 _ HF.out.z.res pduinfo rfl (by simp [Value.oneCell']) ?_)
                  refine bodyPost_ret (results_cell2 Tryz.results18 _ _ w.heap.size [.int .i64 O1, .bool O2, .int .i64 O3, .slice av nv cv, .slice aa na ca, .string t] _ rfl (range_of_heap (setRow_heap _ _ _ _ _ _ HF.out.z.res)) Tryz.underlying40 rfl pduinfo) rfl ?_
                  exact rr_done w s.data.toList mode z E HMJ.out HNN.out.size HO1.out HO2.out HO3.out HF.out.z (pdu_end HNN.out) (by omega) HV1F.out HV2F.out (by rw [← HN.out, HU3.out]; exact bs_eq rfl) _
theorem rr_any (s : ByteArray) (mode : Int) (w : World) (hs : s.size ≤ 140737488355328) :
    Calls Tryz.prog 18 #[.string s, .int .i64 mode] w fun e w' => RrPost w s.data.toList mode e w' := by
  have hlen : s.data.toList.length = s.size := by rw [← Lib.size_eq]
  by_cases h0 : (pduSize s.data.toList mode).2 = 0
  · obtain ⟨z, E, P, hN⟩ := pdu_num h0
    by_cases hz : s.size < z
    · have h7 : pduErr s.data.toList mode = 7 := by
        unfold pduErr
        rw [hN.size]
        rw [if_neg (show ¬ (((z : Int), (0 : Int)).2 ≠ 0) from fun x => x rfl), if_pos (show ((s.data.toList.length : Int) < ((z : Int), (0 : Int)).1) by show (s.data.toList.length : Int) < (z : Int); omega)]
      refine (pduread_short s mode w hs h0 (by rw [hN.size]; show (s.size : Int) < (z : Int); omega)).mono ?_
      rintro e w' ⟨rfl, hb⟩
      exact ⟨hb, .inr ⟨by rw [h7]; decide, by rw [h7]⟩⟩
    · exact rr_main s mode w hs z E P hN (by omega)
  · have h7 : pduErr s.data.toList mode = (pduSize s.data.toList mode).2 := by unfold pduErr; rw [if_pos h0]
    refine (pduread_size s mode w hs (bne_iff_ne.2 h0)).mono ?_
    rintro e w' ⟨rfl, hb⟩
    exact ⟨hb, .inr ⟨by rw [h7]; exact h0, by rw [h7]⟩⟩
end Go.Proofs.YtincgdbfmnnpaaaGreatDoor

/- quaymasterref.Same: two PDUs with equal content are one. -/
namespace Go.Proofs.YtincgdbfmnnpaaaGreatDoor
open Go.RowKit
/-- A row that can be read: its cells. -/
structure RowV (w : World) (A : Option Addr) (xs : List Value) : Prop where
  at_ : ∀ j u, xs[j]? = some u → ∃ g, A = some ⟨g, 0, none⟩ ∧ g < w.heap.size ∧ w.cell? ⟨g, j, none⟩ = some u
theorem RowV.below {w w' : World} {A : Option Addr} {xs : List Value} (h : RowV w A xs) (hb : Below w.heap.size w w') : RowV w' A xs :=
  ⟨fun j u hu => by
    obtain ⟨g, h1, h2, h3⟩ := h.at_ j u hu
    exact ⟨g, h1, Nat.lt_of_lt_of_le h2 hb.size, (hb.cell (p := ⟨g, j, none⟩) h2).trans h3⟩⟩
theorem own_rowV {w : World} {base : Nat} {e : TypeId} {size n : Nat} {v : Value} {xs : List Value} (h : w.ownsRow base e size v n xs) : ∃ A c, v = .slice A n c ∧ RowV w A xs := by
  rcases h.2 with ⟨rfl, h0⟩ | ⟨g, cap, cur, rfl, h1, h2, h3⟩
  · subst h0
    refine ⟨none, 0, rfl, ⟨fun j u hu => ?_⟩⟩
    have := h.1
    have hx : xs = [] := List.length_eq_zero_iff.1 (by omega)
    rw [hx] at hu; simp at hu
  · refine ⟨some ⟨g, 0, none⟩, cap, rfl, ⟨fun j u hu => ⟨g, rfl, heap_lt h2, ?_⟩⟩⟩
    have hj : j < n * size := by
      have := (List.getElem?_eq_some_iff.1 hu).1
      have := h.1
      omega
    rw [World.ownsRow.cellAt h j hj]; exact hu
/-- In Same: the two boxes, the two heads. -/
structure SmSt (w : World) (O1 : Int) (O2 : Bool) (O3 : Int) (t : ByteArray) (xs ys : List Value) (n m : Nat) (A1 A2 B1 B2 : Option Addr) (a1 a2 b1 b2 p q : Nat) (wr : World) : Prop where
  below : Below w.heap.size w wr
  a : wr.heap[w.heap.size]? = some (.cells #[.int .i64 O1, .bool O2, .int .i64 O3, .slice A1 n a1, .slice A2 m a2, .string t] 40 (0, 0))
  b : wr.heap[w.heap.size + 1]? = some (.cells #[.int .i64 O1, .bool O2, .int .i64 O3, .slice B1 n b1, .slice B2 m b2, .string t] 40 (0, 0))
  x : wr.heap[p]? = some (.cells #[.int .i64 O1, .bool O2, .int .i64 O3, .slice A1 n a1] 37 (0, 0))
  y : wr.heap[q]? = some (.cells #[.int .i64 O1, .bool O2, .int .i64 O3, .slice B1 n b1] 37 (0, 0))
  rA1 : RowV wr A1 xs
  rB1 : RowV wr B1 xs
  rA2 : RowV wr A2 ys
  rB2 : RowV wr B2 ys
theorem SmSt.later {w : World} {O1 : Int} {O2 : Bool} {O3 : Int} {t : ByteArray} {xs ys : List Value} {n m : Nat} {A1 A2 B1 B2 : Option Addr} {a1 a2 b1 b2 p q : Nat} {wr w' : World}
    (h : SmSt w O1 O2 O3 t xs ys n m A1 A2 B1 B2 a1 a2 b1 b2 p q wr) (hb : Below wr.heap.size wr w') : SmSt w O1 O2 O3 t xs ys n m A1 A2 B1 B2 a1 a2 b1 b2 p q w' :=
  ⟨h.below.trans (hb.mono h.below.size), (hb.block _ (heap_lt h.a)).trans h.a, (hb.block _ (heap_lt h.b)).trans h.b, (hb.block _ (heap_lt h.x)).trans h.x, (hb.block _ (heap_lt h.y)).trans h.y,
    h.rA1.below hb, h.rB1.below hb, h.rA2.below hb, h.rB2.below hb⟩
theorem SmSt.cells {w : World} {O1 : Int} {O2 : Bool} {O3 : Int} {t : ByteArray} {xs ys : List Value} {n m : Nat} {A1 A2 B1 B2 : Option Addr} {a1 a2 b1 b2 p q : Nat} {wr : World}
    (h : SmSt w O1 O2 O3 t xs ys n m A1 A2 B1 B2 a1 a2 b1 b2 p q wr) :
    (wr.cell? ⟨w.heap.size, 4, none⟩ = some (.slice A2 m a2) ∧ wr.cell? ⟨w.heap.size, 5, none⟩ = some (.string t) ∧ wr.cell? ⟨w.heap.size + 1, 4, none⟩ = some (.slice B2 m b2) ∧ wr.cell? ⟨w.heap.size + 1, 5, none⟩ = some (.string t)) ∧
    (wr.cell? ⟨p, 0, none⟩ = some (.int .i64 O1) ∧ wr.cell? ⟨p, 1, none⟩ = some (.bool O2) ∧ wr.cell? ⟨p, 2, none⟩ = some (.int .i64 O3) ∧ wr.cell? ⟨p, 3, none⟩ = some (.slice A1 n a1)) ∧
    (wr.cell? ⟨q, 0, none⟩ = some (.int .i64 O1) ∧ wr.cell? ⟨q, 1, none⟩ = some (.bool O2) ∧ wr.cell? ⟨q, 2, none⟩ = some (.int .i64 O3) ∧ wr.cell? ⟨q, 3, none⟩ = some (.slice B1 n b1)) := by
  simp [World.cell?, h.a, h.b, h.x, h.y]
theorem four_new (w : World) (o1 o2 o3 o4 : Obj) : Below w.heap.size w ((((w.alloc o1).alloc o2).alloc o3).alloc o4).drew ∧ ((((w.alloc o1).alloc o2).alloc o3).alloc o4).drew.heap[w.heap.size]? = some o1 ∧ ((((w.alloc o1).alloc o2).alloc o3).alloc o4).drew.heap[w.heap.size + 1]? = some o2 ∧
    ((((w.alloc o1).alloc o2).alloc o3).alloc o4).drew.heap[w.heap.size + 1 + 1]? = some o3 ∧ ((((w.alloc o1).alloc o2).alloc o3).alloc o4).drew.heap[w.heap.size + 1 + 1 + 1]? = some o4 := by
  have z1 : (w.alloc o1).heap.size = w.heap.size + 1 := by simp
  have z2 : ((w.alloc o1).alloc o2).heap.size = w.heap.size + 1 + 1 := by simp
  have z3 : (((w.alloc o1).alloc o2).alloc o3).heap.size = w.heap.size + 1 + 1 + 1 := by simp
  refine ⟨Below.drew ((((Below.refl _ w).alloc (Nat.le_refl _) _).alloc (by omega) _ |>.alloc (by omega) _).alloc (by omega) _), ?_, ?_, ?_, ?_⟩
  · show ((((w.alloc o1).alloc o2).alloc o3).alloc o4).heap[w.heap.size]? = _
    rw [Below.heap_alloc _ _ _ (by omega), Below.heap_alloc _ _ _ (by omega), Below.heap_alloc _ _ _ (by omega)]; exact alloc_heap_new w o1
  · show ((((w.alloc o1).alloc o2).alloc o3).alloc o4).heap[w.heap.size + 1]? = _
    rw [Below.heap_alloc _ _ _ (by omega), Below.heap_alloc _ _ _ (by omega), ← z1]; exact alloc_heap_new _ o2
  · show ((((w.alloc o1).alloc o2).alloc o3).alloc o4).heap[w.heap.size + 1 + 1]? = _
    rw [Below.heap_alloc _ _ _ (by omega), ← z2]; exact alloc_heap_new _ o3
  · show ((((w.alloc o1).alloc o2).alloc o3).alloc o4).heap[w.heap.size + 1 + 1 + 1]? = _
    rw [← z3]; exact alloc_heap_new _ o4
set_option maxRecDepth 100000 in
set_option maxHeartbeats 4000000 in
theorem same_any (O1 : Int) (O2 : Bool) (O3 : Int) (t : ByteArray) (xs : List Value) (ys : List (Int × List UInt8)) (n m : Nat) (A1 A2 B1 B2 : Option Addr) (a1 a2 b1 b2 : Nat) (w : World)
    (hA1 : RowV w A1 xs) (hB1 : RowV w B1 xs) (hA2 : RowV w A2 (ahsV ys)) (hB2 : RowV w B2 (ahsV ys)) (hxn : xs.length = n) (hym : ys.length = m) (hxi : ∀ u ∈ xs, ∃ v : Int, u = .int .u64 v)
    (hx : n ≤ 9223372036854775807) (hy : m ≤ 9223372036854775807) :
    Calls Tryz.prog 7 #[.agg #[.int .i64 O1, .bool O2, .int .i64 O3, .slice A1 n a1, .slice A2 m a2, .string t], .agg #[.int .i64 O1, .bool O2, .int .i64 O3, .slice B1 n b1, .slice B2 m b2, .string t]] w fun e w' =>
      e = .returned (.bool true) ∧ Below w.heap.size w w' := by
  have hs1 : ∀ p q wr, p = w.heap.size + 1 + 1 + 1 → q = w.heap.size + 1 + 1 → wr = ((((w.alloc (.cells #[.int .i64 O1, .bool O2, .int .i64 O3, .slice A1 n a1, .slice A2 m a2, .string t] 40)).alloc (.cells #[.int .i64 O1, .bool O2, .int .i64 O3, .slice B1 n b1, .slice B2 m b2, .string t] 40)).alloc
      (.cells #[.int .i64 O1, .bool O2, .int .i64 O3, .slice B1 n b1] 37)).alloc (.cells #[.int .i64 O1, .bool O2, .int .i64 O3, .slice A1 n a1] 37)).drew → SmSt w O1 O2 O3 t xs (ahsV ys) n m A1 A2 B1 B2 a1 a2 b1 b2 p q wr := by
    rintro p q wr rfl rfl rfl
    obtain ⟨hb, h1, h2, h3, h4⟩ := four_new w _ _ _ _
    exact ⟨hb, h1, h2, h4, h3, hA1.below hb, hB1.below hb, hA2.below hb, hB2.below hb⟩
  have hs2 : ∀ p q wr, p = w.heap.size + 1 + 1 → q = w.heap.size + 1 + 1 + 1 → wr = ((((w.alloc (.cells #[.int .i64 O1, .bool O2, .int .i64 O3, .slice A1 n a1, .slice A2 m a2, .string t] 40)).alloc (.cells #[.int .i64 O1, .bool O2, .int .i64 O3, .slice B1 n b1, .slice B2 m b2, .string t] 40)).alloc
      (.cells #[.int .i64 O1, .bool O2, .int .i64 O3, .slice A1 n a1] 37)).alloc (.cells #[.int .i64 O1, .bool O2, .int .i64 O3, .slice B1 n b1] 37)).drew → SmSt w O1 O2 O3 t xs (ahsV ys) n m A1 A2 B1 B2 a1 a2 b1 b2 p q wr := by
    rintro p q wr rfl rfl rfl
    obtain ⟨hb, h1, h2, h3, h4⟩ := four_new w _ _ _ _
    exact ⟨hb, h1, h2, h3, h4, hA1.below hb, hB1.below hb, hA2.below hb, hB2.below hb⟩
  have HS1 := Lib.hid hs1
  have HS2 := Lib.hid hs2
  have HXN := Lib.hid hxn
  have HYM := Lib.hid hym
  have HXI := Lib.hid hxi
  clear hs1 hs2 hA1 hA2 hB1 hB2 hxn hym hxi
  go_enter Tryz.func7, Tryz.ntmps7
  go_wp2_with fail
  go_region
  all_goals
    generalize hW : World.drew (World.alloc _ _) = wS
    obtain ⟨u, hu⟩ : ∃ u, u = w.heap.size + 1 + 1 := ⟨_, rfl⟩
    obtain ⟨v, hv⟩ : ∃ v, v = w.heap.size + 1 + 1 + 1 := ⟨_, rfl⟩
    rw [← hv, ← hu]
    first
    | (have hst := HS1.out v u wS hv hu hW.symm
       obtain ⟨p, hp⟩ : ∃ p, p = v := ⟨_, rfl⟩
       obtain ⟨q, hq⟩ : ∃ q, q = u := ⟨_, rfl⟩
       subst hp hq)
    | (have hst := HS2.out u v wS hu hv hW.symm
       obtain ⟨p, hp⟩ : ∃ p, p = u := ⟨_, rfl⟩
       obtain ⟨q, hq⟩ : ∃ q, q = v := ⟨_, rfl⟩
       subst hp hq)
    clear hW hu hv HS1 HS2
    have HST := Lib.hid hst
    obtain ⟨⟨e4, e5, f4, f5⟩, ⟨c0, c1, c2, c3⟩, ⟨d0, d1, d2, d3⟩⟩ := hst.cells
    clear hst
    go_wp2_with fail
    clear e4 e5 f4 f5 c0 c1 c2 c3 d0 d1 d2 d3
    go_loopw [60] (fun i wr => ∃ k0 : Nat, i = .int .i64 k0 ∧ k0 ≤ n ∧ SmSt w O1 O2 O3 t xs (ahsV ys) n m A1 A2 B1 B2 a1 a2 b1 b2 p q wr) (fun i _ => n - (intOf i).toNat)
    case atStart => exact ⟨0, rfl, by omega, HST.out⟩
    case round =>
      obtain ⟨k0, rfl, hk0, hst⟩ := hrel
      have HST2 := Lib.hid hst
      by_cases hlt : k0 < n
      · obtain ⟨⟨e4, e5, f4, f5⟩, ⟨c0, c1, c2, c3⟩, ⟨d0, d1, d2, d3⟩⟩ := hst.cells
        obtain ⟨u, hu⟩ : ∃ u, xs[k0]? = some u := ⟨_, List.getElem?_eq_getElem (by rw [HXN.out]; exact hlt)⟩
        obtain ⟨v, rfl⟩ := HXI.out u (List.mem_of_getElem? hu)
        obtain ⟨g1, rfl, hg1, hc1⟩ := hst.rA1.at_ k0 _ hu
        obtain ⟨g2, rfl, hg2, hc2⟩ := hst.rB1.at_ k0 _ hu
        have hki : (k0 : Int) < (n : Int) := by omega
        clear hst hu e4 e5 f4 f5 c0 c1 c2 d0 d1 d2
        go_wp2_with fail
        go_quiet (fail)
        go_wp2_with fail
        go_roundw
        case rel => exact ⟨k0 + 1, by go_num, by omega, HST2.out.later (below_drewN (Below.refl _ _) nq)⟩
        case measure => simp [intOf]; omega
      · have hn0 : n = k0 := by omega
        subst hn0
        obtain ⟨⟨e4, e5, f4, f5⟩, -, -⟩ := hst.cells
        clear hst
        go_wp2_with fail
        clear e4 e5 f4 f5
        go_loopw [78] (fun i wr => ∃ k1 : Nat, i = .int .i64 k1 ∧ k1 ≤ m ∧ SmSt w O1 O2 O3 t xs (ahsV ys) n m A1 A2 B1 B2 a1 a2 b1 b2 p q wr) (fun i _ => m - (intOf i).toNat)
        case atStart => exact ⟨0, rfl, by omega, HST2.out⟩
        case round =>
          obtain ⟨k1, rfl, hk1, hst⟩ := hrel
          have HST3 := Lib.hid hst
          by_cases hlt : k1 < m
          · obtain ⟨⟨e4, e5, f4, f5⟩, -, -⟩ := hst.cells
            obtain ⟨y, hy1⟩ : ∃ y, ys[k1]? = some y := ⟨_, List.getElem?_eq_getElem (by rw [HYM.out]; exact hlt)⟩
            have hq1 := flat_at (fun x : Int × List UInt8 => [Value.int .i64 x.1, .string (bs x.2)]) 2 (fun _ => rfl) ys k1 0 y hy1 (by omega)
            have hq2 := flat_at (fun x : Int × List UInt8 => [Value.int .i64 x.1, .string (bs x.2)]) 2 (fun _ => rfl) ys k1 1 y hy1 (by omega)
            obtain ⟨g1, hA, hg1, hc1⟩ := hst.rA2.at_ _ _ hq1
            obtain ⟨g2, hB, hg2, hc2⟩ := hst.rB2.at_ _ _ hq1
            obtain ⟨g1', hA', -, hc3⟩ := hst.rA2.at_ _ _ hq2
            obtain ⟨g2', hB', -, hc4⟩ := hst.rB2.at_ _ _ hq2
            rw [hA] at hA'
            rw [hB] at hB'
            simp only [Option.some.injEq, Addr.mk.injEq, and_true] at hA' hB'
            subst hA' hB' hA hB
            simp only [Nat.add_zero] at hc1 hc2
            have hki : (k1 : Int) < (m : Int) := by omega
            clear hst hy1 hq1 hq2 e5 f5
            go_wp2_with fail
            go_quiet (fail)
            go_wp2_with fail
            go_roundw
            case rel => exact ⟨k1 + 1, by go_num, by omega, HST3.out.later (below_drewN (Below.refl _ _) nq)⟩
            case measure => simp [intOf]; omega
          · clear hst
            go_wp2_with fail
            go_ret
            exact ⟨rfl, HST3.out.below⟩
end Go.Proofs.YtincgdbfmnnpaaaGreatDoor

/- What a feed's Next answers: one spec for feed.Next and quaymasterref.Feed.Next. -/
namespace Go.Proofs.YtincgdbfmnnpaaaGreatDoor
open Go.RowKit
inductive NOut where
  | wait
  | fail (c : Int)
  | good (n : Nat)
  | spoilt (n : Nat)
def nextN (l : List UInt8) (mode : Int) : Nat := (pduSize l mode).1.toNat
def nextOut (l : List UInt8) (limit mode : Int) : NOut :=
  if l.length < 48 then .wait
  else if limit < dlen l then .fail 4
  else if (l.length : Int) < (pduSize l mode).1 then .wait
  else if pduErr (l.take (nextN l mode)) mode = 0 then .good (nextN l mode)
  else if pduErr (l.take (nextN l mode)) mode = 13 then .spoilt (nextN l mode)
  else .fail (pduErr (l.take (nextN l mode)) mode)
def NOut.ok : NOut → Bool
  | .good _ => true
  | .spoilt _ => true
  | _ => false
def NOut.err : NOut → Int
  | .fail c => c
  | _ => 0
def NOut.left (l : List UInt8) : NOut → List UInt8
  | .wait => l
  | .fail _ => []
  | .good n => l.drop n
  | .spoilt n => l.drop n
def NOut.bad : NOut → Bool
  | .fail _ => true
  | _ => false
def pz7 (t : ByteArray) : List Value := [.int .i64 0, .bool false, .int .i64 0, .slice none 0 0, .slice none 0 0, .string ⟨#[]⟩, .string t]
/-- The piece as a value. -/
def PieceIs (w' : World) (B : Nat) (l : List UInt8) (mode : Int) (v : Value) : NOut → Prop
  | .good n => ∃ v1 v2, v = .agg #[.int .i64 (headOp ((l.take n).take 48)), .bool (headNow ((l.take n).take 48)), .int .i64 (((l.take n).take 48).getD 1 0).toNat, v1, v2, .string (bs (unpad (pduRest (l.take n) mode) (dlen (l.take n))).1), .string ⟨#[]⟩] ∧
      w'.ownsRow B 60 1 v1 (headVals ((l.take n).take 48)).length (headVals ((l.take n).take 48)) ∧
      w'.ownsRow B 62 2 v2 (ahsAll (((pduAll (l.take n) mode).take (pduEnd (l.take n))).drop 48)).1.length (ahsV (ahsAll (((pduAll (l.take n) mode).take (pduEnd (l.take n))).drop 48)).1)
  | .spoilt _ => v = .agg (pz7 (bs (l.take 48))).toArray
  | _ => v = .agg (pz7 ⟨#[]⟩).toArray
/-- What Next leaves: a the feed's block, fc its cells then. -/
structure NextPost (w : World) (a : Nat) (l : List UInt8) (mode : Int) (out : NOut) (er : Int → Value) (fc : List Value) (T : TypeId) (e : Ending) (w' : World) : Prop where
  grown : w.grownBy w' (some a)
  fd : w'.heap[a]? = some (.cells fc.toArray T (0, 0))
  val : ∃ v, e = .returned (.tuple #[v, .bool out.ok, er out.err]) ∧ PieceIs w' w.heap.size l mode v out
/-- Between the stages: the result's cell, the feed's block. -/
structure NSt (w : World) (a : Nat) (fc : List Value) (T : TypeId) (wr : World) : Prop where
  grown : w.grownBy wr (some a)
  res : wr.heap[w.heap.size]? = some (.cells (pz7 ⟨#[]⟩).toArray 42 (0, 0))
  fd : wr.heap[a]? = some (.cells fc.toArray T (0, 0))
  lt : a < w.heap.size
theorem NSt.later {w : World} {a : Nat} {fc : List Value} {T : TypeId} {wr w' : World} (h : NSt w a fc T wr) (hb : Below wr.heap.size wr w') : NSt w a fc T w' :=
  ⟨⟨hb.os.trans h.grown.os, hb.tape.trans h.grown.tape, hb.output.trans h.grown.output, Nat.le_trans h.grown.size hb.size, fun k hk hne => (hb.block k (Nat.lt_of_lt_of_le hk h.grown.size)).trans (h.grown.block k hk hne)⟩,
    (hb.block _ (heap_lt h.res)).trans h.res, (hb.block _ (heap_lt h.fd)).trans h.fd, h.lt⟩
theorem NSt.set {w : World} {a : Nat} {fc : List Value} {T : TypeId} {wr : World} (h : NSt w a fc T wr) (i : Nat) (v : Value) : NSt w a (fc.set i v) T (wr.setCell ⟨a, i, none⟩ v) := by
  have g6 := grown_setCell wr ⟨a, i, none⟩ v
  refine ⟨⟨g6.os.trans h.grown.os, g6.tape.trans h.grown.tape, g6.output.trans h.grown.output, Nat.le_trans h.grown.size g6.size, fun k hk hne => (g6.block k (Nat.lt_of_lt_of_le hk h.grown.size) (fun e => hne e)).trans (h.grown.block k hk hne)⟩,
    (g6.block _ (heap_lt h.res) (fun e => by injection e with e; have e' : w.heap.size = a := e; have := h.lt; omega)).trans h.res, ?_, h.lt⟩
  have := h.fd
  simp [World.setCell, Array.getElem?_modify, this]
theorem NSt.row {w : World} {a : Nat} {fc : List Value} {T : TypeId} {wr : World} (h : NSt w a fc T wr) (cs : Array Value) : w.grownBy (wr.setRow w.heap.size cs) (some a) ∧ (wr.setRow w.heap.size cs).heap[a]? = some (.cells fc.toArray T (0, 0)) := by
  have hne : ∀ k, k < w.heap.size → (wr.setRow w.heap.size cs).heap[k]? = wr.heap[k]? := fun k hk => by
    simp only [World.setRow, Array.getElem?_modify, if_neg (show ¬ w.heap.size = k by omega)]
  refine ⟨⟨h.grown.os, h.grown.tape, h.grown.output, by simp; exact h.grown.size, fun k hk he => (hne k hk).trans (h.grown.block k hk he)⟩, (hne a h.lt).trans h.fd⟩
theorem ns_start {w : World} {a : Nat} {fc : List Value} {T : TypeId} (h : w.heap[a]? = some (.cells fc.toArray T (0, 0))) : NSt w a fc T (w.alloc (.cells (pz7 ⟨#[]⟩).toArray 42)) :=
  ⟨⟨rfl, rfl, rfl, by simp, fun k hk _ => Below.heap_alloc w _ k hk⟩, alloc_heap_new w _, (Below.heap_alloc w _ a (heap_lt h)).trans h, heap_lt h⟩
theorem NSt.cells4 {w : World} {a : Nat} {x y z u : Value} {T : TypeId} {wr : World} (h : NSt w a [x, y, z, u] T wr) : wr.cell? ⟨a, 0, none⟩ = some x ∧ wr.cell? ⟨a, 1, none⟩ = some y ∧ wr.cell? ⟨a, 2, none⟩ = some z ∧ wr.cell? ⟨a, 3, none⟩ = some u := by
  simp [World.cell?, h.fd]
theorem NSt.frz4 {w : World} {a : Nat} {fc : List Value} {T : TypeId} {wr : World} (h : NSt w a fc T wr) : wr.frozen? ⟨a, 0, none⟩ = false ∧ wr.frozen? ⟨a, 1, none⟩ = false ∧ wr.frozen? ⟨a, 2, none⟩ = false ∧ wr.frozen? ⟨a, 3, none⟩ = false := by
  simp [World.frozen?, h.fd]
theorem pieceinfo : (Tryz.prog.info? 42).map (·.size) = some 7 := by kernel_rfl
end Go.Proofs.YtincgdbfmnnpaaaGreatDoor

/- quaymasterref.Feed.Next. -/
namespace Go.Proofs.YtincgdbfmnnpaaaGreatDoor
open Go.RowKit
/-- The end of a way without a piece of its own. -/
theorem next_done {w wr : World} {a : Nat} {fc : List Value} {T : TypeId} (h : NSt w a fc T wr) {l : List UInt8} {mode : Int} {out : NOut} {er : Int → Value} {cs : List Value} {ok : Bool} {ev : Value}
    (h1 : out.ok = ok) (h2 : er out.err = ev) (h3 : PieceIs (wr.setRow w.heap.size cs.toArray) w.heap.size l mode (.agg cs.toArray) out) :
    NextPost w a l mode out er fc T (.returned (.tuple #[.agg cs.toArray, .bool ok, ev])) (wr.setRow w.heap.size cs.toArray) :=
  ⟨(h.row _).1, (h.row _).2, _, by rw [h1, h2], h3⟩
theorem next_wait {w wr : World} {a : Nat} {fc : List Value} {T : TypeId} (h : NSt w a fc T wr) {l : List UInt8} {mode : Int} {er : Int → Value} {ev : Value} (h2 : er 0 = ev) :
    NextPost w a l mode .wait er fc T (.returned (.tuple #[.agg (pz7 ⟨#[]⟩).toArray, .bool false, ev])) wr :=
  ⟨h.grown, h.fd, _, by rw [← h2]; rfl, rfl⟩
abbrev rfc (s : ByteArray) (limit mode : Int) (bad : Bool) : List Value := [.string s, .int .i64 limit, .int .i64 mode, .bool bad]
set_option maxRecDepth 100000 in
theorem rn_bad (a : Nat) (s : ByteArray) (limit mode : Int) (w : World) (hf : w.heap[a]? = some (.cells (rfc s limit mode true).toArray 34 (0, 0))) :
    Calls Tryz.prog 10 #[.pointer (some ⟨a, 0, none⟩)] w fun e w' => NextPost w a s.data.toList mode .wait (fun c => .int .i64 c) (rfc s limit mode true) 34 e w' := by
  have hst : NSt w a _ 34 (w.alloc (.cells #[.int .i64 0, .bool false, .int .i64 0, .slice none 0 0, .slice none 0 0, .string ⟨#[]⟩, .string ⟨#[]⟩] 42)) := ns_start hf
  obtain ⟨c0, c1, c2, c3⟩ := hst.cells4
  have HST := Lib.hid hst
  clear hst hf
  go_enter Tryz.func10, Tryz.ntmps10
  go_wp2_with fail
  refine bodyPost_ret (results_cell2 Tryz.results10 _ _ w.heap.size (pz7 ⟨#[]⟩) _ rfl (range_of_heap HST.out.res) Tryz.underlying42 rfl pieceinfo) rfl ?_
  exact next_wait HST.out rfl
set_option maxRecDepth 100000 in
theorem rn_short (a : Nat) (s : ByteArray) (limit mode : Int) (w : World) (hf : w.heap[a]? = some (.cells (rfc s limit mode false).toArray 34 (0, 0))) (h48 : s.size < 48) :
    Calls Tryz.prog 10 #[.pointer (some ⟨a, 0, none⟩)] w fun e w' => NextPost w a s.data.toList mode .wait (fun c => .int .i64 c) (rfc s limit mode false) 34 e w' := by
  have hst : NSt w a _ 34 (w.alloc (.cells #[.int .i64 0, .bool false, .int .i64 0, .slice none 0 0, .slice none 0 0, .string ⟨#[]⟩, .string ⟨#[]⟩] 42)) := ns_start hf
  obtain ⟨c0, c1, c2, c3⟩ := hst.cells4
  have HST := Lib.hid hst
  clear hst hf
  have hd : decide (s.size < 48) = true := decide_eq_true h48
  go_enter Tryz.func10, Tryz.ntmps10
  go_wp2_with fail
  refine bodyPost_ret (results_cell2 Tryz.results10 _ _ w.heap.size (pz7 ⟨#[]⟩) _ rfl (range_of_heap HST.out.res) Tryz.underlying42 rfl pieceinfo) rfl ?_
  exact next_wait HST.out rfl
end Go.Proofs.YtincgdbfmnnpaaaGreatDoor

/- quaymasterref.Feed.Next: the limit, too few bytes. -/
namespace Go.Proofs.YtincgdbfmnnpaaaGreatDoor
open Go.RowKit
set_option maxRecDepth 100000 in
set_option maxHeartbeats 4000000 in
theorem rn_limit (a : Nat) (s : ByteArray) (limit mode : Int) (w : World) (hf : w.heap[a]? = some (.cells (rfc s limit mode false).toArray 34 (0, 0))) (hs : s.size ≤ 140737488355328) (h48 : 48 ≤ s.size) (hl : limit < dlen s.data.toList) :
    Calls Tryz.prog 10 #[.pointer (some ⟨a, 0, none⟩)] w fun e w' => NextPost w a s.data.toList mode (.fail 4) (fun c => .int .i64 c) (rfc ⟨#[]⟩ limit mode true) 34 e w' := by
  have hst : NSt w a _ 34 (w.alloc (.cells #[.int .i64 0, .bool false, .int .i64 0, .slice none 0 0, .slice none 0 0, .string ⟨#[]⟩, .string ⟨#[]⟩] 42)) := ns_start hf
  obtain ⟨c0, c1, c2, c3⟩ := hst.cells4
  have HST := Lib.hid hst
  have hd : decide (s.size < 48) = false := decide_eq_false (by omega)
  have hi8 : (8 : Int) ≤ (s.size : Int) := by omega
  have hx : (s.extract 5 8).data.toList = (s.data.toList.drop 5).take 3 := by rw [Lib.extract_data]
  obtain ⟨D, hD⟩ : ∃ D, D = dlen s.data.toList := ⟨_, rfl⟩
  have hD2 : D ≤ 16777215 := by rw [hD]; exact dlen_lt _
  rw [← hD] at hl
  have hU := fun w => unnumber_any (s.extract 5 8) w (by rw [Lib.size_eq, Lib.extract_data]; simp; omega)
  rw [hx, show beN ((s.data.toList.drop 5).take 3) = D from hD.symm] at hU
  have q1 : IntKind.i64.wrap (D : Int) = D := IntWalk.i64_in _ (by omega)
  have HU := Lib.hid hU
  clear hst hf hU hx hD
  go_enter Tryz.func10, Tryz.ntmps10
  go_wp2_with fail
  refine (HU.out _).mono ?_
  rintro e w1 ⟨rfl, hb1⟩
  have hst := HST.out.later hb1
  clear c0 c1 c2 c3 HST
  obtain ⟨c0, c1, c2, c3⟩ := hst.cells4
  obtain ⟨f0, -, -, f3⟩ := hst.frz4
  have HST := Lib.hid hst
  have hal : a < w1.heap.size := heap_lt hst.fd
  clear hst hb1
  have HF := Lib.hid (((HST.out.set 3 (.bool true)).set 0 (.string ⟨#[]⟩)).later ((Below.refl _ _).alloc (Nat.le_refl _) (.cells #[.int .i64 0, .bool false, .int .i64 0, .slice none 0 0, .slice none 0 0, .string ⟨#[]⟩] 40)))
  go_wp2_with (refine wpList_store_row rfl 42 _ _ rfl w.heap.size #[.int .i64 0, .bool false, .int .i64 0, .slice none 0 0, .slice none 0 0, .string ⟨#[]⟩, .string ⟨#[]⟩] rfl rfl 42 _ HF.out.res pieceinfo rfl (by simp [Value.oneCell']) ?_)
  refine bodyPost_ret (results_cell2 Tryz.results10 _ _ w.heap.size (pz7 ⟨#[]⟩) _ rfl (range_of_heap (setRow_heap _ _ _ _ _ _ HF.out.res)) Tryz.underlying42 rfl pieceinfo) rfl ?_
  exact next_done HF.out rfl rfl rfl
set_option maxRecDepth 100000 in
set_option maxHeartbeats 4000000 in
theorem rn_wait (a : Nat) (s : ByteArray) (limit mode : Int) (w : World) (hf : w.heap[a]? = some (.cells (rfc s limit mode false).toArray 34 (0, 0))) (hs : s.size ≤ 140737488355328) (h48 : 48 ≤ s.size) (hl : ¬ limit < dlen s.data.toList) (hz : (s.size : Int) < (pduSize s.data.toList mode).1) :
    Calls Tryz.prog 10 #[.pointer (some ⟨a, 0, none⟩)] w fun e w' => NextPost w a s.data.toList mode .wait (fun c => .int .i64 c) (rfc s limit mode false) 34 e w' := by
  have hst : NSt w a _ 34 (w.alloc (.cells #[.int .i64 0, .bool false, .int .i64 0, .slice none 0 0, .slice none 0 0, .string ⟨#[]⟩, .string ⟨#[]⟩] 42)) := ns_start hf
  obtain ⟨c0, c1, c2, c3⟩ := hst.cells4
  have HST := Lib.hid hst
  have hd : decide (s.size < 48) = false := decide_eq_false (by omega)
  have hi8 : (8 : Int) ≤ (s.size : Int) := by omega
  have hx : (s.extract 5 8).data.toList = (s.data.toList.drop 5).take 3 := by rw [Lib.extract_data]
  obtain ⟨D, hD⟩ : ∃ D, D = dlen s.data.toList := ⟨_, rfl⟩
  have hD2 : D ≤ 16777215 := by rw [hD]; exact dlen_lt _
  rw [← hD] at hl
  have hU := fun w => unnumber_any (s.extract 5 8) w (by rw [Lib.size_eq, Lib.extract_data]; simp; omega)
  rw [hx, show beN ((s.data.toList.drop 5).take 3) = D from hD.symm] at hU
  have q1 : IntKind.i64.wrap (D : Int) = D := IntWalk.i64_in _ (by omega)
  have hZ := fun w => refsize_any s mode w hs
  obtain ⟨z, hzz⟩ : ∃ z, z = (pduSize s.data.toList mode).1 := ⟨_, rfl⟩
  obtain ⟨ze, hze⟩ : ∃ ze, ze = (pduSize s.data.toList mode).2 := ⟨_, rfl⟩
  rw [← hzz, ← hze] at hZ
  rw [← hzz] at hz
  have HU := Lib.hid hU
  have HZ := Lib.hid hZ
  clear hst hf hU hx hD hZ hzz hze
  go_enter Tryz.func10, Tryz.ntmps10
  go_wp2_with fail
  refine (HU.out _).mono ?_
  rintro e w1 ⟨rfl, hb1⟩
  have hst := HST.out.later hb1
  clear c0 c1 c2 c3 HST
  obtain ⟨c0, c1, c2, c3⟩ := hst.cells4
  have HST := Lib.hid hst
  have hal : a < w1.heap.size := heap_lt hst.fd
  clear hst hb1
  go_wp2_with fail
  go_region_held3 (fun w' => w'.cell? ⟨a, 0, none⟩ = some (.string s) ∧ w'.cell? ⟨a, 2, none⟩ = some (.int .i64 mode)) (go_keep) ((go_at_call 17; refine (HZ.out _).mono ?_; rintro e w6 ⟨rfl, hb6⟩; have hst6 := (HST.out.later ((Below.refl _ w1).alloc (Nat.le_refl _) (.cells #[.int .i64 0, .bool false, .int .i64 0, .slice none 0 0, .slice none 0 0, .string ⟨#[]⟩] 40))).later (below_undrew hb6); have x0 := hst6.cells4.1; have x2 := hst6.cells4.2.2.1; have HST6 := Lib.hid hst6; clear hst6 hb6))
  go_wp2_with (refine wpList_store_row rfl 42 _ _ rfl w.heap.size #[.int .i64 0, .bool false, .int .i64 0, .slice none 0 0, .slice none 0 0, .string ⟨#[]⟩, .string ⟨#[]⟩] rfl rfl 42 _ HST6.out.res pieceinfo rfl (by simp [Value.oneCell']) ?_)
  refine bodyPost_ret (results_cell2 Tryz.results10 _ _ w.heap.size (pz7 ⟨#[]⟩) _ rfl (range_of_heap (setRow_heap _ _ _ _ _ _ HST6.out.res)) Tryz.underlying42 rfl pieceinfo) rfl ?_
  exact next_done HST6.out rfl rfl rfl
end Go.Proofs.YtincgdbfmnnpaaaGreatDoor

/- quaymasterref.Feed.Next: a PDU is there. -/
namespace Go.Proofs.YtincgdbfmnnpaaaGreatDoor
open Go.RowKit
/-- PduRead's good answer, in letters. -/
theorem rr_good (s : ByteArray) (mode : Int) (hs : s.size ≤ 140737488355328) (h0 : pduErr s.data.toList mode = 0) (w : World) : Calls Tryz.prog 18 #[.string s, .int .i64 mode] w fun e w' =>
    ∃ A1 n1 c1 A2 n2 c2 zz, e = .returned (.tuple #[.agg #[.int .i64 (headOp (s.data.toList.take 48)), .bool (headNow (s.data.toList.take 48)), .int .i64 ((s.data.toList.take 48).getD 1 0).toNat, .slice A1 n1 c1, .slice A2 n2 c2, .string (bs (unpad (pduRest s.data.toList mode) (dlen s.data.toList)).1)], .int .i64 zz, .int .i64 0]) ∧ Below w.heap.size w w' ∧
      w'.ownsRow w.heap.size 60 1 (.slice A1 n1 c1) (headVals (s.data.toList.take 48)).length (headVals (s.data.toList.take 48)) ∧
      w'.ownsRow w.heap.size 62 2 (.slice A2 n2 c2) (ahsAll (((pduAll s.data.toList mode).take (pduEnd s.data.toList)).drop 48)).1.length (ahsV (ahsAll (((pduAll s.data.toList mode).take (pduEnd s.data.toList)).drop 48)).1) := by
  refine (rr_any s mode w hs).mono ?_
  rintro e w' ⟨hb, ⟨-, v, rfl, v1, v2, rfl, h1, h2⟩ | ⟨h, -⟩⟩
  · obtain ⟨A1, n1, c1, rfl⟩ := own_slice h1
    obtain ⟨A2, n2, c2, rfl⟩ := own_slice h2
    exact ⟨A1, n1, c1, A2, n2, c2, _, rfl, hb, h1, h2⟩
  · exact absurd h0 h
theorem rr_bad (s : ByteArray) (mode c : Int) (hs : s.size ≤ 140737488355328) (hc : pduErr s.data.toList mode = c) (h0 : c ≠ 0) (w : World) : Calls Tryz.prog 18 #[.string s, .int .i64 mode] w fun e w' =>
    e = .returned (.tuple #[.agg #[.int .i64 0, .bool false, .int .i64 0, .slice none 0 0, .slice none 0 0, .string ⟨#[]⟩], .int .i64 0, .int .i64 c]) ∧ Below w.heap.size w w' := by
  refine (rr_any s mode w hs).mono ?_
  rintro e w' ⟨hb, ⟨h, -⟩ | ⟨-, rfl⟩⟩
  · exact absurd (hc.symm.trans h) h0
  · rw [hc]; exact ⟨rfl, hb⟩
theorem pcells {wr : World} {p : Nat} {t : TypeId} {x0 x1 x2 x3 x4 x5 : Value} (h : wr.heap[p]? = some (.cells #[x0, x1, x2, x3, x4, x5] t (0, 0))) :
    (wr.cell? ⟨p, 0, none⟩ = some x0 ∧ wr.cell? ⟨p, 1, none⟩ = some x1 ∧ wr.cell? ⟨p, 2, none⟩ = some x2 ∧ wr.cell? ⟨p, 3, none⟩ = some x3 ∧ wr.cell? ⟨p, 4, none⟩ = some x4 ∧ wr.cell? ⟨p, 5, none⟩ = some x5) ∧
    (wr.frozen? ⟨p, 0, none⟩ = false ∧ wr.frozen? ⟨p, 1, none⟩ = false ∧ wr.frozen? ⟨p, 2, none⟩ = false ∧ wr.frozen? ⟨p, 3, none⟩ = false ∧ wr.frozen? ⟨p, 4, none⟩ = false ∧ wr.frozen? ⟨p, 5, none⟩ = false) := by
  simp [World.cell?, World.frozen?, h]
theorem own_set6 {w : World} {base : Nat} {e : TypeId} {size n : Nat} {v : Value} {xs : List Value} (h : w.ownsRow base e size v n xs) (g : Nat) (hg : g < base) (a b c d x y : Value) :
    ((((((w.setCell ⟨g, 0, none⟩ a).setCell ⟨g, 1, none⟩ b).setCell ⟨g, 2, none⟩ c).setCell ⟨g, 3, none⟩ d).setCell ⟨g, 4, none⟩ x).setCell ⟨g, 5, none⟩ y).ownsRow base e size v n xs :=
  own_set (own_set (own_set4 h g hg a b c d) g 4 hg x) g 5 hg y
/-- With p's block. -/
structure NSp (w : World) (a : Nat) (fc : List Value) (T : TypeId) (p : Nat) (pc : List Value) (wr : World) : Prop where
  st : NSt w a fc T wr
  pb : wr.heap[p]? = some (.cells pc.toArray 40 (0, 0))
  lt : w.heap.size < p
theorem NSp.later {w : World} {a : Nat} {fc : List Value} {T : TypeId} {p : Nat} {pc : List Value} {wr w' : World} (h : NSp w a fc T p pc wr) (hb : Below wr.heap.size wr w') : NSp w a fc T p pc w' :=
  ⟨h.st.later hb, (hb.block _ (heap_lt h.pb)).trans h.pb, h.lt⟩
theorem NSp.set {w : World} {a : Nat} {fc : List Value} {T : TypeId} {p : Nat} {pc : List Value} {wr : World} (h : NSp w a fc T p pc wr) (i : Nat) (v : Value) : NSp w a (fc.set i v) T p pc (wr.setCell ⟨a, i, none⟩ v) :=
  ⟨h.st.set i v, (Below.heap_setCell _ _ _ _ (by have := h.lt; have := h.st.lt; show p ≠ a; omega)).trans h.pb, h.lt⟩
theorem NSp.setp {w : World} {a : Nat} {fc : List Value} {T : TypeId} {p : Nat} {pc : List Value} {wr : World} (h : NSp w a fc T p pc wr) (i : Nat) (v : Value) : NSp w a fc T p (pc.set i v) (wr.setCell ⟨p, i, none⟩ v) := by
  have g6 := grown_setCell wr ⟨p, i, none⟩ v
  have hlt := h.lt
  have halt := h.st.lt
  refine ⟨⟨⟨g6.os.trans h.st.grown.os, g6.tape.trans h.st.grown.tape, g6.output.trans h.st.grown.output, Nat.le_trans h.st.grown.size g6.size, fun k hk hne => (g6.block k (Nat.lt_of_lt_of_le hk h.st.grown.size) (fun e => by injection e with e; have e' : k = p := e; omega)).trans (h.st.grown.block k hk hne)⟩,
    (g6.block _ (heap_lt h.st.res) (fun e => by injection e with e; have e' : w.heap.size = p := e; omega)).trans h.st.res, (g6.block _ (heap_lt h.st.fd) (fun e => by injection e with e; have e' : a = p := e; omega)).trans h.st.fd, halt⟩, ?_, hlt⟩
  have := h.pb
  simp [World.setCell, Array.getElem?_modify, this]
set_option maxRecDepth 100000 in
set_option maxHeartbeats 4000000 in
theorem rn_good (a : Nat) (s : ByteArray) (limit mode : Int) (z : Nat) (w : World) (hf : w.heap[a]? = some (.cells (rfc s limit mode false).toArray 34 (0, 0))) (hs : s.size ≤ 140737488355328) (h48 : 48 ≤ s.size) (hl : ¬ limit < dlen s.data.toList) (hzz : (z : Int) = (pduSize s.data.toList mode).1) (hz : z ≤ s.size)
    (h0 : pduErr (s.data.toList.take z) mode = 0) :
    Calls Tryz.prog 10 #[.pointer (some ⟨a, 0, none⟩)] w fun e w' => NextPost w a s.data.toList mode (.good z) (fun c => .int .i64 c) (rfc (bs (s.data.toList.drop z)) limit mode false) 34 e w' := by
  have hst : NSt w a _ 34 (w.alloc (.cells #[.int .i64 0, .bool false, .int .i64 0, .slice none 0 0, .slice none 0 0, .string ⟨#[]⟩, .string ⟨#[]⟩] 42)) := ns_start hf
  obtain ⟨c0, c1, c2, c3⟩ := hst.cells4
  have HST := Lib.hid hst
  have hd : decide (s.size < 48) = false := decide_eq_false (by omega)
  have hi8 : (8 : Int) ≤ (s.size : Int) := by omega
  have hx : (s.extract 5 8).data.toList = (s.data.toList.drop 5).take 3 := by rw [Lib.extract_data]
  obtain ⟨D, hD⟩ : ∃ D, D = dlen s.data.toList := ⟨_, rfl⟩
  have hD2 : D ≤ 16777215 := by rw [hD]; exact dlen_lt _
  rw [← hD] at hl
  have hU := fun w => unnumber_any (s.extract 5 8) w (by rw [Lib.size_eq, Lib.extract_data]; simp; omega)
  rw [hx, show beN ((s.data.toList.drop 5).take 3) = D from hD.symm] at hU
  have q1 : IntKind.i64.wrap (D : Int) = D := IntWalk.i64_in _ (by omega)
  have hZ := fun w => refsize_any s mode w hs
  obtain ⟨ze, hze⟩ : ∃ ze, ze = (pduSize s.data.toList mode).2 := ⟨_, rfl⟩
  rw [← hzz, ← hze] at hZ
  have hzi : (z : Int) ≤ (s.size : Int) := by omega
  have hnz : ¬ s.size < z := by omega
  have hpl : (s.extract 0 z).data.toList = s.data.toList.take z := by rw [Lib.extract_data]; simp
  have hR := fun w => rr_good (s.extract 0 z) mode (by rw [Lib.size_eq, hpl, List.length_take]; omega) (by rw [hpl]; exact h0) w
  rw [hpl] at hR
  obtain ⟨L, hL⟩ : ∃ L, L = s.data.toList.take z := ⟨_, rfl⟩
  rw [← hL] at hR
  obtain ⟨O1, hO1⟩ : ∃ O1, O1 = headOp (L.take 48) := ⟨_, rfl⟩
  obtain ⟨O2, hO2⟩ : ∃ O2, O2 = headNow (L.take 48) := ⟨_, rfl⟩
  obtain ⟨O3, hO3⟩ : ∃ O3 : Int, O3 = (((L.take 48).getD 1 0).toNat : Int) := ⟨_, rfl⟩
  obtain ⟨t, ht⟩ : ∃ t, t = bs (unpad (pduRest L mode) (dlen L)).1 := ⟨_, rfl⟩
  rw [← hO1, ← hO2, ← hO3, ← ht] at hR
  have HR := Lib.hid hR
  have HU := Lib.hid hU
  have HZ := Lib.hid hZ
  have HL := Lib.hid hL
  have HO1 := Lib.hid hO1
  have HO2 := Lib.hid hO2
  have HO3 := Lib.hid hO3
  have HT := Lib.hid ht
  clear hst hf hU hx hD hZ hzz hze hR hL hO1 hO2 hO3 ht hpl h0
  go_enter Tryz.func10, Tryz.ntmps10
  go_wp2_with fail
  refine (HU.out _).mono ?_
  rintro e w1 ⟨rfl, hb1⟩
  have hst := HST.out.later hb1
  clear c0 c1 c2 c3 HST
  obtain ⟨c0, c1, c2, c3⟩ := hst.cells4
  have hsp : NSp w a _ 34 w1.heap.size [.int .i64 0, .bool false, .int .i64 0, .slice none 0 0, .slice none 0 0, .string ⟨#[]⟩] (w1.alloc (.cells #[.int .i64 0, .bool false, .int .i64 0, .slice none 0 0, .slice none 0 0, .string ⟨#[]⟩] 40)) :=
    ⟨hst.later ((Below.refl _ w1).alloc (Nat.le_refl _) _), alloc_heap_new w1 _, heap_lt hst.res⟩
  have HSP := Lib.hid hsp
  have hal : a < w1.heap.size := heap_lt hst.fd
  clear hst hb1 hsp
  go_wp2_with fail
  go_region_held3 (fun w' => w'.cell? ⟨a, 0, none⟩ = some (.string s) ∧ w'.cell? ⟨a, 2, none⟩ = some (.int .i64 mode)) (go_keep) ((go_at_call 17; refine (HZ.out _).mono ?_; rintro e w6 ⟨rfl, hb6⟩; have hst6 := HSP.out.later (below_undrew hb6); have x0 := hst6.st.cells4.1; have x2 := hst6.st.cells4.2.2.1; have HST6 := Lib.hid hst6; clear hst6 hb6))
  clear c0 c1 c2 c3 hal
  obtain ⟨p, hp⟩ : ∃ p, p = w1.heap.size := ⟨_, rfl⟩
  rw [← hp] at HST6 ⊢
  clear hp
  have hap : a ≠ p := by have := HST6.out.lt; have := HST6.out.st.lt; omega
  have hpa : ¬ p = a := fun h => hap h.symm
  go_wp2_with fail
  go_region_held3 (fun w' => w'.cell? ⟨a, 0, none⟩ = some (.string s) ∧ w'.cell? ⟨a, 2, none⟩ = some (.int .i64 mode)) (go_keep) ((go_at_call 18; refine (HR.out _).mono ?_; rintro e w7 ⟨A1, n1, k1, A2, n2, k2, zz, rfl, hb7, ho1, ho2⟩; have hst7 := HST6.out.later (below_undrew hb7); obtain ⟨⟨y0, y1, y2, y3, y4, y5⟩, ⟨g0, g1, g2, g3, g4, g5⟩⟩ := pcells hst7.pb; have x0' := hst7.st.cells4.1; have x2' := hst7.st.cells4.2.2.1; have ho1' := own_mono (base' := p + 1) ho1 (heap_lt HST6.out.pb); have ho2' := own_mono (base' := p + 1) ho2 (heap_lt HST6.out.pb); have HOW1 := Lib.hid ho1'; have HOW2 := Lib.hid ho2'; have HST7 := Lib.hid hst7; clear hst7 hb7 ho1 ho2 ho1' ho2'))
  have hE := (((((HST7.out.setp 0 (.int .i64 O1)).setp 1 (.bool O2)).setp 2 (.int .i64 O3)).setp 3 (.slice A1 n1 k1)).setp 4 (.slice A2 n2 k2)).setp 5 (.string t)
  have hw1 := own_set6 HOW1.out p (Nat.lt_succ_self p) (.int .i64 O1) (.bool O2) (.int .i64 O3) (.slice A1 n1 k1) (.slice A2 n2 k2) (.string t)
  have hw2 := own_set6 HOW2.out p (Nat.lt_succ_self p) (.int .i64 O1) (.bool O2) (.int .i64 O3) (.slice A1 n1 k1) (.slice A2 n2 k2) (.string t)
  generalize ((((((w7.setCell ⟨p, 0, none⟩ (Value.int .i64 O1)).setCell ⟨p, 1, none⟩ (Value.bool O2)).setCell ⟨p, 2, none⟩ (Value.int .i64 O3)).setCell ⟨p, 3, none⟩ (Value.slice A1 n1 k1)).setCell ⟨p, 4, none⟩ (Value.slice A2 n2 k2)).setCell ⟨p, 5, none⟩ (Value.string t)) = wE at hE hw1 hw2 ⊢
  have hE' : NSp w a (rfc s limit mode false) 34 p [.int .i64 O1, .bool O2, .int .i64 O3, .slice A1 n1 k1, .slice A2 n2 k2, .string t] wE := hE
  clear y0 y1 y2 y3 y4 y5 g0 g1 g2 g3 g4 g5 x0' x2' hE
  obtain ⟨c0, c1, c2, c3⟩ := hE'.st.cells4
  obtain ⟨f0, -, -, -⟩ := hE'.st.frz4
  obtain ⟨⟨y0, y1, y2, y3, y4, y5⟩, -⟩ := pcells hE'.pb
  have hF := hE'.set 0 (.string (s.extract z s.size))
  have HF := Lib.hid hF
  have hV1 := own_set hw1 a 0 (by have := hE'.lt; have := hE'.st.lt; omega) (.string (s.extract z s.size))
  have hV2 := own_set hw2 a 0 (by have := hE'.lt; have := hE'.st.lt; omega) (.string (s.extract z s.size))
  have HV1 := Lib.hid hV1
  have HV2 := Lib.hid hV2
  have hwp := hE'.lt
  clear hE' hF hV1 hV2 hw1 hw2
  go_wp2_with (refine wpList_store_row rfl 42 _ _ rfl w.heap.size #[.int .i64 O1, .bool O2, .int .i64 O3, .slice A1 n1 k1, .slice A2 n2 k2, .string t, .string ⟨#[]⟩] rfl rfl 42 _ HF.out.st.res pieceinfo rfl (by simp [Value.oneCell']) ?_)
  refine bodyPost_ret (results_cell2 Tryz.results10 _ _ w.heap.size [.int .i64 O1, .bool O2, .int .i64 O3, .slice A1 n1 k1, .slice A2 n2 k2, .string t, .string ⟨#[]⟩] _ rfl (range_of_heap (setRow_heap _ _ _ _ _ _ HF.out.st.res)) Tryz.underlying42 rfl pieceinfo) rfl ?_
  have hxx : bs (s.data.toList.drop z) = s.extract z s.size := (bs_eq (by rw [Lib.extract_data]; exact List.take_of_length_le (by rw [List.length_drop, ← Lib.size_eq]; exact Nat.le_refl _))).symm
  rw [hxx]
  refine next_done HF.out.st rfl rfl ⟨.slice A1 n1 k1, .slice A2 n2 k2, ?_, ?_, ?_⟩
  · rw [HO1.out, HO2.out, HO3.out, HT.out, HL.out]
  · rw [← HL.out]; exact own_mono (own_setRow HV1.out w.heap.size (by omega) _) (by omega)
  · rw [← HL.out]; exact own_mono (own_setRow HV2.out w.heap.size (by omega) _) (by omega)
end Go.Proofs.YtincgdbfmnnpaaaGreatDoor

/- quaymasterref.Feed.Next: a PDU that is spoilt or wrong. -/
namespace Go.Proofs.YtincgdbfmnnpaaaGreatDoor
open Go.RowKit
set_option maxRecDepth 100000 in
set_option maxHeartbeats 4000000 in
theorem rn_spoilt (a : Nat) (s : ByteArray) (limit mode : Int) (z : Nat) (w : World) (hf : w.heap[a]? = some (.cells (rfc s limit mode false).toArray 34 (0, 0))) (hs : s.size ≤ 140737488355328) (h48 : 48 ≤ s.size) (hl : ¬ limit < dlen s.data.toList) (hzz : (z : Int) = (pduSize s.data.toList mode).1) (hz : z ≤ s.size)
    (h0 : pduErr (s.data.toList.take z) mode = 13) :
    Calls Tryz.prog 10 #[.pointer (some ⟨a, 0, none⟩)] w fun e w' => NextPost w a s.data.toList mode (.spoilt z) (fun c => .int .i64 c) (rfc (bs (s.data.toList.drop z)) limit mode false) 34 e w' := by
  have hst : NSt w a _ 34 (w.alloc (.cells #[.int .i64 0, .bool false, .int .i64 0, .slice none 0 0, .slice none 0 0, .string ⟨#[]⟩, .string ⟨#[]⟩] 42)) := ns_start hf
  obtain ⟨c0, c1, c2, c3⟩ := hst.cells4
  have HST := Lib.hid hst
  have hd : decide (s.size < 48) = false := decide_eq_false (by omega)
  have hi8 : (8 : Int) ≤ (s.size : Int) := by omega
  have hx : (s.extract 5 8).data.toList = (s.data.toList.drop 5).take 3 := by rw [Lib.extract_data]
  obtain ⟨D, hD⟩ : ∃ D, D = dlen s.data.toList := ⟨_, rfl⟩
  have hD2 : D ≤ 16777215 := by rw [hD]; exact dlen_lt _
  rw [← hD] at hl
  have hU := fun w => unnumber_any (s.extract 5 8) w (by rw [Lib.size_eq, Lib.extract_data]; simp; omega)
  rw [hx, show beN ((s.data.toList.drop 5).take 3) = D from hD.symm] at hU
  have q1 : IntKind.i64.wrap (D : Int) = D := IntWalk.i64_in _ (by omega)
  have hZ := fun w => refsize_any s mode w hs
  obtain ⟨ze, hze⟩ : ∃ ze, ze = (pduSize s.data.toList mode).2 := ⟨_, rfl⟩
  rw [← hzz, ← hze] at hZ
  have hzi : (z : Int) ≤ (s.size : Int) := by omega
  have hnz : ¬ s.size < z := by omega
  have hpl : (s.extract 0 z).data.toList = s.data.toList.take z := by rw [Lib.extract_data]; simp
  have hR := fun w => rr_bad (s.extract 0 z) mode 13 (by rw [Lib.size_eq, hpl, List.length_take]; omega) (by rw [hpl]; exact h0) (by decide) w
  have HR := Lib.hid hR
  have HU := Lib.hid hU
  have HZ := Lib.hid hZ
  clear hst hf hU hx hD hZ hzz hze hR hpl h0
  go_enter Tryz.func10, Tryz.ntmps10
  go_wp2_with fail
  refine (HU.out _).mono ?_
  rintro e w1 ⟨rfl, hb1⟩
  have hst := HST.out.later hb1
  clear c0 c1 c2 c3 HST
  obtain ⟨c0, c1, c2, c3⟩ := hst.cells4
  have hsp : NSp w a _ 34 w1.heap.size [.int .i64 0, .bool false, .int .i64 0, .slice none 0 0, .slice none 0 0, .string ⟨#[]⟩] (w1.alloc (.cells #[.int .i64 0, .bool false, .int .i64 0, .slice none 0 0, .slice none 0 0, .string ⟨#[]⟩] 40)) :=
    ⟨hst.later ((Below.refl _ w1).alloc (Nat.le_refl _) _), alloc_heap_new w1 _, heap_lt hst.res⟩
  have HSP := Lib.hid hsp
  have hal : a < w1.heap.size := heap_lt hst.fd
  clear hst hb1 hsp
  go_wp2_with fail
  go_region_held3 (fun w' => w'.cell? ⟨a, 0, none⟩ = some (.string s) ∧ w'.cell? ⟨a, 2, none⟩ = some (.int .i64 mode)) (go_keep) ((go_at_call 17; refine (HZ.out _).mono ?_; rintro e w6 ⟨rfl, hb6⟩; have hst6 := HSP.out.later (below_undrew hb6); have x0 := hst6.st.cells4.1; have x2 := hst6.st.cells4.2.2.1; have HST6 := Lib.hid hst6; clear hst6 hb6))
  clear c0 c1 c2 c3 hal
  obtain ⟨p, hp⟩ : ∃ p, p = w1.heap.size := ⟨_, rfl⟩
  rw [← hp] at HST6 ⊢
  clear hp
  have hap : a ≠ p := by have := HST6.out.lt; have := HST6.out.st.lt; omega
  have hpa : ¬ p = a := fun h => hap h.symm
  go_wp2_with fail
  go_region_held3 (fun w' => w'.cell? ⟨a, 0, none⟩ = some (.string s) ∧ w'.cell? ⟨a, 2, none⟩ = some (.int .i64 mode)) (go_keep) ((go_at_call 18; refine (HR.out _).mono ?_; rintro e w7 ⟨rfl, hb7⟩; have hst7 := HST6.out.later (below_undrew hb7); obtain ⟨⟨y0, y1, y2, y3, y4, y5⟩, ⟨g0, g1, g2, g3, g4, g5⟩⟩ := pcells hst7.pb; have x0' := hst7.st.cells4.1; have x2' := hst7.st.cells4.2.2.1; have HST7 := Lib.hid hst7; clear hst7 hb7))
  have hE := (((((HST7.out.setp 0 (.int .i64 0)).setp 1 (.bool false)).setp 2 (.int .i64 0)).setp 3 (.slice none 0 0)).setp 4 (.slice none 0 0)).setp 5 (.string ⟨#[]⟩)
  generalize ((((((w7.setCell ⟨p, 0, none⟩ (Value.int .i64 0)).setCell ⟨p, 1, none⟩ (Value.bool false)).setCell ⟨p, 2, none⟩ (Value.int .i64 0)).setCell ⟨p, 3, none⟩ (Value.slice none 0 0)).setCell ⟨p, 4, none⟩ (Value.slice none 0 0)).setCell ⟨p, 5, none⟩ (Value.string ⟨#[]⟩)) = wE at hE ⊢
  have hE' : NSp w a (rfc s limit mode false) 34 p [.int .i64 0, .bool false, .int .i64 0, .slice none 0 0, .slice none 0 0, .string ⟨#[]⟩] wE := hE
  clear y0 y1 y2 y3 y4 y5 g0 g1 g2 g3 g4 g5 x0' x2' hE
  obtain ⟨c0, c1, c2, c3⟩ := hE'.st.cells4
  obtain ⟨f0, -, -, f3⟩ := hE'.st.frz4
  have hi48 : (48 : Int) ≤ (s.size : Int) := by omega
  have hF := hE'.set 0 (.string (s.extract z s.size))
  have HF := Lib.hid hF
  clear hE' hF
  go_wp2_with (refine wpList_store_row rfl 42 _ _ rfl w.heap.size #[.int .i64 0, .bool false, .int .i64 0, .slice none 0 0, .slice none 0 0, .string ⟨#[]⟩, .string (s.extract 0 48)] rfl rfl 42 _ HF.out.st.res pieceinfo rfl (by simp [Value.oneCell']) ?_)
  refine bodyPost_ret (results_cell2 Tryz.results10 _ _ w.heap.size [.int .i64 0, .bool false, .int .i64 0, .slice none 0 0, .slice none 0 0, .string ⟨#[]⟩, .string (s.extract 0 48)] _ rfl (range_of_heap (setRow_heap _ _ _ _ _ _ HF.out.st.res)) Tryz.underlying42 rfl pieceinfo) rfl ?_
  have hxx : bs (s.data.toList.drop z) = s.extract z s.size := (bs_eq (by rw [Lib.extract_data]; exact List.take_of_length_le (by rw [List.length_drop, ← Lib.size_eq]; exact Nat.le_refl _))).symm
  have hyy : bs (s.data.toList.take 48) = s.extract 0 48 := (bs_eq (by rw [Lib.extract_data]; rfl)).symm
  rw [hxx]
  refine next_done HF.out.st rfl rfl ?_
  show Value.agg _ = Value.agg (pz7 (bs (s.data.toList.take 48))).toArray
  rw [hyy]; rfl
set_option maxRecDepth 100000 in
set_option maxHeartbeats 4000000 in
theorem rn_fail (a : Nat) (s : ByteArray) (limit mode : Int) (c : Int) (z : Nat) (w : World) (hf : w.heap[a]? = some (.cells (rfc s limit mode false).toArray 34 (0, 0))) (hs : s.size ≤ 140737488355328) (h48 : 48 ≤ s.size) (hl : ¬ limit < dlen s.data.toList) (hzz : (z : Int) = (pduSize s.data.toList mode).1) (hz : z ≤ s.size)
    (h0 : pduErr (s.data.toList.take z) mode = c) (hc0 : c ≠ 0) (hc13 : c ≠ 13) :
    Calls Tryz.prog 10 #[.pointer (some ⟨a, 0, none⟩)] w fun e w' => NextPost w a s.data.toList mode (.fail c) (fun c => .int .i64 c) (rfc ⟨#[]⟩ limit mode true) 34 e w' := by
  have hst : NSt w a _ 34 (w.alloc (.cells #[.int .i64 0, .bool false, .int .i64 0, .slice none 0 0, .slice none 0 0, .string ⟨#[]⟩, .string ⟨#[]⟩] 42)) := ns_start hf
  obtain ⟨c0, c1, c2, c3⟩ := hst.cells4
  have HST := Lib.hid hst
  have hd : decide (s.size < 48) = false := decide_eq_false (by omega)
  have hi8 : (8 : Int) ≤ (s.size : Int) := by omega
  have hx : (s.extract 5 8).data.toList = (s.data.toList.drop 5).take 3 := by rw [Lib.extract_data]
  obtain ⟨D, hD⟩ : ∃ D, D = dlen s.data.toList := ⟨_, rfl⟩
  have hD2 : D ≤ 16777215 := by rw [hD]; exact dlen_lt _
  rw [← hD] at hl
  have hU := fun w => unnumber_any (s.extract 5 8) w (by rw [Lib.size_eq, Lib.extract_data]; simp; omega)
  rw [hx, show beN ((s.data.toList.drop 5).take 3) = D from hD.symm] at hU
  have q1 : IntKind.i64.wrap (D : Int) = D := IntWalk.i64_in _ (by omega)
  have hZ := fun w => refsize_any s mode w hs
  obtain ⟨ze, hze⟩ : ∃ ze, ze = (pduSize s.data.toList mode).2 := ⟨_, rfl⟩
  rw [← hzz, ← hze] at hZ
  have hzi : (z : Int) ≤ (s.size : Int) := by omega
  have hnz : ¬ s.size < z := by omega
  have hpl : (s.extract 0 z).data.toList = s.data.toList.take z := by rw [Lib.extract_data]; simp
  have hR := fun w => rr_bad (s.extract 0 z) mode c (by rw [Lib.size_eq, hpl, List.length_take]; omega) (by rw [hpl]; exact h0) hc0 w
  have HR := Lib.hid hR
  have HU := Lib.hid hU
  have HZ := Lib.hid hZ
  clear hst hf hU hx hD hZ hzz hze hR hpl h0
  go_enter Tryz.func10, Tryz.ntmps10
  go_wp2_with fail
  refine (HU.out _).mono ?_
  rintro e w1 ⟨rfl, hb1⟩
  have hst := HST.out.later hb1
  clear c0 c1 c2 c3 HST
  obtain ⟨c0, c1, c2, c3⟩ := hst.cells4
  have hsp : NSp w a _ 34 w1.heap.size [.int .i64 0, .bool false, .int .i64 0, .slice none 0 0, .slice none 0 0, .string ⟨#[]⟩] (w1.alloc (.cells #[.int .i64 0, .bool false, .int .i64 0, .slice none 0 0, .slice none 0 0, .string ⟨#[]⟩] 40)) :=
    ⟨hst.later ((Below.refl _ w1).alloc (Nat.le_refl _) _), alloc_heap_new w1 _, heap_lt hst.res⟩
  have HSP := Lib.hid hsp
  have hal : a < w1.heap.size := heap_lt hst.fd
  clear hst hb1 hsp
  go_wp2_with fail
  go_region_held3 (fun w' => w'.cell? ⟨a, 0, none⟩ = some (.string s) ∧ w'.cell? ⟨a, 2, none⟩ = some (.int .i64 mode)) (go_keep) ((go_at_call 17; refine (HZ.out _).mono ?_; rintro e w6 ⟨rfl, hb6⟩; have hst6 := HSP.out.later (below_undrew hb6); have x0 := hst6.st.cells4.1; have x2 := hst6.st.cells4.2.2.1; have HST6 := Lib.hid hst6; clear hst6 hb6))
  clear c0 c1 c2 c3 hal
  obtain ⟨p, hp⟩ : ∃ p, p = w1.heap.size := ⟨_, rfl⟩
  rw [← hp] at HST6 ⊢
  clear hp
  have hap : a ≠ p := by have := HST6.out.lt; have := HST6.out.st.lt; omega
  have hpa : ¬ p = a := fun h => hap h.symm
  go_wp2_with fail
  go_region_held3 (fun w' => w'.cell? ⟨a, 0, none⟩ = some (.string s) ∧ w'.cell? ⟨a, 2, none⟩ = some (.int .i64 mode)) (go_keep) ((go_at_call 18; refine (HR.out _).mono ?_; rintro e w7 ⟨rfl, hb7⟩; have hst7 := HST6.out.later (below_undrew hb7); obtain ⟨⟨y0, y1, y2, y3, y4, y5⟩, ⟨g0, g1, g2, g3, g4, g5⟩⟩ := pcells hst7.pb; have x0' := hst7.st.cells4.1; have x2' := hst7.st.cells4.2.2.1; have HST7 := Lib.hid hst7; clear hst7 hb7))
  have hE := (((((HST7.out.setp 0 (.int .i64 0)).setp 1 (.bool false)).setp 2 (.int .i64 0)).setp 3 (.slice none 0 0)).setp 4 (.slice none 0 0)).setp 5 (.string ⟨#[]⟩)
  generalize ((((((w7.setCell ⟨p, 0, none⟩ (Value.int .i64 0)).setCell ⟨p, 1, none⟩ (Value.bool false)).setCell ⟨p, 2, none⟩ (Value.int .i64 0)).setCell ⟨p, 3, none⟩ (Value.slice none 0 0)).setCell ⟨p, 4, none⟩ (Value.slice none 0 0)).setCell ⟨p, 5, none⟩ (Value.string ⟨#[]⟩)) = wE at hE ⊢
  have hE' : NSp w a (rfc s limit mode false) 34 p [.int .i64 0, .bool false, .int .i64 0, .slice none 0 0, .slice none 0 0, .string ⟨#[]⟩] wE := hE
  clear y0 y1 y2 y3 y4 y5 g0 g1 g2 g3 g4 g5 x0' x2' hE
  obtain ⟨c0, c1, c2, c3⟩ := hE'.st.cells4
  obtain ⟨f0, -, -, f3⟩ := hE'.st.frz4
  have hi48 : (48 : Int) ≤ (s.size : Int) := by omega
  have hF := (hE'.set 3 (.bool true)).set 0 (.string ⟨#[]⟩)
  have HF := Lib.hid hF
  clear hE' hF
  go_wp2_with (refine wpList_store_row rfl 42 _ _ rfl w.heap.size #[.int .i64 0, .bool false, .int .i64 0, .slice none 0 0, .slice none 0 0, .string ⟨#[]⟩, .string ⟨#[]⟩] rfl rfl 42 _ HF.out.st.res pieceinfo rfl (by simp [Value.oneCell']) ?_)
  refine bodyPost_ret (results_cell2 Tryz.results10 _ _ w.heap.size [.int .i64 0, .bool false, .int .i64 0, .slice none 0 0, .slice none 0 0, .string ⟨#[]⟩, .string ⟨#[]⟩] _ rfl (range_of_heap (setRow_heap _ _ _ _ _ _ HF.out.st.res)) Tryz.underlying42 rfl pieceinfo) rfl ?_
  exact next_done HF.out.st rfl rfl rfl
end Go.Proofs.YtincgdbfmnnpaaaGreatDoor

/- quaymasterref.Feed.Next: all of it. -/
namespace Go.Proofs.YtincgdbfmnnpaaaGreatDoor
open Go.RowKit
theorem size_z (l : List UInt8) (mode : Int) : ((nextN l mode : Nat) : Int) = (pduSize l mode).1 ∧ nextN l mode ≤ 17000000 := by
  unfold nextN pduSize
  by_cases h1 : wi mode 0 3 = false
  · rw [if_pos h1]; simp
  · rw [if_neg h1]
    by_cases h2 : l.length < 48
    · rw [if_pos h2]; simp
    · rw [if_neg h2]
      have hm : 0 ≤ mode ∧ mode ≤ 3 := by
        by_cases hm : 0 ≤ mode ∧ mode ≤ 3
        · exact hm
        · exact absurd (wi_no hm) h1
      have hb := szN_bd l mode hm.1 hm.2
      show ((szN l mode).toNat : Int) = szN l mode ∧ (szN l mode).toNat ≤ 17000000
      omega
theorem rnext_any (a : Nat) (s : ByteArray) (limit mode : Int) (w : World) (hf : w.heap[a]? = some (.cells (rfc s limit mode false).toArray 34 (0, 0))) (hs : s.size ≤ 140737488355328) :
    Calls Tryz.prog 10 #[.pointer (some ⟨a, 0, none⟩)] w fun e w' => NextPost w a s.data.toList mode (nextOut s.data.toList limit mode) (fun c => .int .i64 c)
      (rfc (bs ((nextOut s.data.toList limit mode).left s.data.toList)) limit mode (nextOut s.data.toList limit mode).bad) 34 e w' := by
  have hlen : s.data.toList.length = s.size := by rw [← Lib.size_eq]
  have hself : bs s.data.toList = s := (bs_eq rfl).symm
  obtain ⟨hz, -⟩ := size_z s.data.toList mode
  by_cases h48 : s.size < 48
  · have ho : nextOut s.data.toList limit mode = .wait := by unfold nextOut; rw [if_pos (by omega)]
    rw [ho]
    show Calls _ _ _ _ fun e w' => NextPost w a s.data.toList mode .wait _ (rfc (bs s.data.toList) limit mode false) _ e w'
    rw [hself]
    exact rn_short a s limit mode w hf h48
  · by_cases hl : limit < dlen s.data.toList
    · have ho : nextOut s.data.toList limit mode = .fail 4 := by unfold nextOut; rw [if_neg (by omega), if_pos hl]
      rw [ho]
      exact rn_limit a s limit mode w hf hs (by omega) hl
    · by_cases hw : (s.size : Int) < (pduSize s.data.toList mode).1
      · have ho : nextOut s.data.toList limit mode = .wait := by unfold nextOut; rw [if_neg (by omega), if_neg hl, if_pos (by omega)]
        rw [ho]
        show Calls _ _ _ _ fun e w' => NextPost w a s.data.toList mode .wait _ (rfc (bs s.data.toList) limit mode false) _ e w'
        rw [hself]
        exact rn_wait a s limit mode w hf hs (by omega) hl hw
      · by_cases h0 : pduErr (s.data.toList.take (nextN s.data.toList mode)) mode = 0
        · have ho : nextOut s.data.toList limit mode = .good (nextN s.data.toList mode) := by unfold nextOut; rw [if_neg (by omega), if_neg hl, if_neg (by omega), if_pos h0]
          rw [ho]
          exact rn_good a s limit mode _ w hf hs (by omega) hl hz (by omega) h0
        · by_cases h13 : pduErr (s.data.toList.take (nextN s.data.toList mode)) mode = 13
          · have ho : nextOut s.data.toList limit mode = .spoilt (nextN s.data.toList mode) := by unfold nextOut; rw [if_neg (by omega), if_neg hl, if_neg (by omega), if_neg h0, if_pos h13]
            rw [ho]
            exact rn_spoilt a s limit mode _ w hf hs (by omega) hl hz (by omega) h13
          · have ho : nextOut s.data.toList limit mode = .fail (pduErr (s.data.toList.take (nextN s.data.toList mode)) mode) := by unfold nextOut; rw [if_neg (by omega), if_neg hl, if_neg (by omega), if_neg h0, if_neg h13]
            rw [ho]
            exact rn_fail a s limit mode _ _ w hf hs (by omega) hl hz (by omega) rfl h0 h13
end Go.Proofs.YtincgdbfmnnpaaaGreatDoor

/- feed.fail, New, Put, Mode, Kept. -/
namespace Go.Proofs.YtincgdbfmnnpaaaGreatDoor
open Go.RowKit
abbrev gfc (s : ByteArray) (limit mode : Int) (er : Value) : List Value := [.string s, .int .i64 limit, .int .i64 mode, er]
/-- A feed's block. -/
def FeedAt (w : World) (a : Nat) (s : ByteArray) (limit mode : Int) (er : Value) : Prop := w.heap[a]? = some (.cells (gfc s limit mode er).toArray 57 (0, 0))
theorem FeedAt.cells {w : World} {a : Nat} {s : ByteArray} {limit mode : Int} {er : Value} (h : FeedAt w a s limit mode er) : w.cell? ⟨a, 0, none⟩ = some (.string s) ∧ w.cell? ⟨a, 1, none⟩ = some (.int .i64 limit) ∧ w.cell? ⟨a, 2, none⟩ = some (.int .i64 mode) ∧ w.cell? ⟨a, 3, none⟩ = some er := by
  have h' : w.heap[a]? = some (.cells #[.string s, .int .i64 limit, .int .i64 mode, er] 57 (0, 0)) := h
  simp [World.cell?, h']
theorem FeedAt.frz {w : World} {a : Nat} {s : ByteArray} {limit mode : Int} {er : Value} (h : FeedAt w a s limit mode er) : w.frozen? ⟨a, 0, none⟩ = false ∧ w.frozen? ⟨a, 1, none⟩ = false ∧ w.frozen? ⟨a, 2, none⟩ = false ∧ w.frozen? ⟨a, 3, none⟩ = false := by
  have h' : w.heap[a]? = some (.cells #[.string s, .int .i64 limit, .int .i64 mode, er] 57 (0, 0)) := h
  simp [World.frozen?, h']
set_option maxRecDepth 100000 in
theorem fail_any (a : Nat) (s : ByteArray) (limit mode c : Int) (er : Value) (l : List UInt8) (w : World) (hf : FeedAt w a s limit mode er) (hc : c ≠ 0) :
    Calls Tryz.prog 19 #[.pointer (some ⟨a, 0, none⟩), .int .i64 c] w fun e w' => NextPost w a l mode (.fail c) errV (gfc ⟨#[]⟩ limit mode (.iface 31 (.int .i64 c))) 57 e w' := by
  have hst : NSt w a (gfc s limit mode er) 57 (w.alloc (.cells #[.int .i64 0, .bool false, .int .i64 0, .slice none 0 0, .slice none 0 0, .string ⟨#[]⟩, .string ⟨#[]⟩] 42)) := ns_start hf
  obtain ⟨c0, c1, c2, c3⟩ := hst.cells4
  obtain ⟨f0, -, -, f3⟩ := hst.frz4
  have hF := (hst.set 3 (.iface 31 (.int .i64 c))).set 0 (.string ⟨#[]⟩)
  have HF := Lib.hid hF
  have HC := Lib.hid hc
  clear hst hf hF hc
  go_enter Tryz.func19, Tryz.ntmps19
  go_wp2_with (refine wpList_store_row rfl 42 _ _ rfl w.heap.size #[.int .i64 0, .bool false, .int .i64 0, .slice none 0 0, .slice none 0 0, .string ⟨#[]⟩, .string ⟨#[]⟩] rfl rfl 42 _ HF.out.res pieceinfo rfl (by simp [Value.oneCell']) ?_)
  refine bodyPost_ret (results_cell2 Tryz.results19 _ _ w.heap.size (pz7 ⟨#[]⟩) _ rfl (range_of_heap (setRow_heap _ _ _ _ _ _ HF.out.res)) Tryz.underlying42 rfl pieceinfo) rfl ?_
  exact next_done HF.out rfl (errV_ne HC.out) rfl
set_option maxRecDepth 100000 in
theorem kept_any (a : Nat) (s : ByteArray) (limit mode : Int) (er : Value) (w : World) (hf : FeedAt w a s limit mode er) :
    Calls Tryz.prog 13 #[.pointer (some ⟨a, 0, none⟩)] w fun e w' => e = .returned (.int .i64 (s.size : Int)) ∧ w' = w := by
  obtain ⟨c0, c1, c2, c3⟩ := hf.cells
  clear hf
  go_enter Tryz.func13, Tryz.ntmps13
  go_wp2_with fail
  go_ret
  exact ⟨rfl, rfl⟩
set_option maxRecDepth 100000 in
theorem put_state (a : Nat) (s t : ByteArray) (limit mode c : Int) (w : World) (hf : FeedAt w a s limit mode (.iface 31 (.int .i64 c))) :
    Calls Tryz.prog 8 #[.pointer (some ⟨a, 0, none⟩), .string t] w fun e w' => e = .returned (errV 6) ∧ w' = w := by
  obtain ⟨c0, c1, c2, c3⟩ := hf.cells
  clear hf
  go_enter Tryz.func8, Tryz.ntmps8
  go_wp2_with fail
  go_ret
  exact ⟨rfl, rfl⟩
set_option maxRecDepth 100000 in
theorem put_good (a : Nat) (s t : ByteArray) (limit mode : Int) (w : World) (hf : FeedAt w a s limit mode .nilIface) (hst : s.size + t.size ≤ 140737488355328) :
    Calls Tryz.prog 8 #[.pointer (some ⟨a, 0, none⟩), .string t] w fun e w' => e = .returned (errV 0) ∧ w' = w.setCell ⟨a, 0, none⟩ (.string (s ++ t)) := by
  obtain ⟨c0, c1, c2, c3⟩ := hf.cells
  obtain ⟨f0, -⟩ := hf.frz
  clear hf
  have hlim : ¬ 9223372036854775807 < s.size + t.size := by omega
  go_enter Tryz.func8, Tryz.ntmps8
  go_wp2_with fail
  go_ret
  exact ⟨rfl, rfl⟩
set_option maxRecDepth 100000 in
theorem mode_arg (a : Nat) (n : Int) (w : World) (h : wi n 0 3 = false) :
    Calls Tryz.prog 9 #[.pointer (some ⟨a, 0, none⟩), .int .i64 n] w fun e w' => e = .returned (errV 1) ∧ w' = w := by
  have hm := modes_any n w
  rw [h] at hm
  have HM := Lib.hid hm
  clear hm h
  go_enter Tryz.func9, Tryz.ntmps9
  go_wp2_with fail
  refine HM.out.mono ?_
  rintro e w' ⟨rfl, rfl⟩
  go_wp2_with fail
  go_ret
  exact ⟨rfl, rfl⟩
set_option maxRecDepth 100000 in
theorem mode_state (a : Nat) (s : ByteArray) (limit mode c n : Int) (w : World) (hf : FeedAt w a s limit mode (.iface 31 (.int .i64 c))) (h : wi n 0 3 = true) :
    Calls Tryz.prog 9 #[.pointer (some ⟨a, 0, none⟩), .int .i64 n] w fun e w' => e = .returned (errV 6) ∧ w' = w := by
  obtain ⟨c0, c1, c2, c3⟩ := hf.cells
  have hm := modes_any n w
  rw [h] at hm
  have HM := Lib.hid hm
  clear hm h hf
  go_enter Tryz.func9, Tryz.ntmps9
  go_wp2_with fail
  refine HM.out.mono ?_
  rintro e w' ⟨rfl, rfl⟩
  go_wp2_with fail
  go_ret
  exact ⟨rfl, rfl⟩
set_option maxRecDepth 100000 in
theorem mode_good (a : Nat) (s : ByteArray) (limit mode n : Int) (w : World) (hf : FeedAt w a s limit mode .nilIface) (h : wi n 0 3 = true) :
    Calls Tryz.prog 9 #[.pointer (some ⟨a, 0, none⟩), .int .i64 n] w fun e w' => e = .returned (errV 0) ∧ w' = w.setCell ⟨a, 2, none⟩ (.int .i64 n) := by
  obtain ⟨c0, c1, c2, c3⟩ := hf.cells
  obtain ⟨-, -, f2, -⟩ := hf.frz
  have hm := modes_any n w
  rw [h] at hm
  have HM := Lib.hid hm
  clear hm h hf
  go_enter Tryz.func9, Tryz.ntmps9
  go_wp2_with fail
  refine HM.out.mono ?_
  rintro e w' ⟨rfl, rfl⟩
  go_wp2_with fail
  go_ret
  exact ⟨rfl, rfl⟩
set_option maxRecDepth 100000 in
theorem new_range (n : Int) (w : World) (h : n < 0 ∨ 100000 < n) :
    Calls Tryz.prog 4 #[.int .i64 n] w fun e w' => e = .returned (.tuple #[.pointer none, errV 2]) ∧ w' = w := by
  by_cases h1 : n < 0
  · go_enter Tryz.func4, Tryz.ntmps4
    go_wp2_with fail
    go_ret2
    exact ⟨rfl, rfl⟩
  · have h2 : 100000 < n := by omega
    go_enter Tryz.func4, Tryz.ntmps4
    go_wp2_with fail
    go_ret2
    exact ⟨rfl, rfl⟩
set_option maxRecDepth 100000 in
theorem new_good (n : Int) (w : World) (h1 : ¬ n < 0) (h2 : ¬ 100000 < n) :
    Calls Tryz.prog 4 #[.int .i64 n] w fun e w' => e = .returned (.tuple #[.pointer (some ⟨w.heap.size, 0, none⟩), errV 0]) ∧ w' = w.alloc (.cells (gfc ⟨#[]⟩ n 0 .nilIface).toArray 57) := by
  go_enter Tryz.func4, Tryz.ntmps4
  go_wp2_with fail
  go_ret2
  exact ⟨rfl, rfl⟩
end Go.Proofs.YtincgdbfmnnpaaaGreatDoor
